/- What functions compute, and that they do. -/
import Derived.Test.YtmhlgpdoedbedaaGreatTab
namespace Go.Proofs.YtmhlgpdoedbedaaGreat.Lf
set_option linter.unusedVariables false
set_option linter.unusedSimpArgs false
set_option maxRecDepth 20000
open Go Go.RowKit Go.Proofs Go.Proofs.YtmhlgpdoedbedaaGreat.Sv
structure GBack where
  Weight : Int
  Drain : Bool
def eBack (x : GBack) : List D := [.int .i64 x.Weight, .bool x.Drain]
instance : Inhabited GBack := ⟨⟨default, default⟩⟩
theorem eBack_len (x : GBack) : (eBack x).length = 2 := rfl
theorem lo_Back (x : GBack) : looses (eBack x) = eBack x := rfl
structure GSite where
  Weight : Int
  Drain : Bool
  Cap : Int
  Backs : (List GBack)
def eSite (g : Bool) (x : GSite) : List D := [.int .i64 x.Weight, .bool x.Drain, .int .i64 x.Cap, .sl g (eL eBack x.Backs) x.Backs.length x.Backs.length]
instance : Inhabited GSite := ⟨⟨default, default, default, default⟩⟩
theorem eSite_len (g : Bool) (x : GSite) : (eSite g x).length = 4 := rfl
theorem lo_Site (g : Bool) (x : GSite) : looses (eSite g x) = eSite false x := by simp only [eSite, looses, D.loose, looses_eL lo_Back]
structure GConfig where
  Version : Int
  Sites : (List GSite)
def eConfig (g : Bool) (x : GConfig) : List D := [.int .i64 x.Version, .sl g (eL (eSite g) x.Sites) x.Sites.length x.Sites.length]
instance : Inhabited GConfig := ⟨⟨default, default⟩⟩
theorem eConfig_len (g : Bool) (x : GConfig) : (eConfig g x).length = 2 := rfl
theorem lo_Config (g : Bool) (x : GConfig) : looses (eConfig g x) = eConfig false x := by simp only [eConfig, looses, D.loose, looses_eL (lo_Site g)]
structure GHealth where
  Up : Bool
  Count : Int
def eHealth (x : GHealth) : List D := [.bool x.Up, .int .i64 x.Count]
instance : Inhabited GHealth := ⟨⟨default, default⟩⟩
theorem eHealth_len (x : GHealth) : (eHealth x).length = 2 := rfl
theorem lo_Health (x : GHealth) : looses (eHealth x) = eHealth x := rfl
structure GFlow where
  Src : Int
  Dst : Int
  Proto : Int
  Sport : Int
  Dport : Int
def eFlow (x : GFlow) : List D := [.int .i64 x.Src, .int .i64 x.Dst, .int .i64 x.Proto, .int .i64 x.Sport, .int .i64 x.Dport]
instance : Inhabited GFlow := ⟨⟨default, default, default, default, default⟩⟩
theorem eFlow_len (x : GFlow) : (eFlow x).length = 5 := rfl
theorem lo_Flow (x : GFlow) : looses (eFlow x) = eFlow x := rfl
structure GEntry where
  Flow : GFlow
  To : Int
  Away : Bool
  Phase : Int
  Used : Int
def eEntry (x : GEntry) : List D := [.int .i64 x.Flow.Src, .int .i64 x.Flow.Dst, .int .i64 x.Flow.Proto, .int .i64 x.Flow.Sport, .int .i64 x.Flow.Dport, .int .i64 x.To, .bool x.Away, .int .i64 x.Phase, .int .i64 x.Used]
instance : Inhabited GEntry := ⟨⟨default, default, default, default, default⟩⟩
theorem eEntry_len (x : GEntry) : (eEntry x).length = 9 := rfl
theorem lo_Entry (x : GEntry) : looses (eEntry x) = eEntry x := rfl
structure GEdge where
  Id : Int
  Config : GConfig
  Health : (List GHealth)
  Flows : (List GEntry)
def eEdge (g : Bool) (x : GEdge) : List D := [.int .i64 x.Id, .int .i64 x.Config.Version, .sl g (eL (eSite g) x.Config.Sites) x.Config.Sites.length x.Config.Sites.length, .sl g (eL eHealth x.Health) x.Health.length x.Health.length, .sl g (eL eEntry x.Flows) x.Flows.length x.Flows.length]
instance : Inhabited GEdge := ⟨⟨default, default, default, default⟩⟩
theorem eEdge_len (g : Bool) (x : GEdge) : (eEdge g x).length = 5 := rfl
theorem lo_Edge (g : Bool) (x : GEdge) : looses (eEdge g x) = eEdge false x := by simp only [eEdge, looses, D.loose, looses_eL lo_Health, looses_eL lo_Entry, looses_eL (lo_Site g)]
structure GSeg where
  Proto : Int
  Sport : Int
  Dport : Int
  Seq : Int
  Ack : Int
  Flags : Int
  Body : ByteArray
def eSeg (x : GSeg) : List D := [.int .i64 x.Proto, .int .i64 x.Sport, .int .i64 x.Dport, .int .i64 x.Seq, .int .i64 x.Ack, .int .i64 x.Flags, .str x.Body]
instance : Inhabited GSeg := ⟨⟨default, default, default, default, default, default, default⟩⟩
theorem eSeg_len (x : GSeg) : (eSeg x).length = 7 := rfl
theorem lo_Seg (x : GSeg) : looses (eSeg x) = eSeg x := rfl
structure GIp where
  Src : Int
  Dst : Int
  Proto : Int
  Ttl : Int
  Id : Int
  Body : ByteArray
def eIp (x : GIp) : List D := [.int .i64 x.Src, .int .i64 x.Dst, .int .i64 x.Proto, .int .i64 x.Ttl, .int .i64 x.Id, .str x.Body]
instance : Inhabited GIp := ⟨⟨default, default, default, default, default, default⟩⟩
theorem eIp_len (x : GIp) : (eIp x).length = 6 := rfl
theorem lo_Ip (x : GIp) : looses (eIp x) = eIp x := rfl
structure GEvent where
  Kind : Int
  Role : Int
  Site : Int
  Node : Int
  To : Int
  Flow : GFlow
def eEvent (x : GEvent) : List D := [.int .i64 x.Kind, .int .i64 x.Role, .int .i64 x.Site, .int .i64 x.Node, .int .i64 x.To, .int .i64 x.Flow.Src, .int .i64 x.Flow.Dst, .int .i64 x.Flow.Proto, .int .i64 x.Flow.Sport, .int .i64 x.Flow.Dport]
instance : Inhabited GEvent := ⟨⟨default, default, default, default, default, default⟩⟩
theorem eEvent_len (x : GEvent) : (eEvent x).length = 10 := rfl
theorem lo_Event (x : GEvent) : looses (eEvent x) = eEvent x := rfl
structure GOut where
  Sent : (List ByteArray)
  Events : (List GEvent)
def eOut (g : Bool) (x : GOut) : List D := [.sl g (eL eStr x.Sent) x.Sent.length x.Sent.length, .sl g (eL eEvent x.Events) x.Events.length x.Events.length]
instance : Inhabited GOut := ⟨⟨default, default⟩⟩
theorem eOut_len (g : Bool) (x : GOut) : (eOut g x).length = 2 := rfl
theorem lo_Out (g : Bool) (x : GOut) : looses (eOut g x) = eOut false x := by simp only [eOut, looses, D.loose, looses_eL lo_str, looses_eL lo_Event]
structure Gseg_ends where
  src_ : Int
  dst_ : Int
def eseg_ends (x : Gseg_ends) : List D := [.int .i64 x.src_, .int .i64 x.dst_]
instance : Inhabited Gseg_ends := ⟨⟨default, default⟩⟩
theorem eseg_ends_len (x : Gseg_ends) : (eseg_ends x).length = 2 := rfl
theorem lo_seg_ends (x : Gseg_ends) : looses (eseg_ends x) = eseg_ends x := rfl
structure Gevent_Teller where
  Role : Int
  Site : Int
  Node : Int
def eevent_Teller (x : Gevent_Teller) : List D := [.int .i64 x.Role, .int .i64 x.Site, .int .i64 x.Node]
instance : Inhabited Gevent_Teller := ⟨⟨default, default, default⟩⟩
theorem eevent_Teller_len (x : Gevent_Teller) : (eevent_Teller x).length = 3 := rfl
theorem lo_event_Teller (x : Gevent_Teller) : looses (eevent_Teller x) = eevent_Teller x := rfl
structure GCandidate where
  Id : Int
  Weight : Int
def eCandidate (x : GCandidate) : List D := [.int .i64 x.Id, .int .i64 x.Weight]
instance : Inhabited GCandidate := ⟨⟨default, default⟩⟩
theorem eCandidate_len (x : GCandidate) : (eCandidate x).length = 2 := rfl
theorem lo_Candidate (x : GCandidate) : looses (eCandidate x) = eCandidate x := rfl
structure Gmaglev_walk where
  at_ : Int
  step_ : Int
def emaglev_walk (x : Gmaglev_walk) : List D := [.int .i64 x.at_, .int .i64 x.step_]
instance : Inhabited Gmaglev_walk := ⟨⟨default, default⟩⟩
theorem emaglev_walk_len (x : Gmaglev_walk) : (emaglev_walk x).length = 2 := rfl
theorem lo_maglev_walk (x : Gmaglev_walk) : looses (emaglev_walk x) = emaglev_walk x := rfl
structure GOuter where
  Src : Int
  Dst : Int
  Tier : Int
  Marker : Int
  Origin : Int
  Body : ByteArray
def eOuter (x : GOuter) : List D := [.int .i64 x.Src, .int .i64 x.Dst, .int .i64 x.Tier, .int .i64 x.Marker, .int .i64 x.Origin, .str x.Body]
instance : Inhabited GOuter := ⟨⟨default, default, default, default, default, default⟩⟩
theorem eOuter_len (x : GOuter) : (eOuter x).length = 6 := rfl
theorem lo_Outer (x : GOuter) : looses (eOuter x) = eOuter x := rfl
/-! ### wharfage/wharfagelaw19.given -/
def L_law19_given (N : Nat) : Option (GConfig) :=
  some (GConfig.mk 3 ([(GSite.mk 2 false 2 ([(GBack.mk 1 false), (GBack.mk 3 false)])), (GSite.mk 1 false 4 ([(GBack.mk 1 false)]))]))
def d_law19_given (r : GConfig) : D := .agg [.int .i64 r.Version, .sl true (eL (eSite true) r.Sites) r.Sites.length r.Sites.length]
theorem g_law19_given_0 {c : Cx} (hc : Is c Tryz.prog ty 34 10) (N : Nat) {r : GConfig} (hfin : c.Fin [] (d_law19_given r) []) (h : L_law19_given N = some r) : c.Goes (items (bodyOf Tryz.f34) [.c 1]) ⟨[], []⟩ := by
  unfold L_law19_given at h
  exact hc.rt hfin (fn := Tryz.f34) (by kernel_rfl) (orc := [(1, [(3, { frz := true }), (6, { frz := true }), (8, { frz := true })])]) (m := 4) (by kernel_rfl) .nil h Le.rfl rfl

theorem c_law19_given (N : Nat) {r : GConfig} (h : L_law19_given N = some r) : Con Tryz.prog 34 [] [] (d_law19_given r) [] :=
  con_in ok mix (fn := Tryz.f34) (by kernel_rfl) (by kernel_rfl) fun hc hfin => g_law19_given_0 hc N hfin h
/-! ### wharfage/conf.Copy -/
def L_conf_Copy_1 (N : Nat) : Nat → Int → (List GSite) → Int → (List GSite) → (List GSite) → Int → Int → Option (GConfig)
  | 0, _, _, _, _, _, _, _ => none
  | fuel + 1, b108_0, b108_1, b116_0, b124, t7, t8, t9 =>
    bif (decide (t9 < t8)) then
      if 0 ≤ t9 ∧ t9 < ((t7.length : Nat) : Int) then
      if growOk 16 (((t7.getD t9.toNat default).Backs).length) then
      if growOk 48 (b124.length + 1) then
      L_conf_Copy_1 N fuel b108_0 b108_1 b116_0 (b124 ++ [(t7.getD t9.toNat default)]) t7 t8 (IntKind.i64.wrap (t9 + 1))
      else none
      else none
      else none
    else
      some (GConfig.mk b108_0 b124)
def L_conf_Copy (N : Nat) (x0 : GConfig) : Option (GConfig) :=
  L_conf_Copy_1 N N x0.Version x0.Sites 0 ([]) x0.Sites (x0.Sites.length : Int) 0
def d_conf_Copy (r : GConfig) : D := .agg [.int .i64 r.Version, .sl true (eL (eSite true) r.Sites) r.Sites.length r.Sites.length]
theorem g_conf_Copy_1 (gx0 : Bool) {c : Cx} (hc : Is c Tryz.prog ty 76 25) (N : Nat) {r : GConfig} (hfin : c.Fin [] (d_conf_Copy r) []) : ∀ (fuel : Nat) (b108_0 : Int) (b108_1 : (List GSite)) (b116_0 : Int) (b124 t7 : (List GSite)) (t8 t9 : Int), L_conf_Copy_1 N fuel b108_0 b108_1 b116_0 b124 t7 t8 t9 = some r → c.Goes (items (bodyOf Tryz.f76) [.c 75, .l 75, .b 0, .c 15]) ⟨[(1, .ptr 108 0), (2, .ptr 116 0), (3, .ref 124 0 b124.length b124.length), (7, .sl gx0 (eL (eSite gx0) t7) t7.length t7.length), (8, .int .i64 t8), (9, .int .i64 t9)], [(108, some ⟨false, 0, [.int .i64 b108_0, .sl gx0 (eL (eSite gx0) b108_1) b108_1.length b108_1.length]⟩), (116, some ⟨false, 0, [.int .i64 b116_0, .nils]⟩), (124, some ⟨true, 4, (eL (eSite true) b124)⟩)]⟩ := by
  intro fuel
  induction fuel with
  | zero => intro b108_0 b108_1 b116_0 b124 t7 t8 t9 h; simp [L_conf_Copy_1] at h
  | succ fuel ih =>
    intro b108_0 b108_1 b116_0 b124 t7 t8 t9 h
    unfold L_conf_Copy_1 at h
    rcases brk h with ⟨h0, h⟩ | ⟨h0, h⟩
    · obtain ⟨h1, h⟩ := chk h
      obtain ⟨h2, h⟩ := chk h
      obtain ⟨h3, h⟩ := chk h
      exact hc.jump (orc := [(3, [(0, oT)]), (4, [(0, oC (.ip gx0 [.int .i64 ((t7.getD t9.toNat default).Weight), .bool ((t7.getD t9.toNat default).Drain), .int .i64 ((t7.getD t9.toNat default).Cap), .sl gx0 (eL eBack ((t7.getD t9.toNat default).Backs)) (((t7.getD t9.toNat default).Backs).length) (((t7.getD t9.toNat default).Backs).length)]))]), (5, [(2, { cb := [(220, (eL eBack ((t7.getD t9.toNat default).Backs)))] })]), (6, [(1, { frz := true }), (3, { cv := some (.ref 260 0 (b124 ++ [(t7.getD t9.toNat default)]).length (b124 ++ [(t7.getD t9.toNat default)]).length), cb := [(260, eL (eSite true) (b124 ++ [(t7.getD t9.toNat default)]))] })])]) (m := 15) (kt := [1, 2, 3, 7, 8, 9]) (kh := [(108, 108), (116, 116), (260, 124)]) (by kernel_rfl) (.cons (Le.tt h0) (.cons (h1) (.cons (Le.iptl (g := gx0) (eL_at (xs := t7) (eSite_len gx0) (ixl h1))) (.cons ((Or.inr (eL_frees (fun _ => rfl) _) : gx0 = true ∨ frees (eL eBack ((t7.getD t9.toNat default).Backs)) = true)) (.cons (ap_len (xs := (t7.getD t9.toNat default).Backs) eBack_len) (.cons (h2) (.cons (eL_all (e := eBack) eBack_len ((t7.getD t9.toNat default).Backs)) (.cons ((by decide : 1 * 4 ≤ 4)) (.cons (ap_len (xs := b124) (eSite_len true)) (.cons (h3) (.cons (Le.apr (b := 260) (by first | rfl | (simp only [List.length_append, List.length_take, List.length_drop]; omega) | simp : (b124 ++ [(t7.getD t9.toNat default)]).length = b124.length + 1)) (.cons (ap_one (xs := b124) (eSite_len true) (y := (t7.getD t9.toNat default)) (cs := [.int .i64 ((t7.getD t9.toNat default).Weight), .bool ((t7.getD t9.toNat default).Drain), .int .i64 ((t7.getD t9.toNat default).Cap), .sl true (eL eBack ((t7.getD t9.toNat default).Backs)) (((t7.getD t9.toNat default).Backs).length) (((t7.getD t9.toNat default).Backs).length)]) rfl) .nil)))))))))))) (ih b108_0 b108_1 b116_0 (b124 ++ [(t7.getD t9.toNat default)]) t7 t8 (IntKind.i64.wrap (t9 + 1)) h)
    · exact hc.rt hfin (fn := Tryz.f76) (by kernel_rfl) (orc := [(3, [(0, oF)]), (9, [(0, { frz := true })])]) (m := 9) (by kernel_rfl) (.cons (Le.ff h0) .nil) h Le.rfl rfl

theorem g_conf_Copy_0 (gx0 : Bool) {c : Cx} (hc : Is c Tryz.prog ty 76 25) (N : Nat) {r : GConfig} (hfin : c.Fin [] (d_conf_Copy r) []) (x0 : GConfig) (h : L_conf_Copy N x0 = some r) : c.Goes (items (bodyOf Tryz.f76) [.c 1]) ⟨[(0, .agg [.int .i64 x0.Version, .sl gx0 (eL (eSite gx0) x0.Sites) x0.Sites.length x0.Sites.length])], []⟩ := by
  unfold L_conf_Copy at h
  exact hc.jump (orc := [(1, [(0, { own := some (4) })])]) (m := 9) (kt := [1, 2, 3, 7, 8, 9]) (kh := [(108, 108), (116, 116), (124, 124)]) (by kernel_rfl) .nil (g_conf_Copy_1 gx0 hc N hfin N x0.Version x0.Sites 0 ([]) x0.Sites (x0.Sites.length : Int) 0 h)

theorem c_conf_Copy (N : Nat) (gx0 : Bool) (x0 : GConfig) {r : GConfig} (h : L_conf_Copy N x0 = some r) : Con Tryz.prog 76 [.agg [.int .i64 x0.Version, .sl gx0 (eL (eSite gx0) x0.Sites) x0.Sites.length x0.Sites.length]] [] (d_conf_Copy r) [] :=
  con_in ok mix (fn := Tryz.f76) (by kernel_rfl) (by kernel_rfl) fun hc hfin => g_conf_Copy_0 gx0 hc N hfin x0 h
/-! ### wharfage/health.New -/
def L_health_New (N : Nat) : Option (GHealth) :=
  some (GHealth.mk true 0)
def d_health_New (r : GHealth) : D := .agg [.bool r.Up, .int .i64 r.Count]
theorem g_health_New_0 {c : Cx} (hc : Is c Tryz.prog ty 78 2) (N : Nat) {r : GHealth} (hfin : c.Fin [] (d_health_New r) []) (h : L_health_New N = some r) : c.Goes (items (bodyOf Tryz.f78) [.c 1]) ⟨[], []⟩ := by
  unfold L_health_New at h
  exact hc.rt hfin (fn := Tryz.f78) (by kernel_rfl) (orc := []) (m := 4) (by kernel_rfl) .nil h Le.rfl rfl

theorem c_health_New (N : Nat) {r : GHealth} (h : L_health_New N = some r) : Con Tryz.prog 78 [] [] (d_health_New r) [] :=
  con_in ok mix (fn := Tryz.f78) (by kernel_rfl) (by kernel_rfl) fun hc hfin => g_health_New_0 hc N hfin h
/-! ### math/bits.Mul64 -/
def L_math_bits_Mul64 (N : Nat) (x0 x1 : Int) : Option (Int × Int) :=
  via ((IntKind.u64.wrap ((bAnd .u64 x0 4294967295) * (bAnd .u64 x1 4294967295))) : Int) fun v1 =>
  via ((IntKind.u64.wrap ((x0.fdiv (2 ^ 32)) * (bAnd .u64 x1 4294967295))) : Int) fun v2 =>
  via ((bAnd .u64 (IntKind.u64.wrap (v2 + (v1.fdiv (2 ^ 32)))) 4294967295) : Int) fun v3 =>
  via (((IntKind.u64.wrap (v2 + (v1.fdiv (2 ^ 32)))).fdiv (2 ^ 32)) : Int) fun v4 =>
  via ((IntKind.u64.wrap ((bAnd .u64 x0 4294967295) * (x1.fdiv (2 ^ 32)))) : Int) fun v5 =>
  via ((IntKind.u64.wrap ((x0.fdiv (2 ^ 32)) * (x1.fdiv (2 ^ 32)))) : Int) fun v6 =>
  via ((IntKind.u64.wrap ((IntKind.u64.wrap (v6 + v4)) + ((IntKind.u64.wrap (v3 + v5)).fdiv (2 ^ 32)))) : Int) fun v7 =>
  some (v7, (IntKind.u64.wrap (x0 * x1)))
def d_math_bits_Mul64 (r : Int × Int) : D := .tup [.int .u64 r.1, .int .u64 r.2]
theorem g_math_bits_Mul64_0 {c : Cx} (hc : Is c Tryz.prog ty 195 51) (N : Nat) {r : Int × Int} (hfin : c.Fin [] (d_math_bits_Mul64 r) []) (x0 x1 : Int) (h : L_math_bits_Mul64 N x0 x1 = some r) : c.Goes (items (bodyOf Tryz.f195) [.c 1]) ⟨[(0, .int .u64 x0), (1, .int .u64 x1)], []⟩ := by
  unfold L_math_bits_Mul64 at h
  obtain ⟨v1, h0, h⟩ := via_some h
  obtain ⟨v2, h1, h⟩ := via_some h
  obtain ⟨v3, h2, h⟩ := via_some h
  obtain ⟨v4, h3, h⟩ := via_some h
  obtain ⟨v5, h4, h⟩ := via_some h
  obtain ⟨v6, h5, h⟩ := via_some h
  obtain ⟨v7, h6, h⟩ := via_some h
  exact hc.rt hfin (fn := Tryz.f195) (by kernel_rfl) (orc := [(5, [(2, oC (.int .u64 v1))]), (6, [(2, oC (.int .u64 v2))]), (7, [(1, oC (.int .u64 v3))]), (8, [(1, oC (.int .u64 v4))]), (9, [(3, oC (.int .u64 v5))]), (10, [(2, oC (.int .u64 v6)), (7, oC (.int .u64 v7))])]) (m := 24) (by kernel_rfl) (.cons ((by decide : (0:Int) ≤ 32)) (.cons ((by decide : (0:Int) ≤ 32)) (.cons (Le.int (k := .u64) h0) (.cons (Le.int (k := .u64) h1) (.cons ((by decide : (0:Int) ≤ 32)) (.cons (Le.int (k := .u64) h2) (.cons ((by decide : (0:Int) ≤ 32)) (.cons (Le.int (k := .u64) h3) (.cons (Le.int (k := .u64) h4) (.cons (Le.int (k := .u64) h5) (.cons ((by decide : (0:Int) ≤ 32)) (.cons (Le.int (k := .u64) h6) .nil)))))))))))) h Le.rfl rfl

theorem c_math_bits_Mul64 (N : Nat) (x0 x1 : Int) {r : Int × Int} (h : L_math_bits_Mul64 N x0 x1 = some r) : Con Tryz.prog 195 [.int .u64 x0, .int .u64 x1] [] (d_math_bits_Mul64 r) [] :=
  con_in ok mix (fn := Tryz.f195) (by kernel_rfl) (by kernel_rfl) fun hc hfin => g_math_bits_Mul64_0 hc N hfin x0 x1 h
/-! ### math/bits.Mul -/
def L_math_bits_Mul (N : Nat) (x0 x1 : Int) : Option (Int × Int) :=
  (L_math_bits_Mul64 N x0 x1).bind fun v1 =>
  some (v1.1, v1.2)
def d_math_bits_Mul (r : Int × Int) : D := .tup [.int .u64 r.1, .int .u64 r.2]
theorem g_math_bits_Mul_0 {c : Cx} (hc : Is c Tryz.prog ty 144 30) (N : Nat) {r : Int × Int} (hfin : c.Fin [] (d_math_bits_Mul r) []) (x0 x1 : Int) (h : L_math_bits_Mul N x0 x1 = some r) : c.Goes (items (bodyOf Tryz.f144) [.c 1]) ⟨[(0, .int .u64 x0), (1, .int .u64 x1)], []⟩ := by
  unfold L_math_bits_Mul at h
  obtain ⟨v1, h0, h⟩ := bind_of h
  exact hc.rt hfin (fn := Tryz.f144) (by kernel_rfl) (orc := [(3, [(2, oR (d_math_bits_Mul64 v1))])]) (m := 9) (by kernel_rfl) (.cons (c_math_bits_Mul64 N x0 x1 h0) .nil) h Le.rfl rfl

theorem c_math_bits_Mul (N : Nat) (x0 x1 : Int) {r : Int × Int} (h : L_math_bits_Mul N x0 x1 = some r) : Con Tryz.prog 144 [.int .u64 x0, .int .u64 x1] [] (d_math_bits_Mul r) [] :=
  con_in ok mix (fn := Tryz.f144) (by kernel_rfl) (by kernel_rfl) fun hc hfin => g_math_bits_Mul_0 hc N hfin x0 x1 h
/-! ### slices.Repeat[[]wharfage/api.Health,wharfage/api.Health] -/
def L_slices_Repeat_api_Health_api_Health_4 (N : Nat) : Nat → (List GHealth) → Int → Option ((List GHealth))
  | 0, _, _ => none
  | fuel + 1, b340, t8 =>
    bif (decide (t8 < (b340.length : Int))) then
      if 0 ≤ ((b340.length : Nat) : Int) ∧ ((b340.length : Nat) : Int) ≤ ((b340.length : Nat) : Int) ∧ 0 ≤ t8 ∧ t8 ≤ ((b340.length : Nat) : Int) ∧ b340.length ≤ b340.length then
      if 0 ≤ t8 ∧ t8 ≤ ((b340.length : Nat) : Int) ∧ 0 ≤ (0 : Int) ∧ (0 : Int) ≤ t8 ∧ b340.length ≤ b340.length then
      if (Int.toNat (t8 - (0 : Int))) ≤ b340.length then
      if (Int.toNat t8) + (Int.toNat (((b340.length : Nat) : Int) - t8)) ≤ b340.length then
      via ((((min (Int.toNat (t8 - (0 : Int))) (Int.toNat (((b340.length : Nat) : Int) - t8))) : Nat) : Int) : Int) fun v1 =>
      L_slices_Repeat_api_Health_api_Health_4 N fuel (b340.take (Int.toNat t8) ++ b340.take (min (Int.toNat (t8 - (0 : Int))) (Int.toNat (((b340.length : Nat) : Int) - t8))) ++ b340.drop ((Int.toNat t8) + (min (Int.toNat (t8 - (0 : Int))) (Int.toNat (((b340.length : Nat) : Int) - t8))))) (IntKind.i64.wrap (t8 + v1))
      else none
      else none
      else none
      else none
    else
      some b340
def L_slices_Repeat_api_Health_api_Health_3 (N : Nat) (t0 : (List GHealth)) (t6 : Int) : Option ((List GHealth)) :=
  if 0 ≤ (IntKind.i64.wrap t6) ∧ (IntKind.i64.wrap t6) ≤ (IntKind.i64.wrap t6) ∧ ((16 : Nat) : Int) * (IntKind.i64.wrap t6) ≤ 140737488355328 ∧ (IntKind.i64.wrap t6) ≤ 4611686018427387904 then
  if t0.length ≤ t0.length then
  if 0 + (List.replicate (Int.toNat (IntKind.i64.wrap t6)) (GHealth.mk false 0)).length ≤ (List.replicate (Int.toNat (IntKind.i64.wrap t6)) (GHealth.mk false 0)).length then
  via ((((min t0.length ((List.replicate (Int.toNat (IntKind.i64.wrap t6)) (GHealth.mk false 0)).length)) : Nat) : Int) : Int) fun v1 =>
  L_slices_Repeat_api_Health_api_Health_4 N N ((List.replicate (Int.toNat (IntKind.i64.wrap t6)) (GHealth.mk false 0)).take 0 ++ t0.take (min t0.length ((List.replicate (Int.toNat (IntKind.i64.wrap t6)) (GHealth.mk false 0)).length)) ++ (List.replicate (Int.toNat (IntKind.i64.wrap t6)) (GHealth.mk false 0)).drop (0 + (min t0.length ((List.replicate (Int.toNat (IntKind.i64.wrap t6)) (GHealth.mk false 0)).length)))) v1
  else none
  else none
  else none
def L_slices_Repeat_api_Health_api_Health_2 (N : Nat) (t0 : (List GHealth)) (t6 : Int) (t26 : Bool) : Option ((List GHealth)) :=
  bif t26 then
    none
  else
    L_slices_Repeat_api_Health_api_Health_3 N t0 t6
def L_slices_Repeat_api_Health_api_Health_1 (N : Nat) (t0 : (List GHealth)) (t1 : Int) : Option ((List GHealth)) :=
  (L_math_bits_Mul N (IntKind.u64.wrap (t0.length : Int)) (IntKind.u64.wrap t1)).bind fun v1 =>
  bif (decide (v1.1 > 0)) then
    L_slices_Repeat_api_Health_api_Health_2 N t0 v1.2 true
  else
    L_slices_Repeat_api_Health_api_Health_2 N t0 v1.2 (decide (v1.2 > 9223372036854775807))
def L_slices_Repeat_api_Health_api_Health (N : Nat) (x0 : (List GHealth)) (x1 : Int) : Option ((List GHealth)) :=
  bif (decide (x1 < 0)) then
    none
  else
    L_slices_Repeat_api_Health_api_Health_1 N x0 x1
def d_slices_Repeat_api_Health_api_Health (r : (List GHealth)) : D := .sl true (eL eHealth r) r.length r.length
theorem g_slices_Repeat_api_Health_api_Health_4 (gx0 : Bool) {c : Cx} (hc : Is c Tryz.prog ty 77 48) (N : Nat) {r : (List GHealth)} (hfin : c.Fin [] (d_slices_Repeat_api_Health_api_Health r) []) : ∀ (fuel : Nat) (b340 : (List GHealth)) (t8 : Int), L_slices_Repeat_api_Health_api_Health_4 N fuel b340 t8 = some r → c.Goes (items (bodyOf Tryz.f77) [.c 575, .l 575, .b 0, .c 255]) ⟨[(7, .ref 340 0 b340.length b340.length), (8, .int .i64 t8)], [(340, some ⟨true, 2, (eL eHealth b340)⟩)]⟩ := by
  intro fuel
  induction fuel with
  | zero => intro b340 t8 h; simp [L_slices_Repeat_api_Health_api_Health_4] at h
  | succ fuel ih =>
    intro b340 t8 h
    unfold L_slices_Repeat_api_Health_api_Health_4 at h
    rcases brk h with ⟨h0, h⟩ | ⟨h0, h⟩
    · obtain ⟨h1, h⟩ := chk h
      obtain ⟨h2, h⟩ := chk h
      obtain ⟨h3, h⟩ := chk h
      obtain ⟨h4, h⟩ := chk h
      obtain ⟨v1, h5, h⟩ := via_some h
      exact hc.jumpL (orc := [(8, [(3, oT)]), (9, [(7, { cv := some (.int .i64 v1), cb := [(340, eL eHealth (b340.take (Int.toNat t8) ++ b340.take (min (Int.toNat (t8 - (0 : Int))) (Int.toNat (((b340.length : Nat) : Int) - t8))) ++ b340.drop ((Int.toNat t8) + (min (Int.toNat (t8 - (0 : Int))) (Int.toNat (((b340.length : Nat) : Int) - t8))))))] })])]) (m := 9) (kt := [7, 8]) (kh := [(340, 340)]) (by kernel_rfl) (.cons (Le.tt h0) (.cons (h1) (.cons (h2) (.cons (rd_len (xs := b340) eHealth_len h3) (.cons (cp_len (xs := b340) eHealth_len (by simp : (0 + (Int.toNat t8) * 2) = (Int.toNat t8) * 2) h4) (.cons (Le.int (k := .i64) h5) (.cons (cp_set (xs := b340) (ys := b340) (lo := (Int.toNat t8)) (k := (min (Int.toNat (t8 - (0 : Int))) (Int.toNat (((b340.length : Nat) : Int) - t8)))) (m := (Int.toNat (t8 - (0 : Int)))) eHealth_len (by simp : (0 + (Int.toNat t8) * 2) = (Int.toNat t8) * 2) (Nat.le_trans (Nat.add_le_add_left (Nat.min_le_right _ _) _) h4) (Nat.min_le_left _ _) h3) .nil))))))) (.cons (Le.rfs (b := 340) (by first | rfl | omega | (simp only [List.length_append, List.length_take, List.length_drop]; omega) | simp : b340.length = (b340.take (Int.toNat t8) ++ b340.take (min (Int.toNat (t8 - (0 : Int))) (Int.toNat (((b340.length : Nat) : Int) - t8))) ++ b340.drop ((Int.toNat t8) + (min (Int.toNat (t8 - (0 : Int))) (Int.toNat (((b340.length : Nat) : Int) - t8))))).length) (by first | rfl | omega | (simp only [List.length_append, List.length_take, List.length_drop]; omega) | simp : b340.length = (b340.take (Int.toNat t8) ++ b340.take (min (Int.toNat (t8 - (0 : Int))) (Int.toNat (((b340.length : Nat) : Int) - t8))) ++ b340.drop ((Int.toNat t8) + (min (Int.toNat (t8 - (0 : Int))) (Int.toNat (((b340.length : Nat) : Int) - t8))))).length)) (.cons (Le.rfl) .nil)) (ih (b340.take (Int.toNat t8) ++ b340.take (min (Int.toNat (t8 - (0 : Int))) (Int.toNat (((b340.length : Nat) : Int) - t8))) ++ b340.drop ((Int.toNat t8) + (min (Int.toNat (t8 - (0 : Int))) (Int.toNat (((b340.length : Nat) : Int) - t8))))) (IntKind.i64.wrap (t8 + v1)) h)
    · exact hc.rt hfin (fn := Tryz.f77) (by kernel_rfl) (orc := [(8, [(3, oF)]), (10, [(1, { frz := true })])]) (m := 7) (by kernel_rfl) (.cons (Le.ff h0) .nil) h Le.rfl rfl

theorem g_slices_Repeat_api_Health_api_Health_3 (gx0 : Bool) {c : Cx} (hc : Is c Tryz.prog ty 77 48) (N : Nat) {r : (List GHealth)} (hfin : c.Fin [] (d_slices_Repeat_api_Health_api_Health r) []) (t0 : (List GHealth)) (t6 : Int) (h : L_slices_Repeat_api_Health_api_Health_3 N t0 t6 = some r) : c.Goes (items (bodyOf Tryz.f77) [.c 31]) ⟨[(0, .sl gx0 (eL eHealth t0) t0.length t0.length), (6, .int .u64 t6)], []⟩ := by
  unfold L_slices_Repeat_api_Health_api_Health_3 at h
  obtain ⟨h0, h⟩ := chk h
  obtain ⟨h1, h⟩ := chk h
  obtain ⟨h2, h⟩ := chk h
  obtain ⟨v1, h3, h⟩ := via_some h
  exact hc.jumpL (orc := [(6, [(2, { cv := some (.ref 340 0 (List.replicate (Int.toNat (IntKind.i64.wrap t6)) (GHealth.mk false 0)).length (List.replicate (Int.toNat (IntKind.i64.wrap t6)) (GHealth.mk false 0)).length), cb := [(340, eL eHealth (List.replicate (Int.toNat (IntKind.i64.wrap t6)) (GHealth.mk false 0)))] })]), (7, [(2, { cv := some (.int .i64 v1), cb := [(340, eL eHealth ((List.replicate (Int.toNat (IntKind.i64.wrap t6)) (GHealth.mk false 0)).take 0 ++ t0.take (min t0.length ((List.replicate (Int.toNat (IntKind.i64.wrap t6)) (GHealth.mk false 0)).length)) ++ (List.replicate (Int.toNat (IntKind.i64.wrap t6)) (GHealth.mk false 0)).drop (0 + (min t0.length ((List.replicate (Int.toNat (IntKind.i64.wrap t6)) (GHealth.mk false 0)).length)))))] })])]) (m := 7) (kt := [7, 8]) (kh := [(340, 340)]) (by kernel_rfl) (.cons (h0) (.cons (Le.apr (b := 340) (by first | rfl | simp : (List.replicate (Int.toNat (IntKind.i64.wrap t6)) (GHealth.mk false 0)).length = (Int.toNat (IntKind.i64.wrap t6)))) (.cons (repD_eq (e := eHealth) (z := (GHealth.mk false 0)) (cs := [.bool false, .int .i64 0]) rfl (Int.toNat (IntKind.i64.wrap t6))) (.cons ((Or.inr (eL_frees (fun _ => rfl) _) : gx0 = true ∨ frees (eL eHealth t0) = true)) (.cons (rd_len (xs := t0) eHealth_len h1) (.cons (cp_len (xs := (List.replicate (Int.toNat (IntKind.i64.wrap t6)) (GHealth.mk false 0))) eHealth_len (by simp : 0 = 0 * 2) h2) (.cons (Le.int (k := .i64) h3) (.cons (cp_set (xs := (List.replicate (Int.toNat (IntKind.i64.wrap t6)) (GHealth.mk false 0))) (ys := t0) (lo := 0) (k := (min t0.length ((List.replicate (Int.toNat (IntKind.i64.wrap t6)) (GHealth.mk false 0)).length))) (m := t0.length) eHealth_len (by simp : 0 = 0 * 2) (Nat.le_trans (Nat.add_le_add_left (Nat.min_le_right _ _) _) h2) (Nat.min_le_left _ _) h1) .nil)))))))) (.cons (Le.rfs (b := 340) (by first | rfl | omega | (simp only [List.length_append, List.length_take, List.length_drop]; omega) | simp : (List.replicate (Int.toNat (IntKind.i64.wrap t6)) (GHealth.mk false 0)).length = ((List.replicate (Int.toNat (IntKind.i64.wrap t6)) (GHealth.mk false 0)).take 0 ++ t0.take (min t0.length ((List.replicate (Int.toNat (IntKind.i64.wrap t6)) (GHealth.mk false 0)).length)) ++ (List.replicate (Int.toNat (IntKind.i64.wrap t6)) (GHealth.mk false 0)).drop (0 + (min t0.length ((List.replicate (Int.toNat (IntKind.i64.wrap t6)) (GHealth.mk false 0)).length)))).length) (by first | rfl | omega | (simp only [List.length_append, List.length_take, List.length_drop]; omega) | simp : (List.replicate (Int.toNat (IntKind.i64.wrap t6)) (GHealth.mk false 0)).length = ((List.replicate (Int.toNat (IntKind.i64.wrap t6)) (GHealth.mk false 0)).take 0 ++ t0.take (min t0.length ((List.replicate (Int.toNat (IntKind.i64.wrap t6)) (GHealth.mk false 0)).length)) ++ (List.replicate (Int.toNat (IntKind.i64.wrap t6)) (GHealth.mk false 0)).drop (0 + (min t0.length ((List.replicate (Int.toNat (IntKind.i64.wrap t6)) (GHealth.mk false 0)).length)))).length)) (.cons (Le.rfl) .nil)) (g_slices_Repeat_api_Health_api_Health_4 gx0 hc N hfin N ((List.replicate (Int.toNat (IntKind.i64.wrap t6)) (GHealth.mk false 0)).take 0 ++ t0.take (min t0.length ((List.replicate (Int.toNat (IntKind.i64.wrap t6)) (GHealth.mk false 0)).length)) ++ (List.replicate (Int.toNat (IntKind.i64.wrap t6)) (GHealth.mk false 0)).drop (0 + (min t0.length ((List.replicate (Int.toNat (IntKind.i64.wrap t6)) (GHealth.mk false 0)).length)))) v1 h)

theorem g_slices_Repeat_api_Health_api_Health_2 (gx0 : Bool) {c : Cx} (hc : Is c Tryz.prog ty 77 48) (N : Nat) {r : (List GHealth)} (hfin : c.Fin [] (d_slices_Repeat_api_Health_api_Health r) []) (t0 : (List GHealth)) (t6 : Int) (t26 : Bool) (h : L_slices_Repeat_api_Health_api_Health_2 N t0 t6 t26 = some r) : c.Goes (items (bodyOf Tryz.f77) [.c 55, .c 31]) ⟨[(0, .sl gx0 (eL eHealth t0) t0.length t0.length), (6, .int .u64 t6), (26, .bool t26)], []⟩ := by
  unfold L_slices_Repeat_api_Health_api_Health_2 at h
  rcases brk h with ⟨h0, k0⟩ | ⟨h0, k0⟩
  · subst h0
    replace h := k0
    cases h
  · subst h0
    replace h := k0
    exact hc.jump (orc := []) (m := 2) (kt := [0, 6]) (kh := []) (by kernel_rfl) .nil (g_slices_Repeat_api_Health_api_Health_3 gx0 hc N hfin t0 t6 h)

theorem g_slices_Repeat_api_Health_api_Health_1 (gx0 : Bool) {c : Cx} (hc : Is c Tryz.prog ty 77 48) (N : Nat) {r : (List GHealth)} (hfin : c.Fin [] (d_slices_Repeat_api_Health_api_Health r) []) (t0 : (List GHealth)) (t1 : Int) (h : L_slices_Repeat_api_Health_api_Health_1 N t0 t1 = some r) : c.Goes (items (bodyOf Tryz.f77) [.c 7]) ⟨[(0, .sl gx0 (eL eHealth t0) t0.length t0.length), (1, .int .i64 t1)], []⟩ := by
  unfold L_slices_Repeat_api_Health_api_Health_1 at h
  obtain ⟨v1, h0, h⟩ := bind_of h
  rcases brk h with ⟨h1, h⟩ | ⟨h1, h⟩
  · exact hc.jump (orc := [(3, [(5, oR (d_math_bits_Mul v1))]), (4, [(2, oT)])]) (m := 5) (kt := [0, 6, 26]) (kh := []) (by kernel_rfl) (.cons (c_math_bits_Mul N (IntKind.u64.wrap (t0.length : Int)) (IntKind.u64.wrap t1) h0) (.cons (Le.tt h1) .nil)) (g_slices_Repeat_api_Health_api_Health_2 gx0 hc N hfin t0 v1.2 true h)
  · exact hc.jump (orc := [(3, [(5, oR (d_math_bits_Mul v1))]), (4, [(2, oF)])]) (m := 5) (kt := [0, 6, 26]) (kh := []) (by kernel_rfl) (.cons (c_math_bits_Mul N (IntKind.u64.wrap (t0.length : Int)) (IntKind.u64.wrap t1) h0) (.cons (Le.ff h1) .nil)) (g_slices_Repeat_api_Health_api_Health_2 gx0 hc N hfin t0 v1.2 (decide (v1.2 > 9223372036854775807)) h)

theorem g_slices_Repeat_api_Health_api_Health_0 (gx0 : Bool) {c : Cx} (hc : Is c Tryz.prog ty 77 48) (N : Nat) {r : (List GHealth)} (hfin : c.Fin [] (d_slices_Repeat_api_Health_api_Health r) []) (x0 : (List GHealth)) (x1 : Int) (h : L_slices_Repeat_api_Health_api_Health N x0 x1 = some r) : c.Goes (items (bodyOf Tryz.f77) [.c 1]) ⟨[(0, .sl gx0 (eL eHealth x0) x0.length x0.length), (1, .int .i64 x1)], []⟩ := by
  unfold L_slices_Repeat_api_Health_api_Health at h
  rcases brk h with ⟨h0, h⟩ | ⟨h0, h⟩
  · cases h
  · exact hc.jump (orc := [(1, [(1, oF)])]) (m := 7) (kt := [0, 1]) (kh := []) (by kernel_rfl) (.cons (Le.ff h0) .nil) (g_slices_Repeat_api_Health_api_Health_1 gx0 hc N hfin x0 x1 h)

theorem c_slices_Repeat_api_Health_api_Health (N : Nat) (gx0 : Bool) (x0 : (List GHealth)) (x1 : Int) {r : (List GHealth)} (h : L_slices_Repeat_api_Health_api_Health N x0 x1 = some r) : Con Tryz.prog 77 [.sl gx0 (eL eHealth x0) x0.length x0.length, .int .i64 x1] [] (d_slices_Repeat_api_Health_api_Health r) [] :=
  con_in ok mix (fn := Tryz.f77) (by kernel_rfl) (by kernel_rfl) fun hc hfin => g_slices_Repeat_api_Health_api_Health_0 gx0 hc N hfin x0 x1 h
/-! ### wharfage/report.Site -/
def L_report_Site_1 (N : Nat) (t2 : Bool) : Option (Bool) :=
  some t2
def L_report_Site (N : Nat) (x0 : Int) : Option (Bool) :=
  bif (decide (x0 ≥ 0)) then
    L_report_Site_1 N (decide (x0 < 3))
  else
    L_report_Site_1 N false
def d_report_Site (r : Bool) : D := .bool r
theorem g_report_Site_1 {c : Cx} (hc : Is c Tryz.prog ty 84 9) (N : Nat) {r : Bool} (hfin : c.Fin [] (d_report_Site r) []) (t2 : Bool) (h : L_report_Site_1 N t2 = some r) : c.Goes (items (bodyOf Tryz.f84) [.c 7]) ⟨[(2, .bool t2)], []⟩ := by
  unfold L_report_Site_1 at h
  exact hc.rt hfin (fn := Tryz.f84) (by kernel_rfl) (orc := []) (m := 0) (by kernel_rfl) .nil h Le.rfl rfl

theorem g_report_Site_0 {c : Cx} (hc : Is c Tryz.prog ty 84 9) (N : Nat) {r : Bool} (hfin : c.Fin [] (d_report_Site r) []) (x0 : Int) (h : L_report_Site N x0 = some r) : c.Goes (items (bodyOf Tryz.f84) [.c 1]) ⟨[(0, .int .i64 x0)], []⟩ := by
  unfold L_report_Site at h
  rcases brk h with ⟨h0, h⟩ | ⟨h0, h⟩
  · exact hc.jump (orc := [(1, [(2, oT)])]) (m := 4) (kt := [2]) (kh := []) (by kernel_rfl) (.cons (Le.tt h0) .nil) (g_report_Site_1 hc N hfin (decide (x0 < 3)) h)
  · exact hc.jump (orc := [(1, [(2, oF)])]) (m := 4) (kt := [2]) (kh := []) (by kernel_rfl) (.cons (Le.ff h0) .nil) (g_report_Site_1 hc N hfin false h)

theorem c_report_Site (N : Nat) (x0 : Int) {r : Bool} (h : L_report_Site N x0 = some r) : Con Tryz.prog 84 [.int .i64 x0] [] (d_report_Site r) [] :=
  con_in ok mix (fn := Tryz.f84) (by kernel_rfl) (by kernel_rfl) fun hc hfin => g_report_Site_0 hc N hfin x0 h
/-! ### wharfage/conf.to -/
def L_conf_to_1 (N : Nat) (t4 : Bool) : Option (Bool) :=
  some t4
def L_conf_to (N : Nat) (x0 x1 : Int) : Option (Bool) :=
  bif (decide (x0 ≥ 0)) then
    L_conf_to_1 N (decide (x0 ≤ x1))
  else
    L_conf_to_1 N false
def d_conf_to (r : Bool) : D := .bool r
theorem g_conf_to_1 {c : Cx} (hc : Is c Tryz.prog ty 122 12) (N : Nat) {r : Bool} (hfin : c.Fin [] (d_conf_to r) []) (t4 : Bool) (h : L_conf_to_1 N t4 = some r) : c.Goes (items (bodyOf Tryz.f122) [.c 7]) ⟨[(4, .bool t4)], []⟩ := by
  unfold L_conf_to_1 at h
  exact hc.rt hfin (fn := Tryz.f122) (by kernel_rfl) (orc := []) (m := 0) (by kernel_rfl) .nil h Le.rfl rfl

theorem g_conf_to_0 {c : Cx} (hc : Is c Tryz.prog ty 122 12) (N : Nat) {r : Bool} (hfin : c.Fin [] (d_conf_to r) []) (x0 x1 : Int) (h : L_conf_to N x0 x1 = some r) : c.Goes (items (bodyOf Tryz.f122) [.c 1]) ⟨[(0, .int .i64 x0), (1, .int .i64 x1)], []⟩ := by
  unfold L_conf_to at h
  rcases brk h with ⟨h0, h⟩ | ⟨h0, h⟩
  · exact hc.jump (orc := [(1, [(2, oT)])]) (m := 4) (kt := [4]) (kh := []) (by kernel_rfl) (.cons (Le.tt h0) .nil) (g_conf_to_1 hc N hfin (decide (x0 ≤ x1)) h)
  · exact hc.jump (orc := [(1, [(2, oF)])]) (m := 4) (kt := [4]) (kh := []) (by kernel_rfl) (.cons (Le.ff h0) .nil) (g_conf_to_1 hc N hfin false h)

theorem c_conf_to (N : Nat) (x0 x1 : Int) {r : Bool} (h : L_conf_to N x0 x1 = some r) : Con Tryz.prog 122 [.int .i64 x0, .int .i64 x1] [] (d_conf_to r) [] :=
  con_in ok mix (fn := Tryz.f122) (by kernel_rfl) (by kernel_rfl) fun hc hfin => g_conf_to_0 hc N hfin x0 x1 h
/-! ### wharfage/conf.site -/
def L_conf_site_2 (N : Nat) (t2 : Bool) : Option (Bool) :=
  some t2
def L_conf_site_1 (N : Nat) : Nat → GSite → (List GBack) → Int → Int → Option (Bool)
  | 0, _, _, _, _ => none
  | fuel + 1, t0, t8, t9, t10 =>
    bif (decide (t10 < t9)) then
      if 0 ≤ t10 ∧ t10 < ((t8.length : Nat) : Int) then
      (L_conf_to N ((t8.getD t10.toNat default).Weight) 16).bind fun v1 =>
      bif (!v1) then
        some false
      else
        L_conf_site_1 N fuel t0 t8 t9 (IntKind.i64.wrap (t10 + 1))
      else none
    else
      (L_conf_to N t0.Weight 16).bind fun v1 =>
      bif v1 then
        (L_conf_to N t0.Cap 8).bind fun v2 =>
        bif v2 then
          L_conf_site_2 N (decide ((t0.Backs.length : Int) ≤ 4))
        else
          L_conf_site_2 N false
      else
        L_conf_site_2 N false
def L_conf_site (N : Nat) (x0 : GSite) : Option (Bool) :=
  L_conf_site_1 N N x0 x0.Backs (x0.Backs.length : Int) 0
def d_conf_site (r : Bool) : D := .bool r
theorem g_conf_site_2 (gx0 : Bool) {c : Cx} (hc : Is c Tryz.prog ty 146 39) (N : Nat) {r : Bool} (hfin : c.Fin [] (d_conf_site r) []) (t2 : Bool) (h : L_conf_site_2 N t2 = some r) : c.Goes (items (bodyOf Tryz.f146) [.c 15]) ⟨[(2, .bool t2)], []⟩ := by
  unfold L_conf_site_2 at h
  exact hc.rt hfin (fn := Tryz.f146) (by kernel_rfl) (orc := []) (m := 0) (by kernel_rfl) .nil h Le.rfl rfl

theorem g_conf_site_1 (gx0 : Bool) {c : Cx} (hc : Is c Tryz.prog ty 146 39) (N : Nat) {r : Bool} (hfin : c.Fin [] (d_conf_site r) []) : ∀ (fuel : Nat) (t0 : GSite) (t8 : (List GBack)) (t9 t10 : Int), L_conf_site_1 N fuel t0 t8 t9 t10 = some r → c.Goes (items (bodyOf Tryz.f146) [.c 37, .l 37, .b 0, .c 7]) ⟨[(0, .ip gx0 [.int .i64 t0.Weight, .bool t0.Drain, .int .i64 t0.Cap, .sl gx0 (eL eBack t0.Backs) t0.Backs.length t0.Backs.length]), (8, .sl gx0 (eL eBack t8) t8.length t8.length), (9, .int .i64 t9), (10, .int .i64 t10)], []⟩ := by
  intro fuel
  induction fuel with
  | zero => intro t0 t8 t9 t10 h; simp [L_conf_site_1] at h
  | succ fuel ih =>
    intro t0 t8 t9 t10 h
    unfold L_conf_site_1 at h
    rcases brk h with ⟨h0, h⟩ | ⟨h0, h⟩
    · obtain ⟨h1, h⟩ := chk h
      obtain ⟨v1, h2, h⟩ := bind_of h
      rcases brk h with ⟨h3, h⟩ | ⟨h3, h⟩
      · exact hc.rt hfin (fn := Tryz.f146) (by kernel_rfl) (orc := [(2, [(0, oT)]), (3, [(0, oC (.ip gx0 [.int .i64 ((t8.getD t10.toNat default).Weight), .bool ((t8.getD t10.toNat default).Drain)]))]), (4, [(2, oR (d_conf_to v1)), (3, oT)])]) (m := 14) (by kernel_rfl) (.cons (Le.tt h0) (.cons (h1) (.cons (Le.iptl (g := gx0) (eL_at (xs := t8) eBack_len (ixl h1))) (.cons (c_conf_to N ((t8.getD t10.toNat default).Weight) 16 h2) (.cons (Le.tt h3) .nil))))) h Le.rfl rfl
      · exact hc.jump (orc := [(2, [(0, oT)]), (3, [(0, oC (.ip gx0 [.int .i64 ((t8.getD t10.toNat default).Weight), .bool ((t8.getD t10.toNat default).Drain)]))]), (4, [(2, oR (d_conf_to v1)), (3, oF)])]) (m := 16) (kt := [0, 8, 9, 10]) (kh := []) (by kernel_rfl) (.cons (Le.tt h0) (.cons (h1) (.cons (Le.iptl (g := gx0) (eL_at (xs := t8) eBack_len (ixl h1))) (.cons (c_conf_to N ((t8.getD t10.toNat default).Weight) 16 h2) (.cons (Le.ff h3) .nil))))) (ih t0 t8 t9 (IntKind.i64.wrap (t10 + 1)) h)
    · obtain ⟨v1, h1, h⟩ := bind_of h
      rcases brk h with ⟨h2, h⟩ | ⟨h2, h⟩
      · obtain ⟨v2, h3, h⟩ := bind_of h
        rcases brk h with ⟨h4, h⟩ | ⟨h4, h⟩
        · exact hc.jump (orc := [(2, [(0, oF)]), (7, [(4, oR (d_conf_to v1)), (5, oT), (10, oR (d_conf_to v2)), (12, oT)])]) (m := 7) (kt := [2]) (kh := []) (by kernel_rfl) (.cons (Le.ff h0) (.cons (c_conf_to N t0.Weight 16 h1) (.cons (Le.tt h2) (.cons (c_conf_to N t0.Cap 8 h3) (.cons (Le.tt h4) .nil))))) (g_conf_site_2 gx0 hc N hfin (decide ((t0.Backs.length : Int) ≤ 4)) h)
        · exact hc.jump (orc := [(2, [(0, oF)]), (7, [(4, oR (d_conf_to v1)), (5, oT), (10, oR (d_conf_to v2)), (12, oF)])]) (m := 7) (kt := [2]) (kh := []) (by kernel_rfl) (.cons (Le.ff h0) (.cons (c_conf_to N t0.Weight 16 h1) (.cons (Le.tt h2) (.cons (c_conf_to N t0.Cap 8 h3) (.cons (Le.ff h4) .nil))))) (g_conf_site_2 gx0 hc N hfin false h)
      · exact hc.jump (orc := [(2, [(0, oF)]), (7, [(4, oR (d_conf_to v1)), (5, oF)])]) (m := 7) (kt := [2]) (kh := []) (by kernel_rfl) (.cons (Le.ff h0) (.cons (c_conf_to N t0.Weight 16 h1) (.cons (Le.ff h2) .nil))) (g_conf_site_2 gx0 hc N hfin false h)

theorem g_conf_site_0 (gx0 : Bool) {c : Cx} (hc : Is c Tryz.prog ty 146 39) (N : Nat) {r : Bool} (hfin : c.Fin [] (d_conf_site r) []) (x0 : GSite) (h : L_conf_site N x0 = some r) : c.Goes (items (bodyOf Tryz.f146) [.c 1]) ⟨[(0, .ip gx0 [.int .i64 x0.Weight, .bool x0.Drain, .int .i64 x0.Cap, .sl gx0 (eL eBack x0.Backs) x0.Backs.length x0.Backs.length])], []⟩ := by
  unfold L_conf_site at h
  exact hc.jump (orc := []) (m := 7) (kt := [0, 8, 9, 10]) (kh := []) (by kernel_rfl) .nil (g_conf_site_1 gx0 hc N hfin N x0 x0.Backs (x0.Backs.length : Int) 0 h)

theorem c_conf_site (N : Nat) (gx0 : Bool) (x0 : GSite) {r : Bool} (h : L_conf_site N x0 = some r) : Con Tryz.prog 146 [.ip gx0 [.int .i64 x0.Weight, .bool x0.Drain, .int .i64 x0.Cap, .sl gx0 (eL eBack x0.Backs) x0.Backs.length x0.Backs.length]] [] (d_conf_site r) [] :=
  con_in ok mix (fn := Tryz.f146) (by kernel_rfl) (by kernel_rfl) fun hc hfin => g_conf_site_0 gx0 hc N hfin x0 h
/-! ### wharfage/conf.Time -/
def L_conf_Time (N : Nat) (x0 : Int) : Option (Bool) :=
  (L_conf_to N x0 1048576).bind fun v1 =>
  some v1
def d_conf_Time (r : Bool) : D := .bool r
theorem g_conf_Time_0 {c : Cx} (hc : Is c Tryz.prog ty 59 5) (N : Nat) {r : Bool} (hfin : c.Fin [] (d_conf_Time r) []) (x0 : Int) (h : L_conf_Time N x0 = some r) : c.Goes (items (bodyOf Tryz.f59) [.c 1]) ⟨[(0, .int .i64 x0)], []⟩ := by
  unfold L_conf_Time at h
  obtain ⟨v1, h0, h⟩ := bind_of h
  exact hc.rt hfin (fn := Tryz.f59) (by kernel_rfl) (orc := [(1, [(1, oR (d_conf_to v1))])]) (m := 4) (by kernel_rfl) (.cons (c_conf_to N x0 1048576 h0) .nil) h Le.rfl rfl

theorem c_conf_Time (N : Nat) (x0 : Int) {r : Bool} (h : L_conf_Time N x0 = some r) : Con Tryz.prog 59 [.int .i64 x0] [] (d_conf_Time r) [] :=
  con_in ok mix (fn := Tryz.f59) (by kernel_rfl) (by kernel_rfl) fun hc hfin => g_conf_Time_0 hc N hfin x0 h
/-! ### wharfage/conf.May -/
def L_conf_May_2 (N : Nat) (t2 : Bool) : Option (Bool) :=
  some t2
def L_conf_May_1 (N : Nat) : Nat → Int → (List GSite) → Int → Int → Option (Bool)
  | 0, _, _, _, _ => none
  | fuel + 1, b108_0, b108_1, t6, t7 =>
    bif (decide (t7 < t6)) then
      if 0 ≤ t7 ∧ t7 < ((b108_1.length : Nat) : Int) then
      (L_conf_site N (b108_1.getD t7.toNat default)).bind fun v1 =>
      bif (!v1) then
        some false
      else
        L_conf_May_1 N fuel b108_0 b108_1 t6 (IntKind.i64.wrap (t7 + 1))
      else none
    else
      (L_conf_Time N b108_0).bind fun v1 =>
      bif v1 then
        L_conf_May_2 N (decide ((b108_1.length : Int) ≤ 3))
      else
        L_conf_May_2 N false
def L_conf_May (N : Nat) (x0 : GConfig) : Option (Bool) :=
  L_conf_May_1 N N x0.Version x0.Sites (x0.Sites.length : Int) 0
def d_conf_May (r : Bool) : D := .bool r
theorem g_conf_May_2 (gx0 : Bool) {c : Cx} (hc : Is c Tryz.prog ty 85 26) (N : Nat) {r : Bool} (hfin : c.Fin [] (d_conf_May r) []) (t2 : Bool) (h : L_conf_May_2 N t2 = some r) : c.Goes (items (bodyOf Tryz.f85) [.c 15]) ⟨[(2, .bool t2)], []⟩ := by
  unfold L_conf_May_2 at h
  exact hc.rt hfin (fn := Tryz.f85) (by kernel_rfl) (orc := []) (m := 0) (by kernel_rfl) .nil h Le.rfl rfl

theorem g_conf_May_1 (gx0 : Bool) {c : Cx} (hc : Is c Tryz.prog ty 85 26) (N : Nat) {r : Bool} (hfin : c.Fin [] (d_conf_May r) []) : ∀ (fuel : Nat) (b108_0 : Int) (b108_1 : (List GSite)) (t6 t7 : Int), L_conf_May_1 N fuel b108_0 b108_1 t6 t7 = some r → c.Goes (items (bodyOf Tryz.f85) [.c 37, .l 37, .b 0, .c 7]) ⟨[(1, .ptr 108 0), (6, .int .i64 t6), (7, .int .i64 t7)], [(108, some ⟨false, 0, [.int .i64 b108_0, .sl gx0 (eL (eSite gx0) b108_1) b108_1.length b108_1.length]⟩)]⟩ := by
  intro fuel
  induction fuel with
  | zero => intro b108_0 b108_1 t6 t7 h; simp [L_conf_May_1] at h
  | succ fuel ih =>
    intro b108_0 b108_1 t6 t7 h
    unfold L_conf_May_1 at h
    rcases brk h with ⟨h0, h⟩ | ⟨h0, h⟩
    · obtain ⟨h1, h⟩ := chk h
      obtain ⟨v1, h2, h⟩ := bind_of h
      rcases brk h with ⟨h3, h⟩ | ⟨h3, h⟩
      · exact hc.rt hfin (fn := Tryz.f85) (by kernel_rfl) (orc := [(2, [(0, oT)]), (4, [(3, oC (.ip gx0 [.int .i64 ((b108_1.getD t7.toNat default).Weight), .bool ((b108_1.getD t7.toNat default).Drain), .int .i64 ((b108_1.getD t7.toNat default).Cap), .sl gx0 (eL eBack ((b108_1.getD t7.toNat default).Backs)) (((b108_1.getD t7.toNat default).Backs).length) (((b108_1.getD t7.toNat default).Backs).length)])), (4, oR (d_conf_site v1)), (5, oT)])]) (m := 14) (by kernel_rfl) (.cons (Le.tt h0) (.cons (h1) (.cons (Le.iptl (g := gx0) (eL_at (xs := b108_1) (eSite_len gx0) (ixl h1))) (.cons (c_conf_site N gx0 (b108_1.getD t7.toNat default) h2) (.cons (Le.tt h3) .nil))))) h Le.rfl rfl
      · exact hc.jump (orc := [(2, [(0, oT)]), (4, [(3, oC (.ip gx0 [.int .i64 ((b108_1.getD t7.toNat default).Weight), .bool ((b108_1.getD t7.toNat default).Drain), .int .i64 ((b108_1.getD t7.toNat default).Cap), .sl gx0 (eL eBack ((b108_1.getD t7.toNat default).Backs)) (((b108_1.getD t7.toNat default).Backs).length) (((b108_1.getD t7.toNat default).Backs).length)])), (4, oR (d_conf_site v1)), (5, oF)])]) (m := 16) (kt := [1, 6, 7]) (kh := [(108, 108)]) (by kernel_rfl) (.cons (Le.tt h0) (.cons (h1) (.cons (Le.iptl (g := gx0) (eL_at (xs := b108_1) (eSite_len gx0) (ixl h1))) (.cons (c_conf_site N gx0 (b108_1.getD t7.toNat default) h2) (.cons (Le.ff h3) .nil))))) (ih b108_0 b108_1 t6 (IntKind.i64.wrap (t7 + 1)) h)
    · obtain ⟨v1, h1, h⟩ := bind_of h
      rcases brk h with ⟨h2, h⟩ | ⟨h2, h⟩
      · exact hc.jump (orc := [(2, [(0, oF)]), (7, [(2, oR (d_conf_Time v1)), (3, oT)])]) (m := 7) (kt := [2]) (kh := []) (by kernel_rfl) (.cons (Le.ff h0) (.cons (c_conf_Time N b108_0 h1) (.cons (Le.tt h2) .nil))) (g_conf_May_2 gx0 hc N hfin (decide ((b108_1.length : Int) ≤ 3)) h)
      · exact hc.jump (orc := [(2, [(0, oF)]), (7, [(2, oR (d_conf_Time v1)), (3, oF)])]) (m := 7) (kt := [2]) (kh := []) (by kernel_rfl) (.cons (Le.ff h0) (.cons (c_conf_Time N b108_0 h1) (.cons (Le.ff h2) .nil))) (g_conf_May_2 gx0 hc N hfin false h)

theorem g_conf_May_0 (gx0 : Bool) {c : Cx} (hc : Is c Tryz.prog ty 85 26) (N : Nat) {r : Bool} (hfin : c.Fin [] (d_conf_May r) []) (x0 : GConfig) (h : L_conf_May N x0 = some r) : c.Goes (items (bodyOf Tryz.f85) [.c 1]) ⟨[(0, .agg [.int .i64 x0.Version, .sl gx0 (eL (eSite gx0) x0.Sites) x0.Sites.length x0.Sites.length])], []⟩ := by
  unfold L_conf_May at h
  exact hc.jump (orc := []) (m := 7) (kt := [1, 6, 7]) (kh := [(108, 108)]) (by kernel_rfl) .nil (g_conf_May_1 gx0 hc N hfin N x0.Version x0.Sites (x0.Sites.length : Int) 0 h)

theorem c_conf_May (N : Nat) (gx0 : Bool) (x0 : GConfig) {r : Bool} (h : L_conf_May N x0 = some r) : Con Tryz.prog 85 [.agg [.int .i64 x0.Version, .sl gx0 (eL (eSite gx0) x0.Sites) x0.Sites.length x0.Sites.length]] [] (d_conf_May r) [] :=
  con_in ok mix (fn := Tryz.f85) (by kernel_rfl) (by kernel_rfl) fun hc hfin => g_conf_May_0 gx0 hc N hfin x0 h
/-! ### wharfage/health.turns -/
def L_health_turns (N : Nat) (x0 : GHealth) : Option (Int) :=
  bif x0.Up then
    some 3
  else
    some 3
def d_health_turns (r : Int) : D := .int .i64 r
theorem g_health_turns_0 (gx0 : Bool) {c : Cx} (hc : Is c Tryz.prog ty 196 7) (N : Nat) {r : Int} (hfin : c.Fin [] (d_health_turns r) []) (x0 : GHealth) (h : L_health_turns N x0 = some r) : c.Goes (items (bodyOf Tryz.f196) [.c 1]) ⟨[(0, .ip gx0 [.bool x0.Up, .int .i64 x0.Count])], []⟩ := by
  unfold L_health_turns at h
  rcases brk h with ⟨h0, h⟩ | ⟨h0, h⟩
  · exact hc.rt hfin (fn := Tryz.f196) (by kernel_rfl) (orc := [(1, [(3, oT)])]) (m := 8) (by kernel_rfl) (.cons ((List.cons_ne_nil _ _ : ([.bool x0.Up, .int .i64 x0.Count] : List D) ≠ [])) (.cons (Le.tt h0) .nil)) h Le.rfl rfl
  · exact hc.rt hfin (fn := Tryz.f196) (by kernel_rfl) (orc := [(1, [(3, oF)])]) (m := 9) (by kernel_rfl) (.cons ((List.cons_ne_nil _ _ : ([.bool x0.Up, .int .i64 x0.Count] : List D) ≠ [])) (.cons (Le.ff h0) .nil)) h Le.rfl rfl

theorem c_health_turns (N : Nat) (gx0 : Bool) (x0 : GHealth) {r : Int} (h : L_health_turns N x0 = some r) : Con Tryz.prog 196 [.ip gx0 [.bool x0.Up, .int .i64 x0.Count]] [] (d_health_turns r) [] :=
  con_in ok mix (fn := Tryz.f196) (by kernel_rfl) (by kernel_rfl) fun hc hfin => g_health_turns_0 gx0 hc N hfin x0 h
/-! ### wharfage/health.May -/
def L_health_May_1 (N : Nat) (t2 : Bool) : Option (Bool) :=
  some t2
def L_health_May (N : Nat) (x0 : GHealth) : Option (Bool) :=
  bif (decide (x0.Count ≥ 0)) then
    (L_health_turns N x0).bind fun v1 =>
    L_health_May_1 N (decide (x0.Count < v1))
  else
    L_health_May_1 N false
def d_health_May (r : Bool) : D := .bool r
theorem g_health_May_1 {c : Cx} (hc : Is c Tryz.prog ty 147 12) (N : Nat) {r : Bool} (hfin : c.Fin [] (d_health_May r) []) (t2 : Bool) (h : L_health_May_1 N t2 = some r) : c.Goes (items (bodyOf Tryz.f147) [.c 7]) ⟨[(2, .bool t2)], []⟩ := by
  unfold L_health_May_1 at h
  exact hc.rt hfin (fn := Tryz.f147) (by kernel_rfl) (orc := []) (m := 0) (by kernel_rfl) .nil h Le.rfl rfl

theorem g_health_May_0 {c : Cx} (hc : Is c Tryz.prog ty 147 12) (N : Nat) {r : Bool} (hfin : c.Fin [] (d_health_May r) []) (x0 : GHealth) (h : L_health_May N x0 = some r) : c.Goes (items (bodyOf Tryz.f147) [.c 1]) ⟨[(0, .agg [.bool x0.Up, .int .i64 x0.Count])], []⟩ := by
  unfold L_health_May at h
  rcases brk h with ⟨h0, h⟩ | ⟨h0, h⟩
  · obtain ⟨v1, h1, h⟩ := bind_of h
    exact hc.jump (orc := [(1, [(3, oT), (6, oR (d_health_turns v1))])]) (m := 4) (kt := [2]) (kh := []) (by kernel_rfl) (.cons (Le.tt h0) (.cons (c_health_turns N false x0 h1) .nil)) (g_health_May_1 hc N hfin (decide (x0.Count < v1)) h)
  · exact hc.jump (orc := [(1, [(3, oF)])]) (m := 4) (kt := [2]) (kh := []) (by kernel_rfl) (.cons (Le.ff h0) .nil) (g_health_May_1 hc N hfin false h)

theorem c_health_May (N : Nat) (x0 : GHealth) {r : Bool} (h : L_health_May N x0 = some r) : Con Tryz.prog 147 [.agg [.bool x0.Up, .int .i64 x0.Count]] [] (d_health_May r) [] :=
  con_in ok mix (fn := Tryz.f147) (by kernel_rfl) (by kernel_rfl) fun hc hfin => g_health_May_0 hc N hfin x0 h
/-! ### wharfage/health.All -/
def L_health_All_1 (N : Nat) : Nat → (List GHealth) → Int → (List GHealth) → Int → Int → Option (Bool)
  | 0, _, _, _, _, _ => none
  | fuel + 1, t0, t1, t7, t8, t9 =>
    bif (decide (t9 < t8)) then
      if 0 ≤ t9 ∧ t9 < ((t7.length : Nat) : Int) then
      (L_health_May N (t7.getD t9.toNat default)).bind fun v1 =>
      bif (!v1) then
        some false
      else
        L_health_All_1 N fuel t0 t1 t7 t8 (IntKind.i64.wrap (t9 + 1))
      else none
    else
      some ((t0.length : Int) == t1)
def L_health_All (N : Nat) (x0 : (List GHealth)) (x1 : Int) : Option (Bool) :=
  L_health_All_1 N N x0 x1 x0 (x0.length : Int) 0
def d_health_All (r : Bool) : D := .bool r
theorem g_health_All_1 (gx0 : Bool) {c : Cx} (hc : Is c Tryz.prog ty 86 21) (N : Nat) {r : Bool} (hfin : c.Fin [] (d_health_All r) []) : ∀ (fuel : Nat) (t0 : (List GHealth)) (t1 : Int) (t7 : (List GHealth)) (t8 t9 : Int), L_health_All_1 N fuel t0 t1 t7 t8 t9 = some r → c.Goes (items (bodyOf Tryz.f86) [.c 37, .l 37, .b 0, .c 7]) ⟨[(0, .sl gx0 (eL eHealth t0) t0.length t0.length), (1, .int .i64 t1), (7, .sl gx0 (eL eHealth t7) t7.length t7.length), (8, .int .i64 t8), (9, .int .i64 t9)], []⟩ := by
  intro fuel
  induction fuel with
  | zero => intro t0 t1 t7 t8 t9 h; simp [L_health_All_1] at h
  | succ fuel ih =>
    intro t0 t1 t7 t8 t9 h
    unfold L_health_All_1 at h
    rcases brk h with ⟨h0, h⟩ | ⟨h0, h⟩
    · obtain ⟨h1, h⟩ := chk h
      obtain ⟨v1, h2, h⟩ := bind_of h
      rcases brk h with ⟨h3, h⟩ | ⟨h3, h⟩
      · exact hc.rt hfin (fn := Tryz.f86) (by kernel_rfl) (orc := [(2, [(0, oT)]), (3, [(0, oC (.ip gx0 [.bool ((t7.getD t9.toNat default).Up), .int .i64 ((t7.getD t9.toNat default).Count)]))]), (4, [(1, oR (d_health_May v1)), (2, oT)])]) (m := 14) (by kernel_rfl) (.cons (Le.tt h0) (.cons (h1) (.cons (Le.iptl (g := gx0) (eL_at (xs := t7) eHealth_len (ixl h1))) (.cons (c_health_May N (t7.getD t9.toNat default) h2) (.cons (Le.tt h3) .nil))))) h Le.rfl rfl
      · exact hc.jump (orc := [(2, [(0, oT)]), (3, [(0, oC (.ip gx0 [.bool ((t7.getD t9.toNat default).Up), .int .i64 ((t7.getD t9.toNat default).Count)]))]), (4, [(1, oR (d_health_May v1)), (2, oF)])]) (m := 16) (kt := [0, 1, 7, 8, 9]) (kh := []) (by kernel_rfl) (.cons (Le.tt h0) (.cons (h1) (.cons (Le.iptl (g := gx0) (eL_at (xs := t7) eHealth_len (ixl h1))) (.cons (c_health_May N (t7.getD t9.toNat default) h2) (.cons (Le.ff h3) .nil))))) (ih t0 t1 t7 t8 (IntKind.i64.wrap (t9 + 1)) h)
    · exact hc.rt hfin (fn := Tryz.f86) (by kernel_rfl) (orc := [(2, [(0, oF)])]) (m := 7) (by kernel_rfl) (.cons (Le.ff h0) .nil) h Le.rfl rfl

theorem g_health_All_0 (gx0 : Bool) {c : Cx} (hc : Is c Tryz.prog ty 86 21) (N : Nat) {r : Bool} (hfin : c.Fin [] (d_health_All r) []) (x0 : (List GHealth)) (x1 : Int) (h : L_health_All N x0 x1 = some r) : c.Goes (items (bodyOf Tryz.f86) [.c 1]) ⟨[(0, .sl gx0 (eL eHealth x0) x0.length x0.length), (1, .int .i64 x1)], []⟩ := by
  unfold L_health_All at h
  exact hc.jump (orc := []) (m := 7) (kt := [0, 1, 7, 8, 9]) (kh := []) (by kernel_rfl) .nil (g_health_All_1 gx0 hc N hfin N x0 x1 x0 (x0.length : Int) 0 h)

theorem c_health_All (N : Nat) (gx0 : Bool) (x0 : (List GHealth)) (x1 : Int) {r : Bool} (h : L_health_All N x0 x1 = some r) : Con Tryz.prog 86 [.sl gx0 (eL eHealth x0) x0.length x0.length, .int .i64 x1] [] (d_health_All r) [] :=
  con_in ok mix (fn := Tryz.f86) (by kernel_rfl) (by kernel_rfl) fun hc hfin => g_health_All_0 gx0 hc N hfin x0 x1 h
/-! ### wharfage/ip.In -/
def L_ip_In_1 (N : Nat) (t4 : Bool) : Option (Bool) :=
  some t4
def L_ip_In (N : Nat) (x0 x1 : Int) : Option (Bool) :=
  bif (decide (x0 ≥ 0)) then
    if 0 ≤ x1 then
    L_ip_In_1 N ((x0.fdiv (2 ^ (min x1.toNat 64))) == 0)
    else none
  else
    L_ip_In_1 N false
def d_ip_In (r : Bool) : D := .bool r
theorem g_ip_In_1 {c : Cx} (hc : Is c Tryz.prog ty 198 13) (N : Nat) {r : Bool} (hfin : c.Fin [] (d_ip_In r) []) (t4 : Bool) (h : L_ip_In_1 N t4 = some r) : c.Goes (items (bodyOf Tryz.f198) [.c 7]) ⟨[(4, .bool t4)], []⟩ := by
  unfold L_ip_In_1 at h
  exact hc.rt hfin (fn := Tryz.f198) (by kernel_rfl) (orc := []) (m := 0) (by kernel_rfl) .nil h Le.rfl rfl

theorem g_ip_In_0 {c : Cx} (hc : Is c Tryz.prog ty 198 13) (N : Nat) {r : Bool} (hfin : c.Fin [] (d_ip_In r) []) (x0 x1 : Int) (h : L_ip_In N x0 x1 = some r) : c.Goes (items (bodyOf Tryz.f198) [.c 1]) ⟨[(0, .int .i64 x0), (1, .int .i64 x1)], []⟩ := by
  unfold L_ip_In at h
  rcases brk h with ⟨h0, h⟩ | ⟨h0, h⟩
  · obtain ⟨h1, h⟩ := chk h
    exact hc.jump (orc := [(1, [(2, oT)])]) (m := 4) (kt := [4]) (kh := []) (by kernel_rfl) (.cons (Le.tt h0) (.cons (h1) .nil)) (g_ip_In_1 hc N hfin ((x0.fdiv (2 ^ (min x1.toNat 64))) == 0) h)
  · exact hc.jump (orc := [(1, [(2, oF)])]) (m := 4) (kt := [4]) (kh := []) (by kernel_rfl) (.cons (Le.ff h0) .nil) (g_ip_In_1 hc N hfin false h)

theorem c_ip_In (N : Nat) (x0 x1 : Int) {r : Bool} (h : L_ip_In N x0 x1 = some r) : Con Tryz.prog 198 [.int .i64 x0, .int .i64 x1] [] (d_ip_In r) [] :=
  con_in ok mix (fn := Tryz.f198) (by kernel_rfl) (by kernel_rfl) fun hc hfin => g_ip_In_0 hc N hfin x0 x1 h
/-! ### wharfage/flow.handled -/
def L_flow_handled_1 (N : Nat) (t2 : Bool) : Option (Bool) :=
  some t2
def L_flow_handled (N : Nat) (x0 : Int) : Option (Bool) :=
  bif (x0 == 6) then
    L_flow_handled_1 N true
  else
    L_flow_handled_1 N (x0 == 17)
def d_flow_handled (r : Bool) : D := .bool r
theorem g_flow_handled_1 {c : Cx} (hc : Is c Tryz.prog ty 126 9) (N : Nat) {r : Bool} (hfin : c.Fin [] (d_flow_handled r) []) (t2 : Bool) (h : L_flow_handled_1 N t2 = some r) : c.Goes (items (bodyOf Tryz.f126) [.c 7]) ⟨[(2, .bool t2)], []⟩ := by
  unfold L_flow_handled_1 at h
  exact hc.rt hfin (fn := Tryz.f126) (by kernel_rfl) (orc := []) (m := 0) (by kernel_rfl) .nil h Le.rfl rfl

theorem g_flow_handled_0 {c : Cx} (hc : Is c Tryz.prog ty 126 9) (N : Nat) {r : Bool} (hfin : c.Fin [] (d_flow_handled r) []) (x0 : Int) (h : L_flow_handled N x0 = some r) : c.Goes (items (bodyOf Tryz.f126) [.c 1]) ⟨[(0, .int .i64 x0)], []⟩ := by
  unfold L_flow_handled at h
  rcases brk h with ⟨h0, h⟩ | ⟨h0, h⟩
  · exact hc.jump (orc := [(1, [(2, oT)])]) (m := 4) (kt := [2]) (kh := []) (by kernel_rfl) (.cons (Le.tt h0) .nil) (g_flow_handled_1 hc N hfin true h)
  · exact hc.jump (orc := [(1, [(2, oF)])]) (m := 4) (kt := [2]) (kh := []) (by kernel_rfl) (.cons (Le.ff h0) .nil) (g_flow_handled_1 hc N hfin (x0 == 17) h)

theorem c_flow_handled (N : Nat) (x0 : Int) {r : Bool} (h : L_flow_handled N x0 = some r) : Con Tryz.prog 126 [.int .i64 x0] [] (d_flow_handled r) [] :=
  con_in ok mix (fn := Tryz.f126) (by kernel_rfl) (by kernel_rfl) fun hc hfin => g_flow_handled_0 hc N hfin x0 h
/-! ### wharfage/flow.May -/
def L_flow_May_1 (N : Nat) (t2 : Bool) : Option (Bool) :=
  some t2
def L_flow_May (N : Nat) (x0 : GFlow) : Option (Bool) :=
  (L_ip_In N x0.Src 32).bind fun v1 =>
  bif v1 then
    (L_ip_In N x0.Dst 32).bind fun v2 =>
    bif v2 then
      (L_flow_handled N x0.Proto).bind fun v3 =>
      bif v3 then
        (L_ip_In N x0.Sport 16).bind fun v4 =>
        bif v4 then
          (L_ip_In N x0.Dport 16).bind fun v5 =>
          L_flow_May_1 N v5
        else
          L_flow_May_1 N false
      else
        L_flow_May_1 N false
    else
      L_flow_May_1 N false
  else
    L_flow_May_1 N false
def d_flow_May (r : Bool) : D := .bool r
theorem g_flow_May_1 {c : Cx} (hc : Is c Tryz.prog ty 197 26) (N : Nat) {r : Bool} (hfin : c.Fin [] (d_flow_May r) []) (t2 : Bool) (h : L_flow_May_1 N t2 = some r) : c.Goes (items (bodyOf Tryz.f197) [.c 7]) ⟨[(2, .bool t2)], []⟩ := by
  unfold L_flow_May_1 at h
  exact hc.rt hfin (fn := Tryz.f197) (by kernel_rfl) (orc := []) (m := 0) (by kernel_rfl) .nil h Le.rfl rfl

theorem g_flow_May_0 {c : Cx} (hc : Is c Tryz.prog ty 197 26) (N : Nat) {r : Bool} (hfin : c.Fin [] (d_flow_May r) []) (x0 : GFlow) (h : L_flow_May N x0 = some r) : c.Goes (items (bodyOf Tryz.f197) [.c 1]) ⟨[(0, .agg [.int .i64 x0.Src, .int .i64 x0.Dst, .int .i64 x0.Proto, .int .i64 x0.Sport, .int .i64 x0.Dport])], []⟩ := by
  unfold L_flow_May at h
  obtain ⟨v1, h0, h⟩ := bind_of h
  rcases brk h with ⟨h1, h⟩ | ⟨h1, h⟩
  · obtain ⟨v2, h2, h⟩ := bind_of h
    rcases brk h with ⟨h3, h⟩ | ⟨h3, h⟩
    · obtain ⟨v3, h4, h⟩ := bind_of h
      rcases brk h with ⟨h5, h⟩ | ⟨h5, h⟩
      · obtain ⟨v4, h6, h⟩ := bind_of h
        rcases brk h with ⟨h7, h⟩ | ⟨h7, h⟩
        · obtain ⟨v5, h8, h⟩ := bind_of h
          exact hc.jump (orc := [(1, [(2, oR (d_ip_In v1)), (3, oT), (6, oR (d_ip_In v2)), (8, oT), (11, oR (d_flow_handled v3)), (13, oT), (16, oR (d_ip_In v4)), (18, oT), (21, oR (d_ip_In v5))])]) (m := 4) (kt := [2]) (kh := []) (by kernel_rfl) (.cons (c_ip_In N x0.Src 32 h0) (.cons (Le.tt h1) (.cons (c_ip_In N x0.Dst 32 h2) (.cons (Le.tt h3) (.cons (c_flow_handled N x0.Proto h4) (.cons (Le.tt h5) (.cons (c_ip_In N x0.Sport 16 h6) (.cons (Le.tt h7) (.cons (c_ip_In N x0.Dport 16 h8) .nil))))))))) (g_flow_May_1 hc N hfin v5 h)
        · exact hc.jump (orc := [(1, [(2, oR (d_ip_In v1)), (3, oT), (6, oR (d_ip_In v2)), (8, oT), (11, oR (d_flow_handled v3)), (13, oT), (16, oR (d_ip_In v4)), (18, oF)])]) (m := 4) (kt := [2]) (kh := []) (by kernel_rfl) (.cons (c_ip_In N x0.Src 32 h0) (.cons (Le.tt h1) (.cons (c_ip_In N x0.Dst 32 h2) (.cons (Le.tt h3) (.cons (c_flow_handled N x0.Proto h4) (.cons (Le.tt h5) (.cons (c_ip_In N x0.Sport 16 h6) (.cons (Le.ff h7) .nil)))))))) (g_flow_May_1 hc N hfin false h)
      · exact hc.jump (orc := [(1, [(2, oR (d_ip_In v1)), (3, oT), (6, oR (d_ip_In v2)), (8, oT), (11, oR (d_flow_handled v3)), (13, oF)])]) (m := 4) (kt := [2]) (kh := []) (by kernel_rfl) (.cons (c_ip_In N x0.Src 32 h0) (.cons (Le.tt h1) (.cons (c_ip_In N x0.Dst 32 h2) (.cons (Le.tt h3) (.cons (c_flow_handled N x0.Proto h4) (.cons (Le.ff h5) .nil)))))) (g_flow_May_1 hc N hfin false h)
    · exact hc.jump (orc := [(1, [(2, oR (d_ip_In v1)), (3, oT), (6, oR (d_ip_In v2)), (8, oF)])]) (m := 4) (kt := [2]) (kh := []) (by kernel_rfl) (.cons (c_ip_In N x0.Src 32 h0) (.cons (Le.tt h1) (.cons (c_ip_In N x0.Dst 32 h2) (.cons (Le.ff h3) .nil)))) (g_flow_May_1 hc N hfin false h)
  · exact hc.jump (orc := [(1, [(2, oR (d_ip_In v1)), (3, oF)])]) (m := 4) (kt := [2]) (kh := []) (by kernel_rfl) (.cons (c_ip_In N x0.Src 32 h0) (.cons (Le.ff h1) .nil)) (g_flow_May_1 hc N hfin false h)

theorem c_flow_May (N : Nat) (x0 : GFlow) {r : Bool} (h : L_flow_May N x0 = some r) : Con Tryz.prog 197 [.agg [.int .i64 x0.Src, .int .i64 x0.Dst, .int .i64 x0.Proto, .int .i64 x0.Sport, .int .i64 x0.Dport]] [] (d_flow_May r) [] :=
  con_in ok mix (fn := Tryz.f197) (by kernel_rfl) (by kernel_rfl) fun hc hfin => g_flow_May_0 hc N hfin x0 h
/-! ### wharfage/track.May -/
def L_track_May_1 (N : Nat) (t2 : Bool) : Option (Bool) :=
  some t2
def L_track_May (N : Nat) (x0 : Int) : Option (Bool) :=
  bif (decide (x0 ≥ 0)) then
    L_track_May_1 N (decide (x0 ≤ 2))
  else
    L_track_May_1 N false
def d_track_May (r : Bool) : D := .bool r
theorem g_track_May_1 {c : Cx} (hc : Is c Tryz.prog ty 199 9) (N : Nat) {r : Bool} (hfin : c.Fin [] (d_track_May r) []) (t2 : Bool) (h : L_track_May_1 N t2 = some r) : c.Goes (items (bodyOf Tryz.f199) [.c 7]) ⟨[(2, .bool t2)], []⟩ := by
  unfold L_track_May_1 at h
  exact hc.rt hfin (fn := Tryz.f199) (by kernel_rfl) (orc := []) (m := 0) (by kernel_rfl) .nil h Le.rfl rfl

theorem g_track_May_0 {c : Cx} (hc : Is c Tryz.prog ty 199 9) (N : Nat) {r : Bool} (hfin : c.Fin [] (d_track_May r) []) (x0 : Int) (h : L_track_May N x0 = some r) : c.Goes (items (bodyOf Tryz.f199) [.c 1]) ⟨[(0, .int .i64 x0)], []⟩ := by
  unfold L_track_May at h
  rcases brk h with ⟨h0, h⟩ | ⟨h0, h⟩
  · exact hc.jump (orc := [(1, [(2, oT)])]) (m := 4) (kt := [2]) (kh := []) (by kernel_rfl) (.cons (Le.tt h0) .nil) (g_track_May_1 hc N hfin (decide (x0 ≤ 2)) h)
  · exact hc.jump (orc := [(1, [(2, oF)])]) (m := 4) (kt := [2]) (kh := []) (by kernel_rfl) (.cons (Le.ff h0) .nil) (g_track_May_1 hc N hfin false h)

theorem c_track_May (N : Nat) (x0 : Int) {r : Bool} (h : L_track_May N x0 = some r) : Con Tryz.prog 199 [.int .i64 x0] [] (d_track_May r) [] :=
  con_in ok mix (fn := Tryz.f199) (by kernel_rfl) (by kernel_rfl) fun hc hfin => g_track_May_0 hc N hfin x0 h
/-! ### wharfage/entry.May -/
def L_entry_May_1 (N : Nat) (t2 : Bool) : Option (Bool) :=
  some t2
def L_entry_May (N : Nat) (x0 : GEntry) : Option (Bool) :=
  (L_flow_May N x0.Flow).bind fun v1 =>
  bif v1 then
    (L_ip_In N x0.To 8).bind fun v2 =>
    bif v2 then
      (L_track_May N x0.Phase).bind fun v3 =>
      bif v3 then
        (L_conf_Time N x0.Used).bind fun v4 =>
        L_entry_May_1 N v4
      else
        L_entry_May_1 N false
    else
      L_entry_May_1 N false
  else
    L_entry_May_1 N false
def d_entry_May (r : Bool) : D := .bool r
theorem g_entry_May_1 {c : Cx} (hc : Is c Tryz.prog ty 148 21) (N : Nat) {r : Bool} (hfin : c.Fin [] (d_entry_May r) []) (t2 : Bool) (h : L_entry_May_1 N t2 = some r) : c.Goes (items (bodyOf Tryz.f148) [.c 7]) ⟨[(2, .bool t2)], []⟩ := by
  unfold L_entry_May_1 at h
  exact hc.rt hfin (fn := Tryz.f148) (by kernel_rfl) (orc := []) (m := 0) (by kernel_rfl) .nil h Le.rfl rfl

theorem g_entry_May_0 {c : Cx} (hc : Is c Tryz.prog ty 148 21) (N : Nat) {r : Bool} (hfin : c.Fin [] (d_entry_May r) []) (x0 : GEntry) (h : L_entry_May N x0 = some r) : c.Goes (items (bodyOf Tryz.f148) [.c 1]) ⟨[(0, .agg [.int .i64 x0.Flow.Src, .int .i64 x0.Flow.Dst, .int .i64 x0.Flow.Proto, .int .i64 x0.Flow.Sport, .int .i64 x0.Flow.Dport, .int .i64 x0.To, .bool x0.Away, .int .i64 x0.Phase, .int .i64 x0.Used])], []⟩ := by
  unfold L_entry_May at h
  obtain ⟨v1, h0, h⟩ := bind_of h
  rcases brk h with ⟨h1, h⟩ | ⟨h1, h⟩
  · obtain ⟨v2, h2, h⟩ := bind_of h
    rcases brk h with ⟨h3, h⟩ | ⟨h3, h⟩
    · obtain ⟨v3, h4, h⟩ := bind_of h
      rcases brk h with ⟨h5, h⟩ | ⟨h5, h⟩
      · obtain ⟨v4, h6, h⟩ := bind_of h
        exact hc.jump (orc := [(1, [(2, oR (d_flow_May v1)), (3, oT), (6, oR (d_ip_In v2)), (8, oT), (11, oR (d_track_May v3)), (13, oT), (16, oR (d_conf_Time v4))])]) (m := 4) (kt := [2]) (kh := []) (by kernel_rfl) (.cons (c_flow_May N x0.Flow h0) (.cons (Le.tt h1) (.cons (c_ip_In N x0.To 8 h2) (.cons (Le.tt h3) (.cons (c_track_May N x0.Phase h4) (.cons (Le.tt h5) (.cons (c_conf_Time N x0.Used h6) .nil))))))) (g_entry_May_1 hc N hfin v4 h)
      · exact hc.jump (orc := [(1, [(2, oR (d_flow_May v1)), (3, oT), (6, oR (d_ip_In v2)), (8, oT), (11, oR (d_track_May v3)), (13, oF)])]) (m := 4) (kt := [2]) (kh := []) (by kernel_rfl) (.cons (c_flow_May N x0.Flow h0) (.cons (Le.tt h1) (.cons (c_ip_In N x0.To 8 h2) (.cons (Le.tt h3) (.cons (c_track_May N x0.Phase h4) (.cons (Le.ff h5) .nil)))))) (g_entry_May_1 hc N hfin false h)
    · exact hc.jump (orc := [(1, [(2, oR (d_flow_May v1)), (3, oT), (6, oR (d_ip_In v2)), (8, oF)])]) (m := 4) (kt := [2]) (kh := []) (by kernel_rfl) (.cons (c_flow_May N x0.Flow h0) (.cons (Le.tt h1) (.cons (c_ip_In N x0.To 8 h2) (.cons (Le.ff h3) .nil)))) (g_entry_May_1 hc N hfin false h)
  · exact hc.jump (orc := [(1, [(2, oR (d_flow_May v1)), (3, oF)])]) (m := 4) (kt := [2]) (kh := []) (by kernel_rfl) (.cons (c_flow_May N x0.Flow h0) (.cons (Le.ff h1) .nil)) (g_entry_May_1 hc N hfin false h)

theorem c_entry_May (N : Nat) (x0 : GEntry) {r : Bool} (h : L_entry_May N x0 = some r) : Con Tryz.prog 148 [.agg [.int .i64 x0.Flow.Src, .int .i64 x0.Flow.Dst, .int .i64 x0.Flow.Proto, .int .i64 x0.Flow.Sport, .int .i64 x0.Flow.Dport, .int .i64 x0.To, .bool x0.Away, .int .i64 x0.Phase, .int .i64 x0.Used]] [] (d_entry_May r) [] :=
  con_in ok mix (fn := Tryz.f148) (by kernel_rfl) (by kernel_rfl) fun hc hfin => g_entry_May_0 hc N hfin x0 h
/-! ### wharfage/cache.at$1 -/
def L_cache_at_f1 (N : Nat) (x0 : GEntry) (x1_0 x1_1 x1_2 x1_3 x1_4 : Int) : Option (Bool) :=
  via (((x0.Flow.Src == x1_0) && ((x0.Flow.Dst == x1_1) && ((x0.Flow.Proto == x1_2) && ((x0.Flow.Sport == x1_3) && ((x0.Flow.Dport == x1_4) && true))))) : Bool) fun v1 =>
  some v1
def d_cache_at_f1 (r : Bool) : D := .bool r
theorem g_cache_at_f1_0 (gx1 : Bool) {c : Cx} (hc : Is c Tryz.prog ty 201 8) (N : Nat) {r : Bool} (hfin : c.Fin [] (d_cache_at_f1 r) []) (x0 : GEntry) (x1_0 x1_1 x1_2 x1_3 x1_4 : Int) (h : L_cache_at_f1 N x0 x1_0 x1_1 x1_2 x1_3 x1_4 = some r) : c.Goes (items (bodyOf Tryz.f201) [.c 1]) ⟨[(0, .agg [.int .i64 x0.Flow.Src, .int .i64 x0.Flow.Dst, .int .i64 x0.Flow.Proto, .int .i64 x0.Flow.Sport, .int .i64 x0.Flow.Dport, .int .i64 x0.To, .bool x0.Away, .int .i64 x0.Phase, .int .i64 x0.Used]), (1, .ip gx1 [.int .i64 x1_0, .int .i64 x1_1, .int .i64 x1_2, .int .i64 x1_3, .int .i64 x1_4])], []⟩ := by
  unfold L_cache_at_f1 at h
  obtain ⟨v1, h0, h⟩ := via_some h
  exact hc.rt hfin (fn := Tryz.f201) (by kernel_rfl) (orc := [(1, [(3, oC (.bool v1))])]) (m := 4) (by kernel_rfl) (.cons (Le.boo h0) .nil) h Le.rfl rfl

theorem c_cache_at_f1 (N : Nat) (gx1 : Bool) (x0 : GEntry) (x1_0 x1_1 x1_2 x1_3 x1_4 : Int) {r : Bool} (h : L_cache_at_f1 N x0 x1_0 x1_1 x1_2 x1_3 x1_4 = some r) : Con Tryz.prog 201 [.agg [.int .i64 x0.Flow.Src, .int .i64 x0.Flow.Dst, .int .i64 x0.Flow.Proto, .int .i64 x0.Flow.Sport, .int .i64 x0.Flow.Dport, .int .i64 x0.To, .bool x0.Away, .int .i64 x0.Phase, .int .i64 x0.Used], .ip gx1 [.int .i64 x1_0, .int .i64 x1_1, .int .i64 x1_2, .int .i64 x1_3, .int .i64 x1_4]] [] (d_cache_at_f1 r) [] :=
  con_in ok mix (fn := Tryz.f201) (by kernel_rfl) (by kernel_rfl) fun hc hfin => g_cache_at_f1_0 gx1 hc N hfin x0 x1_0 x1_1 x1_2 x1_3 x1_4 h
/-! ### slices.IndexFunc[[]wharfage/api.Entry,wharfage/api.Entry] -/
def L_slices_IndexFunc_api_Entry_api_Entry_1 (N : Nat) : Nat → (List GEntry) → Int → Int → Int → Int → Int → Int → Int → Option (Int)
  | 0, _, _, _, _, _, _, _, _ => none
  | fuel + 1, t0, t1_0_0, t1_0_1, t1_0_2, t1_0_3, t1_0_4, t7, t8 =>
    bif (decide (t8 < t7)) then
      if 0 ≤ t8 ∧ t8 < ((t0.length : Nat) : Int) then
      (L_cache_at_f1 N (GEntry.mk ((t0.getD t8.toNat default).Flow) ((t0.getD t8.toNat default).To) ((t0.getD t8.toNat default).Away) ((t0.getD t8.toNat default).Phase) ((t0.getD t8.toNat default).Used)) t1_0_0 t1_0_1 t1_0_2 t1_0_3 t1_0_4).bind fun v1 =>
      bif v1 then
        some t8
      else
        L_slices_IndexFunc_api_Entry_api_Entry_1 N fuel t0 t1_0_0 t1_0_1 t1_0_2 t1_0_3 t1_0_4 t7 (IntKind.i64.wrap (t8 + 1))
      else none
    else
      some (-1)
def L_slices_IndexFunc_api_Entry_api_Entry (N : Nat) (x0 : (List GEntry)) (x1_0_0 x1_0_1 x1_0_2 x1_0_3 x1_0_4 : Int) : Option (Int) :=
  L_slices_IndexFunc_api_Entry_api_Entry_1 N N x0 x1_0_0 x1_0_1 x1_0_2 x1_0_3 x1_0_4 (x0.length : Int) 0
def d_slices_IndexFunc_api_Entry_api_Entry (r : Int) : D := .int .i64 r
theorem g_slices_IndexFunc_api_Entry_api_Entry_1 (gx0 : Bool) (gx1_0 : Bool) {c : Cx} (hc : Is c Tryz.prog ty 200 19) (N : Nat) {r : Int} (hfin : c.Fin [] (d_slices_IndexFunc_api_Entry_api_Entry r) []) : ∀ (fuel : Nat) (t0 : (List GEntry)) (t1_0_0 t1_0_1 t1_0_2 t1_0_3 t1_0_4 t7 t8 : Int), L_slices_IndexFunc_api_Entry_api_Entry_1 N fuel t0 t1_0_0 t1_0_1 t1_0_2 t1_0_3 t1_0_4 t7 t8 = some r → c.Goes (items (bodyOf Tryz.f200) [.c 37, .l 37, .b 0, .c 7]) ⟨[(0, .sl gx0 (eL eEntry t0) t0.length t0.length), (1, .fn 201 [.ip gx1_0 [.int .i64 t1_0_0, .int .i64 t1_0_1, .int .i64 t1_0_2, .int .i64 t1_0_3, .int .i64 t1_0_4]]), (7, .int .i64 t7), (8, .int .i64 t8)], []⟩ := by
  intro fuel
  induction fuel with
  | zero => intro t0 t1_0_0 t1_0_1 t1_0_2 t1_0_3 t1_0_4 t7 t8 h; simp [L_slices_IndexFunc_api_Entry_api_Entry_1] at h
  | succ fuel ih =>
    intro t0 t1_0_0 t1_0_1 t1_0_2 t1_0_3 t1_0_4 t7 t8 h
    unfold L_slices_IndexFunc_api_Entry_api_Entry_1 at h
    rcases brk h with ⟨h0, h⟩ | ⟨h0, h⟩
    · obtain ⟨h1, h⟩ := chk h
      obtain ⟨v1, h2, h⟩ := bind_of h
      rcases brk h with ⟨h3, h⟩ | ⟨h3, h⟩
      · exact hc.rt hfin (fn := Tryz.f200) (by kernel_rfl) (orc := [(2, [(0, oT)]), (4, [(3, oC (.ip gx0 [.int .i64 (((t0.getD t8.toNat default).Flow).Src), .int .i64 (((t0.getD t8.toNat default).Flow).Dst), .int .i64 (((t0.getD t8.toNat default).Flow).Proto), .int .i64 (((t0.getD t8.toNat default).Flow).Sport), .int .i64 (((t0.getD t8.toNat default).Flow).Dport), .int .i64 ((t0.getD t8.toNat default).To), .bool ((t0.getD t8.toNat default).Away), .int .i64 ((t0.getD t8.toNat default).Phase), .int .i64 ((t0.getD t8.toNat default).Used)])), (5, { r := d_cache_at_f1 v1, cv := some (.bool true) })])]) (m := 14) (by kernel_rfl) (.cons (Le.tt h0) (.cons (h1) (.cons (Le.iptl (g := gx0) (eL_at (xs := t0) eEntry_len (ixl h1))) (.cons (c_cache_at_f1 N gx1_0 (GEntry.mk ((t0.getD t8.toNat default).Flow) ((t0.getD t8.toNat default).To) ((t0.getD t8.toNat default).Away) ((t0.getD t8.toNat default).Phase) ((t0.getD t8.toNat default).Used)) t1_0_0 t1_0_1 t1_0_2 t1_0_3 t1_0_4 h2) (.cons (Le.tt h3) .nil))))) h Le.rfl rfl
      · exact hc.jump (orc := [(2, [(0, oT)]), (4, [(3, oC (.ip gx0 [.int .i64 (((t0.getD t8.toNat default).Flow).Src), .int .i64 (((t0.getD t8.toNat default).Flow).Dst), .int .i64 (((t0.getD t8.toNat default).Flow).Proto), .int .i64 (((t0.getD t8.toNat default).Flow).Sport), .int .i64 (((t0.getD t8.toNat default).Flow).Dport), .int .i64 ((t0.getD t8.toNat default).To), .bool ((t0.getD t8.toNat default).Away), .int .i64 ((t0.getD t8.toNat default).Phase), .int .i64 ((t0.getD t8.toNat default).Used)])), (5, { r := d_cache_at_f1 v1, cv := some (.bool false) })])]) (m := 16) (kt := [0, 1, 7, 8]) (kh := []) (by kernel_rfl) (.cons (Le.tt h0) (.cons (h1) (.cons (Le.iptl (g := gx0) (eL_at (xs := t0) eEntry_len (ixl h1))) (.cons (c_cache_at_f1 N gx1_0 (GEntry.mk ((t0.getD t8.toNat default).Flow) ((t0.getD t8.toNat default).To) ((t0.getD t8.toNat default).Away) ((t0.getD t8.toNat default).Phase) ((t0.getD t8.toNat default).Used)) t1_0_0 t1_0_1 t1_0_2 t1_0_3 t1_0_4 h2) (.cons (Le.ff h3) .nil))))) (ih t0 t1_0_0 t1_0_1 t1_0_2 t1_0_3 t1_0_4 t7 (IntKind.i64.wrap (t8 + 1)) h)
    · exact hc.rt hfin (fn := Tryz.f200) (by kernel_rfl) (orc := [(2, [(0, oF)])]) (m := 7) (by kernel_rfl) (.cons (Le.ff h0) .nil) h Le.rfl rfl

theorem g_slices_IndexFunc_api_Entry_api_Entry_0 (gx0 : Bool) (gx1_0 : Bool) {c : Cx} (hc : Is c Tryz.prog ty 200 19) (N : Nat) {r : Int} (hfin : c.Fin [] (d_slices_IndexFunc_api_Entry_api_Entry r) []) (x0 : (List GEntry)) (x1_0_0 x1_0_1 x1_0_2 x1_0_3 x1_0_4 : Int) (h : L_slices_IndexFunc_api_Entry_api_Entry N x0 x1_0_0 x1_0_1 x1_0_2 x1_0_3 x1_0_4 = some r) : c.Goes (items (bodyOf Tryz.f200) [.c 1]) ⟨[(0, .sl gx0 (eL eEntry x0) x0.length x0.length), (1, .fn 201 [.ip gx1_0 [.int .i64 x1_0_0, .int .i64 x1_0_1, .int .i64 x1_0_2, .int .i64 x1_0_3, .int .i64 x1_0_4]])], []⟩ := by
  unfold L_slices_IndexFunc_api_Entry_api_Entry at h
  exact hc.jump (orc := []) (m := 7) (kt := [0, 1, 7, 8]) (kh := []) (by kernel_rfl) .nil (g_slices_IndexFunc_api_Entry_api_Entry_1 gx0 gx1_0 hc N hfin N x0 x1_0_0 x1_0_1 x1_0_2 x1_0_3 x1_0_4 (x0.length : Int) 0 h)

theorem c_slices_IndexFunc_api_Entry_api_Entry (N : Nat) (gx0 : Bool) (gx1_0 : Bool) (x0 : (List GEntry)) (x1_0_0 x1_0_1 x1_0_2 x1_0_3 x1_0_4 : Int) {r : Int} (h : L_slices_IndexFunc_api_Entry_api_Entry N x0 x1_0_0 x1_0_1 x1_0_2 x1_0_3 x1_0_4 = some r) : Con Tryz.prog 200 [.sl gx0 (eL eEntry x0) x0.length x0.length, .fn 201 [.ip gx1_0 [.int .i64 x1_0_0, .int .i64 x1_0_1, .int .i64 x1_0_2, .int .i64 x1_0_3, .int .i64 x1_0_4]]] [] (d_slices_IndexFunc_api_Entry_api_Entry r) [] :=
  con_in ok mix (fn := Tryz.f200) (by kernel_rfl) (by kernel_rfl) fun hc hfin => g_slices_IndexFunc_api_Entry_api_Entry_0 gx0 gx1_0 hc N hfin x0 x1_0_0 x1_0_1 x1_0_2 x1_0_3 x1_0_4 h
/-! ### wharfage/cache.at -/
def L_cache_at (N : Nat) (x0 : (List GEntry)) (x1 : GFlow) : Option (Int) :=
  (L_slices_IndexFunc_api_Entry_api_Entry N x0 x1.Src x1.Dst x1.Proto x1.Sport x1.Dport).bind fun v1 =>
  some v1
def d_cache_at (r : Int) : D := .int .i64 r
theorem g_cache_at_0 (gx0 : Bool) {c : Cx} (hc : Is c Tryz.prog ty 149 8) (N : Nat) {r : Int} (hfin : c.Fin [] (d_cache_at r) []) (x0 : (List GEntry)) (x1 : GFlow) (h : L_cache_at N x0 x1 = some r) : c.Goes (items (bodyOf Tryz.f149) [.c 1]) ⟨[(0, .sl gx0 (eL eEntry x0) x0.length x0.length), (1, .agg [.int .i64 x1.Src, .int .i64 x1.Dst, .int .i64 x1.Proto, .int .i64 x1.Sport, .int .i64 x1.Dport])], []⟩ := by
  unfold L_cache_at at h
  obtain ⟨v1, h0, h⟩ := bind_of h
  exact hc.rt hfin (fn := Tryz.f149) (by kernel_rfl) (orc := [(1, [(2, oR (d_slices_IndexFunc_api_Entry_api_Entry v1))])]) (m := 4) (by kernel_rfl) (.cons (c_slices_IndexFunc_api_Entry_api_Entry N gx0 false x0 x1.Src x1.Dst x1.Proto x1.Sport x1.Dport h0) .nil) h Le.rfl rfl

theorem c_cache_at (N : Nat) (gx0 : Bool) (x0 : (List GEntry)) (x1 : GFlow) {r : Int} (h : L_cache_at N x0 x1 = some r) : Con Tryz.prog 149 [.sl gx0 (eL eEntry x0) x0.length x0.length, .agg [.int .i64 x1.Src, .int .i64 x1.Dst, .int .i64 x1.Proto, .int .i64 x1.Sport, .int .i64 x1.Dport]] [] (d_cache_at r) [] :=
  con_in ok mix (fn := Tryz.f149) (by kernel_rfl) (by kernel_rfl) fun hc hfin => g_cache_at_0 gx0 hc N hfin x0 x1 h
/-! ### wharfage/cache.May -/
def L_cache_May_2 (N : Nat) (r1 : (List GEntry) → (List GEntry) → Int → Int → Option (Bool)) (t0 t5 : (List GEntry)) (t6 t7 : Int) (t22 : Bool) : Option (Bool) :=
  bif t22 then
    some false
  else
    r1 t0 t5 t6 (IntKind.i64.wrap (t7 + 1))
def L_cache_May_1 (N : Nat) : Nat → (List GEntry) → (List GEntry) → Int → Int → Option (Bool)
  | 0, _, _, _, _ => none
  | fuel + 1, t0, t5, t6, t7 =>
    bif (decide (t7 < t6)) then
      if 0 ≤ t7 ∧ t7 < ((t5.length : Nat) : Int) then
      (L_entry_May N (GEntry.mk ((t5.getD t7.toNat default).Flow) ((t5.getD t7.toNat default).To) ((t5.getD t7.toNat default).Away) ((t5.getD t7.toNat default).Phase) ((t5.getD t7.toNat default).Used))).bind fun v1 =>
      bif (!v1) then
        L_cache_May_2 N (L_cache_May_1 N fuel) t0 t5 t6 t7 true
      else
        (L_cache_at N t0 ((t5.getD t7.toNat default).Flow)).bind fun v2 =>
        L_cache_May_2 N (L_cache_May_1 N fuel) t0 t5 t6 t7 (v2 != t7)
      else none
    else
      some (decide ((t0.length : Int) ≤ 8))
def L_cache_May (N : Nat) (x0 : (List GEntry)) : Option (Bool) :=
  L_cache_May_1 N N x0 x0 (x0.length : Int) 0
def d_cache_May (r : Bool) : D := .bool r
theorem g_cache_May_2 (gx0 : Bool) {c : Cx} (hc : Is c Tryz.prog ty 87 27) (N : Nat) {r : Bool} (hfin : c.Fin [] (d_cache_May r) []) (r1 : (List GEntry) → (List GEntry) → Int → Int → Option (Bool)) (hr1 : ∀ (t0 t5 : (List GEntry)) (t6 t7 : Int), r1 t0 t5 t6 t7 = some r → c.Goes (items (bodyOf Tryz.f87) [.c 37, .l 37, .b 0, .c 7]) ⟨[(0, .sl gx0 (eL eEntry t0) t0.length t0.length), (5, .sl gx0 (eL eEntry t5) t5.length t5.length), (6, .int .i64 t6), (7, .int .i64 t7)], []⟩) (t0 t5 : (List GEntry)) (t6 t7 : Int) (t22 : Bool) (h : L_cache_May_2 N r1 t0 t5 t6 t7 t22 = some r) : c.Goes (items (bodyOf Tryz.f87) [.c 3685, .b 1, .c 485, .l 37, .b 0, .c 7]) ⟨[(0, .sl gx0 (eL eEntry t0) t0.length t0.length), (5, .sl gx0 (eL eEntry t5) t5.length t5.length), (6, .int .i64 t6), (7, .int .i64 t7), (22, .bool t22)], []⟩ := by
  unfold L_cache_May_2 at h
  rcases brk h with ⟨h0, k0⟩ | ⟨h0, k0⟩
  · subst h0
    replace h := k0
    exact hc.rt hfin (fn := Tryz.f87) (by kernel_rfl) (orc := []) (m := 3) (by kernel_rfl) .nil h Le.rfl rfl
  · subst h0
    replace h := k0
    exact hc.jump (orc := []) (m := 5) (kt := [0, 5, 6, 7]) (kh := []) (by kernel_rfl) .nil (hr1 t0 t5 t6 (IntKind.i64.wrap (t7 + 1)) h)

theorem g_cache_May_1 (gx0 : Bool) {c : Cx} (hc : Is c Tryz.prog ty 87 27) (N : Nat) {r : Bool} (hfin : c.Fin [] (d_cache_May r) []) : ∀ (fuel : Nat) (t0 t5 : (List GEntry)) (t6 t7 : Int), L_cache_May_1 N fuel t0 t5 t6 t7 = some r → c.Goes (items (bodyOf Tryz.f87) [.c 37, .l 37, .b 0, .c 7]) ⟨[(0, .sl gx0 (eL eEntry t0) t0.length t0.length), (5, .sl gx0 (eL eEntry t5) t5.length t5.length), (6, .int .i64 t6), (7, .int .i64 t7)], []⟩ := by
  intro fuel
  induction fuel with
  | zero => intro t0 t5 t6 t7 h; simp [L_cache_May_1] at h
  | succ fuel ih =>
    intro t0 t5 t6 t7 h
    unfold L_cache_May_1 at h
    rcases brk h with ⟨h0, h⟩ | ⟨h0, h⟩
    · obtain ⟨h1, h⟩ := chk h
      obtain ⟨v1, h2, h⟩ := bind_of h
      rcases brk h with ⟨h3, h⟩ | ⟨h3, h⟩
      · exact hc.jump (orc := [(2, [(0, oT)]), (3, [(1, oC (.ip gx0 [.int .i64 (((t5.getD t7.toNat default).Flow).Src), .int .i64 (((t5.getD t7.toNat default).Flow).Dst), .int .i64 (((t5.getD t7.toNat default).Flow).Proto), .int .i64 (((t5.getD t7.toNat default).Flow).Sport), .int .i64 (((t5.getD t7.toNat default).Flow).Dport), .int .i64 ((t5.getD t7.toNat default).To), .bool ((t5.getD t7.toNat default).Away), .int .i64 ((t5.getD t7.toNat default).Phase), .int .i64 ((t5.getD t7.toNat default).Used)]))]), (4, [(1, oR (d_entry_May v1)), (3, oT)])]) (m := 11) (kt := [0, 5, 6, 7, 22]) (kh := []) (by kernel_rfl) (.cons (Le.tt h0) (.cons (h1) (.cons (Le.iptl (g := gx0) (eL_at (xs := t5) eEntry_len (ixl h1))) (.cons (c_entry_May N (GEntry.mk ((t5.getD t7.toNat default).Flow) ((t5.getD t7.toNat default).To) ((t5.getD t7.toNat default).Away) ((t5.getD t7.toNat default).Phase) ((t5.getD t7.toNat default).Used)) h2) (.cons (Le.tt h3) .nil))))) (g_cache_May_2 gx0 hc N hfin (L_cache_May_1 N fuel) ih t0 t5 t6 t7 true h)
      · obtain ⟨v2, h4, h⟩ := bind_of h
        exact hc.jump (orc := [(2, [(0, oT)]), (3, [(1, oC (.ip gx0 [.int .i64 (((t5.getD t7.toNat default).Flow).Src), .int .i64 (((t5.getD t7.toNat default).Flow).Dst), .int .i64 (((t5.getD t7.toNat default).Flow).Proto), .int .i64 (((t5.getD t7.toNat default).Flow).Sport), .int .i64 (((t5.getD t7.toNat default).Flow).Dport), .int .i64 ((t5.getD t7.toNat default).To), .bool ((t5.getD t7.toNat default).Away), .int .i64 ((t5.getD t7.toNat default).Phase), .int .i64 ((t5.getD t7.toNat default).Used)]))]), (4, [(1, oR (d_entry_May v1)), (3, oF), (7, oR (d_cache_at v2))])]) (m := 11) (kt := [0, 5, 6, 7, 22]) (kh := []) (by kernel_rfl) (.cons (Le.tt h0) (.cons (h1) (.cons (Le.iptl (g := gx0) (eL_at (xs := t5) eEntry_len (ixl h1))) (.cons (c_entry_May N (GEntry.mk ((t5.getD t7.toNat default).Flow) ((t5.getD t7.toNat default).To) ((t5.getD t7.toNat default).Away) ((t5.getD t7.toNat default).Phase) ((t5.getD t7.toNat default).Used)) h2) (.cons (Le.ff h3) (.cons (c_cache_at N gx0 t0 ((t5.getD t7.toNat default).Flow) h4) .nil)))))) (g_cache_May_2 gx0 hc N hfin (L_cache_May_1 N fuel) ih t0 t5 t6 t7 (v2 != t7) h)
    · exact hc.rt hfin (fn := Tryz.f87) (by kernel_rfl) (orc := [(2, [(0, oF)])]) (m := 7) (by kernel_rfl) (.cons (Le.ff h0) .nil) h Le.rfl rfl

theorem g_cache_May_0 (gx0 : Bool) {c : Cx} (hc : Is c Tryz.prog ty 87 27) (N : Nat) {r : Bool} (hfin : c.Fin [] (d_cache_May r) []) (x0 : (List GEntry)) (h : L_cache_May N x0 = some r) : c.Goes (items (bodyOf Tryz.f87) [.c 1]) ⟨[(0, .sl gx0 (eL eEntry x0) x0.length x0.length)], []⟩ := by
  unfold L_cache_May at h
  exact hc.jump (orc := []) (m := 7) (kt := [0, 5, 6, 7]) (kh := []) (by kernel_rfl) .nil (g_cache_May_1 gx0 hc N hfin N x0 x0 (x0.length : Int) 0 h)

theorem c_cache_May (N : Nat) (gx0 : Bool) (x0 : (List GEntry)) {r : Bool} (h : L_cache_May N x0 = some r) : Con Tryz.prog 87 [.sl gx0 (eL eEntry x0) x0.length x0.length] [] (d_cache_May r) [] :=
  con_in ok mix (fn := Tryz.f87) (by kernel_rfl) (by kernel_rfl) fun hc hfin => g_cache_May_0 gx0 hc N hfin x0 h
/-! ### wharfage/edge.May -/
def L_edge_May_2 (N : Nat) (r1 : Int → Int → (List GSite) → (List GHealth) → (List GEntry) → (List GEntry) → Int → Int → Option (Bool)) (b108_0 b108_1 : Int) (b108_2 : (List GSite)) (b108_3 : (List GHealth)) (b108_4 t6 : (List GEntry)) (t7 t8 : Int) (t19 : Bool) : Option (Bool) :=
  bif t19 then
    some false
  else
    r1 b108_0 b108_1 b108_2 b108_3 b108_4 t6 t7 (IntKind.i64.wrap (t8 + 1))
def L_edge_May_3 (N : Nat) (t2 : Bool) : Option (Bool) :=
  some t2
def L_edge_May_1 (N : Nat) : Nat → Int → Int → (List GSite) → (List GHealth) → (List GEntry) → (List GEntry) → Int → Int → Option (Bool)
  | 0, _, _, _, _, _, _, _, _ => none
  | fuel + 1, b108_0, b108_1, b108_2, b108_3, b108_4, t6, t7, t8 =>
    bif (decide (t8 < t7)) then
      if 0 ≤ t8 ∧ t8 < ((t6.length : Nat) : Int) then
      bif (t6.getD t8.toNat default).Away then
        L_edge_May_2 N (L_edge_May_1 N fuel) b108_0 b108_1 b108_2 b108_3 b108_4 t6 t7 t8 true
      else
        (L_report_Site N ((t6.getD t8.toNat default).To)).bind fun v1 =>
        L_edge_May_2 N (L_edge_May_1 N fuel) b108_0 b108_1 b108_2 b108_3 b108_4 t6 t7 t8 (!v1)
      else none
    else
      bif (decide (b108_0 ≥ 0)) then
        bif (decide (b108_0 < 2)) then
          (L_conf_May N (GConfig.mk b108_1 b108_2)).bind fun v1 =>
          bif v1 then
            (L_health_All N b108_3 3).bind fun v2 =>
            bif v2 then
              (L_cache_May N b108_4).bind fun v3 =>
              L_edge_May_3 N v3
            else
              L_edge_May_3 N false
          else
            L_edge_May_3 N false
        else
          L_edge_May_3 N false
      else
        L_edge_May_3 N false
def L_edge_May (N : Nat) (x0 : GEdge) : Option (Bool) :=
  L_edge_May_1 N N x0.Id x0.Config.Version x0.Config.Sites x0.Health x0.Flows x0.Flows (x0.Flows.length : Int) 0
def d_edge_May (r : Bool) : D := .bool r
theorem g_edge_May_2 (gx0 : Bool) {c : Cx} (hc : Is c Tryz.prog ty 26 44) (N : Nat) {r : Bool} (hfin : c.Fin [] (d_edge_May r) []) (r1 : Int → Int → (List GSite) → (List GHealth) → (List GEntry) → (List GEntry) → Int → Int → Option (Bool)) (hr1 : ∀ (b108_0 b108_1 : Int) (b108_2 : (List GSite)) (b108_3 : (List GHealth)) (b108_4 t6 : (List GEntry)) (t7 t8 : Int), r1 b108_0 b108_1 b108_2 b108_3 b108_4 t6 t7 t8 = some r → c.Goes (items (bodyOf Tryz.f26) [.c 37, .l 37, .b 0, .c 7]) ⟨[(1, .ptr 108 0), (6, .sl gx0 (eL eEntry t6) t6.length t6.length), (7, .int .i64 t7), (8, .int .i64 t8)], [(108, some ⟨false, 0, [.int .i64 b108_0, .int .i64 b108_1, .sl gx0 (eL (eSite gx0) b108_2) b108_2.length b108_2.length, .sl gx0 (eL eHealth b108_3) b108_3.length b108_3.length, .sl gx0 (eL eEntry b108_4) b108_4.length b108_4.length]⟩)]⟩) (b108_0 b108_1 : Int) (b108_2 : (List GSite)) (b108_3 : (List GHealth)) (b108_4 t6 : (List GEntry)) (t7 t8 : Int) (t19 : Bool) (h : L_edge_May_2 N r1 b108_0 b108_1 b108_2 b108_3 b108_4 t6 t7 t8 t19 = some r) : c.Goes (items (bodyOf Tryz.f26) [.c 3685, .b 1, .c 485, .l 37, .b 0, .c 7]) ⟨[(1, .ptr 108 0), (6, .sl gx0 (eL eEntry t6) t6.length t6.length), (7, .int .i64 t7), (8, .int .i64 t8), (19, .bool t19)], [(108, some ⟨false, 0, [.int .i64 b108_0, .int .i64 b108_1, .sl gx0 (eL (eSite gx0) b108_2) b108_2.length b108_2.length, .sl gx0 (eL eHealth b108_3) b108_3.length b108_3.length, .sl gx0 (eL eEntry b108_4) b108_4.length b108_4.length]⟩)]⟩ := by
  unfold L_edge_May_2 at h
  rcases brk h with ⟨h0, k0⟩ | ⟨h0, k0⟩
  · subst h0
    replace h := k0
    exact hc.rt hfin (fn := Tryz.f26) (by kernel_rfl) (orc := []) (m := 3) (by kernel_rfl) .nil h Le.rfl rfl
  · subst h0
    replace h := k0
    exact hc.jump (orc := []) (m := 5) (kt := [1, 6, 7, 8]) (kh := [(108, 108)]) (by kernel_rfl) .nil (hr1 b108_0 b108_1 b108_2 b108_3 b108_4 t6 t7 (IntKind.i64.wrap (t8 + 1)) h)

theorem g_edge_May_3 (gx0 : Bool) {c : Cx} (hc : Is c Tryz.prog ty 26 44) (N : Nat) {r : Bool} (hfin : c.Fin [] (d_edge_May r) []) (t2 : Bool) (h : L_edge_May_3 N t2 = some r) : c.Goes (items (bodyOf Tryz.f26) [.c 15]) ⟨[(2, .bool t2)], []⟩ := by
  unfold L_edge_May_3 at h
  exact hc.rt hfin (fn := Tryz.f26) (by kernel_rfl) (orc := []) (m := 0) (by kernel_rfl) .nil h Le.rfl rfl

theorem g_edge_May_1 (gx0 : Bool) {c : Cx} (hc : Is c Tryz.prog ty 26 44) (N : Nat) {r : Bool} (hfin : c.Fin [] (d_edge_May r) []) : ∀ (fuel : Nat) (b108_0 b108_1 : Int) (b108_2 : (List GSite)) (b108_3 : (List GHealth)) (b108_4 t6 : (List GEntry)) (t7 t8 : Int), L_edge_May_1 N fuel b108_0 b108_1 b108_2 b108_3 b108_4 t6 t7 t8 = some r → c.Goes (items (bodyOf Tryz.f26) [.c 37, .l 37, .b 0, .c 7]) ⟨[(1, .ptr 108 0), (6, .sl gx0 (eL eEntry t6) t6.length t6.length), (7, .int .i64 t7), (8, .int .i64 t8)], [(108, some ⟨false, 0, [.int .i64 b108_0, .int .i64 b108_1, .sl gx0 (eL (eSite gx0) b108_2) b108_2.length b108_2.length, .sl gx0 (eL eHealth b108_3) b108_3.length b108_3.length, .sl gx0 (eL eEntry b108_4) b108_4.length b108_4.length]⟩)]⟩ := by
  intro fuel
  induction fuel with
  | zero => intro b108_0 b108_1 b108_2 b108_3 b108_4 t6 t7 t8 h; simp [L_edge_May_1] at h
  | succ fuel ih =>
    intro b108_0 b108_1 b108_2 b108_3 b108_4 t6 t7 t8 h
    unfold L_edge_May_1 at h
    rcases brk h with ⟨h0, h⟩ | ⟨h0, h⟩
    · obtain ⟨h1, h⟩ := chk h
      rcases brk h with ⟨h2, h⟩ | ⟨h2, h⟩
      · exact hc.jump (orc := [(2, [(0, oT)]), (3, [(0, oC (.ip gx0 [.int .i64 (((t6.getD t8.toNat default).Flow).Src), .int .i64 (((t6.getD t8.toNat default).Flow).Dst), .int .i64 (((t6.getD t8.toNat default).Flow).Proto), .int .i64 (((t6.getD t8.toNat default).Flow).Sport), .int .i64 (((t6.getD t8.toNat default).Flow).Dport), .int .i64 ((t6.getD t8.toNat default).To), .bool ((t6.getD t8.toNat default).Away), .int .i64 ((t6.getD t8.toNat default).Phase), .int .i64 ((t6.getD t8.toNat default).Used)]))]), (4, [(2, oT)])]) (m := 11) (kt := [1, 6, 7, 8, 19]) (kh := [(108, 108)]) (by kernel_rfl) (.cons (Le.tt h0) (.cons (h1) (.cons (Le.iptl (g := gx0) (eL_at (xs := t6) eEntry_len (ixl h1))) (.cons (Le.tt h2) .nil)))) (g_edge_May_2 gx0 hc N hfin (L_edge_May_1 N fuel) ih b108_0 b108_1 b108_2 b108_3 b108_4 t6 t7 t8 true h)
      · obtain ⟨v1, h3, h⟩ := bind_of h
        exact hc.jump (orc := [(2, [(0, oT)]), (3, [(0, oC (.ip gx0 [.int .i64 (((t6.getD t8.toNat default).Flow).Src), .int .i64 (((t6.getD t8.toNat default).Flow).Dst), .int .i64 (((t6.getD t8.toNat default).Flow).Proto), .int .i64 (((t6.getD t8.toNat default).Flow).Sport), .int .i64 (((t6.getD t8.toNat default).Flow).Dport), .int .i64 ((t6.getD t8.toNat default).To), .bool ((t6.getD t8.toNat default).Away), .int .i64 ((t6.getD t8.toNat default).Phase), .int .i64 ((t6.getD t8.toNat default).Used)]))]), (4, [(2, oF), (5, oR (d_report_Site v1))])]) (m := 11) (kt := [1, 6, 7, 8, 19]) (kh := [(108, 108)]) (by kernel_rfl) (.cons (Le.tt h0) (.cons (h1) (.cons (Le.iptl (g := gx0) (eL_at (xs := t6) eEntry_len (ixl h1))) (.cons (Le.ff h2) (.cons (c_report_Site N ((t6.getD t8.toNat default).To) h3) .nil))))) (g_edge_May_2 gx0 hc N hfin (L_edge_May_1 N fuel) ih b108_0 b108_1 b108_2 b108_3 b108_4 t6 t7 t8 (!v1) h)
    · rcases brk h with ⟨h1, h⟩ | ⟨h1, h⟩
      · rcases brk h with ⟨h2, h⟩ | ⟨h2, h⟩
        · obtain ⟨v1, h3, h⟩ := bind_of h
          rcases brk h with ⟨h4, h⟩ | ⟨h4, h⟩
          · obtain ⟨v2, h5, h⟩ := bind_of h
            rcases brk h with ⟨h6, h⟩ | ⟨h6, h⟩
            · obtain ⟨v3, h7, h⟩ := bind_of h
              exact hc.jump (orc := [(2, [(0, oF)]), (7, [(3, oT), (8, oT), (11, oR (d_conf_May v1)), (13, oT), (16, oR (d_health_All v2)), (18, oT), (21, oR (d_cache_May v3))])]) (m := 7) (kt := [2]) (kh := []) (by kernel_rfl) (.cons (Le.ff h0) (.cons (Le.tt h1) (.cons (Le.tt h2) (.cons (c_conf_May N gx0 (GConfig.mk b108_1 b108_2) h3) (.cons (Le.tt h4) (.cons (c_health_All N gx0 b108_3 3 h5) (.cons (Le.tt h6) (.cons (c_cache_May N gx0 b108_4 h7) .nil)))))))) (g_edge_May_3 gx0 hc N hfin v3 h)
            · exact hc.jump (orc := [(2, [(0, oF)]), (7, [(3, oT), (8, oT), (11, oR (d_conf_May v1)), (13, oT), (16, oR (d_health_All v2)), (18, oF)])]) (m := 7) (kt := [2]) (kh := []) (by kernel_rfl) (.cons (Le.ff h0) (.cons (Le.tt h1) (.cons (Le.tt h2) (.cons (c_conf_May N gx0 (GConfig.mk b108_1 b108_2) h3) (.cons (Le.tt h4) (.cons (c_health_All N gx0 b108_3 3 h5) (.cons (Le.ff h6) .nil))))))) (g_edge_May_3 gx0 hc N hfin false h)
          · exact hc.jump (orc := [(2, [(0, oF)]), (7, [(3, oT), (8, oT), (11, oR (d_conf_May v1)), (13, oF)])]) (m := 7) (kt := [2]) (kh := []) (by kernel_rfl) (.cons (Le.ff h0) (.cons (Le.tt h1) (.cons (Le.tt h2) (.cons (c_conf_May N gx0 (GConfig.mk b108_1 b108_2) h3) (.cons (Le.ff h4) .nil))))) (g_edge_May_3 gx0 hc N hfin false h)
        · exact hc.jump (orc := [(2, [(0, oF)]), (7, [(3, oT), (8, oF)])]) (m := 7) (kt := [2]) (kh := []) (by kernel_rfl) (.cons (Le.ff h0) (.cons (Le.tt h1) (.cons (Le.ff h2) .nil))) (g_edge_May_3 gx0 hc N hfin false h)
      · exact hc.jump (orc := [(2, [(0, oF)]), (7, [(3, oF)])]) (m := 7) (kt := [2]) (kh := []) (by kernel_rfl) (.cons (Le.ff h0) (.cons (Le.ff h1) .nil)) (g_edge_May_3 gx0 hc N hfin false h)

theorem g_edge_May_0 (gx0 : Bool) {c : Cx} (hc : Is c Tryz.prog ty 26 44) (N : Nat) {r : Bool} (hfin : c.Fin [] (d_edge_May r) []) (x0 : GEdge) (h : L_edge_May N x0 = some r) : c.Goes (items (bodyOf Tryz.f26) [.c 1]) ⟨[(0, .agg [.int .i64 x0.Id, .int .i64 x0.Config.Version, .sl gx0 (eL (eSite gx0) x0.Config.Sites) x0.Config.Sites.length x0.Config.Sites.length, .sl gx0 (eL eHealth x0.Health) x0.Health.length x0.Health.length, .sl gx0 (eL eEntry x0.Flows) x0.Flows.length x0.Flows.length])], []⟩ := by
  unfold L_edge_May at h
  exact hc.jump (orc := []) (m := 7) (kt := [1, 6, 7, 8]) (kh := [(108, 108)]) (by kernel_rfl) .nil (g_edge_May_1 gx0 hc N hfin N x0.Id x0.Config.Version x0.Config.Sites x0.Health x0.Flows x0.Flows (x0.Flows.length : Int) 0 h)

theorem c_edge_May (N : Nat) (gx0 : Bool) (x0 : GEdge) {r : Bool} (h : L_edge_May N x0 = some r) : Con Tryz.prog 26 [.agg [.int .i64 x0.Id, .int .i64 x0.Config.Version, .sl gx0 (eL (eSite gx0) x0.Config.Sites) x0.Config.Sites.length x0.Config.Sites.length, .sl gx0 (eL eHealth x0.Health) x0.Health.length x0.Health.length, .sl gx0 (eL eEntry x0.Flows) x0.Flows.length x0.Flows.length]] [] (d_edge_May r) [] :=
  con_in ok mix (fn := Tryz.f26) (by kernel_rfl) (by kernel_rfl) fun hc hfin => g_edge_May_0 gx0 hc N hfin x0 h
/-! ### wharfage/edge.New -/
def L_edge_New (N : Nat) (x0 : Int) (x1 : GConfig) : Option (GEdge × Int) :=
  (L_conf_Copy N x1).bind fun v1 =>
  (L_health_New N).bind fun v2 =>
  (L_slices_Repeat_api_Health_api_Health N ([v2]) 3).bind fun v3 =>
  (L_edge_May N (GEdge.mk x0 v1 v3 ([]))).bind fun v4 =>
  bif (!v4) then
    some ((GEdge.mk 0 (GConfig.mk 0 ([])) ([]) ([])), 1900)
  else
    some ((GEdge.mk x0 v1 v3 ([])), 0)
def d_edge_New (r : GEdge × Int) : D := .tup [.agg [.int .i64 r.1.Id, .int .i64 r.1.Config.Version, .sl true (eL (eSite true) r.1.Config.Sites) r.1.Config.Sites.length r.1.Config.Sites.length, .sl true (eL eHealth r.1.Health) r.1.Health.length r.1.Health.length, .sl true (eL eEntry r.1.Flows) r.1.Flows.length r.1.Flows.length], .int .i64 r.2]
theorem g_edge_New_0 (gx1 : Bool) {c : Cx} (hc : Is c Tryz.prog ty 21 19) (N : Nat) {r : GEdge × Int} (hfin : c.Fin [] (d_edge_New r) []) (x0 : Int) (x1 : GConfig) (h : L_edge_New N x0 x1 = some r) : c.Goes (items (bodyOf Tryz.f21) [.c 1]) ⟨[(0, .int .i64 x0), (1, .agg [.int .i64 x1.Version, .sl gx1 (eL (eSite gx1) x1.Sites) x1.Sites.length x1.Sites.length])], []⟩ := by
  unfold L_edge_New at h
  obtain ⟨v1, h0, h⟩ := bind_of h
  obtain ⟨v2, h1, h⟩ := bind_of h
  obtain ⟨v3, h2, h⟩ := bind_of h
  obtain ⟨v4, h3, h⟩ := bind_of h
  rcases brk h with ⟨h4, h⟩ | ⟨h4, h⟩
  · exact hc.rt hfin (fn := Tryz.f21) (by kernel_rfl) (orc := [(1, [(2, oR (d_conf_Copy v1)), (3, oR (d_health_New v2)), (5, oR (d_slices_Repeat_api_Health_api_Health v3))]), (2, [(1, oR (d_edge_May v4)), (2, oT)])]) (m := 10) (d := .tup [.agg [.int .i64 0, .int .i64 0, .nils, .nils, .nils], .int .i64 1900]) (by kernel_rfl) (.cons (c_conf_Copy N gx1 x1 h0) (.cons (c_health_New N h1) (.cons (c_slices_Repeat_api_Health_api_Health N false ([v2]) 3 h2) (.cons ((c_edge_May N true (GEdge.mk x0 v1 v3 ([])) h3).le ((.cons (Le.agg ((.cons (Le.rfl) (.cons (Le.rfl) (.cons (Le.rfl) (.cons (Le.rfl) (.cons (Le.nils) .nil))))))) .nil))) (.cons (Le.tt h4) .nil))))) h (Le.tup ((.cons (Le.agg ((.cons (Le.of rfl) (.cons (Le.of rfl) (.cons (Le.nils (g := true)) (.cons (Le.nils (g := true)) (.cons (Le.nils (g := true)) .nil))))))) (.cons (Le.of rfl) .nil)))) rfl
  · exact hc.rt hfin (fn := Tryz.f21) (by kernel_rfl) (orc := [(1, [(2, oR (d_conf_Copy v1)), (3, oR (d_health_New v2)), (5, oR (d_slices_Repeat_api_Health_api_Health v3))]), (2, [(1, oR (d_edge_May v4)), (2, oF)])]) (m := 11) (d := .tup [.agg [.int .i64 x0, .int .i64 v1.Version, .sl true (eL (eSite true) v1.Sites) v1.Sites.length v1.Sites.length, .sl true (eL eHealth v3) v3.length v3.length, .nils], .int .i64 0]) (by kernel_rfl) (.cons (c_conf_Copy N gx1 x1 h0) (.cons (c_health_New N h1) (.cons (c_slices_Repeat_api_Health_api_Health N false ([v2]) 3 h2) (.cons ((c_edge_May N true (GEdge.mk x0 v1 v3 ([])) h3).le ((.cons (Le.agg ((.cons (Le.rfl) (.cons (Le.rfl) (.cons (Le.rfl) (.cons (Le.rfl) (.cons (Le.nils) .nil))))))) .nil))) (.cons (Le.ff h4) .nil))))) h (Le.tup ((.cons (Le.agg ((.cons (Le.of rfl) (.cons (Le.of rfl) (.cons (Le.of rfl) (.cons (Le.of rfl) (.cons (Le.nils (g := true)) .nil))))))) (.cons (Le.of rfl) .nil)))) rfl

theorem c_edge_New (N : Nat) (gx1 : Bool) (x0 : Int) (x1 : GConfig) {r : GEdge × Int} (h : L_edge_New N x0 x1 = some r) : Con Tryz.prog 21 [.int .i64 x0, .agg [.int .i64 x1.Version, .sl gx1 (eL (eSite gx1) x1.Sites) x1.Sites.length x1.Sites.length]] [] (d_edge_New r) [] :=
  con_in ok mix (fn := Tryz.f21) (by kernel_rfl) (by kernel_rfl) fun hc hfin => g_edge_New_0 gx1 hc N hfin x0 x1 h
/-! ### wharfage/wharfageref1.within -/
def L_ref1_within_1 (N : Nat) (t4 : Bool) : Option (Bool) :=
  some t4
def L_ref1_within (N : Nat) (x0 x1 : Int) : Option (Bool) :=
  bif (decide (x0 ≥ 0)) then
    if 0 ≤ x1 then
    via ((IntKind.i64.wrap (1 * 2 ^ (min x1.toNat 64))) : Int) fun v1 =>
    L_ref1_within_1 N (decide (x0 < v1))
    else none
  else
    L_ref1_within_1 N false
def d_ref1_within (r : Bool) : D := .bool r
theorem g_ref1_within_1 {c : Cx} (hc : Is c Tryz.prog ty 137 13) (N : Nat) {r : Bool} (hfin : c.Fin [] (d_ref1_within r) []) (t4 : Bool) (h : L_ref1_within_1 N t4 = some r) : c.Goes (items (bodyOf Tryz.f137) [.c 7]) ⟨[(4, .bool t4)], []⟩ := by
  unfold L_ref1_within_1 at h
  exact hc.rt hfin (fn := Tryz.f137) (by kernel_rfl) (orc := []) (m := 0) (by kernel_rfl) .nil h Le.rfl rfl

theorem g_ref1_within_0 {c : Cx} (hc : Is c Tryz.prog ty 137 13) (N : Nat) {r : Bool} (hfin : c.Fin [] (d_ref1_within r) []) (x0 x1 : Int) (h : L_ref1_within N x0 x1 = some r) : c.Goes (items (bodyOf Tryz.f137) [.c 1]) ⟨[(0, .int .i64 x0), (1, .int .i64 x1)], []⟩ := by
  unfold L_ref1_within at h
  rcases brk h with ⟨h0, h⟩ | ⟨h0, h⟩
  · obtain ⟨h1, h⟩ := chk h
    obtain ⟨v1, h2, h⟩ := via_some h
    exact hc.jump (orc := [(1, [(2, oT), (5, oC (.int .i64 v1))])]) (m := 4) (kt := [4]) (kh := []) (by kernel_rfl) (.cons (Le.tt h0) (.cons (h1) (.cons (Le.int (k := .i64) h2) .nil))) (g_ref1_within_1 hc N hfin (decide (x0 < v1)) h)
  · exact hc.jump (orc := [(1, [(2, oF)])]) (m := 4) (kt := [4]) (kh := []) (by kernel_rfl) (.cons (Le.ff h0) .nil) (g_ref1_within_1 hc N hfin false h)

theorem c_ref1_within (N : Nat) (x0 x1 : Int) {r : Bool} (h : L_ref1_within N x0 x1 = some r) : Con Tryz.prog 137 [.int .i64 x0, .int .i64 x1] [] (d_ref1_within r) [] :=
  con_in ok mix (fn := Tryz.f137) (by kernel_rfl) (by kernel_rfl) fun hc hfin => g_ref1_within_0 hc N hfin x0 x1 h
/-! ### wharfage/wharfageref1.FlowMay -/
def L_ref1_FlowMay_1 (N : Nat) (t2 : Bool) : Option (Bool) :=
  some t2
def L_ref1_FlowMay (N : Nat) (x0 : GFlow) : Option (Bool) :=
  (L_ref1_within N x0.Src 32).bind fun v1 =>
  bif v1 then
    (L_ref1_within N x0.Dst 32).bind fun v2 =>
    bif v2 then
      bif (x0.Proto == 6) then
        (L_ref1_within N x0.Sport 16).bind fun v3 =>
        bif v3 then
          (L_ref1_within N x0.Dport 16).bind fun v4 =>
          L_ref1_FlowMay_1 N v4
        else
          L_ref1_FlowMay_1 N false
      else
        bif (x0.Proto == 17) then
          (L_ref1_within N x0.Sport 16).bind fun v3 =>
          bif v3 then
            (L_ref1_within N x0.Dport 16).bind fun v4 =>
            L_ref1_FlowMay_1 N v4
          else
            L_ref1_FlowMay_1 N false
        else
          L_ref1_FlowMay_1 N false
    else
      L_ref1_FlowMay_1 N false
  else
    L_ref1_FlowMay_1 N false
def d_ref1_FlowMay (r : Bool) : D := .bool r
theorem g_ref1_FlowMay_1 {c : Cx} (hc : Is c Tryz.prog ty 138 31) (N : Nat) {r : Bool} (hfin : c.Fin [] (d_ref1_FlowMay r) []) (t2 : Bool) (h : L_ref1_FlowMay_1 N t2 = some r) : c.Goes (items (bodyOf Tryz.f138) [.c 7]) ⟨[(2, .bool t2)], []⟩ := by
  unfold L_ref1_FlowMay_1 at h
  exact hc.rt hfin (fn := Tryz.f138) (by kernel_rfl) (orc := []) (m := 0) (by kernel_rfl) .nil h Le.rfl rfl

theorem g_ref1_FlowMay_0 {c : Cx} (hc : Is c Tryz.prog ty 138 31) (N : Nat) {r : Bool} (hfin : c.Fin [] (d_ref1_FlowMay r) []) (x0 : GFlow) (h : L_ref1_FlowMay N x0 = some r) : c.Goes (items (bodyOf Tryz.f138) [.c 1]) ⟨[(0, .agg [.int .i64 x0.Src, .int .i64 x0.Dst, .int .i64 x0.Proto, .int .i64 x0.Sport, .int .i64 x0.Dport])], []⟩ := by
  unfold L_ref1_FlowMay at h
  obtain ⟨v1, h0, h⟩ := bind_of h
  rcases brk h with ⟨h1, h⟩ | ⟨h1, h⟩
  · obtain ⟨v2, h2, h⟩ := bind_of h
    rcases brk h with ⟨h3, h⟩ | ⟨h3, h⟩
    · rcases brk h with ⟨h4, h⟩ | ⟨h4, h⟩
      · obtain ⟨v3, h5, h⟩ := bind_of h
        rcases brk h with ⟨h6, h⟩ | ⟨h6, h⟩
        · obtain ⟨v4, h7, h⟩ := bind_of h
          exact hc.jump (orc := [(1, [(2, oR (d_ref1_within v1)), (3, oT), (6, oR (d_ref1_within v2)), (8, oT), (12, oT), (21, oR (d_ref1_within v3)), (23, oT), (26, oR (d_ref1_within v4))])]) (m := 4) (kt := [2]) (kh := []) (by kernel_rfl) (.cons (c_ref1_within N x0.Src 32 h0) (.cons (Le.tt h1) (.cons (c_ref1_within N x0.Dst 32 h2) (.cons (Le.tt h3) (.cons (Le.tt h4) (.cons (c_ref1_within N x0.Sport 16 h5) (.cons (Le.tt h6) (.cons (c_ref1_within N x0.Dport 16 h7) .nil)))))))) (g_ref1_FlowMay_1 hc N hfin v4 h)
        · exact hc.jump (orc := [(1, [(2, oR (d_ref1_within v1)), (3, oT), (6, oR (d_ref1_within v2)), (8, oT), (12, oT), (21, oR (d_ref1_within v3)), (23, oF)])]) (m := 4) (kt := [2]) (kh := []) (by kernel_rfl) (.cons (c_ref1_within N x0.Src 32 h0) (.cons (Le.tt h1) (.cons (c_ref1_within N x0.Dst 32 h2) (.cons (Le.tt h3) (.cons (Le.tt h4) (.cons (c_ref1_within N x0.Sport 16 h5) (.cons (Le.ff h6) .nil))))))) (g_ref1_FlowMay_1 hc N hfin false h)
      · rcases brk h with ⟨h5, h⟩ | ⟨h5, h⟩
        · obtain ⟨v3, h6, h⟩ := bind_of h
          rcases brk h with ⟨h7, h⟩ | ⟨h7, h⟩
          · obtain ⟨v4, h8, h⟩ := bind_of h
            exact hc.jump (orc := [(1, [(2, oR (d_ref1_within v1)), (3, oT), (6, oR (d_ref1_within v2)), (8, oT), (12, oF), (18, oT), (21, oR (d_ref1_within v3)), (23, oT), (26, oR (d_ref1_within v4))])]) (m := 4) (kt := [2]) (kh := []) (by kernel_rfl) (.cons (c_ref1_within N x0.Src 32 h0) (.cons (Le.tt h1) (.cons (c_ref1_within N x0.Dst 32 h2) (.cons (Le.tt h3) (.cons (Le.ff h4) (.cons (Le.tt h5) (.cons (c_ref1_within N x0.Sport 16 h6) (.cons (Le.tt h7) (.cons (c_ref1_within N x0.Dport 16 h8) .nil))))))))) (g_ref1_FlowMay_1 hc N hfin v4 h)
          · exact hc.jump (orc := [(1, [(2, oR (d_ref1_within v1)), (3, oT), (6, oR (d_ref1_within v2)), (8, oT), (12, oF), (18, oT), (21, oR (d_ref1_within v3)), (23, oF)])]) (m := 4) (kt := [2]) (kh := []) (by kernel_rfl) (.cons (c_ref1_within N x0.Src 32 h0) (.cons (Le.tt h1) (.cons (c_ref1_within N x0.Dst 32 h2) (.cons (Le.tt h3) (.cons (Le.ff h4) (.cons (Le.tt h5) (.cons (c_ref1_within N x0.Sport 16 h6) (.cons (Le.ff h7) .nil)))))))) (g_ref1_FlowMay_1 hc N hfin false h)
        · exact hc.jump (orc := [(1, [(2, oR (d_ref1_within v1)), (3, oT), (6, oR (d_ref1_within v2)), (8, oT), (12, oF), (18, oF)])]) (m := 4) (kt := [2]) (kh := []) (by kernel_rfl) (.cons (c_ref1_within N x0.Src 32 h0) (.cons (Le.tt h1) (.cons (c_ref1_within N x0.Dst 32 h2) (.cons (Le.tt h3) (.cons (Le.ff h4) (.cons (Le.ff h5) .nil)))))) (g_ref1_FlowMay_1 hc N hfin false h)
    · exact hc.jump (orc := [(1, [(2, oR (d_ref1_within v1)), (3, oT), (6, oR (d_ref1_within v2)), (8, oF)])]) (m := 4) (kt := [2]) (kh := []) (by kernel_rfl) (.cons (c_ref1_within N x0.Src 32 h0) (.cons (Le.tt h1) (.cons (c_ref1_within N x0.Dst 32 h2) (.cons (Le.ff h3) .nil)))) (g_ref1_FlowMay_1 hc N hfin false h)
  · exact hc.jump (orc := [(1, [(2, oR (d_ref1_within v1)), (3, oF)])]) (m := 4) (kt := [2]) (kh := []) (by kernel_rfl) (.cons (c_ref1_within N x0.Src 32 h0) (.cons (Le.ff h1) .nil)) (g_ref1_FlowMay_1 hc N hfin false h)

theorem c_ref1_FlowMay (N : Nat) (x0 : GFlow) {r : Bool} (h : L_ref1_FlowMay N x0 = some r) : Con Tryz.prog 138 [.agg [.int .i64 x0.Src, .int .i64 x0.Dst, .int .i64 x0.Proto, .int .i64 x0.Sport, .int .i64 x0.Dport]] [] (d_ref1_FlowMay r) [] :=
  con_in ok mix (fn := Tryz.f138) (by kernel_rfl) (by kernel_rfl) fun hc hfin => g_ref1_FlowMay_0 hc N hfin x0 h
/-! ### wharfage/wharfageref1.SegMay -/
def L_ref1_SegMay_2 (N : Nat) (t2 : Bool) : Option (Bool) :=
  some t2
def L_ref1_SegMay_3 (N : Nat) (t2 : Bool) : Option (Bool) :=
  some t2
def L_ref1_SegMay_1 (N : Nat) (b108_0 b108_1 b108_2 b108_3 b108_4 b108_5 : Int) (b108_6 : ByteArray) (t18 : Bool) : Option (Bool) :=
  bif t18 then
    some false
  else
    bif (b108_0 == 17) then
      bif (b108_3 == 0) then
        bif (b108_4 == 0) then
          L_ref1_SegMay_2 N (b108_5 == 0)
        else
          L_ref1_SegMay_2 N false
      else
        L_ref1_SegMay_2 N false
    else
      bif (b108_0 == 6) then
        (L_ref1_within N b108_3 32).bind fun v1 =>
        bif v1 then
          (L_ref1_within N b108_4 32).bind fun v2 =>
          bif v2 then
            (L_ref1_within N b108_5 6).bind fun v3 =>
            L_ref1_SegMay_3 N v3
          else
            L_ref1_SegMay_3 N false
        else
          L_ref1_SegMay_3 N false
      else
        L_ref1_SegMay_3 N false
def L_ref1_SegMay (N : Nat) (x0 : GSeg) : Option (Bool) :=
  (L_ref1_within N x0.Sport 16).bind fun v1 =>
  bif (!v1) then
    L_ref1_SegMay_1 N x0.Proto x0.Sport x0.Dport x0.Seq x0.Ack x0.Flags x0.Body true
  else
    (L_ref1_within N x0.Dport 16).bind fun v2 =>
    bif (!v2) then
      L_ref1_SegMay_1 N x0.Proto x0.Sport x0.Dport x0.Seq x0.Ack x0.Flags x0.Body true
    else
      L_ref1_SegMay_1 N x0.Proto x0.Sport x0.Dport x0.Seq x0.Ack x0.Flags x0.Body (decide ((x0.Body.size : Int) > 256))
def d_ref1_SegMay (r : Bool) : D := .bool r
theorem g_ref1_SegMay_2 {c : Cx} (hc : Is c Tryz.prog ty 155 53) (N : Nat) {r : Bool} (hfin : c.Fin [] (d_ref1_SegMay r) []) (t2 : Bool) (h : L_ref1_SegMay_2 N t2 = some r) : c.Goes (items (bodyOf Tryz.f155) [.c 107, .c 15]) ⟨[(2, .bool t2)], []⟩ := by
  unfold L_ref1_SegMay_2 at h
  exact hc.rt hfin (fn := Tryz.f155) (by kernel_rfl) (orc := []) (m := 0) (by kernel_rfl) .nil h Le.rfl rfl

theorem g_ref1_SegMay_3 {c : Cx} (hc : Is c Tryz.prog ty 155 53) (N : Nat) {r : Bool} (hfin : c.Fin [] (d_ref1_SegMay r) []) (t2 : Bool) (h : L_ref1_SegMay_3 N t2 = some r) : c.Goes (items (bodyOf Tryz.f155) [.c 31]) ⟨[(2, .bool t2)], []⟩ := by
  unfold L_ref1_SegMay_3 at h
  exact hc.rt hfin (fn := Tryz.f155) (by kernel_rfl) (orc := []) (m := 0) (by kernel_rfl) .nil h Le.rfl rfl

theorem g_ref1_SegMay_1 {c : Cx} (hc : Is c Tryz.prog ty 155 53) (N : Nat) {r : Bool} (hfin : c.Fin [] (d_ref1_SegMay r) []) (b108_0 b108_1 b108_2 b108_3 b108_4 b108_5 : Int) (b108_6 : ByteArray) (t18 : Bool) (h : L_ref1_SegMay_1 N b108_0 b108_1 b108_2 b108_3 b108_4 b108_5 b108_6 t18 = some r) : c.Goes (items (bodyOf Tryz.f155) [.c 13, .c 7]) ⟨[(1, .ptr 108 0), (18, .bool t18)], [(108, some ⟨false, 0, [.int .i64 b108_0, .int .i64 b108_1, .int .i64 b108_2, .int .i64 b108_3, .int .i64 b108_4, .int .i64 b108_5, .str b108_6]⟩)]⟩ := by
  unfold L_ref1_SegMay_1 at h
  rcases brk h with ⟨h0, k0⟩ | ⟨h0, k0⟩
  · subst h0
    replace h := k0
    exact hc.rt hfin (fn := Tryz.f155) (by kernel_rfl) (orc := []) (m := 3) (by kernel_rfl) .nil h Le.rfl rfl
  · subst h0
    replace h := k0
    rcases brk h with ⟨h1, h⟩ | ⟨h1, h⟩
    · rcases brk h with ⟨h2, h⟩ | ⟨h2, h⟩
      · rcases brk h with ⟨h3, h⟩ | ⟨h3, h⟩
        · exact hc.jump (orc := [(3, [(2, oT)]), (4, [(3, oT), (8, oT)])]) (m := 8) (kt := [2]) (kh := []) (by kernel_rfl) (.cons (Le.tt h1) (.cons (Le.tt h2) (.cons (Le.tt h3) .nil))) (g_ref1_SegMay_2 hc N hfin (b108_5 == 0) h)
        · exact hc.jump (orc := [(3, [(2, oT)]), (4, [(3, oT), (8, oF)])]) (m := 8) (kt := [2]) (kh := []) (by kernel_rfl) (.cons (Le.tt h1) (.cons (Le.tt h2) (.cons (Le.ff h3) .nil))) (g_ref1_SegMay_2 hc N hfin false h)
      · exact hc.jump (orc := [(3, [(2, oT)]), (4, [(3, oF)])]) (m := 8) (kt := [2]) (kh := []) (by kernel_rfl) (.cons (Le.tt h1) (.cons (Le.ff h2) .nil)) (g_ref1_SegMay_2 hc N hfin false h)
    · rcases brk h with ⟨h2, h⟩ | ⟨h2, h⟩
      · obtain ⟨v1, h3, h⟩ := bind_of h
        rcases brk h with ⟨h4, h⟩ | ⟨h4, h⟩
        · obtain ⟨v2, h5, h⟩ := bind_of h
          rcases brk h with ⟨h6, h⟩ | ⟨h6, h⟩
          · obtain ⟨v3, h7, h⟩ := bind_of h
            exact hc.jump (orc := [(3, [(2, oF)]), (5, [(3, oT), (6, oR (d_ref1_within v1)), (8, oT), (11, oR (d_ref1_within v2)), (13, oT), (16, oR (d_ref1_within v3))])]) (m := 9) (kt := [2]) (kh := []) (by kernel_rfl) (.cons (Le.ff h1) (.cons (Le.tt h2) (.cons (c_ref1_within N b108_3 32 h3) (.cons (Le.tt h4) (.cons (c_ref1_within N b108_4 32 h5) (.cons (Le.tt h6) (.cons (c_ref1_within N b108_5 6 h7) .nil))))))) (g_ref1_SegMay_3 hc N hfin v3 h)
          · exact hc.jump (orc := [(3, [(2, oF)]), (5, [(3, oT), (6, oR (d_ref1_within v1)), (8, oT), (11, oR (d_ref1_within v2)), (13, oF)])]) (m := 9) (kt := [2]) (kh := []) (by kernel_rfl) (.cons (Le.ff h1) (.cons (Le.tt h2) (.cons (c_ref1_within N b108_3 32 h3) (.cons (Le.tt h4) (.cons (c_ref1_within N b108_4 32 h5) (.cons (Le.ff h6) .nil)))))) (g_ref1_SegMay_3 hc N hfin false h)
        · exact hc.jump (orc := [(3, [(2, oF)]), (5, [(3, oT), (6, oR (d_ref1_within v1)), (8, oF)])]) (m := 9) (kt := [2]) (kh := []) (by kernel_rfl) (.cons (Le.ff h1) (.cons (Le.tt h2) (.cons (c_ref1_within N b108_3 32 h3) (.cons (Le.ff h4) .nil)))) (g_ref1_SegMay_3 hc N hfin false h)
      · exact hc.jump (orc := [(3, [(2, oF)]), (5, [(3, oF)])]) (m := 9) (kt := [2]) (kh := []) (by kernel_rfl) (.cons (Le.ff h1) (.cons (Le.ff h2) .nil)) (g_ref1_SegMay_3 hc N hfin false h)

theorem g_ref1_SegMay_0 {c : Cx} (hc : Is c Tryz.prog ty 155 53) (N : Nat) {r : Bool} (hfin : c.Fin [] (d_ref1_SegMay r) []) (x0 : GSeg) (h : L_ref1_SegMay N x0 = some r) : c.Goes (items (bodyOf Tryz.f155) [.c 1]) ⟨[(0, .agg [.int .i64 x0.Proto, .int .i64 x0.Sport, .int .i64 x0.Dport, .int .i64 x0.Seq, .int .i64 x0.Ack, .int .i64 x0.Flags, .str x0.Body])], []⟩ := by
  unfold L_ref1_SegMay at h
  obtain ⟨v1, h0, h⟩ := bind_of h
  rcases brk h with ⟨h1, h⟩ | ⟨h1, h⟩
  · exact hc.jump (orc := [(1, [(2, oR (d_ref1_within v1)), (4, oT)])]) (m := 5) (kt := [1, 18]) (kh := [(108, 108)]) (by kernel_rfl) (.cons (c_ref1_within N x0.Sport 16 h0) (.cons (Le.tt h1) .nil)) (g_ref1_SegMay_1 hc N hfin x0.Proto x0.Sport x0.Dport x0.Seq x0.Ack x0.Flags x0.Body true h)
  · obtain ⟨v2, h2, h⟩ := bind_of h
    rcases brk h with ⟨h3, h⟩ | ⟨h3, h⟩
    · exact hc.jump (orc := [(1, [(2, oR (d_ref1_within v1)), (4, oF), (7, oR (d_ref1_within v2)), (10, oT)])]) (m := 5) (kt := [1, 18]) (kh := [(108, 108)]) (by kernel_rfl) (.cons (c_ref1_within N x0.Sport 16 h0) (.cons (Le.ff h1) (.cons (c_ref1_within N x0.Dport 16 h2) (.cons (Le.tt h3) .nil)))) (g_ref1_SegMay_1 hc N hfin x0.Proto x0.Sport x0.Dport x0.Seq x0.Ack x0.Flags x0.Body true h)
    · exact hc.jump (orc := [(1, [(2, oR (d_ref1_within v1)), (4, oF), (7, oR (d_ref1_within v2)), (10, oF)])]) (m := 5) (kt := [1, 18]) (kh := [(108, 108)]) (by kernel_rfl) (.cons (c_ref1_within N x0.Sport 16 h0) (.cons (Le.ff h1) (.cons (c_ref1_within N x0.Dport 16 h2) (.cons (Le.ff h3) .nil)))) (g_ref1_SegMay_1 hc N hfin x0.Proto x0.Sport x0.Dport x0.Seq x0.Ack x0.Flags x0.Body (decide ((x0.Body.size : Int) > 256)) h)

theorem c_ref1_SegMay (N : Nat) (x0 : GSeg) {r : Bool} (h : L_ref1_SegMay N x0 = some r) : Con Tryz.prog 155 [.agg [.int .i64 x0.Proto, .int .i64 x0.Sport, .int .i64 x0.Dport, .int .i64 x0.Seq, .int .i64 x0.Ack, .int .i64 x0.Flags, .str x0.Body]] [] (d_ref1_SegMay r) [] :=
  con_in ok mix (fn := Tryz.f155) (by kernel_rfl) (by kernel_rfl) fun hc hfin => g_ref1_SegMay_0 hc N hfin x0 h
/-! ### wharfage/wharfageref1.Num -/
def L_ref1_Num_1 (N : Nat) : Nat → Int → (List Int) → Int → Option (ByteArray)
  | 0, _, _, _ => none
  | fuel + 1, t0, b140, t6 =>
    bif (decide (t6 ≥ 0)) then
      if 0 ≤ (IntKind.i64.wrap ((8 : Int) * t6)) then
      via ((t0.fdiv (2 ^ (min (IntKind.i64.wrap ((8 : Int) * t6)).toNat 64))) : Int) fun v1 =>
      if growOk 1 (b140.length + 1) then
      L_ref1_Num_1 N fuel t0 (b140 ++ [(IntKind.u8.wrap v1)]) (IntKind.i64.wrap (t6 - 1))
      else none
      else none
    else
      some (mkS b140)
def L_ref1_Num (N : Nat) (x0 x1 : Int) : Option (ByteArray) :=
  L_ref1_Num_1 N N x0 ([]) (IntKind.i64.wrap (x1 - 1))
def d_ref1_Num (r : ByteArray) : D := .str r
theorem g_ref1_Num_1 {c : Cx} (hc : Is c Tryz.prog ty 118 23) (N : Nat) {r : ByteArray} (hfin : c.Fin [] (d_ref1_Num r) []) : ∀ (fuel : Nat) (t0 : Int) (b140 : (List Int)) (t6 : Int), L_ref1_Num_1 N fuel t0 b140 t6 = some r → c.Goes (items (bodyOf Tryz.f118) [.c 75, .l 75, .b 0, .c 15]) ⟨[(0, .int .i64 t0), (5, .ref 140 0 b140.length b140.length), (6, .int .i64 t6)], [(140, some ⟨true, 1, (eL (eInt .u8) b140)⟩)]⟩ := by
  intro fuel
  induction fuel with
  | zero => intro t0 b140 t6 h; simp [L_ref1_Num_1] at h
  | succ fuel ih =>
    intro t0 b140 t6 h
    unfold L_ref1_Num_1 at h
    rcases brk h with ⟨h0, h⟩ | ⟨h0, h⟩
    · obtain ⟨h1, h⟩ := chk h
      obtain ⟨v1, h2, h⟩ := via_some h
      obtain ⟨h3, h⟩ := chk h
      exact hc.jump (orc := [(3, [(1, oT)]), (5, [(4, oC (.int .i64 v1)), (7, { cv := some (.ref 260 0 (b140 ++ [(IntKind.u8.wrap v1)]).length (b140 ++ [(IntKind.u8.wrap v1)]).length), cb := [(260, eL (eInt .u8) (b140 ++ [(IntKind.u8.wrap v1)]))] })])]) (m := 11) (kt := [0, 5, 6]) (kh := [(260, 140)]) (by kernel_rfl) (.cons (Le.tt h0) (.cons (h1) (.cons (Le.int (k := .i64) h2) (.cons ((by decide : 1 * 1 ≤ 1)) (.cons (ap_len (xs := b140) (eInt_len .u8)) (.cons (h3) (.cons (Le.apr (b := 260) (by first | rfl | (simp only [List.length_append, List.length_take, List.length_drop]; omega) | simp : (b140 ++ [(IntKind.u8.wrap v1)]).length = b140.length + 1)) (.cons (ap_one (xs := b140) (eInt_len .u8) (y := (IntKind.u8.wrap v1)) (cs := [.int .u8 (IntKind.u8.wrap v1)]) rfl) .nil)))))))) (ih t0 (b140 ++ [(IntKind.u8.wrap v1)]) (IntKind.i64.wrap (t6 - 1)) h)
    · exact hc.rt hfin (fn := Tryz.f118) (by kernel_rfl) (orc := [(3, [(1, oF)]), (6, [(1, oC (.str (mkS b140)))])]) (m := 7) (by kernel_rfl) (.cons (Le.ff h0) (.cons (byte_ok b140) (.cons (Le.str (bytesD_eq b140)) .nil))) h Le.rfl rfl

theorem g_ref1_Num_0 {c : Cx} (hc : Is c Tryz.prog ty 118 23) (N : Nat) {r : ByteArray} (hfin : c.Fin [] (d_ref1_Num r) []) (x0 x1 : Int) (h : L_ref1_Num N x0 x1 = some r) : c.Goes (items (bodyOf Tryz.f118) [.c 1]) ⟨[(0, .int .i64 x0), (1, .int .i64 x1)], []⟩ := by
  unfold L_ref1_Num at h
  exact hc.jump (orc := [(1, [(0, { own := some (1) })])]) (m := 9) (kt := [0, 5, 6]) (kh := [(140, 140)]) (by kernel_rfl) .nil (g_ref1_Num_1 hc N hfin N x0 ([]) (IntKind.i64.wrap (x1 - 1)) h)

theorem c_ref1_Num (N : Nat) (x0 x1 : Int) {r : ByteArray} (h : L_ref1_Num N x0 x1 = some r) : Con Tryz.prog 118 [.int .i64 x0, .int .i64 x1] [] (d_ref1_Num r) [] :=
  con_in ok mix (fn := Tryz.f118) (by kernel_rfl) (by kernel_rfl) fun hc hfin => g_ref1_Num_0 hc N hfin x0 x1 h
/-! ### wharfage/wharfageref1.fold -/
def L_ref1_fold_1 (N : Nat) : Nat → Int → Option (Int)
  | 0, _ => none
  | fuel + 1, t0 =>
    bif (decide (t0 > 65535)) then
      via ((IntKind.i64.wrap ((bAnd .i64 t0 65535) + (t0.fdiv (2 ^ 16)))) : Int) fun v1 =>
      L_ref1_fold_1 N fuel v1
    else
      some t0
def L_ref1_fold (N : Nat) (x0 : Int) : Option (Int) :=
  L_ref1_fold_1 N N x0
def d_ref1_fold (r : Int) : D := .int .i64 r
theorem g_ref1_fold_1 {c : Cx} (hc : Is c Tryz.prog ty 172 11) (N : Nat) {r : Int} (hfin : c.Fin [] (d_ref1_fold r) []) : ∀ (fuel : Nat) (t0 : Int), L_ref1_fold_1 N fuel t0 = some r → c.Goes (items (bodyOf Tryz.f172) [.c 17, .l 17, .b 0, .c 7]) ⟨[(0, .int .i64 t0)], []⟩ := by
  intro fuel
  induction fuel with
  | zero => intro t0 h; simp [L_ref1_fold_1] at h
  | succ fuel ih =>
    intro t0 h
    unfold L_ref1_fold_1 at h
    rcases brk h with ⟨h0, h⟩ | ⟨h0, h⟩
    · obtain ⟨v1, h1, h⟩ := via_some h
      exact hc.jump (orc := [(1, [(1, oT)]), (2, [(4, oC (.int .i64 v1))])]) (m := 9) (kt := [0]) (kh := []) (by kernel_rfl) (.cons (Le.tt h0) (.cons ((by decide : (0:Int) ≤ 16)) (.cons (Le.int (k := .i64) h1) .nil))) (ih v1 h)
    · exact hc.rt hfin (fn := Tryz.f172) (by kernel_rfl) (orc := [(1, [(1, oF)])]) (m := 7) (by kernel_rfl) (.cons (Le.ff h0) .nil) h Le.rfl rfl

theorem g_ref1_fold_0 {c : Cx} (hc : Is c Tryz.prog ty 172 11) (N : Nat) {r : Int} (hfin : c.Fin [] (d_ref1_fold r) []) (x0 : Int) (h : L_ref1_fold N x0 = some r) : c.Goes (items (bodyOf Tryz.f172) [.c 1]) ⟨[(0, .int .i64 x0)], []⟩ := by
  unfold L_ref1_fold at h
  exact hc.jump (orc := []) (m := 5) (kt := [0]) (kh := []) (by kernel_rfl) .nil (g_ref1_fold_1 hc N hfin N x0 h)

theorem c_ref1_fold (N : Nat) (x0 : Int) {r : Int} (h : L_ref1_fold N x0 = some r) : Con Tryz.prog 172 [.int .i64 x0] [] (d_ref1_fold r) [] :=
  con_in ok mix (fn := Tryz.f172) (by kernel_rfl) (by kernel_rfl) fun hc hfin => g_ref1_fold_0 hc N hfin x0 h
/-! ### wharfage/wharfageref1.Sum -/
def L_ref1_Sum_2 (N : Nat) (r1 : ByteArray → Int → Int → Option (Int)) (t0 : ByteArray) (t3 t4 : Int) : Option (Int) :=
  (L_ref1_fold N t3).bind fun v1 =>
  r1 t0 v1 (IntKind.i64.wrap (t4 + 2))
def L_ref1_Sum_1 (N : Nat) : Nat → ByteArray → Int → Int → Option (Int)
  | 0, _, _, _ => none
  | fuel + 1, t0, t3, t4 =>
    bif (decide (t4 < (t0.size : Int))) then
      if 0 ≤ t4 ∧ t4 < (t0.size : Int) then
      via ((IntKind.i64.wrap ((IntKind.i64.wrap (bt t0 t4)) * 2 ^ 8)) : Int) fun v1 =>
      bif (decide ((IntKind.i64.wrap (t4 + 1)) < (t0.size : Int))) then
        if 0 ≤ (IntKind.i64.wrap (t4 + 1)) ∧ (IntKind.i64.wrap (t4 + 1)) < (t0.size : Int) then
        via ((IntKind.i64.wrap (bt t0 (IntKind.i64.wrap (t4 + 1)))) : Int) fun v2 =>
        via ((IntKind.i64.wrap ((IntKind.i64.wrap (t3 + v1)) + v2)) : Int) fun v3 =>
        L_ref1_Sum_2 N (L_ref1_Sum_1 N fuel) t0 v3 t4
        else none
      else
        L_ref1_Sum_2 N (L_ref1_Sum_1 N fuel) t0 (IntKind.i64.wrap (t3 + v1)) t4
      else none
    else
      some t3
def L_ref1_Sum (N : Nat) (x0 : ByteArray) : Option (Int) :=
  L_ref1_Sum_1 N N x0 0 0
def d_ref1_Sum (r : Int) : D := .int .i64 r
theorem g_ref1_Sum_2 {c : Cx} (hc : Is c Tryz.prog ty 121 33) (N : Nat) {r : Int} (hfin : c.Fin [] (d_ref1_Sum r) []) (r1 : ByteArray → Int → Int → Option (Int)) (hr1 : ∀ (t0 : ByteArray) (t3 t4 : Int), r1 t0 t3 t4 = some r → c.Goes (items (bodyOf Tryz.f121) [.c 75, .l 75, .b 0, .c 15]) ⟨[(0, .str t0), (3, .int .i64 t3), (4, .int .i64 t4)], []⟩) (t0 : ByteArray) (t3 t4 : Int) (h : L_ref1_Sum_2 N r1 t0 t3 t4 = some r) : c.Goes (items (bodyOf Tryz.f121) [.c 3659, .b 1, .c 459, .l 75, .b 0, .c 15]) ⟨[(0, .str t0), (3, .int .i64 t3), (4, .int .i64 t4)], []⟩ := by
  unfold L_ref1_Sum_2 at h
  obtain ⟨v1, h0, h⟩ := bind_of h
  exact hc.jump (orc := [(8, [(1, oR (d_ref1_fold v1))])]) (m := 4) (kt := [0, 3, 4]) (kh := []) (by kernel_rfl) (.cons (c_ref1_fold N t3 h0) .nil) (hr1 t0 v1 (IntKind.i64.wrap (t4 + 2)) h)

theorem g_ref1_Sum_1 {c : Cx} (hc : Is c Tryz.prog ty 121 33) (N : Nat) {r : Int} (hfin : c.Fin [] (d_ref1_Sum r) []) : ∀ (fuel : Nat) (t0 : ByteArray) (t3 t4 : Int), L_ref1_Sum_1 N fuel t0 t3 t4 = some r → c.Goes (items (bodyOf Tryz.f121) [.c 75, .l 75, .b 0, .c 15]) ⟨[(0, .str t0), (3, .int .i64 t3), (4, .int .i64 t4)], []⟩ := by
  intro fuel
  induction fuel with
  | zero => intro t0 t3 t4 h; simp [L_ref1_Sum_1] at h
  | succ fuel ih =>
    intro t0 t3 t4 h
    unfold L_ref1_Sum_1 at h
    rcases brk h with ⟨h0, h⟩ | ⟨h0, h⟩
    · obtain ⟨h1, h⟩ := chk h
      obtain ⟨v1, h2, h⟩ := via_some h
      rcases brk h with ⟨h3, h⟩ | ⟨h3, h⟩
      · obtain ⟨h4, h⟩ := chk h
        obtain ⟨v2, h5, h⟩ := via_some h
        obtain ⟨v3, h6, h⟩ := via_some h
        exact hc.jump (orc := [(3, [(3, oT)]), (5, [(5, oC (.int .i64 v1))]), (6, [(4, oT)]), (7, [(5, oC (.int .i64 v2)), (6, oC (.int .i64 v3))])]) (m := 14) (kt := [0, 3, 4]) (kh := []) (by kernel_rfl) (.cons (Le.tt h0) (.cons (h1) (.cons ((by decide : (0:Int) ≤ 8)) (.cons (Le.int (k := .i64) h2) (.cons (Le.tt h3) (.cons (h4) (.cons (Le.int (k := .i64) h5) (.cons (Le.int (k := .i64) h6) .nil)))))))) (g_ref1_Sum_2 hc N hfin (L_ref1_Sum_1 N fuel) ih t0 v3 t4 h)
      · exact hc.jump (orc := [(3, [(3, oT)]), (5, [(5, oC (.int .i64 v1))]), (6, [(4, oF)])]) (m := 14) (kt := [0, 3, 4]) (kh := []) (by kernel_rfl) (.cons (Le.tt h0) (.cons (h1) (.cons ((by decide : (0:Int) ≤ 8)) (.cons (Le.int (k := .i64) h2) (.cons (Le.ff h3) .nil))))) (g_ref1_Sum_2 hc N hfin (L_ref1_Sum_1 N fuel) ih t0 (IntKind.i64.wrap (t3 + v1)) t4 h)
    · exact hc.rt hfin (fn := Tryz.f121) (by kernel_rfl) (orc := [(3, [(3, oF)])]) (m := 7) (by kernel_rfl) (.cons (Le.ff h0) .nil) h Le.rfl rfl

theorem g_ref1_Sum_0 {c : Cx} (hc : Is c Tryz.prog ty 121 33) (N : Nat) {r : Int} (hfin : c.Fin [] (d_ref1_Sum r) []) (x0 : ByteArray) (h : L_ref1_Sum N x0 = some r) : c.Goes (items (bodyOf Tryz.f121) [.c 1]) ⟨[(0, .str x0)], []⟩ := by
  unfold L_ref1_Sum at h
  exact hc.jump (orc := []) (m := 9) (kt := [0, 3, 4]) (kh := []) (by kernel_rfl) .nil (g_ref1_Sum_1 hc N hfin N x0 0 0 h)

theorem c_ref1_Sum (N : Nat) (x0 : ByteArray) {r : Int} (h : L_ref1_Sum N x0 = some r) : Con Tryz.prog 121 [.str x0] [] (d_ref1_Sum r) [] :=
  con_in ok mix (fn := Tryz.f121) (by kernel_rfl) (by kernel_rfl) fun hc hfin => g_ref1_Sum_0 hc N hfin x0 h
/-! ### wharfage/wharfageref1.pseudo -/
def L_ref1_pseudo (N : Nat) (x0 : Int) (x1 : ByteArray) (x2 x3 : Int) : Option (Int) :=
  (L_ref1_Num N x2 4).bind fun v1 =>
  (L_ref1_Num N x3 4).bind fun v2 =>
  if ((v1.size + v2.size : Nat) : Int) ≤ 9223372036854775807 then
  (L_ref1_Num N x0 2).bind fun v3 =>
  if (((v1 ++ v2).size + v3.size : Nat) : Int) ≤ 9223372036854775807 then
  (L_ref1_Num N (x1.size : Int) 2).bind fun v4 =>
  if ((((v1 ++ v2) ++ v3).size + v4.size : Nat) : Int) ≤ 9223372036854775807 then
  if (((((v1 ++ v2) ++ v3) ++ v4).size + x1.size : Nat) : Int) ≤ 9223372036854775807 then
  (L_ref1_Sum N ((((v1 ++ v2) ++ v3) ++ v4) ++ x1)).bind fun v5 =>
  some v5
  else none
  else none
  else none
  else none
def d_ref1_pseudo (r : Int) : D := .int .i64 r
theorem g_ref1_pseudo_0 {c : Cx} (hc : Is c Tryz.prog ty 154 24) (N : Nat) {r : Int} (hfin : c.Fin [] (d_ref1_pseudo r) []) (x0 : Int) (x1 : ByteArray) (x2 x3 : Int) (h : L_ref1_pseudo N x0 x1 x2 x3 = some r) : c.Goes (items (bodyOf Tryz.f154) [.c 1]) ⟨[(0, .int .i64 x0), (1, .str x1), (2, .int .i64 x2), (3, .int .i64 x3)], []⟩ := by
  unfold L_ref1_pseudo at h
  obtain ⟨v1, h0, h⟩ := bind_of h
  obtain ⟨v2, h1, h⟩ := bind_of h
  obtain ⟨h2, h⟩ := chk h
  obtain ⟨v3, h3, h⟩ := bind_of h
  obtain ⟨h4, h⟩ := chk h
  obtain ⟨v4, h5, h⟩ := bind_of h
  obtain ⟨h6, h⟩ := chk h
  obtain ⟨h7, h⟩ := chk h
  obtain ⟨v5, h8, h⟩ := bind_of h
  exact hc.rt hfin (fn := Tryz.f154) (by kernel_rfl) (orc := [(1, [(1, oR (d_ref1_Num v1)), (3, oR (d_ref1_Num v2)), (6, oR (d_ref1_Num v3)), (10, oR (d_ref1_Num v4)), (14, oR (d_ref1_Sum v5))])]) (m := 4) (by kernel_rfl) (.cons (c_ref1_Num N x2 4 h0) (.cons (c_ref1_Num N x3 4 h1) (.cons (h2) (.cons (c_ref1_Num N x0 2 h3) (.cons (h4) (.cons (c_ref1_Num N (x1.size : Int) 2 h5) (.cons (h6) (.cons (h7) (.cons (c_ref1_Sum N ((((v1 ++ v2) ++ v3) ++ v4) ++ x1) h8) .nil))))))))) h Le.rfl rfl

theorem c_ref1_pseudo (N : Nat) (x0 : Int) (x1 : ByteArray) (x2 x3 : Int) {r : Int} (h : L_ref1_pseudo N x0 x1 x2 x3 = some r) : Con Tryz.prog 154 [.int .i64 x0, .str x1, .int .i64 x2, .int .i64 x3] [] (d_ref1_pseudo r) [] :=
  con_in ok mix (fn := Tryz.f154) (by kernel_rfl) (by kernel_rfl) fun hc hfin => g_ref1_pseudo_0 hc N hfin x0 x1 x2 x3 h
/-! ### wharfage/wharfageref1.PutSeg -/
def L_ref1_PutSeg_2 (N : Nat) (b124_0 b124_1 b124_2 b124_3 b124_4 b124_5 : Int) (b124_6 t8 : ByteArray) (t10 : Int) : Option (ByteArray × Int) :=
  (L_ref1_Num N t10 2).bind fun v1 =>
  if ((t8.size + v1.size : Nat) : Int) ≤ 9223372036854775807 then
  if (((t8 ++ v1).size + b124_6.size : Nat) : Int) ≤ 9223372036854775807 then
  some (((t8 ++ v1) ++ b124_6), 0)
  else none
  else none
def L_ref1_PutSeg_1 (N : Nat) (t1 t2 b124_0 b124_1 b124_2 b124_3 b124_4 b124_5 : Int) (b124_6 : ByteArray) (t23 : Bool) : Option (ByteArray × Int) :=
  bif t23 then
    some (ByteArray.empty, 300)
  else
    (L_ref1_Num N b124_1 2).bind fun v1 =>
    (L_ref1_Num N b124_2 2).bind fun v2 =>
    if ((v1.size + v2.size : Nat) : Int) ≤ 9223372036854775807 then
    bif (b124_0 == 6) then
      (L_ref1_Num N b124_3 4).bind fun v3 =>
      if (((v1 ++ v2).size + v3.size : Nat) : Int) ≤ 9223372036854775807 then
      (L_ref1_Num N b124_4 4).bind fun v4 =>
      if ((((v1 ++ v2) ++ v3).size + v4.size : Nat) : Int) ≤ 9223372036854775807 then
      if (((((v1 ++ v2) ++ v3) ++ v4).size + (ByteArray.mk #[80]).size : Nat) : Int) ≤ 9223372036854775807 then
      via (((((v1 ++ v2) ++ v3) ++ v4) ++ (ByteArray.mk #[80])) : ByteArray) fun v5 =>
      (L_ref1_Num N b124_5 1).bind fun v6 =>
      if ((v5.size + v6.size : Nat) : Int) ≤ 9223372036854775807 then
      (L_ref1_Num N 1024 2).bind fun v7 =>
      if (((v5 ++ v6).size + v7.size : Nat) : Int) ≤ 9223372036854775807 then
      if (((ByteArray.mk #[0, 0]).size + b124_6.size : Nat) : Int) ≤ 9223372036854775807 then
      if ((((v5 ++ v6) ++ v7).size + (ByteArray.mk #[0, 0]).size : Nat) : Int) ≤ 9223372036854775807 then
      via ((((v5 ++ v6) ++ v7) ++ (ByteArray.mk #[0, 0])) : ByteArray) fun v8 =>
      if ((v8.size + ((ByteArray.mk #[0, 0]) ++ b124_6).size : Nat) : Int) ≤ 9223372036854775807 then
      (L_ref1_pseudo N b124_0 (v8 ++ ((ByteArray.mk #[0, 0]) ++ b124_6)) t1 t2).bind fun v9 =>
      (L_ref1_Num N (IntKind.i64.wrap ((65535 : Int) - v9)) 2).bind fun v10 =>
      if ((((v5 ++ v6) ++ v7).size + v10.size : Nat) : Int) ≤ 9223372036854775807 then
      if (((((v5 ++ v6) ++ v7) ++ v10).size + ((ByteArray.mk #[0, 0]) ++ b124_6).size : Nat) : Int) ≤ 9223372036854775807 then
      via (((((v5 ++ v6) ++ v7) ++ v10) ++ ((ByteArray.mk #[0, 0]) ++ b124_6)) : ByteArray) fun v11 =>
      some (v11, 0)
      else none
      else none
      else none
      else none
      else none
      else none
      else none
      else none
      else none
      else none
    else
      via ((IntKind.i64.wrap ((8 : Int) + (b124_6.size : Int))) : Int) fun v3 =>
      (L_ref1_Num N v3 2).bind fun v4 =>
      if (((v1 ++ v2).size + v4.size : Nat) : Int) ≤ 9223372036854775807 then
      if ((((v1 ++ v2) ++ v4).size + (ByteArray.mk #[0, 0]).size : Nat) : Int) ≤ 9223372036854775807 then
      via ((((v1 ++ v2) ++ v4) ++ (ByteArray.mk #[0, 0])) : ByteArray) fun v5 =>
      if ((v5.size + b124_6.size : Nat) : Int) ≤ 9223372036854775807 then
      (L_ref1_pseudo N b124_0 (v5 ++ b124_6) t1 t2).bind fun v6 =>
      bif ((IntKind.i64.wrap ((65535 : Int) - v6)) == 0) then
        L_ref1_PutSeg_2 N b124_0 b124_1 b124_2 b124_3 b124_4 b124_5 b124_6 ((v1 ++ v2) ++ v4) 65535
      else
        L_ref1_PutSeg_2 N b124_0 b124_1 b124_2 b124_3 b124_4 b124_5 b124_6 ((v1 ++ v2) ++ v4) (IntKind.i64.wrap ((65535 : Int) - v6))
      else none
      else none
      else none
    else none
def L_ref1_PutSeg (N : Nat) (x0 : GSeg) (x1 x2 : Int) : Option (ByteArray × Int) :=
  (L_ref1_SegMay N x0).bind fun v1 =>
  bif (!v1) then
    L_ref1_PutSeg_1 N x1 x2 x0.Proto x0.Sport x0.Dport x0.Seq x0.Ack x0.Flags x0.Body true
  else
    (L_ref1_within N x1 32).bind fun v2 =>
    bif (!v2) then
      L_ref1_PutSeg_1 N x1 x2 x0.Proto x0.Sport x0.Dport x0.Seq x0.Ack x0.Flags x0.Body true
    else
      (L_ref1_within N x2 32).bind fun v3 =>
      L_ref1_PutSeg_1 N x1 x2 x0.Proto x0.Sport x0.Dport x0.Seq x0.Ack x0.Flags x0.Body (!v3)
def d_ref1_PutSeg (r : ByteArray × Int) : D := .tup [.str r.1, .int .i64 r.2]
theorem g_ref1_PutSeg_2 {c : Cx} (hc : Is c Tryz.prog ty 157 95) (N : Nat) {r : ByteArray × Int} (hfin : c.Fin [] (d_ref1_PutSeg r) []) (b124_0 b124_1 b124_2 b124_3 b124_4 b124_5 : Int) (b124_6 t8 : ByteArray) (t10 : Int) (h : L_ref1_PutSeg_2 N b124_0 b124_1 b124_2 b124_3 b124_4 b124_5 b124_6 t8 t10 = some r) : c.Goes (items (bodyOf Tryz.f157) [.c 255]) ⟨[(3, .ptr 124 0), (8, .str t8), (10, .int .i64 t10)], [(124, some ⟨false, 0, [.int .i64 b124_0, .int .i64 b124_1, .int .i64 b124_2, .int .i64 b124_3, .int .i64 b124_4, .int .i64 b124_5, .str b124_6]⟩)]⟩ := by
  unfold L_ref1_PutSeg_2 at h
  obtain ⟨v1, h0, h⟩ := bind_of h
  obtain ⟨h1, h⟩ := chk h
  obtain ⟨h2, h⟩ := chk h
  exact hc.rt hfin (fn := Tryz.f157) (by kernel_rfl) (orc := [(12, [(2, oR (d_ref1_Num v1))])]) (m := 2) (by kernel_rfl) (.cons (c_ref1_Num N t10 2 h0) (.cons (h1) (.cons (h2) .nil))) h Le.rfl rfl

theorem g_ref1_PutSeg_1 {c : Cx} (hc : Is c Tryz.prog ty 157 95) (N : Nat) {r : ByteArray × Int} (hfin : c.Fin [] (d_ref1_PutSeg r) []) (t1 t2 b124_0 b124_1 b124_2 b124_3 b124_4 b124_5 : Int) (b124_6 : ByteArray) (t23 : Bool) (h : L_ref1_PutSeg_1 N t1 t2 b124_0 b124_1 b124_2 b124_3 b124_4 b124_5 b124_6 t23 = some r) : c.Goes (items (bodyOf Tryz.f157) [.c 13, .c 7]) ⟨[(1, .int .i64 t1), (2, .int .i64 t2), (3, .ptr 124 0), (23, .bool t23)], [(124, some ⟨false, 0, [.int .i64 b124_0, .int .i64 b124_1, .int .i64 b124_2, .int .i64 b124_3, .int .i64 b124_4, .int .i64 b124_5, .str b124_6]⟩)]⟩ := by
  unfold L_ref1_PutSeg_1 at h
  rcases brk h with ⟨h0, k0⟩ | ⟨h0, k0⟩
  · subst h0
    replace h := k0
    exact hc.rt hfin (fn := Tryz.f157) (by kernel_rfl) (orc := []) (m := 3) (by kernel_rfl) .nil h Le.rfl rfl
  · subst h0
    replace h := k0
    obtain ⟨v1, h1, h⟩ := bind_of h
    obtain ⟨v2, h2, h⟩ := bind_of h
    obtain ⟨h3, h⟩ := chk h
    rcases brk h with ⟨h4, h⟩ | ⟨h4, h⟩
    · obtain ⟨v3, h5, h⟩ := bind_of h
      obtain ⟨h6, h⟩ := chk h
      obtain ⟨v4, h7, h⟩ := bind_of h
      obtain ⟨h8, h⟩ := chk h
      obtain ⟨h9, h⟩ := chk h
      obtain ⟨v5, h10, h⟩ := via_some h
      obtain ⟨v6, h11, h⟩ := bind_of h
      obtain ⟨h12, h⟩ := chk h
      obtain ⟨v7, h13, h⟩ := bind_of h
      obtain ⟨h14, h⟩ := chk h
      obtain ⟨h15, h⟩ := chk h
      obtain ⟨h16, h⟩ := chk h
      obtain ⟨v8, h17, h⟩ := via_some h
      obtain ⟨h18, h⟩ := chk h
      obtain ⟨v9, h19, h⟩ := bind_of h
      obtain ⟨v10, h20, h⟩ := bind_of h
      obtain ⟨h21, h⟩ := chk h
      obtain ⟨h22, h⟩ := chk h
      obtain ⟨v11, h23, h⟩ := via_some h
      exact hc.rt hfin (fn := Tryz.f157) (by kernel_rfl) (orc := [(3, [(2, oR (d_ref1_Num v1)), (5, oR (d_ref1_Num v2))]), (4, [(2, oT)]), (5, [(3, oR (d_ref1_Num v3)), (7, oR (d_ref1_Num v4)), (9, oC (.str v5)), (12, oR (d_ref1_Num v6)), (14, oR (d_ref1_Num v7))]), (7, [(4, oC (.str v8)), (9, oR (d_ref1_pseudo v9)), (11, oR (d_ref1_Num v10)), (14, oC (.str v11))])]) (m := 14) (by kernel_rfl) (.cons (c_ref1_Num N b124_1 2 h1) (.cons (c_ref1_Num N b124_2 2 h2) (.cons (h3) (.cons (Le.tt h4) (.cons (c_ref1_Num N b124_3 4 h5) (.cons (h6) (.cons (c_ref1_Num N b124_4 4 h7) (.cons (h8) (.cons (h9) (.cons (Le.str h10) (.cons (c_ref1_Num N b124_5 1 h11) (.cons (h12) (.cons (c_ref1_Num N 1024 2 h13) (.cons (h14) (.cons (h15) (.cons (h16) (.cons (Le.str h17) (.cons (h18) (.cons (c_ref1_pseudo N b124_0 (v8 ++ ((ByteArray.mk #[0, 0]) ++ b124_6)) t1 t2 h19) (.cons (c_ref1_Num N (IntKind.i64.wrap ((65535 : Int) - v9)) 2 h20) (.cons (h21) (.cons (h22) (.cons (Le.str h23) .nil))))))))))))))))))))))) h Le.rfl rfl
    · obtain ⟨v3, h5, h⟩ := via_some h
      obtain ⟨v4, h6, h⟩ := bind_of h
      obtain ⟨h7, h⟩ := chk h
      obtain ⟨h8, h⟩ := chk h
      obtain ⟨v5, h9, h⟩ := via_some h
      obtain ⟨h10, h⟩ := chk h
      obtain ⟨v6, h11, h⟩ := bind_of h
      rcases brk h with ⟨h12, h⟩ | ⟨h12, h⟩
      · exact hc.jump (orc := [(3, [(2, oR (d_ref1_Num v1)), (5, oR (d_ref1_Num v2))]), (4, [(2, oF)]), (8, [(4, oC (.int .i64 v3)), (5, oR (d_ref1_Num v4))]), (9, [(3, oC (.str v5)), (9, oR (d_ref1_pseudo v6))]), (10, [(1, oT)])]) (m := 18) (kt := [3, 8, 10]) (kh := [(124, 124)]) (by kernel_rfl) (.cons (c_ref1_Num N b124_1 2 h1) (.cons (c_ref1_Num N b124_2 2 h2) (.cons (h3) (.cons (Le.ff h4) (.cons (Le.int (k := .i64) h5) (.cons (c_ref1_Num N v3 2 h6) (.cons (h7) (.cons (h8) (.cons (Le.str h9) (.cons (h10) (.cons (c_ref1_pseudo N b124_0 (v5 ++ b124_6) t1 t2 h11) (.cons (Le.tt h12) .nil)))))))))))) (g_ref1_PutSeg_2 hc N hfin b124_0 b124_1 b124_2 b124_3 b124_4 b124_5 b124_6 ((v1 ++ v2) ++ v4) 65535 h)
      · exact hc.jump (orc := [(3, [(2, oR (d_ref1_Num v1)), (5, oR (d_ref1_Num v2))]), (4, [(2, oF)]), (8, [(4, oC (.int .i64 v3)), (5, oR (d_ref1_Num v4))]), (9, [(3, oC (.str v5)), (9, oR (d_ref1_pseudo v6))]), (10, [(1, oF)])]) (m := 18) (kt := [3, 8, 10]) (kh := [(124, 124)]) (by kernel_rfl) (.cons (c_ref1_Num N b124_1 2 h1) (.cons (c_ref1_Num N b124_2 2 h2) (.cons (h3) (.cons (Le.ff h4) (.cons (Le.int (k := .i64) h5) (.cons (c_ref1_Num N v3 2 h6) (.cons (h7) (.cons (h8) (.cons (Le.str h9) (.cons (h10) (.cons (c_ref1_pseudo N b124_0 (v5 ++ b124_6) t1 t2 h11) (.cons (Le.ff h12) .nil)))))))))))) (g_ref1_PutSeg_2 hc N hfin b124_0 b124_1 b124_2 b124_3 b124_4 b124_5 b124_6 ((v1 ++ v2) ++ v4) (IntKind.i64.wrap ((65535 : Int) - v6)) h)

theorem g_ref1_PutSeg_0 {c : Cx} (hc : Is c Tryz.prog ty 157 95) (N : Nat) {r : ByteArray × Int} (hfin : c.Fin [] (d_ref1_PutSeg r) []) (x0 : GSeg) (x1 x2 : Int) (h : L_ref1_PutSeg N x0 x1 x2 = some r) : c.Goes (items (bodyOf Tryz.f157) [.c 1]) ⟨[(0, .agg [.int .i64 x0.Proto, .int .i64 x0.Sport, .int .i64 x0.Dport, .int .i64 x0.Seq, .int .i64 x0.Ack, .int .i64 x0.Flags, .str x0.Body]), (1, .int .i64 x1), (2, .int .i64 x2)], []⟩ := by
  unfold L_ref1_PutSeg at h
  obtain ⟨v1, h0, h⟩ := bind_of h
  rcases brk h with ⟨h1, h⟩ | ⟨h1, h⟩
  · exact hc.jump (orc := [(1, [(1, oR (d_ref1_SegMay v1)), (3, oT)])]) (m := 5) (kt := [1, 2, 3, 23]) (kh := [(124, 124)]) (by kernel_rfl) (.cons (c_ref1_SegMay N x0 h0) (.cons (Le.tt h1) .nil)) (g_ref1_PutSeg_1 hc N hfin x1 x2 x0.Proto x0.Sport x0.Dport x0.Seq x0.Ack x0.Flags x0.Body true h)
  · obtain ⟨v2, h2, h⟩ := bind_of h
    rcases brk h with ⟨h3, h⟩ | ⟨h3, h⟩
    · exact hc.jump (orc := [(1, [(1, oR (d_ref1_SegMay v1)), (3, oF), (5, oR (d_ref1_within v2)), (8, oT)])]) (m := 5) (kt := [1, 2, 3, 23]) (kh := [(124, 124)]) (by kernel_rfl) (.cons (c_ref1_SegMay N x0 h0) (.cons (Le.ff h1) (.cons (c_ref1_within N x1 32 h2) (.cons (Le.tt h3) .nil)))) (g_ref1_PutSeg_1 hc N hfin x1 x2 x0.Proto x0.Sport x0.Dport x0.Seq x0.Ack x0.Flags x0.Body true h)
    · obtain ⟨v3, h4, h⟩ := bind_of h
      exact hc.jump (orc := [(1, [(1, oR (d_ref1_SegMay v1)), (3, oF), (5, oR (d_ref1_within v2)), (8, oF), (10, oR (d_ref1_within v3))])]) (m := 5) (kt := [1, 2, 3, 23]) (kh := [(124, 124)]) (by kernel_rfl) (.cons (c_ref1_SegMay N x0 h0) (.cons (Le.ff h1) (.cons (c_ref1_within N x1 32 h2) (.cons (Le.ff h3) (.cons (c_ref1_within N x2 32 h4) .nil))))) (g_ref1_PutSeg_1 hc N hfin x1 x2 x0.Proto x0.Sport x0.Dport x0.Seq x0.Ack x0.Flags x0.Body (!v3) h)

theorem c_ref1_PutSeg (N : Nat) (x0 : GSeg) (x1 x2 : Int) {r : ByteArray × Int} (h : L_ref1_PutSeg N x0 x1 x2 = some r) : Con Tryz.prog 157 [.agg [.int .i64 x0.Proto, .int .i64 x0.Sport, .int .i64 x0.Dport, .int .i64 x0.Seq, .int .i64 x0.Ack, .int .i64 x0.Flags, .str x0.Body], .int .i64 x1, .int .i64 x2] [] (d_ref1_PutSeg r) [] :=
  con_in ok mix (fn := Tryz.f157) (by kernel_rfl) (by kernel_rfl) fun hc hfin => g_ref1_PutSeg_0 hc N hfin x0 x1 x2 h
/-! ### wharfage/wharfageref1.IpMay -/
def L_ref1_IpMay_1 (N : Nat) (t2 : Bool) : Option (Bool) :=
  some t2
def L_ref1_IpMay (N : Nat) (x0 : GIp) : Option (Bool) :=
  (L_ref1_within N x0.Src 32).bind fun v1 =>
  bif v1 then
    (L_ref1_within N x0.Dst 32).bind fun v2 =>
    bif v2 then
      (L_ref1_within N x0.Proto 8).bind fun v3 =>
      bif v3 then
        (L_ref1_within N x0.Ttl 8).bind fun v4 =>
        bif v4 then
          (L_ref1_within N x0.Id 16).bind fun v5 =>
          bif v5 then
            L_ref1_IpMay_1 N (decide ((x0.Body.size : Int) ≤ 492))
          else
            L_ref1_IpMay_1 N false
        else
          L_ref1_IpMay_1 N false
      else
        L_ref1_IpMay_1 N false
    else
      L_ref1_IpMay_1 N false
  else
    L_ref1_IpMay_1 N false
def d_ref1_IpMay (r : Bool) : D := .bool r
theorem g_ref1_IpMay_1 {c : Cx} (hc : Is c Tryz.prog ty 171 32) (N : Nat) {r : Bool} (hfin : c.Fin [] (d_ref1_IpMay r) []) (t2 : Bool) (h : L_ref1_IpMay_1 N t2 = some r) : c.Goes (items (bodyOf Tryz.f171) [.c 7]) ⟨[(2, .bool t2)], []⟩ := by
  unfold L_ref1_IpMay_1 at h
  exact hc.rt hfin (fn := Tryz.f171) (by kernel_rfl) (orc := []) (m := 0) (by kernel_rfl) .nil h Le.rfl rfl

theorem g_ref1_IpMay_0 {c : Cx} (hc : Is c Tryz.prog ty 171 32) (N : Nat) {r : Bool} (hfin : c.Fin [] (d_ref1_IpMay r) []) (x0 : GIp) (h : L_ref1_IpMay N x0 = some r) : c.Goes (items (bodyOf Tryz.f171) [.c 1]) ⟨[(0, .agg [.int .i64 x0.Src, .int .i64 x0.Dst, .int .i64 x0.Proto, .int .i64 x0.Ttl, .int .i64 x0.Id, .str x0.Body])], []⟩ := by
  unfold L_ref1_IpMay at h
  obtain ⟨v1, h0, h⟩ := bind_of h
  rcases brk h with ⟨h1, h⟩ | ⟨h1, h⟩
  · obtain ⟨v2, h2, h⟩ := bind_of h
    rcases brk h with ⟨h3, h⟩ | ⟨h3, h⟩
    · obtain ⟨v3, h4, h⟩ := bind_of h
      rcases brk h with ⟨h5, h⟩ | ⟨h5, h⟩
      · obtain ⟨v4, h6, h⟩ := bind_of h
        rcases brk h with ⟨h7, h⟩ | ⟨h7, h⟩
        · obtain ⟨v5, h8, h⟩ := bind_of h
          rcases brk h with ⟨h9, h⟩ | ⟨h9, h⟩
          · exact hc.jump (orc := [(1, [(2, oR (d_ref1_within v1)), (3, oT), (6, oR (d_ref1_within v2)), (8, oT), (11, oR (d_ref1_within v3)), (13, oT), (16, oR (d_ref1_within v4)), (18, oT), (21, oR (d_ref1_within v5)), (23, oT)])]) (m := 4) (kt := [2]) (kh := []) (by kernel_rfl) (.cons (c_ref1_within N x0.Src 32 h0) (.cons (Le.tt h1) (.cons (c_ref1_within N x0.Dst 32 h2) (.cons (Le.tt h3) (.cons (c_ref1_within N x0.Proto 8 h4) (.cons (Le.tt h5) (.cons (c_ref1_within N x0.Ttl 8 h6) (.cons (Le.tt h7) (.cons (c_ref1_within N x0.Id 16 h8) (.cons (Le.tt h9) .nil)))))))))) (g_ref1_IpMay_1 hc N hfin (decide ((x0.Body.size : Int) ≤ 492)) h)
          · exact hc.jump (orc := [(1, [(2, oR (d_ref1_within v1)), (3, oT), (6, oR (d_ref1_within v2)), (8, oT), (11, oR (d_ref1_within v3)), (13, oT), (16, oR (d_ref1_within v4)), (18, oT), (21, oR (d_ref1_within v5)), (23, oF)])]) (m := 4) (kt := [2]) (kh := []) (by kernel_rfl) (.cons (c_ref1_within N x0.Src 32 h0) (.cons (Le.tt h1) (.cons (c_ref1_within N x0.Dst 32 h2) (.cons (Le.tt h3) (.cons (c_ref1_within N x0.Proto 8 h4) (.cons (Le.tt h5) (.cons (c_ref1_within N x0.Ttl 8 h6) (.cons (Le.tt h7) (.cons (c_ref1_within N x0.Id 16 h8) (.cons (Le.ff h9) .nil)))))))))) (g_ref1_IpMay_1 hc N hfin false h)
        · exact hc.jump (orc := [(1, [(2, oR (d_ref1_within v1)), (3, oT), (6, oR (d_ref1_within v2)), (8, oT), (11, oR (d_ref1_within v3)), (13, oT), (16, oR (d_ref1_within v4)), (18, oF)])]) (m := 4) (kt := [2]) (kh := []) (by kernel_rfl) (.cons (c_ref1_within N x0.Src 32 h0) (.cons (Le.tt h1) (.cons (c_ref1_within N x0.Dst 32 h2) (.cons (Le.tt h3) (.cons (c_ref1_within N x0.Proto 8 h4) (.cons (Le.tt h5) (.cons (c_ref1_within N x0.Ttl 8 h6) (.cons (Le.ff h7) .nil)))))))) (g_ref1_IpMay_1 hc N hfin false h)
      · exact hc.jump (orc := [(1, [(2, oR (d_ref1_within v1)), (3, oT), (6, oR (d_ref1_within v2)), (8, oT), (11, oR (d_ref1_within v3)), (13, oF)])]) (m := 4) (kt := [2]) (kh := []) (by kernel_rfl) (.cons (c_ref1_within N x0.Src 32 h0) (.cons (Le.tt h1) (.cons (c_ref1_within N x0.Dst 32 h2) (.cons (Le.tt h3) (.cons (c_ref1_within N x0.Proto 8 h4) (.cons (Le.ff h5) .nil)))))) (g_ref1_IpMay_1 hc N hfin false h)
    · exact hc.jump (orc := [(1, [(2, oR (d_ref1_within v1)), (3, oT), (6, oR (d_ref1_within v2)), (8, oF)])]) (m := 4) (kt := [2]) (kh := []) (by kernel_rfl) (.cons (c_ref1_within N x0.Src 32 h0) (.cons (Le.tt h1) (.cons (c_ref1_within N x0.Dst 32 h2) (.cons (Le.ff h3) .nil)))) (g_ref1_IpMay_1 hc N hfin false h)
  · exact hc.jump (orc := [(1, [(2, oR (d_ref1_within v1)), (3, oF)])]) (m := 4) (kt := [2]) (kh := []) (by kernel_rfl) (.cons (c_ref1_within N x0.Src 32 h0) (.cons (Le.ff h1) .nil)) (g_ref1_IpMay_1 hc N hfin false h)

theorem c_ref1_IpMay (N : Nat) (x0 : GIp) {r : Bool} (h : L_ref1_IpMay N x0 = some r) : Con Tryz.prog 171 [.agg [.int .i64 x0.Src, .int .i64 x0.Dst, .int .i64 x0.Proto, .int .i64 x0.Ttl, .int .i64 x0.Id, .str x0.Body]] [] (d_ref1_IpMay r) [] :=
  con_in ok mix (fn := Tryz.f171) (by kernel_rfl) (by kernel_rfl) fun hc hfin => g_ref1_IpMay_0 hc N hfin x0 h
/-! ### wharfage/wharfageref1.PutIp -/
def L_ref1_PutIp (N : Nat) (x0 : GIp) : Option (ByteArray × Int) :=
  (L_ref1_IpMay N x0).bind fun v1 =>
  bif (!v1) then
    some (ByteArray.empty, 200)
  else
    via ((IntKind.i64.wrap ((20 : Int) + (x0.Body.size : Int))) : Int) fun v2 =>
    (L_ref1_Num N v2 2).bind fun v3 =>
    if (((ByteArray.mk #[69, 0]).size + v3.size : Nat) : Int) ≤ 9223372036854775807 then
    (L_ref1_Num N x0.Id 2).bind fun v4 =>
    if ((((ByteArray.mk #[69, 0]) ++ v3).size + v4.size : Nat) : Int) ≤ 9223372036854775807 then
    if (((((ByteArray.mk #[69, 0]) ++ v3) ++ v4).size + (ByteArray.mk #[64, 0]).size : Nat) : Int) ≤ 9223372036854775807 then
    via (((((ByteArray.mk #[69, 0]) ++ v3) ++ v4) ++ (ByteArray.mk #[64, 0])) : ByteArray) fun v5 =>
    (L_ref1_Num N x0.Ttl 1).bind fun v6 =>
    if ((v5.size + v6.size : Nat) : Int) ≤ 9223372036854775807 then
    (L_ref1_Num N x0.Proto 1).bind fun v7 =>
    if (((v5 ++ v6).size + v7.size : Nat) : Int) ≤ 9223372036854775807 then
    (L_ref1_Num N x0.Src 4).bind fun v8 =>
    (L_ref1_Num N x0.Dst 4).bind fun v9 =>
    if ((v8.size + v9.size : Nat) : Int) ≤ 9223372036854775807 then
    if ((((v5 ++ v6) ++ v7).size + (ByteArray.mk #[0, 0]).size : Nat) : Int) ≤ 9223372036854775807 then
    via ((((v5 ++ v6) ++ v7) ++ (ByteArray.mk #[0, 0])) : ByteArray) fun v10 =>
    if ((v10.size + (v8 ++ v9).size : Nat) : Int) ≤ 9223372036854775807 then
    (L_ref1_Sum N (v10 ++ (v8 ++ v9))).bind fun v11 =>
    (L_ref1_Num N (IntKind.i64.wrap ((65535 : Int) - v11)) 2).bind fun v12 =>
    if ((((v5 ++ v6) ++ v7).size + v12.size : Nat) : Int) ≤ 9223372036854775807 then
    if (((((v5 ++ v6) ++ v7) ++ v12).size + (v8 ++ v9).size : Nat) : Int) ≤ 9223372036854775807 then
    if ((((((v5 ++ v6) ++ v7) ++ v12) ++ (v8 ++ v9)).size + x0.Body.size : Nat) : Int) ≤ 9223372036854775807 then
    via ((((((v5 ++ v6) ++ v7) ++ v12) ++ (v8 ++ v9)) ++ x0.Body) : ByteArray) fun v13 =>
    some (v13, 0)
    else none
    else none
    else none
    else none
    else none
    else none
    else none
    else none
    else none
    else none
    else none
def d_ref1_PutIp (r : ByteArray × Int) : D := .tup [.str r.1, .int .i64 r.2]
theorem g_ref1_PutIp_0 {c : Cx} (hc : Is c Tryz.prog ty 119 49) (N : Nat) {r : ByteArray × Int} (hfin : c.Fin [] (d_ref1_PutIp r) []) (x0 : GIp) (h : L_ref1_PutIp N x0 = some r) : c.Goes (items (bodyOf Tryz.f119) [.c 1]) ⟨[(0, .agg [.int .i64 x0.Src, .int .i64 x0.Dst, .int .i64 x0.Proto, .int .i64 x0.Ttl, .int .i64 x0.Id, .str x0.Body])], []⟩ := by
  unfold L_ref1_PutIp at h
  obtain ⟨v1, h0, h⟩ := bind_of h
  rcases brk h with ⟨h1, h⟩ | ⟨h1, h⟩
  · exact hc.rt hfin (fn := Tryz.f119) (by kernel_rfl) (orc := [(1, [(1, oR (d_ref1_IpMay v1)), (2, oT)])]) (m := 8) (by kernel_rfl) (.cons (c_ref1_IpMay N x0 h0) (.cons (Le.tt h1) .nil)) h Le.rfl rfl
  · obtain ⟨v2, h2, h⟩ := via_some h
    obtain ⟨v3, h3, h⟩ := bind_of h
    obtain ⟨h4, h⟩ := chk h
    obtain ⟨v4, h5, h⟩ := bind_of h
    obtain ⟨h6, h⟩ := chk h
    obtain ⟨h7, h⟩ := chk h
    obtain ⟨v5, h8, h⟩ := via_some h
    obtain ⟨v6, h9, h⟩ := bind_of h
    obtain ⟨h10, h⟩ := chk h
    obtain ⟨v7, h11, h⟩ := bind_of h
    obtain ⟨h12, h⟩ := chk h
    obtain ⟨v8, h13, h⟩ := bind_of h
    obtain ⟨v9, h14, h⟩ := bind_of h
    obtain ⟨h15, h⟩ := chk h
    obtain ⟨h16, h⟩ := chk h
    obtain ⟨v10, h17, h⟩ := via_some h
    obtain ⟨h18, h⟩ := chk h
    obtain ⟨v11, h19, h⟩ := bind_of h
    obtain ⟨v12, h20, h⟩ := bind_of h
    obtain ⟨h21, h⟩ := chk h
    obtain ⟨h22, h⟩ := chk h
    obtain ⟨h23, h⟩ := chk h
    obtain ⟨v13, h24, h⟩ := via_some h
    exact hc.rt hfin (fn := Tryz.f119) (by kernel_rfl) (orc := [(1, [(1, oR (d_ref1_IpMay v1)), (2, oF)]), (3, [(3, oC (.int .i64 v2)), (4, oR (d_ref1_Num v3)), (8, oR (d_ref1_Num v4)), (10, oC (.str v5)), (13, oR (d_ref1_Num v6)), (17, oR (d_ref1_Num v7))]), (4, [(2, oR (d_ref1_Num v8)), (5, oR (d_ref1_Num v9))]), (5, [(2, oC (.str v10)), (5, oR (d_ref1_Sum v11)), (7, oR (d_ref1_Num v12)), (13, oC (.str v13))])]) (m := 13) (by kernel_rfl) (.cons (c_ref1_IpMay N x0 h0) (.cons (Le.ff h1) (.cons (Le.int (k := .i64) h2) (.cons (c_ref1_Num N v2 2 h3) (.cons (h4) (.cons (c_ref1_Num N x0.Id 2 h5) (.cons (h6) (.cons (h7) (.cons (Le.str h8) (.cons (c_ref1_Num N x0.Ttl 1 h9) (.cons (h10) (.cons (c_ref1_Num N x0.Proto 1 h11) (.cons (h12) (.cons (c_ref1_Num N x0.Src 4 h13) (.cons (c_ref1_Num N x0.Dst 4 h14) (.cons (h15) (.cons (h16) (.cons (Le.str h17) (.cons (h18) (.cons (c_ref1_Sum N (v10 ++ (v8 ++ v9)) h19) (.cons (c_ref1_Num N (IntKind.i64.wrap ((65535 : Int) - v11)) 2 h20) (.cons (h21) (.cons (h22) (.cons (h23) (.cons (Le.str h24) .nil))))))))))))))))))))))))) h Le.rfl rfl

theorem c_ref1_PutIp (N : Nat) (x0 : GIp) {r : ByteArray × Int} (h : L_ref1_PutIp N x0 = some r) : Con Tryz.prog 119 [.agg [.int .i64 x0.Src, .int .i64 x0.Dst, .int .i64 x0.Proto, .int .i64 x0.Ttl, .int .i64 x0.Id, .str x0.Body]] [] (d_ref1_PutIp r) [] :=
  con_in ok mix (fn := Tryz.f119) (by kernel_rfl) (by kernel_rfl) fun hc hfin => g_ref1_PutIp_0 hc N hfin x0 h
/-! ### wharfage/wharfageref1.PacketOf -/
def L_ref1_PacketOf_1 (N : Nat) (b124_0 b124_1 b124_2 b124_3 b124_4 b164_0 b164_1 b164_2 b164_3 b164_4 b164_5 : Int) (b164_6 : ByteArray) (t29 : Bool) : Option (ByteArray × Int) :=
  bif t29 then
    some (ByteArray.empty, 400)
  else
    (L_ref1_PutSeg N (GSeg.mk b164_0 b164_1 b164_2 b164_3 b164_4 b164_5 b164_6) b124_0 b124_1).bind fun v1 =>
    (L_ref1_PutIp N (GIp.mk b124_0 b124_1 b124_2 64 0 v1.1)).bind fun v2 =>
    some (v2.1, 0)
def L_ref1_PacketOf (N : Nat) (x0 : GFlow) (x1 : Int) (x2 : ByteArray) : Option (ByteArray × Int) :=
  (L_ref1_FlowMay N x0).bind fun v1 =>
  bif (!v1) then
    L_ref1_PacketOf_1 N x0.Src x0.Dst x0.Proto x0.Sport x0.Dport x0.Proto x0.Sport x0.Dport 0 0 x1 x2 true
  else
    (L_ref1_SegMay N (GSeg.mk x0.Proto x0.Sport x0.Dport 0 0 x1 x2)).bind fun v2 =>
    L_ref1_PacketOf_1 N x0.Src x0.Dst x0.Proto x0.Sport x0.Dport x0.Proto x0.Sport x0.Dport 0 0 x1 x2 (!v2)
def d_ref1_PacketOf (r : ByteArray × Int) : D := .tup [.str r.1, .int .i64 r.2]
theorem g_ref1_PacketOf_1 {c : Cx} (hc : Is c Tryz.prog ty 99 52) (N : Nat) {r : ByteArray × Int} (hfin : c.Fin [] (d_ref1_PacketOf r) []) (b124_0 b124_1 b124_2 b124_3 b124_4 b164_0 b164_1 b164_2 b164_3 b164_4 b164_5 : Int) (b164_6 : ByteArray) (t29 : Bool) (h : L_ref1_PacketOf_1 N b124_0 b124_1 b124_2 b124_3 b124_4 b164_0 b164_1 b164_2 b164_3 b164_4 b164_5 b164_6 t29 = some r) : c.Goes (items (bodyOf Tryz.f99) [.c 27, .c 15]) ⟨[(3, .ptr 124 0), (8, .ptr 164 0), (29, .bool t29)], [(124, some ⟨false, 0, [.int .i64 b124_0, .int .i64 b124_1, .int .i64 b124_2, .int .i64 b124_3, .int .i64 b124_4]⟩), (164, some ⟨false, 0, [.int .i64 b164_0, .int .i64 b164_1, .int .i64 b164_2, .int .i64 b164_3, .int .i64 b164_4, .int .i64 b164_5, .str b164_6]⟩)]⟩ := by
  unfold L_ref1_PacketOf_1 at h
  rcases brk h with ⟨h0, k0⟩ | ⟨h0, k0⟩
  · subst h0
    replace h := k0
    exact hc.rt hfin (fn := Tryz.f99) (by kernel_rfl) (orc := []) (m := 3) (by kernel_rfl) .nil h Le.rfl rfl
  · subst h0
    replace h := k0
    obtain ⟨v1, h1, h⟩ := bind_of h
    obtain ⟨v2, h2, h⟩ := bind_of h
    exact hc.rt hfin (fn := Tryz.f99) (by kernel_rfl) (orc := [(4, [(5, oR (d_ref1_PutSeg v1))]), (5, [(8, oR (d_ref1_PutIp v2))])]) (m := 8) (by kernel_rfl) (.cons (c_ref1_PutSeg N (GSeg.mk b164_0 b164_1 b164_2 b164_3 b164_4 b164_5 b164_6) b124_0 b124_1 h1) (.cons (c_ref1_PutIp N (GIp.mk b124_0 b124_1 b124_2 64 0 v1.1) h2) .nil)) h Le.rfl rfl

theorem g_ref1_PacketOf_0 {c : Cx} (hc : Is c Tryz.prog ty 99 52) (N : Nat) {r : ByteArray × Int} (hfin : c.Fin [] (d_ref1_PacketOf r) []) (x0 : GFlow) (x1 : Int) (x2 : ByteArray) (h : L_ref1_PacketOf N x0 x1 x2 = some r) : c.Goes (items (bodyOf Tryz.f99) [.c 1]) ⟨[(0, .agg [.int .i64 x0.Src, .int .i64 x0.Dst, .int .i64 x0.Proto, .int .i64 x0.Sport, .int .i64 x0.Dport]), (1, .int .i64 x1), (2, .str x2)], []⟩ := by
  unfold L_ref1_PacketOf at h
  obtain ⟨v1, h0, h⟩ := bind_of h
  rcases brk h with ⟨h1, h⟩ | ⟨h1, h⟩
  · exact hc.jump (orc := [(2, [(1, oR (d_ref1_FlowMay v1)), (3, oT)])]) (m := 7) (kt := [3, 8, 29]) (kh := [(124, 124), (164, 164)]) (by kernel_rfl) (.cons (c_ref1_FlowMay N x0 h0) (.cons (Le.tt h1) .nil)) (g_ref1_PacketOf_1 hc N hfin x0.Src x0.Dst x0.Proto x0.Sport x0.Dport x0.Proto x0.Sport x0.Dport 0 0 x1 x2 true h)
  · obtain ⟨v2, h2, h⟩ := bind_of h
    exact hc.jump (orc := [(2, [(1, oR (d_ref1_FlowMay v1)), (3, oF), (5, oR (d_ref1_SegMay v2))])]) (m := 7) (kt := [3, 8, 29]) (kh := [(124, 124), (164, 164)]) (by kernel_rfl) (.cons (c_ref1_FlowMay N x0 h0) (.cons (Le.ff h1) (.cons (c_ref1_SegMay N (GSeg.mk x0.Proto x0.Sport x0.Dport 0 0 x1 x2) h2) .nil))) (g_ref1_PacketOf_1 hc N hfin x0.Src x0.Dst x0.Proto x0.Sport x0.Dport x0.Proto x0.Sport x0.Dport 0 0 x1 x2 (!v2) h)

theorem c_ref1_PacketOf (N : Nat) (x0 : GFlow) (x1 : Int) (x2 : ByteArray) {r : ByteArray × Int} (h : L_ref1_PacketOf N x0 x1 x2 = some r) : Con Tryz.prog 99 [.agg [.int .i64 x0.Src, .int .i64 x0.Dst, .int .i64 x0.Proto, .int .i64 x0.Sport, .int .i64 x0.Dport], .int .i64 x1, .str x2] [] (d_ref1_PacketOf r) [] :=
  con_in ok mix (fn := Tryz.f99) (by kernel_rfl) (by kernel_rfl) fun hc hfin => g_ref1_PacketOf_0 hc N hfin x0 x1 x2 h
/-! ### wharfage/wharfagelaw19.said -/
def L_law19_said (N : Nat) (x0 x1 : Int) (x2 : ByteArray) : Option (ByteArray) :=
  via ((if decide (60 < (x2.size : Int)) then 60 else (x2.size : Int)) : Int) fun v1 =>
  if 0 ≤ v1 ∧ v1 ≤ (x2.size : Int) ∧ 0 ≤ (0 : Int) ∧ (0 : Int) ≤ v1 then
  (L_ref1_PacketOf N (GFlow.mk (bAnd .i64 x0 65535) 167772161 6 7 80) (bAnd .i64 x1 63) (x2.extract 0 v1.toNat)).bind fun v2 =>
  some v2.1
  else none
def d_law19_said (r : ByteArray) : D := .str r
theorem g_law19_said_0 {c : Cx} (hc : Is c Tryz.prog ty 35 26) (N : Nat) {r : ByteArray} (hfin : c.Fin [] (d_law19_said r) []) (x0 x1 : Int) (x2 : ByteArray) (h : L_law19_said N x0 x1 x2 = some r) : c.Goes (items (bodyOf Tryz.f35) [.c 1]) ⟨[(0, .int .i64 x0), (1, .int .i64 x1), (2, .str x2)], []⟩ := by
  unfold L_law19_said at h
  obtain ⟨v1, h0, h⟩ := via_some h
  obtain ⟨h1, h⟩ := chk h
  obtain ⟨v2, h2, h⟩ := bind_of h
  exact hc.rt hfin (fn := Tryz.f35) (by kernel_rfl) (orc := [(2, [(6, oC (.int .i64 v1)), (8, oR (d_ref1_PacketOf v2))])]) (m := 8) (by kernel_rfl) (.cons (Le.int (k := .i64) h0) (.cons (h1) (.cons (c_ref1_PacketOf N (GFlow.mk (bAnd .i64 x0 65535) 167772161 6 7 80) (bAnd .i64 x1 63) (x2.extract 0 v1.toNat) h2) .nil))) h Le.rfl rfl

theorem c_law19_said (N : Nat) (x0 x1 : Int) (x2 : ByteArray) {r : ByteArray} (h : L_law19_said N x0 x1 x2 = some r) : Con Tryz.prog 35 [.int .i64 x0, .int .i64 x1, .str x2] [] (d_law19_said r) [] :=
  con_in ok mix (fn := Tryz.f35) (by kernel_rfl) (by kernel_rfl) fun hc hfin => g_law19_said_0 hc N hfin x0 x1 x2 h
/-! ### slices.Clone[[]wharfage/api.Health,wharfage/api.Health] -/
def L_slices_Clone_api_Health_api_Health (N : Nat) : Option ((List GHealth)) :=
  some ([])
def d_slices_Clone_api_Health_api_Health (r : (List GHealth)) : D := .sl true (eL eHealth r) r.length r.length
theorem g_slices_Clone_api_Health_api_Health_0 {c : Cx} (hc : Is c Tryz.prog ty 123 8) (N : Nat) {r : (List GHealth)} (hfin : c.Fin [] (d_slices_Clone_api_Health_api_Health r) []) (h : L_slices_Clone_api_Health_api_Health N = some r) : c.Goes (items (bodyOf Tryz.f123) [.c 1]) ⟨[(0, .nils)], []⟩ := by
  unfold L_slices_Clone_api_Health_api_Health at h
  exact hc.rt hfin (fn := Tryz.f123) (by kernel_rfl) (orc := []) (m := 8) (d := .nils) (by kernel_rfl) (.cons (trivial) .nil) h (Le.nils (g := true)) rfl

theorem c_slices_Clone_api_Health_api_Health (N : Nat) {r : (List GHealth)} (h : L_slices_Clone_api_Health_api_Health N = some r) : Con Tryz.prog 123 [.nils] [] (d_slices_Clone_api_Health_api_Health r) [] :=
  con_in ok mix (fn := Tryz.f123) (by kernel_rfl) (by kernel_rfl) fun hc hfin => g_slices_Clone_api_Health_api_Health_0 hc N hfin h
/-! ### slices.Clone[[]wharfage/api.Health,wharfage/api.Health] -/
def L_slices_Clone_api_Health_api_Health_v1 (N : Nat) : Option ((List GHealth)) :=
  some ([])
def d_slices_Clone_api_Health_api_Health_v1 (r : (List GHealth)) : D := .sl true (eL eHealth r) r.length r.length
theorem g_slices_Clone_api_Health_api_Health_v1_0 {c : Cx} (hc : Is c Tryz.prog ty 123 8) (N : Nat) {r : (List GHealth)} (hfin : c.Fin [] (d_slices_Clone_api_Health_api_Health_v1 r) []) (h : L_slices_Clone_api_Health_api_Health_v1 N = some r) : c.Goes (items (bodyOf Tryz.f123) [.c 1]) ⟨[(0, .e0)], []⟩ := by
  unfold L_slices_Clone_api_Health_api_Health_v1 at h
  exact hc.rt hfin (fn := Tryz.f123) (by kernel_rfl) (orc := [(3, [(3, { frz := true })])]) (m := 9) (by kernel_rfl) (.cons (trivial) (.cons ((by decide : 0 * 2 ≤ 0)) (.cons ((show growOk 16 (0 + 0) from ⟨by decide, by decide⟩)) .nil))) h Le.rfl rfl

theorem c_slices_Clone_api_Health_api_Health_v1 (N : Nat) {r : (List GHealth)} (h : L_slices_Clone_api_Health_api_Health_v1 N = some r) : Con Tryz.prog 123 [.e0] [] (d_slices_Clone_api_Health_api_Health_v1 r) [] :=
  con_in ok mix (fn := Tryz.f123) (by kernel_rfl) (by kernel_rfl) fun hc hfin => g_slices_Clone_api_Health_api_Health_v1_0 hc N hfin h
/-! ### slices.Clone[[]wharfage/api.Health,wharfage/api.Health] -/
def L_slices_Clone_api_Health_api_Health_v2 (N : Nat) (x0 : (List GHealth)) : Option ((List GHealth)) :=
  if x0.length ≠ 0 then
  if growOk 16 (0 + x0.length) then
  some ([] ++ x0)
  else none
  else none
def d_slices_Clone_api_Health_api_Health_v2 (r : (List GHealth)) : D := .sl true (eL eHealth r) r.length r.length
theorem g_slices_Clone_api_Health_api_Health_v2_0 (gx0 : Bool) {c : Cx} (hc : Is c Tryz.prog ty 123 8) (N : Nat) {r : (List GHealth)} (hfin : c.Fin [] (d_slices_Clone_api_Health_api_Health_v2 r) []) (x0 : (List GHealth)) (h : L_slices_Clone_api_Health_api_Health_v2 N x0 = some r) : c.Goes (items (bodyOf Tryz.f123) [.c 1]) ⟨[(0, .sl gx0 (eL eHealth x0) x0.length x0.length)], []⟩ := by
  unfold L_slices_Clone_api_Health_api_Health_v2 at h
  obtain ⟨h0, h⟩ := chk h
  obtain ⟨h1, h⟩ := chk h
  exact hc.rt hfin (fn := Tryz.f123) (by kernel_rfl) (orc := [(3, [(2, { cv := some (.ref 156 0 ([] ++ x0).length ([] ++ x0).length), cb := [(156, eL eHealth ([] ++ x0))] }), (3, { frz := true })])]) (m := 9) (by kernel_rfl) (.cons (h0) (.cons ((Or.inr (eL_frees (fun _ => rfl) _) : gx0 = true ∨ frees (eL eHealth x0) = true)) (.cons (ap_len (xs := x0) eHealth_len) (.cons (ap_len (xs := []) eHealth_len) (.cons (h1) (.cons (Le.apr (b := 156) (by first | rfl | (simp only [List.length_append, List.length_take, List.length_drop]; omega) | simp : ([] ++ x0).length = 0 + x0.length)) (.cons (ap_all (xs := []) (ys := x0) eHealth_len) .nil))))))) h Le.rfl rfl

theorem c_slices_Clone_api_Health_api_Health_v2 (N : Nat) (gx0 : Bool) (x0 : (List GHealth)) {r : (List GHealth)} (h : L_slices_Clone_api_Health_api_Health_v2 N x0 = some r) : Con Tryz.prog 123 [.sl gx0 (eL eHealth x0) x0.length x0.length] [] (d_slices_Clone_api_Health_api_Health_v2 r) [] :=
  con_in ok mix (fn := Tryz.f123) (by kernel_rfl) (by kernel_rfl) fun hc hfin => g_slices_Clone_api_Health_api_Health_v2_0 gx0 hc N hfin x0 h
/-! ### slices.Clone[[]wharfage/api.Health,wharfage/api.Health], of any row -/
def L_slices_Clone_api_Health_api_Health_v3 (N : Nat) (x0 : (List GHealth)) : Option ((List GHealth)) :=
  if x0.length = 0 then L_slices_Clone_api_Health_api_Health N else L_slices_Clone_api_Health_api_Health_v2 N x0
def d_slices_Clone_api_Health_api_Health_v3 (r : (List GHealth)) : D := d_slices_Clone_api_Health_api_Health_v2 r
theorem c_slices_Clone_api_Health_api_Health_v3 (N : Nat) (gx0 : Bool) (x0 : (List GHealth)) {r : (List GHealth)} (h : L_slices_Clone_api_Health_api_Health_v3 N x0 = some r) : Con Tryz.prog 123 [.sl gx0 (eL eHealth x0) x0.length x0.length] [] (d_slices_Clone_api_Health_api_Health_v3 r) [] := by
  unfold L_slices_Clone_api_Health_api_Health_v3 at h
  split at h
  · rename_i e
    obtain rfl := List.eq_nil_of_length_eq_zero e
    exact Con.nilsplit (c_slices_Clone_api_Health_api_Health N h) (c_slices_Clone_api_Health_api_Health_v1 N h)
  · exact c_slices_Clone_api_Health_api_Health_v2 N gx0 x0 h
/-! ### slices.Clone[[]wharfage/api.Entry,wharfage/api.Entry] -/
def L_slices_Clone_api_Entry_api_Entry (N : Nat) : Option ((List GEntry)) :=
  some ([])
def d_slices_Clone_api_Entry_api_Entry (r : (List GEntry)) : D := .sl true (eL eEntry r) r.length r.length
theorem g_slices_Clone_api_Entry_api_Entry_0 {c : Cx} (hc : Is c Tryz.prog ty 124 8) (N : Nat) {r : (List GEntry)} (hfin : c.Fin [] (d_slices_Clone_api_Entry_api_Entry r) []) (h : L_slices_Clone_api_Entry_api_Entry N = some r) : c.Goes (items (bodyOf Tryz.f124) [.c 1]) ⟨[(0, .nils)], []⟩ := by
  unfold L_slices_Clone_api_Entry_api_Entry at h
  exact hc.rt hfin (fn := Tryz.f124) (by kernel_rfl) (orc := []) (m := 8) (d := .nils) (by kernel_rfl) (.cons (trivial) .nil) h (Le.nils (g := true)) rfl

theorem c_slices_Clone_api_Entry_api_Entry (N : Nat) {r : (List GEntry)} (h : L_slices_Clone_api_Entry_api_Entry N = some r) : Con Tryz.prog 124 [.nils] [] (d_slices_Clone_api_Entry_api_Entry r) [] :=
  con_in ok mix (fn := Tryz.f124) (by kernel_rfl) (by kernel_rfl) fun hc hfin => g_slices_Clone_api_Entry_api_Entry_0 hc N hfin h
/-! ### slices.Clone[[]wharfage/api.Entry,wharfage/api.Entry] -/
def L_slices_Clone_api_Entry_api_Entry_v1 (N : Nat) : Option ((List GEntry)) :=
  some ([])
def d_slices_Clone_api_Entry_api_Entry_v1 (r : (List GEntry)) : D := .sl true (eL eEntry r) r.length r.length
theorem g_slices_Clone_api_Entry_api_Entry_v1_0 {c : Cx} (hc : Is c Tryz.prog ty 124 8) (N : Nat) {r : (List GEntry)} (hfin : c.Fin [] (d_slices_Clone_api_Entry_api_Entry_v1 r) []) (h : L_slices_Clone_api_Entry_api_Entry_v1 N = some r) : c.Goes (items (bodyOf Tryz.f124) [.c 1]) ⟨[(0, .e0)], []⟩ := by
  unfold L_slices_Clone_api_Entry_api_Entry_v1 at h
  exact hc.rt hfin (fn := Tryz.f124) (by kernel_rfl) (orc := [(3, [(3, { frz := true })])]) (m := 9) (by kernel_rfl) (.cons (trivial) (.cons ((by decide : 0 * 9 ≤ 0)) (.cons ((show growOk 72 (0 + 0) from ⟨by decide, by decide⟩)) .nil))) h Le.rfl rfl

theorem c_slices_Clone_api_Entry_api_Entry_v1 (N : Nat) {r : (List GEntry)} (h : L_slices_Clone_api_Entry_api_Entry_v1 N = some r) : Con Tryz.prog 124 [.e0] [] (d_slices_Clone_api_Entry_api_Entry_v1 r) [] :=
  con_in ok mix (fn := Tryz.f124) (by kernel_rfl) (by kernel_rfl) fun hc hfin => g_slices_Clone_api_Entry_api_Entry_v1_0 hc N hfin h
/-! ### slices.Clone[[]wharfage/api.Entry,wharfage/api.Entry] -/
def L_slices_Clone_api_Entry_api_Entry_v2 (N : Nat) (x0 : (List GEntry)) : Option ((List GEntry)) :=
  if x0.length ≠ 0 then
  if growOk 72 (0 + x0.length) then
  some ([] ++ x0)
  else none
  else none
def d_slices_Clone_api_Entry_api_Entry_v2 (r : (List GEntry)) : D := .sl true (eL eEntry r) r.length r.length
theorem g_slices_Clone_api_Entry_api_Entry_v2_0 (gx0 : Bool) {c : Cx} (hc : Is c Tryz.prog ty 124 8) (N : Nat) {r : (List GEntry)} (hfin : c.Fin [] (d_slices_Clone_api_Entry_api_Entry_v2 r) []) (x0 : (List GEntry)) (h : L_slices_Clone_api_Entry_api_Entry_v2 N x0 = some r) : c.Goes (items (bodyOf Tryz.f124) [.c 1]) ⟨[(0, .sl gx0 (eL eEntry x0) x0.length x0.length)], []⟩ := by
  unfold L_slices_Clone_api_Entry_api_Entry_v2 at h
  obtain ⟨h0, h⟩ := chk h
  obtain ⟨h1, h⟩ := chk h
  exact hc.rt hfin (fn := Tryz.f124) (by kernel_rfl) (orc := [(3, [(2, { cv := some (.ref 156 0 ([] ++ x0).length ([] ++ x0).length), cb := [(156, eL eEntry ([] ++ x0))] }), (3, { frz := true })])]) (m := 9) (by kernel_rfl) (.cons (h0) (.cons ((Or.inr (eL_frees (fun _ => rfl) _) : gx0 = true ∨ frees (eL eEntry x0) = true)) (.cons (ap_len (xs := x0) eEntry_len) (.cons (ap_len (xs := []) eEntry_len) (.cons (h1) (.cons (Le.apr (b := 156) (by first | rfl | (simp only [List.length_append, List.length_take, List.length_drop]; omega) | simp : ([] ++ x0).length = 0 + x0.length)) (.cons (ap_all (xs := []) (ys := x0) eEntry_len) .nil))))))) h Le.rfl rfl

theorem c_slices_Clone_api_Entry_api_Entry_v2 (N : Nat) (gx0 : Bool) (x0 : (List GEntry)) {r : (List GEntry)} (h : L_slices_Clone_api_Entry_api_Entry_v2 N x0 = some r) : Con Tryz.prog 124 [.sl gx0 (eL eEntry x0) x0.length x0.length] [] (d_slices_Clone_api_Entry_api_Entry_v2 r) [] :=
  con_in ok mix (fn := Tryz.f124) (by kernel_rfl) (by kernel_rfl) fun hc hfin => g_slices_Clone_api_Entry_api_Entry_v2_0 gx0 hc N hfin x0 h
/-! ### slices.Clone[[]wharfage/api.Entry,wharfage/api.Entry], of any row -/
def L_slices_Clone_api_Entry_api_Entry_v3 (N : Nat) (x0 : (List GEntry)) : Option ((List GEntry)) :=
  if x0.length = 0 then L_slices_Clone_api_Entry_api_Entry N else L_slices_Clone_api_Entry_api_Entry_v2 N x0
def d_slices_Clone_api_Entry_api_Entry_v3 (r : (List GEntry)) : D := d_slices_Clone_api_Entry_api_Entry_v2 r
theorem c_slices_Clone_api_Entry_api_Entry_v3 (N : Nat) (gx0 : Bool) (x0 : (List GEntry)) {r : (List GEntry)} (h : L_slices_Clone_api_Entry_api_Entry_v3 N x0 = some r) : Con Tryz.prog 124 [.sl gx0 (eL eEntry x0) x0.length x0.length] [] (d_slices_Clone_api_Entry_api_Entry_v3 r) [] := by
  unfold L_slices_Clone_api_Entry_api_Entry_v3 at h
  split at h
  · rename_i e
    obtain rfl := List.eq_nil_of_length_eq_zero e
    exact Con.nilsplit (c_slices_Clone_api_Entry_api_Entry N h) (c_slices_Clone_api_Entry_api_Entry_v1 N h)
  · exact c_slices_Clone_api_Entry_api_Entry_v2 N gx0 x0 h
/-! ### wharfage/edge.Copy -/
def L_edge_Copy (N : Nat) (x0 : GEdge) : Option (GEdge) :=
  (L_conf_Copy N x0.Config).bind fun v1 =>
  (L_slices_Clone_api_Health_api_Health_v3 N x0.Health).bind fun v2 =>
  (L_slices_Clone_api_Entry_api_Entry_v3 N x0.Flows).bind fun v3 =>
  some (GEdge.mk x0.Id v1 v2 v3)
def d_edge_Copy (r : GEdge) : D := .agg [.int .i64 r.Id, .int .i64 r.Config.Version, .sl true (eL (eSite true) r.Config.Sites) r.Config.Sites.length r.Config.Sites.length, .sl true (eL eHealth r.Health) r.Health.length r.Health.length, .sl true (eL eEntry r.Flows) r.Flows.length r.Flows.length]
theorem g_edge_Copy_0 (gx0 : Bool) {c : Cx} (hc : Is c Tryz.prog ty 60 16) (N : Nat) {r : GEdge} (hfin : c.Fin [] (d_edge_Copy r) []) (x0 : GEdge) (h : L_edge_Copy N x0 = some r) : c.Goes (items (bodyOf Tryz.f60) [.c 1]) ⟨[(0, .agg [.int .i64 x0.Id, .int .i64 x0.Config.Version, .sl gx0 (eL (eSite gx0) x0.Config.Sites) x0.Config.Sites.length x0.Config.Sites.length, .sl gx0 (eL eHealth x0.Health) x0.Health.length x0.Health.length, .sl gx0 (eL eEntry x0.Flows) x0.Flows.length x0.Flows.length])], []⟩ := by
  unfold L_edge_Copy at h
  obtain ⟨v1, h0, h⟩ := bind_of h
  obtain ⟨v2, h1, h⟩ := bind_of h
  obtain ⟨v3, h2, h⟩ := bind_of h
  exact hc.rt hfin (fn := Tryz.f60) (by kernel_rfl) (orc := [(1, [(2, oR (d_conf_Copy v1)), (5, oR (d_slices_Clone_api_Health_api_Health_v3 v2)), (8, oR (d_slices_Clone_api_Entry_api_Entry_v3 v3))])]) (m := 6) (by kernel_rfl) (.cons (c_conf_Copy N gx0 x0.Config h0) (.cons (c_slices_Clone_api_Health_api_Health_v3 N gx0 x0.Health h1) (.cons (c_slices_Clone_api_Entry_api_Entry_v3 N gx0 x0.Flows h2) .nil))) h Le.rfl rfl

theorem c_edge_Copy (N : Nat) (gx0 : Bool) (x0 : GEdge) {r : GEdge} (h : L_edge_Copy N x0 = some r) : Con Tryz.prog 60 [.agg [.int .i64 x0.Id, .int .i64 x0.Config.Version, .sl gx0 (eL (eSite gx0) x0.Config.Sites) x0.Config.Sites.length x0.Config.Sites.length, .sl gx0 (eL eHealth x0.Health) x0.Health.length x0.Health.length, .sl gx0 (eL eEntry x0.Flows) x0.Flows.length x0.Flows.length]] [] (d_edge_Copy r) [] :=
  con_in ok mix (fn := Tryz.f60) (by kernel_rfl) (by kernel_rfl) fun hc hfin => g_edge_Copy_0 gx0 hc N hfin x0 h
/-! ### wharfage/ip.Number -/
def L_ip_Number_1 (N : Nat) : Nat → ByteArray → Int → Int → Int → Option (Int)
  | 0, _, _, _, _ => none
  | fuel + 1, t0, t3, t6, t7 =>
    bif (decide (t7 < t6)) then
      if 0 ≤ t7 ∧ t7 < (t0.size : Int) then
      via ((bOr .i64 (IntKind.i64.wrap (t3 * 2 ^ 8)) (IntKind.i64.wrap (bt t0 t7))) : Int) fun v1 =>
      L_ip_Number_1 N fuel t0 v1 t6 (IntKind.i64.wrap (t7 + 1))
      else none
    else
      some t3
def L_ip_Number (N : Nat) (x0 : ByteArray) : Option (Int) :=
  L_ip_Number_1 N N x0 0 (x0.size : Int) 0
def d_ip_Number (r : Int) : D := .int .i64 r
theorem g_ip_Number_1 {c : Cx} (hc : Is c Tryz.prog ty 174 19) (N : Nat) {r : Int} (hfin : c.Fin [] (d_ip_Number r) []) : ∀ (fuel : Nat) (t0 : ByteArray) (t3 t6 t7 : Int), L_ip_Number_1 N fuel t0 t3 t6 t7 = some r → c.Goes (items (bodyOf Tryz.f174) [.c 75, .l 75, .b 0, .c 15]) ⟨[(0, .str t0), (3, .int .i64 t3), (6, .int .i64 t6), (7, .int .i64 t7)], []⟩ := by
  intro fuel
  induction fuel with
  | zero => intro t0 t3 t6 t7 h; simp [L_ip_Number_1] at h
  | succ fuel ih =>
    intro t0 t3 t6 t7 h
    unfold L_ip_Number_1 at h
    rcases brk h with ⟨h0, h⟩ | ⟨h0, h⟩
    · obtain ⟨h1, h⟩ := chk h
      obtain ⟨v1, h2, h⟩ := via_some h
      exact hc.jump (orc := [(3, [(0, oT)]), (5, [(6, oC (.int .i64 v1))])]) (m := 13) (kt := [0, 3, 6, 7]) (kh := []) (by kernel_rfl) (.cons (Le.tt h0) (.cons ((by decide : (0:Int) ≤ 8)) (.cons (h1) (.cons (Le.int (k := .i64) h2) .nil)))) (ih t0 v1 t6 (IntKind.i64.wrap (t7 + 1)) h)
    · exact hc.rt hfin (fn := Tryz.f174) (by kernel_rfl) (orc := [(3, [(0, oF)])]) (m := 7) (by kernel_rfl) (.cons (Le.ff h0) .nil) h Le.rfl rfl

theorem g_ip_Number_0 {c : Cx} (hc : Is c Tryz.prog ty 174 19) (N : Nat) {r : Int} (hfin : c.Fin [] (d_ip_Number r) []) (x0 : ByteArray) (h : L_ip_Number N x0 = some r) : c.Goes (items (bodyOf Tryz.f174) [.c 1]) ⟨[(0, .str x0)], []⟩ := by
  unfold L_ip_Number at h
  exact hc.jump (orc := []) (m := 9) (kt := [0, 3, 6, 7]) (kh := []) (by kernel_rfl) .nil (g_ip_Number_1 hc N hfin N x0 0 (x0.size : Int) 0 h)

theorem c_ip_Number (N : Nat) (x0 : ByteArray) {r : Int} (h : L_ip_Number N x0 = some r) : Con Tryz.prog 174 [.str x0] [] (d_ip_Number r) [] :=
  con_in ok mix (fn := Tryz.f174) (by kernel_rfl) (by kernel_rfl) fun hc hfin => g_ip_Number_0 hc N hfin x0 h
/-! ### wharfage/sum.fold[uint64] -/
def L_sum_fold_uint64_1 (N : Nat) : Nat → Int → Option (Int)
  | 0, _ => none
  | fuel + 1, t0 =>
    bif (decide (t0 ≥ 65536)) then
      via ((IntKind.u64.wrap ((t0.tmod 65536) + (IntKind.u64.wrap (t0.tdiv 65536)))) : Int) fun v1 =>
      L_sum_fold_uint64_1 N fuel v1
    else
      some (IntKind.i64.wrap t0)
def L_sum_fold_uint64 (N : Nat) (x0 : Int) : Option (Int) :=
  L_sum_fold_uint64_1 N N x0
def d_sum_fold_uint64 (r : Int) : D := .int .i64 r
theorem g_sum_fold_uint64_1 {c : Cx} (hc : Is c Tryz.prog ty 227 12) (N : Nat) {r : Int} (hfin : c.Fin [] (d_sum_fold_uint64 r) []) : ∀ (fuel : Nat) (t0 : Int), L_sum_fold_uint64_1 N fuel t0 = some r → c.Goes (items (bodyOf Tryz.f227) [.c 17, .l 17, .b 0, .c 7]) ⟨[(0, .int .u64 t0)], []⟩ := by
  intro fuel
  induction fuel with
  | zero => intro t0 h; simp [L_sum_fold_uint64_1] at h
  | succ fuel ih =>
    intro t0 h
    unfold L_sum_fold_uint64_1 at h
    rcases brk h with ⟨h0, h⟩ | ⟨h0, h⟩
    · obtain ⟨v1, h1, h⟩ := via_some h
      exact hc.jump (orc := [(1, [(1, oT)]), (2, [(4, oC (.int .u64 v1))])]) (m := 9) (kt := [0]) (kh := []) (by kernel_rfl) (.cons (Le.tt h0) (.cons ((by decide : (65536:Int) ≠ 0)) (.cons ((by decide : (65536:Int) ≠ 0)) (.cons (Le.int (k := .u64) h1) .nil)))) (ih v1 h)
    · exact hc.rt hfin (fn := Tryz.f227) (by kernel_rfl) (orc := [(1, [(1, oF)])]) (m := 7) (by kernel_rfl) (.cons (Le.ff h0) .nil) h Le.rfl rfl

theorem g_sum_fold_uint64_0 {c : Cx} (hc : Is c Tryz.prog ty 227 12) (N : Nat) {r : Int} (hfin : c.Fin [] (d_sum_fold_uint64 r) []) (x0 : Int) (h : L_sum_fold_uint64 N x0 = some r) : c.Goes (items (bodyOf Tryz.f227) [.c 1]) ⟨[(0, .int .u64 x0)], []⟩ := by
  unfold L_sum_fold_uint64 at h
  exact hc.jump (orc := []) (m := 5) (kt := [0]) (kh := []) (by kernel_rfl) .nil (g_sum_fold_uint64_1 hc N hfin N x0 h)

theorem c_sum_fold_uint64 (N : Nat) (x0 : Int) {r : Int} (h : L_sum_fold_uint64 N x0 = some r) : Con Tryz.prog 227 [.int .u64 x0] [] (d_sum_fold_uint64 r) [] :=
  con_in ok mix (fn := Tryz.f227) (by kernel_rfl) (by kernel_rfl) fun hc hfin => g_sum_fold_uint64_0 hc N hfin x0 h
/-! ### wharfage/sum.Sum -/
def L_sum_Sum_2 (N : Nat) (r1 : ByteArray → Int → Int → Option (Int)) (t0 : ByteArray) (t3 t4 : Int) : Option (Int) :=
  r1 t0 t3 (IntKind.i64.wrap (t4 + 2))
def L_sum_Sum_1 (N : Nat) : Nat → ByteArray → Int → Int → Option (Int)
  | 0, _, _, _ => none
  | fuel + 1, t0, t3, t4 =>
    bif (decide (t4 < (t0.size : Int))) then
      if 0 ≤ t4 ∧ t4 < (t0.size : Int) then
      via ((IntKind.u64.wrap ((IntKind.u64.wrap (bt t0 t4)) * 2 ^ 8)) : Int) fun v1 =>
      bif (decide ((IntKind.i64.wrap (t4 + 1)) < (t0.size : Int))) then
        if 0 ≤ (IntKind.i64.wrap (t4 + 1)) ∧ (IntKind.i64.wrap (t4 + 1)) < (t0.size : Int) then
        via ((IntKind.u64.wrap (bt t0 (IntKind.i64.wrap (t4 + 1)))) : Int) fun v2 =>
        via ((IntKind.u64.wrap ((IntKind.u64.wrap (t3 + v1)) + v2)) : Int) fun v3 =>
        L_sum_Sum_2 N (L_sum_Sum_1 N fuel) t0 v3 t4
        else none
      else
        L_sum_Sum_2 N (L_sum_Sum_1 N fuel) t0 (IntKind.u64.wrap (t3 + v1)) t4
      else none
    else
      (L_sum_fold_uint64 N t3).bind fun v1 =>
      some v1
def L_sum_Sum (N : Nat) (x0 : ByteArray) : Option (Int) :=
  L_sum_Sum_1 N N x0 0 0
def d_sum_Sum (r : Int) : D := .int .i64 r
theorem g_sum_Sum_2 {c : Cx} (hc : Is c Tryz.prog ty 213 32) (N : Nat) {r : Int} (hfin : c.Fin [] (d_sum_Sum r) []) (r1 : ByteArray → Int → Int → Option (Int)) (hr1 : ∀ (t0 : ByteArray) (t3 t4 : Int), r1 t0 t3 t4 = some r → c.Goes (items (bodyOf Tryz.f213) [.c 75, .l 75, .b 0, .c 15]) ⟨[(0, .str t0), (3, .int .u64 t3), (4, .int .i64 t4)], []⟩) (t0 : ByteArray) (t3 t4 : Int) (h : L_sum_Sum_2 N r1 t0 t3 t4 = some r) : c.Goes (items (bodyOf Tryz.f213) [.b 1, .c 459, .l 75, .b 0, .c 15]) ⟨[(0, .str t0), (3, .int .u64 t3), (4, .int .i64 t4)], []⟩ := by
  unfold L_sum_Sum_2 at h
  exact hc.jump (orc := []) (m := 3) (kt := [0, 3, 4]) (kh := []) (by kernel_rfl) .nil (hr1 t0 t3 (IntKind.i64.wrap (t4 + 2)) h)

theorem g_sum_Sum_1 {c : Cx} (hc : Is c Tryz.prog ty 213 32) (N : Nat) {r : Int} (hfin : c.Fin [] (d_sum_Sum r) []) : ∀ (fuel : Nat) (t0 : ByteArray) (t3 t4 : Int), L_sum_Sum_1 N fuel t0 t3 t4 = some r → c.Goes (items (bodyOf Tryz.f213) [.c 75, .l 75, .b 0, .c 15]) ⟨[(0, .str t0), (3, .int .u64 t3), (4, .int .i64 t4)], []⟩ := by
  intro fuel
  induction fuel with
  | zero => intro t0 t3 t4 h; simp [L_sum_Sum_1] at h
  | succ fuel ih =>
    intro t0 t3 t4 h
    unfold L_sum_Sum_1 at h
    rcases brk h with ⟨h0, h⟩ | ⟨h0, h⟩
    · obtain ⟨h1, h⟩ := chk h
      obtain ⟨v1, h2, h⟩ := via_some h
      rcases brk h with ⟨h3, h⟩ | ⟨h3, h⟩
      · obtain ⟨h4, h⟩ := chk h
        obtain ⟨v2, h5, h⟩ := via_some h
        obtain ⟨v3, h6, h⟩ := via_some h
        exact hc.jump (orc := [(3, [(3, oT)]), (5, [(5, oC (.int .u64 v1))]), (6, [(4, oT)]), (7, [(5, oC (.int .u64 v2)), (6, oC (.int .u64 v3))])]) (m := 13) (kt := [0, 3, 4]) (kh := []) (by kernel_rfl) (.cons (Le.tt h0) (.cons (h1) (.cons ((by decide : (0:Int) ≤ 8)) (.cons (Le.int (k := .u64) h2) (.cons (Le.tt h3) (.cons (h4) (.cons (Le.int (k := .u64) h5) (.cons (Le.int (k := .u64) h6) .nil)))))))) (g_sum_Sum_2 hc N hfin (L_sum_Sum_1 N fuel) ih t0 v3 t4 h)
      · exact hc.jump (orc := [(3, [(3, oT)]), (5, [(5, oC (.int .u64 v1))]), (6, [(4, oF)])]) (m := 13) (kt := [0, 3, 4]) (kh := []) (by kernel_rfl) (.cons (Le.tt h0) (.cons (h1) (.cons ((by decide : (0:Int) ≤ 8)) (.cons (Le.int (k := .u64) h2) (.cons (Le.ff h3) .nil))))) (g_sum_Sum_2 hc N hfin (L_sum_Sum_1 N fuel) ih t0 (IntKind.u64.wrap (t3 + v1)) t4 h)
    · obtain ⟨v1, h1, h⟩ := bind_of h
      exact hc.rt hfin (fn := Tryz.f213) (by kernel_rfl) (orc := [(3, [(3, oF)]), (8, [(1, oR (d_sum_fold_uint64 v1))])]) (m := 7) (by kernel_rfl) (.cons (Le.ff h0) (.cons (c_sum_fold_uint64 N t3 h1) .nil)) h Le.rfl rfl

theorem g_sum_Sum_0 {c : Cx} (hc : Is c Tryz.prog ty 213 32) (N : Nat) {r : Int} (hfin : c.Fin [] (d_sum_Sum r) []) (x0 : ByteArray) (h : L_sum_Sum N x0 = some r) : c.Goes (items (bodyOf Tryz.f213) [.c 1]) ⟨[(0, .str x0)], []⟩ := by
  unfold L_sum_Sum at h
  exact hc.jump (orc := []) (m := 9) (kt := [0, 3, 4]) (kh := []) (by kernel_rfl) .nil (g_sum_Sum_1 hc N hfin N x0 0 0 h)

theorem c_sum_Sum (N : Nat) (x0 : ByteArray) {r : Int} (h : L_sum_Sum N x0 = some r) : Con Tryz.prog 213 [.str x0] [] (d_sum_Sum r) [] :=
  con_in ok mix (fn := Tryz.f213) (by kernel_rfl) (by kernel_rfl) fun hc hfin => g_sum_Sum_0 hc N hfin x0 h
/-! ### wharfage/ip.words -/
def L_ip_words_3 (N : Nat) (t2 : Int) (t3 : Bool) : Option (Int × Bool) :=
  some (t2, t3)
def L_ip_words_2 (N : Nat) (t0 : ByteArray) (t4 : Int) (t31 : Bool) : Option (Int × Bool) :=
  bif t31 then
    some (0, false)
  else
    if 0 ≤ (4 : Int) ∧ (4 : Int) ≤ (t0.size : Int) ∧ 0 ≤ (2 : Int) ∧ (2 : Int) ≤ (4 : Int) then
    (L_ip_Number N (t0.extract 2 4)).bind fun v1 =>
    bif (v1 == (t0.size : Int)) then
      if 0 ≤ (IntKind.i64.wrap ((4 : Int) * t4)) ∧ (IntKind.i64.wrap ((4 : Int) * t4)) ≤ (t0.size : Int) ∧ 0 ≤ (0 : Int) ∧ (0 : Int) ≤ (IntKind.i64.wrap ((4 : Int) * t4)) then
      via ((t0.extract 0 (IntKind.i64.wrap ((4 : Int) * t4)).toNat) : ByteArray) fun v2 =>
      (L_sum_Sum N v2).bind fun v3 =>
      L_ip_words_3 N t4 (v3 == 65535)
      else none
    else
      L_ip_words_3 N t4 false
    else none
def L_ip_words_1 (N : Nat) (t0 : ByteArray) (t12 : Bool) : Option (Int × Bool) :=
  bif t12 then
    some (0, false)
  else
    if 0 ≤ (0 : Int) ∧ (0 : Int) < (t0.size : Int) then
    if 0 ≤ (0 : Int) ∧ (0 : Int) < (t0.size : Int) then
    bif (((bt t0 0).fdiv (2 ^ 4)) != 4) then
      L_ip_words_2 N t0 (IntKind.i64.wrap (bAnd .u8 (bt t0 0) 15)) true
    else
      bif (decide ((IntKind.i64.wrap (bAnd .u8 (bt t0 0) 15)) < 5)) then
        L_ip_words_2 N t0 (IntKind.i64.wrap (bAnd .u8 (bt t0 0) 15)) true
      else
        via ((IntKind.i64.wrap ((4 : Int) * (IntKind.i64.wrap (bAnd .u8 (bt t0 0) 15)))) : Int) fun v1 =>
        L_ip_words_2 N t0 (IntKind.i64.wrap (bAnd .u8 (bt t0 0) 15)) (decide (v1 > (t0.size : Int)))
    else none
    else none
def L_ip_words (N : Nat) (x0 : ByteArray) : Option (Int × Bool) :=
  bif (decide ((x0.size : Int) < 20)) then
    L_ip_words_1 N x0 true
  else
    L_ip_words_1 N x0 (decide ((x0.size : Int) > 512))
def d_ip_words (r : Int × Bool) : D := .tup [.int .i64 r.1, .bool r.2]
theorem g_ip_words_3 {c : Cx} (hc : Is c Tryz.prog ty 173 47) (N : Nat) {r : Int × Bool} (hfin : c.Fin [] (d_ip_words r) []) (t2 : Int) (t3 : Bool) (h : L_ip_words_3 N t2 t3 = some r) : c.Goes (items (bodyOf Tryz.f173) [.c 63]) ⟨[(2, .int .i64 t2), (3, .bool t3)], []⟩ := by
  unfold L_ip_words_3 at h
  exact hc.rt hfin (fn := Tryz.f173) (by kernel_rfl) (orc := []) (m := 0) (by kernel_rfl) .nil h Le.rfl rfl

theorem g_ip_words_2 {c : Cx} (hc : Is c Tryz.prog ty 173 47) (N : Nat) {r : Int × Bool} (hfin : c.Fin [] (d_ip_words r) []) (t0 : ByteArray) (t4 : Int) (t31 : Bool) (h : L_ip_words_2 N t0 t4 t31 = some r) : c.Goes (items (bodyOf Tryz.f173) [.c 55, .c 31]) ⟨[(0, .str t0), (4, .int .i64 t4), (31, .bool t31)], []⟩ := by
  unfold L_ip_words_2 at h
  rcases brk h with ⟨h0, k0⟩ | ⟨h0, k0⟩
  · subst h0
    replace h := k0
    exact hc.rt hfin (fn := Tryz.f173) (by kernel_rfl) (orc := []) (m := 3) (by kernel_rfl) .nil h Le.rfl rfl
  · subst h0
    replace h := k0
    obtain ⟨h1, h⟩ := chk h
    obtain ⟨v1, h2, h⟩ := bind_of h
    rcases brk h with ⟨h3, h⟩ | ⟨h3, h⟩
    · obtain ⟨h4, h⟩ := chk h
      obtain ⟨v2, h5, h⟩ := via_some h
      obtain ⟨v3, h6, h⟩ := bind_of h
      exact hc.jump (orc := [(6, [(3, oR (d_ip_Number v1)), (7, oT), (11, oC (.str v2)), (12, oR (d_sum_Sum v3))])]) (m := 4) (kt := [2, 3]) (kh := []) (by kernel_rfl) (.cons (h1) (.cons (c_ip_Number N (t0.extract 2 4) h2) (.cons (Le.tt h3) (.cons (h4) (.cons (Le.str h5) (.cons (c_sum_Sum N v2 h6) .nil)))))) (g_ip_words_3 hc N hfin t4 (v3 == 65535) h)
    · exact hc.jump (orc := [(6, [(3, oR (d_ip_Number v1)), (7, oF)])]) (m := 4) (kt := [2, 3]) (kh := []) (by kernel_rfl) (.cons (h1) (.cons (c_ip_Number N (t0.extract 2 4) h2) (.cons (Le.ff h3) .nil))) (g_ip_words_3 hc N hfin t4 false h)

theorem g_ip_words_1 {c : Cx} (hc : Is c Tryz.prog ty 173 47) (N : Nat) {r : Int × Bool} (hfin : c.Fin [] (d_ip_words r) []) (t0 : ByteArray) (t12 : Bool) (h : L_ip_words_1 N t0 t12 = some r) : c.Goes (items (bodyOf Tryz.f173) [.c 13, .c 7]) ⟨[(0, .str t0), (12, .bool t12)], []⟩ := by
  unfold L_ip_words_1 at h
  rcases brk h with ⟨h0, k0⟩ | ⟨h0, k0⟩
  · subst h0
    replace h := k0
    exact hc.rt hfin (fn := Tryz.f173) (by kernel_rfl) (orc := []) (m := 3) (by kernel_rfl) .nil h Le.rfl rfl
  · subst h0
    replace h := k0
    obtain ⟨h1, h⟩ := chk h
    obtain ⟨h2, h⟩ := chk h
    rcases brk h with ⟨h3, h⟩ | ⟨h3, h⟩
    · exact hc.jump (orc := [(4, [(4, oT)])]) (m := 7) (kt := [0, 4, 31]) (kh := []) (by kernel_rfl) (.cons (h1) (.cons (h2) (.cons ((by decide : (0:Int) ≤ 4)) (.cons (Le.tt h3) .nil)))) (g_ip_words_2 hc N hfin t0 (IntKind.i64.wrap (bAnd .u8 (bt t0 0) 15)) true h)
    · rcases brk h with ⟨h4, h⟩ | ⟨h4, h⟩
      · exact hc.jump (orc := [(4, [(4, oF), (8, oT)])]) (m := 7) (kt := [0, 4, 31]) (kh := []) (by kernel_rfl) (.cons (h1) (.cons (h2) (.cons ((by decide : (0:Int) ≤ 4)) (.cons (Le.ff h3) (.cons (Le.tt h4) .nil))))) (g_ip_words_2 hc N hfin t0 (IntKind.i64.wrap (bAnd .u8 (bt t0 0) 15)) true h)
      · obtain ⟨v1, h5, h⟩ := via_some h
        exact hc.jump (orc := [(4, [(4, oF), (8, oF), (10, oC (.int .i64 v1))])]) (m := 7) (kt := [0, 4, 31]) (kh := []) (by kernel_rfl) (.cons (h1) (.cons (h2) (.cons ((by decide : (0:Int) ≤ 4)) (.cons (Le.ff h3) (.cons (Le.ff h4) (.cons (Le.int (k := .i64) h5) .nil)))))) (g_ip_words_2 hc N hfin t0 (IntKind.i64.wrap (bAnd .u8 (bt t0 0) 15)) (decide (v1 > (t0.size : Int))) h)

theorem g_ip_words_0 {c : Cx} (hc : Is c Tryz.prog ty 173 47) (N : Nat) {r : Int × Bool} (hfin : c.Fin [] (d_ip_words r) []) (x0 : ByteArray) (h : L_ip_words N x0 = some r) : c.Goes (items (bodyOf Tryz.f173) [.c 1]) ⟨[(0, .str x0)], []⟩ := by
  unfold L_ip_words at h
  rcases brk h with ⟨h0, h⟩ | ⟨h0, h⟩
  · exact hc.jump (orc := [(1, [(3, oT)])]) (m := 5) (kt := [0, 12]) (kh := []) (by kernel_rfl) (.cons (Le.tt h0) .nil) (g_ip_words_1 hc N hfin x0 true h)
  · exact hc.jump (orc := [(1, [(3, oF)])]) (m := 5) (kt := [0, 12]) (kh := []) (by kernel_rfl) (.cons (Le.ff h0) .nil) (g_ip_words_1 hc N hfin x0 (decide ((x0.size : Int) > 512)) h)

theorem c_ip_words (N : Nat) (x0 : ByteArray) {r : Int × Bool} (h : L_ip_words N x0 = some r) : Con Tryz.prog 173 [.str x0] [] (d_ip_words r) [] :=
  con_in ok mix (fn := Tryz.f173) (by kernel_rfl) (by kernel_rfl) fun hc hfin => g_ip_words_0 hc N hfin x0 h
/-! ### wharfage/ip.Get -/
def L_ip_Get (N : Nat) (x0 : ByteArray) : Option (GIp × Int × Int) :=
  (L_ip_words N x0).bind fun v1 =>
  bif (!v1.2) then
    some ((GIp.mk 0 0 0 0 0 ByteArray.empty), 1, 200)
  else
    bif (decide (v1.1 > 5)) then
      some ((GIp.mk 0 0 0 0 0 ByteArray.empty), 3, 0)
    else
      if 0 ≤ (8 : Int) ∧ (8 : Int) ≤ (x0.size : Int) ∧ 0 ≤ (6 : Int) ∧ (6 : Int) ≤ (8 : Int) then
      (L_ip_Number N (x0.extract 6 8)).bind fun v2 =>
      bif ((bAndNot .i64 v2 16384) != 0) then
        some ((GIp.mk 0 0 0 0 0 ByteArray.empty), 2, 0)
      else
        if 0 ≤ (16 : Int) ∧ (16 : Int) ≤ (x0.size : Int) ∧ 0 ≤ (12 : Int) ∧ (12 : Int) ≤ (16 : Int) then
        (L_ip_Number N (x0.extract 12 16)).bind fun v3 =>
        if 0 ≤ (20 : Int) ∧ (20 : Int) ≤ (x0.size : Int) ∧ 0 ≤ (16 : Int) ∧ (16 : Int) ≤ (20 : Int) then
        (L_ip_Number N (x0.extract 16 20)).bind fun v4 =>
        if 0 ≤ (9 : Int) ∧ (9 : Int) < (x0.size : Int) then
        if 0 ≤ (8 : Int) ∧ (8 : Int) < (x0.size : Int) then
        if 0 ≤ (6 : Int) ∧ (6 : Int) ≤ (x0.size : Int) ∧ 0 ≤ (4 : Int) ∧ (4 : Int) ≤ (6 : Int) then
        (L_ip_Number N (x0.extract 4 6)).bind fun v5 =>
        if 0 ≤ (x0.size : Int) ∧ (x0.size : Int) ≤ (x0.size : Int) ∧ 0 ≤ (20 : Int) ∧ (20 : Int) ≤ (x0.size : Int) then
        some ((GIp.mk v3 v4 (IntKind.i64.wrap (bt x0 9)) (IntKind.i64.wrap (bt x0 8)) v5 (x0.extract 20 x0.size)), 0, 0)
        else none
        else none
        else none
        else none
        else none
        else none
      else none
def d_ip_Get (r : GIp × Int × Int) : D := .tup [.agg [.int .i64 r.1.Src, .int .i64 r.1.Dst, .int .i64 r.1.Proto, .int .i64 r.1.Ttl, .int .i64 r.1.Id, .str r.1.Body], .int .i64 r.2.1, .int .i64 r.2.2]
theorem g_ip_Get_0 {c : Cx} (hc : Is c Tryz.prog ty 125 45) (N : Nat) {r : GIp × Int × Int} (hfin : c.Fin [] (d_ip_Get r) []) (x0 : ByteArray) (h : L_ip_Get N x0 = some r) : c.Goes (items (bodyOf Tryz.f125) [.c 1]) ⟨[(0, .str x0)], []⟩ := by
  unfold L_ip_Get at h
  obtain ⟨v1, h0, h⟩ := bind_of h
  rcases brk h with ⟨h1, h⟩ | ⟨h1, h⟩
  · exact hc.rt hfin (fn := Tryz.f125) (by kernel_rfl) (orc := [(1, [(1, oR (d_ip_words v1))]), (2, [(2, oT)])]) (m := 11) (by kernel_rfl) (.cons (c_ip_words N x0 h0) (.cons (Le.tt h1) .nil)) h Le.rfl rfl
  · rcases brk h with ⟨h2, h⟩ | ⟨h2, h⟩
    · exact hc.rt hfin (fn := Tryz.f125) (by kernel_rfl) (orc := [(1, [(1, oR (d_ip_words v1))]), (2, [(2, oF)]), (4, [(2, oT)])]) (m := 14) (by kernel_rfl) (.cons (c_ip_words N x0 h0) (.cons (Le.ff h1) (.cons (Le.tt h2) .nil))) h Le.rfl rfl
    · obtain ⟨h3, h⟩ := chk h
      obtain ⟨v2, h4, h⟩ := bind_of h
      rcases brk h with ⟨h5, h⟩ | ⟨h5, h⟩
      · exact hc.rt hfin (fn := Tryz.f125) (by kernel_rfl) (orc := [(1, [(1, oR (d_ip_words v1))]), (2, [(2, oF)]), (4, [(2, oF)]), (6, [(2, oR (d_ip_Number v2)), (5, oT)])]) (m := 17) (by kernel_rfl) (.cons (c_ip_words N x0 h0) (.cons (Le.ff h1) (.cons (Le.ff h2) (.cons (h3) (.cons (c_ip_Number N (x0.extract 6 8) h4) (.cons (Le.tt h5) .nil)))))) h Le.rfl rfl
      · obtain ⟨h6, h⟩ := chk h
        obtain ⟨v3, h7, h⟩ := bind_of h
        obtain ⟨h8, h⟩ := chk h
        obtain ⟨v4, h9, h⟩ := bind_of h
        obtain ⟨h10, h⟩ := chk h
        obtain ⟨h11, h⟩ := chk h
        obtain ⟨h12, h⟩ := chk h
        obtain ⟨v5, h13, h⟩ := bind_of h
        obtain ⟨h14, h⟩ := chk h
        exact hc.rt hfin (fn := Tryz.f125) (by kernel_rfl) (orc := [(1, [(1, oR (d_ip_words v1))]), (2, [(2, oF)]), (4, [(2, oF)]), (6, [(2, oR (d_ip_Number v2)), (5, oF)]), (8, [(2, oR (d_ip_Number v3)), (5, oR (d_ip_Number v4)), (14, oR (d_ip_Number v5))])]) (m := 19) (by kernel_rfl) (.cons (c_ip_words N x0 h0) (.cons (Le.ff h1) (.cons (Le.ff h2) (.cons (h3) (.cons (c_ip_Number N (x0.extract 6 8) h4) (.cons (Le.ff h5) (.cons (h6) (.cons (c_ip_Number N (x0.extract 12 16) h7) (.cons (h8) (.cons (c_ip_Number N (x0.extract 16 20) h9) (.cons (h10) (.cons (h11) (.cons (h12) (.cons (c_ip_Number N (x0.extract 4 6) h13) (.cons (h14) .nil))))))))))))))) h Le.rfl rfl

theorem c_ip_Get (N : Nat) (x0 : ByteArray) {r : GIp × Int × Int} (h : L_ip_Get N x0 = some r) : Con Tryz.prog 125 [.str x0] [] (d_ip_Get r) [] :=
  con_in ok mix (fn := Tryz.f125) (by kernel_rfl) (by kernel_rfl) fun hc hfin => g_ip_Get_0 hc N hfin x0 h
/-! ### wharfage/seg.tcp -/
def L_seg_tcp_1 (N : Nat) (t0 : ByteArray) (b116_0 b116_1 b116_2 b116_3 b116_4 b116_5 : Int) (b116_6 : ByteArray) (t11 : Bool) : Option (GSeg × Bool) :=
  bif t11 then
    some ((GSeg.mk 0 0 0 0 0 0 ByteArray.empty), false)
  else
    if 0 ≤ (2 : Int) ∧ (2 : Int) ≤ (t0.size : Int) ∧ 0 ≤ (0 : Int) ∧ (0 : Int) ≤ (2 : Int) then
    (L_ip_Number N (t0.extract 0 2)).bind fun v1 =>
    if 0 ≤ (4 : Int) ∧ (4 : Int) ≤ (t0.size : Int) ∧ 0 ≤ (2 : Int) ∧ (2 : Int) ≤ (4 : Int) then
    (L_ip_Number N (t0.extract 2 4)).bind fun v2 =>
    if 0 ≤ (8 : Int) ∧ (8 : Int) ≤ (t0.size : Int) ∧ 0 ≤ (4 : Int) ∧ (4 : Int) ≤ (8 : Int) then
    (L_ip_Number N (t0.extract 4 8)).bind fun v3 =>
    if 0 ≤ (12 : Int) ∧ (12 : Int) ≤ (t0.size : Int) ∧ 0 ≤ (8 : Int) ∧ (8 : Int) ≤ (12 : Int) then
    (L_ip_Number N (t0.extract 8 12)).bind fun v4 =>
    if 0 ≤ (13 : Int) ∧ (13 : Int) < (t0.size : Int) then
    if 0 ≤ (t0.size : Int) ∧ (t0.size : Int) ≤ (t0.size : Int) ∧ 0 ≤ (20 : Int) ∧ (20 : Int) ≤ (t0.size : Int) then
    some ((GSeg.mk 6 v1 v2 v3 v4 (IntKind.i64.wrap (bt t0 13)) (t0.extract 20 t0.size)), true)
    else none
    else none
    else none
    else none
    else none
    else none
def L_seg_tcp (N : Nat) (x0 : ByteArray) : Option (GSeg × Bool) :=
  bif (decide ((x0.size : Int) < 20)) then
    L_seg_tcp_1 N x0 0 0 0 0 0 0 ByteArray.empty true
  else
    if 0 ≤ (12 : Int) ∧ (12 : Int) < (x0.size : Int) then
    L_seg_tcp_1 N x0 0 0 0 0 0 0 ByteArray.empty ((bt x0 12) != 80)
    else none
def d_seg_tcp (r : GSeg × Bool) : D := .tup [.agg [.int .i64 r.1.Proto, .int .i64 r.1.Sport, .int .i64 r.1.Dport, .int .i64 r.1.Seq, .int .i64 r.1.Ack, .int .i64 r.1.Flags, .str r.1.Body], .bool r.2]
theorem g_seg_tcp_1 {c : Cx} (hc : Is c Tryz.prog ty 175 31) (N : Nat) {r : GSeg × Bool} (hfin : c.Fin [] (d_seg_tcp r) []) (t0 : ByteArray) (b116_0 b116_1 b116_2 b116_3 b116_4 b116_5 : Int) (b116_6 : ByteArray) (t11 : Bool) (h : L_seg_tcp_1 N t0 b116_0 b116_1 b116_2 b116_3 b116_4 b116_5 b116_6 t11 = some r) : c.Goes (items (bodyOf Tryz.f175) [.c 13, .c 7]) ⟨[(0, .str t0), (2, .ptr 116 0), (11, .bool t11)], [(116, some ⟨false, 0, [.int .i64 b116_0, .int .i64 b116_1, .int .i64 b116_2, .int .i64 b116_3, .int .i64 b116_4, .int .i64 b116_5, .str b116_6]⟩)]⟩ := by
  unfold L_seg_tcp_1 at h
  rcases brk h with ⟨h0, k0⟩ | ⟨h0, k0⟩
  · subst h0
    replace h := k0
    exact hc.rt hfin (fn := Tryz.f175) (by kernel_rfl) (orc := []) (m := 3) (by kernel_rfl) .nil h Le.rfl rfl
  · subst h0
    replace h := k0
    obtain ⟨h1, h⟩ := chk h
    obtain ⟨v1, h2, h⟩ := bind_of h
    obtain ⟨h3, h⟩ := chk h
    obtain ⟨v2, h4, h⟩ := bind_of h
    obtain ⟨h5, h⟩ := chk h
    obtain ⟨v3, h6, h⟩ := bind_of h
    obtain ⟨h7, h⟩ := chk h
    obtain ⟨v4, h8, h⟩ := bind_of h
    obtain ⟨h9, h⟩ := chk h
    obtain ⟨h10, h⟩ := chk h
    exact hc.rt hfin (fn := Tryz.f175) (by kernel_rfl) (orc := [(3, [(2, oR (d_ip_Number v1)), (5, oR (d_ip_Number v2)), (8, oR (d_ip_Number v3)), (11, oR (d_ip_Number v4))])]) (m := 4) (by kernel_rfl) (.cons (h1) (.cons (c_ip_Number N (t0.extract 0 2) h2) (.cons (h3) (.cons (c_ip_Number N (t0.extract 2 4) h4) (.cons (h5) (.cons (c_ip_Number N (t0.extract 4 8) h6) (.cons (h7) (.cons (c_ip_Number N (t0.extract 8 12) h8) (.cons (h9) (.cons (h10) .nil)))))))))) h Le.rfl rfl

theorem g_seg_tcp_0 {c : Cx} (hc : Is c Tryz.prog ty 175 31) (N : Nat) {r : GSeg × Bool} (hfin : c.Fin [] (d_seg_tcp r) []) (x0 : ByteArray) (h : L_seg_tcp N x0 = some r) : c.Goes (items (bodyOf Tryz.f175) [.c 1]) ⟨[(0, .str x0)], []⟩ := by
  unfold L_seg_tcp at h
  rcases brk h with ⟨h0, h⟩ | ⟨h0, h⟩
  · exact hc.jump (orc := [(1, [(3, oT)])]) (m := 5) (kt := [0, 2, 11]) (kh := [(116, 116)]) (by kernel_rfl) (.cons (Le.tt h0) .nil) (g_seg_tcp_1 hc N hfin x0 0 0 0 0 0 0 ByteArray.empty true h)
  · obtain ⟨h1, h⟩ := chk h
    exact hc.jump (orc := [(1, [(3, oF)])]) (m := 5) (kt := [0, 2, 11]) (kh := [(116, 116)]) (by kernel_rfl) (.cons (Le.ff h0) (.cons (h1) .nil)) (g_seg_tcp_1 hc N hfin x0 0 0 0 0 0 0 ByteArray.empty ((bt x0 12) != 80) h)

theorem c_seg_tcp (N : Nat) (x0 : ByteArray) {r : GSeg × Bool} (h : L_seg_tcp N x0 = some r) : Con Tryz.prog 175 [.str x0] [] (d_seg_tcp r) [] :=
  con_in ok mix (fn := Tryz.f175) (by kernel_rfl) (by kernel_rfl) fun hc hfin => g_seg_tcp_0 hc N hfin x0 h
/-! ### wharfage/seg.udp -/
def L_seg_udp_1 (N : Nat) (t0 : ByteArray) (b116_0 b116_1 b116_2 b116_3 b116_4 b116_5 : Int) (b116_6 : ByteArray) (t14 : Bool) : Option (GSeg × Bool) :=
  bif t14 then
    some ((GSeg.mk 0 0 0 0 0 0 ByteArray.empty), false)
  else
    if 0 ≤ (2 : Int) ∧ (2 : Int) ≤ (t0.size : Int) ∧ 0 ≤ (0 : Int) ∧ (0 : Int) ≤ (2 : Int) then
    (L_ip_Number N (t0.extract 0 2)).bind fun v1 =>
    if 0 ≤ (4 : Int) ∧ (4 : Int) ≤ (t0.size : Int) ∧ 0 ≤ (2 : Int) ∧ (2 : Int) ≤ (4 : Int) then
    (L_ip_Number N (t0.extract 2 4)).bind fun v2 =>
    if 0 ≤ (t0.size : Int) ∧ (t0.size : Int) ≤ (t0.size : Int) ∧ 0 ≤ (8 : Int) ∧ (8 : Int) ≤ (t0.size : Int) then
    some ((GSeg.mk 17 v1 v2 0 0 0 (t0.extract 8 t0.size)), true)
    else none
    else none
    else none
def L_seg_udp (N : Nat) (x0 : ByteArray) : Option (GSeg × Bool) :=
  bif (decide ((x0.size : Int) < 8)) then
    L_seg_udp_1 N x0 0 0 0 0 0 0 ByteArray.empty true
  else
    if 0 ≤ (6 : Int) ∧ (6 : Int) ≤ (x0.size : Int) ∧ 0 ≤ (4 : Int) ∧ (4 : Int) ≤ (6 : Int) then
    (L_ip_Number N (x0.extract 4 6)).bind fun v1 =>
    L_seg_udp_1 N x0 0 0 0 0 0 0 ByteArray.empty (v1 != (x0.size : Int))
    else none
def d_seg_udp (r : GSeg × Bool) : D := .tup [.agg [.int .i64 r.1.Proto, .int .i64 r.1.Sport, .int .i64 r.1.Dport, .int .i64 r.1.Seq, .int .i64 r.1.Ack, .int .i64 r.1.Flags, .str r.1.Body], .bool r.2]
theorem g_seg_udp_1 {c : Cx} (hc : Is c Tryz.prog ty 176 25) (N : Nat) {r : GSeg × Bool} (hfin : c.Fin [] (d_seg_udp r) []) (t0 : ByteArray) (b116_0 b116_1 b116_2 b116_3 b116_4 b116_5 : Int) (b116_6 : ByteArray) (t14 : Bool) (h : L_seg_udp_1 N t0 b116_0 b116_1 b116_2 b116_3 b116_4 b116_5 b116_6 t14 = some r) : c.Goes (items (bodyOf Tryz.f176) [.c 13, .c 7]) ⟨[(0, .str t0), (2, .ptr 116 0), (14, .bool t14)], [(116, some ⟨false, 0, [.int .i64 b116_0, .int .i64 b116_1, .int .i64 b116_2, .int .i64 b116_3, .int .i64 b116_4, .int .i64 b116_5, .str b116_6]⟩)]⟩ := by
  unfold L_seg_udp_1 at h
  rcases brk h with ⟨h0, k0⟩ | ⟨h0, k0⟩
  · subst h0
    replace h := k0
    exact hc.rt hfin (fn := Tryz.f176) (by kernel_rfl) (orc := []) (m := 3) (by kernel_rfl) .nil h Le.rfl rfl
  · subst h0
    replace h := k0
    obtain ⟨h1, h⟩ := chk h
    obtain ⟨v1, h2, h⟩ := bind_of h
    obtain ⟨h3, h⟩ := chk h
    obtain ⟨v2, h4, h⟩ := bind_of h
    obtain ⟨h5, h⟩ := chk h
    exact hc.rt hfin (fn := Tryz.f176) (by kernel_rfl) (orc := [(3, [(2, oR (d_ip_Number v1)), (5, oR (d_ip_Number v2))])]) (m := 4) (by kernel_rfl) (.cons (h1) (.cons (c_ip_Number N (t0.extract 0 2) h2) (.cons (h3) (.cons (c_ip_Number N (t0.extract 2 4) h4) (.cons (h5) .nil))))) h Le.rfl rfl

theorem g_seg_udp_0 {c : Cx} (hc : Is c Tryz.prog ty 176 25) (N : Nat) {r : GSeg × Bool} (hfin : c.Fin [] (d_seg_udp r) []) (x0 : ByteArray) (h : L_seg_udp N x0 = some r) : c.Goes (items (bodyOf Tryz.f176) [.c 1]) ⟨[(0, .str x0)], []⟩ := by
  unfold L_seg_udp at h
  rcases brk h with ⟨h0, h⟩ | ⟨h0, h⟩
  · exact hc.jump (orc := [(1, [(3, oT)])]) (m := 5) (kt := [0, 2, 14]) (kh := [(116, 116)]) (by kernel_rfl) (.cons (Le.tt h0) .nil) (g_seg_udp_1 hc N hfin x0 0 0 0 0 0 0 ByteArray.empty true h)
  · obtain ⟨h1, h⟩ := chk h
    obtain ⟨v1, h2, h⟩ := bind_of h
    exact hc.jump (orc := [(1, [(3, oF), (6, oR (d_ip_Number v1))])]) (m := 5) (kt := [0, 2, 14]) (kh := [(116, 116)]) (by kernel_rfl) (.cons (Le.ff h0) (.cons (h1) (.cons (c_ip_Number N (x0.extract 4 6) h2) .nil))) (g_seg_udp_1 hc N hfin x0 0 0 0 0 0 0 ByteArray.empty (v1 != (x0.size : Int)) h)

theorem c_seg_udp (N : Nat) (x0 : ByteArray) {r : GSeg × Bool} (h : L_seg_udp N x0 = some r) : Con Tryz.prog 176 [.str x0] [] (d_seg_udp r) [] :=
  con_in ok mix (fn := Tryz.f176) (by kernel_rfl) (by kernel_rfl) fun hc hfin => g_seg_udp_0 hc N hfin x0 h
/-! ### wharfage/seg.May -/
def L_seg_May_2 (N : Nat) (t2 : Bool) : Option (Bool) :=
  some t2
def L_seg_May_3 (N : Nat) (t2 : Bool) : Option (Bool) :=
  some t2
def L_seg_May_1 (N : Nat) (b108_0 b108_1 b108_2 b108_3 b108_4 b108_5 : Int) (b108_6 : ByteArray) (t3 : Bool) : Option (Bool) :=
  bif (b108_0 == 6) then
    bif t3 then
      (L_ip_In N b108_3 32).bind fun v1 =>
      bif v1 then
        (L_ip_In N b108_4 32).bind fun v2 =>
        bif v2 then
          (L_ip_In N b108_5 6).bind fun v3 =>
          L_seg_May_2 N v3
        else
          L_seg_May_2 N false
      else
        L_seg_May_2 N false
    else
      L_seg_May_2 N false
  else
    bif (b108_0 == 17) then
      bif t3 then
        bif (b108_3 == 0) then
          bif (b108_4 == 0) then
            L_seg_May_3 N (b108_5 == 0)
          else
            L_seg_May_3 N false
        else
          L_seg_May_3 N false
      else
        L_seg_May_3 N false
    else
      some false
def L_seg_May (N : Nat) (x0 : GSeg) : Option (Bool) :=
  (L_ip_In N x0.Sport 16).bind fun v1 =>
  bif v1 then
    (L_ip_In N x0.Dport 16).bind fun v2 =>
    bif v2 then
      L_seg_May_1 N x0.Proto x0.Sport x0.Dport x0.Seq x0.Ack x0.Flags x0.Body (decide ((x0.Body.size : Int) ≤ 256))
    else
      L_seg_May_1 N x0.Proto x0.Sport x0.Dport x0.Seq x0.Ack x0.Flags x0.Body false
  else
    L_seg_May_1 N x0.Proto x0.Sport x0.Dport x0.Seq x0.Ack x0.Flags x0.Body false
def d_seg_May (r : Bool) : D := .bool r
theorem g_seg_May_2 {c : Cx} (hc : Is c Tryz.prog ty 177 56) (N : Nat) {r : Bool} (hfin : c.Fin [] (d_seg_May r) []) (t2 : Bool) (h : L_seg_May_2 N t2 = some r) : c.Goes (items (bodyOf Tryz.f177) [.c 427, .b 0, .c 15]) ⟨[(2, .bool t2)], []⟩ := by
  unfold L_seg_May_2 at h
  exact hc.rt hfin (fn := Tryz.f177) (by kernel_rfl) (orc := []) (m := 0) (by kernel_rfl) .nil h Le.rfl rfl

theorem g_seg_May_3 {c : Cx} (hc : Is c Tryz.prog ty 177 56) (N : Nat) {r : Bool} (hfin : c.Fin [] (d_seg_May r) []) (t2 : Bool) (h : L_seg_May_3 N t2 = some r) : c.Goes (items (bodyOf Tryz.f177) [.c 1771, .b 0, .c 15]) ⟨[(2, .bool t2)], []⟩ := by
  unfold L_seg_May_3 at h
  exact hc.rt hfin (fn := Tryz.f177) (by kernel_rfl) (orc := []) (m := 0) (by kernel_rfl) .nil h Le.rfl rfl

theorem g_seg_May_1 {c : Cx} (hc : Is c Tryz.prog ty 177 56) (N : Nat) {r : Bool} (hfin : c.Fin [] (d_seg_May r) []) (b108_0 b108_1 b108_2 b108_3 b108_4 b108_5 : Int) (b108_6 : ByteArray) (t3 : Bool) (h : L_seg_May_1 N b108_0 b108_1 b108_2 b108_3 b108_4 b108_5 b108_6 t3 = some r) : c.Goes (items (bodyOf Tryz.f177) [.c 7]) ⟨[(1, .ptr 108 0), (3, .bool t3)], [(108, some ⟨false, 0, [.int .i64 b108_0, .int .i64 b108_1, .int .i64 b108_2, .int .i64 b108_3, .int .i64 b108_4, .int .i64 b108_5, .str b108_6]⟩)]⟩ := by
  unfold L_seg_May_1 at h
  rcases brk h with ⟨h0, h⟩ | ⟨h0, h⟩
  · rcases brk h with ⟨h1, h⟩ | ⟨h1, h⟩
    · obtain ⟨v1, h2, h⟩ := bind_of h
      rcases brk h with ⟨h3, h⟩ | ⟨h3, h⟩
      · obtain ⟨v2, h4, h⟩ := bind_of h
        rcases brk h with ⟨h5, h⟩ | ⟨h5, h⟩
        · obtain ⟨v3, h6, h⟩ := bind_of h
          exact hc.jump (orc := [(3, [(1, oT)]), (4, [(1, oT), (4, oR (d_ip_In v1)), (6, oT), (9, oR (d_ip_In v2)), (11, oT), (14, oR (d_ip_In v3))])]) (m := 9) (kt := [2]) (kh := []) (by kernel_rfl) (.cons (Le.tt h0) (.cons (Le.tt h1) (.cons (c_ip_In N b108_3 32 h2) (.cons (Le.tt h3) (.cons (c_ip_In N b108_4 32 h4) (.cons (Le.tt h5) (.cons (c_ip_In N b108_5 6 h6) .nil))))))) (g_seg_May_2 hc N hfin v3 h)
        · exact hc.jump (orc := [(3, [(1, oT)]), (4, [(1, oT), (4, oR (d_ip_In v1)), (6, oT), (9, oR (d_ip_In v2)), (11, oF)])]) (m := 9) (kt := [2]) (kh := []) (by kernel_rfl) (.cons (Le.tt h0) (.cons (Le.tt h1) (.cons (c_ip_In N b108_3 32 h2) (.cons (Le.tt h3) (.cons (c_ip_In N b108_4 32 h4) (.cons (Le.ff h5) .nil)))))) (g_seg_May_2 hc N hfin false h)
      · exact hc.jump (orc := [(3, [(1, oT)]), (4, [(1, oT), (4, oR (d_ip_In v1)), (6, oF)])]) (m := 9) (kt := [2]) (kh := []) (by kernel_rfl) (.cons (Le.tt h0) (.cons (Le.tt h1) (.cons (c_ip_In N b108_3 32 h2) (.cons (Le.ff h3) .nil)))) (g_seg_May_2 hc N hfin false h)
    · exact hc.jump (orc := [(3, [(1, oT)]), (4, [(1, oF)])]) (m := 9) (kt := [2]) (kh := []) (by kernel_rfl) (.cons (Le.tt h0) (.cons (Le.ff h1) .nil)) (g_seg_May_2 hc N hfin false h)
  · rcases brk h with ⟨h1, h⟩ | ⟨h1, h⟩
    · rcases brk h with ⟨h2, h⟩ | ⟨h2, h⟩
      · rcases brk h with ⟨h3, h⟩ | ⟨h3, h⟩
        · rcases brk h with ⟨h4, h⟩ | ⟨h4, h⟩
          · exact hc.jump (orc := [(3, [(1, oF)]), (5, [(1, oT)]), (6, [(1, oT), (6, oT), (11, oT)])]) (m := 12) (kt := [2]) (kh := []) (by kernel_rfl) (.cons (Le.ff h0) (.cons (Le.tt h1) (.cons (Le.tt h2) (.cons (Le.tt h3) (.cons (Le.tt h4) .nil))))) (g_seg_May_3 hc N hfin (b108_5 == 0) h)
          · exact hc.jump (orc := [(3, [(1, oF)]), (5, [(1, oT)]), (6, [(1, oT), (6, oT), (11, oF)])]) (m := 12) (kt := [2]) (kh := []) (by kernel_rfl) (.cons (Le.ff h0) (.cons (Le.tt h1) (.cons (Le.tt h2) (.cons (Le.tt h3) (.cons (Le.ff h4) .nil))))) (g_seg_May_3 hc N hfin false h)
        · exact hc.jump (orc := [(3, [(1, oF)]), (5, [(1, oT)]), (6, [(1, oT), (6, oF)])]) (m := 12) (kt := [2]) (kh := []) (by kernel_rfl) (.cons (Le.ff h0) (.cons (Le.tt h1) (.cons (Le.tt h2) (.cons (Le.ff h3) .nil)))) (g_seg_May_3 hc N hfin false h)
      · exact hc.jump (orc := [(3, [(1, oF)]), (5, [(1, oT)]), (6, [(1, oF)])]) (m := 12) (kt := [2]) (kh := []) (by kernel_rfl) (.cons (Le.ff h0) (.cons (Le.tt h1) (.cons (Le.ff h2) .nil))) (g_seg_May_3 hc N hfin false h)
    · exact hc.rt hfin (fn := Tryz.f177) (by kernel_rfl) (orc := [(3, [(1, oF)]), (5, [(1, oF)])]) (m := 14) (by kernel_rfl) (.cons (Le.ff h0) (.cons (Le.ff h1) .nil)) h Le.rfl rfl

theorem g_seg_May_0 {c : Cx} (hc : Is c Tryz.prog ty 177 56) (N : Nat) {r : Bool} (hfin : c.Fin [] (d_seg_May r) []) (x0 : GSeg) (h : L_seg_May N x0 = some r) : c.Goes (items (bodyOf Tryz.f177) [.c 1]) ⟨[(0, .agg [.int .i64 x0.Proto, .int .i64 x0.Sport, .int .i64 x0.Dport, .int .i64 x0.Seq, .int .i64 x0.Ack, .int .i64 x0.Flags, .str x0.Body])], []⟩ := by
  unfold L_seg_May at h
  obtain ⟨v1, h0, h⟩ := bind_of h
  rcases brk h with ⟨h1, h⟩ | ⟨h1, h⟩
  · obtain ⟨v2, h2, h⟩ := bind_of h
    rcases brk h with ⟨h3, h⟩ | ⟨h3, h⟩
    · exact hc.jump (orc := [(1, [(2, oR (d_ip_In v1)), (3, oT), (6, oR (d_ip_In v2)), (8, oT)])]) (m := 4) (kt := [1, 3]) (kh := [(108, 108)]) (by kernel_rfl) (.cons (c_ip_In N x0.Sport 16 h0) (.cons (Le.tt h1) (.cons (c_ip_In N x0.Dport 16 h2) (.cons (Le.tt h3) .nil)))) (g_seg_May_1 hc N hfin x0.Proto x0.Sport x0.Dport x0.Seq x0.Ack x0.Flags x0.Body (decide ((x0.Body.size : Int) ≤ 256)) h)
    · exact hc.jump (orc := [(1, [(2, oR (d_ip_In v1)), (3, oT), (6, oR (d_ip_In v2)), (8, oF)])]) (m := 4) (kt := [1, 3]) (kh := [(108, 108)]) (by kernel_rfl) (.cons (c_ip_In N x0.Sport 16 h0) (.cons (Le.tt h1) (.cons (c_ip_In N x0.Dport 16 h2) (.cons (Le.ff h3) .nil)))) (g_seg_May_1 hc N hfin x0.Proto x0.Sport x0.Dport x0.Seq x0.Ack x0.Flags x0.Body false h)
  · exact hc.jump (orc := [(1, [(2, oR (d_ip_In v1)), (3, oF)])]) (m := 4) (kt := [1, 3]) (kh := [(108, 108)]) (by kernel_rfl) (.cons (c_ip_In N x0.Sport 16 h0) (.cons (Le.ff h1) .nil)) (g_seg_May_1 hc N hfin x0.Proto x0.Sport x0.Dport x0.Seq x0.Ack x0.Flags x0.Body false h)

theorem c_seg_May (N : Nat) (x0 : GSeg) {r : Bool} (h : L_seg_May N x0 = some r) : Con Tryz.prog 177 [.agg [.int .i64 x0.Proto, .int .i64 x0.Sport, .int .i64 x0.Dport, .int .i64 x0.Seq, .int .i64 x0.Ack, .int .i64 x0.Flags, .str x0.Body]] [] (d_seg_May r) [] :=
  con_in ok mix (fn := Tryz.f177) (by kernel_rfl) (by kernel_rfl) fun hc hfin => g_seg_May_0 hc N hfin x0 h
/-! ### (wharfage/seg.ends).may -/
def L_seg_ends_may_1 (N : Nat) (t2 : Bool) : Option (Bool) :=
  some t2
def L_seg_ends_may (N : Nat) (x0 : Gseg_ends) : Option (Bool) :=
  (L_ip_In N x0.src_ 32).bind fun v1 =>
  bif v1 then
    (L_ip_In N x0.dst_ 32).bind fun v2 =>
    L_seg_ends_may_1 N v2
  else
    L_seg_ends_may_1 N false
def d_seg_ends_may (r : Bool) : D := .bool r
theorem g_seg_ends_may_1 {c : Cx} (hc : Is c Tryz.prog ty 178 11) (N : Nat) {r : Bool} (hfin : c.Fin [] (d_seg_ends_may r) []) (t2 : Bool) (h : L_seg_ends_may_1 N t2 = some r) : c.Goes (items (bodyOf Tryz.f178) [.c 7]) ⟨[(2, .bool t2)], []⟩ := by
  unfold L_seg_ends_may_1 at h
  exact hc.rt hfin (fn := Tryz.f178) (by kernel_rfl) (orc := []) (m := 0) (by kernel_rfl) .nil h Le.rfl rfl

theorem g_seg_ends_may_0 {c : Cx} (hc : Is c Tryz.prog ty 178 11) (N : Nat) {r : Bool} (hfin : c.Fin [] (d_seg_ends_may r) []) (x0 : Gseg_ends) (h : L_seg_ends_may N x0 = some r) : c.Goes (items (bodyOf Tryz.f178) [.c 1]) ⟨[(0, .agg [.int .i64 x0.src_, .int .i64 x0.dst_])], []⟩ := by
  unfold L_seg_ends_may at h
  obtain ⟨v1, h0, h⟩ := bind_of h
  rcases brk h with ⟨h1, h⟩ | ⟨h1, h⟩
  · obtain ⟨v2, h2, h⟩ := bind_of h
    exact hc.jump (orc := [(1, [(2, oR (d_ip_In v1)), (3, oT), (6, oR (d_ip_In v2))])]) (m := 4) (kt := [2]) (kh := []) (by kernel_rfl) (.cons (c_ip_In N x0.src_ 32 h0) (.cons (Le.tt h1) (.cons (c_ip_In N x0.dst_ 32 h2) .nil))) (g_seg_ends_may_1 hc N hfin v2 h)
  · exact hc.jump (orc := [(1, [(2, oR (d_ip_In v1)), (3, oF)])]) (m := 4) (kt := [2]) (kh := []) (by kernel_rfl) (.cons (c_ip_In N x0.src_ 32 h0) (.cons (Le.ff h1) .nil)) (g_seg_ends_may_1 hc N hfin false h)

theorem c_seg_ends_may (N : Nat) (x0 : Gseg_ends) {r : Bool} (h : L_seg_ends_may N x0 = some r) : Con Tryz.prog 178 [.agg [.int .i64 x0.src_, .int .i64 x0.dst_]] [] (d_seg_ends_may r) [] :=
  con_in ok mix (fn := Tryz.f178) (by kernel_rfl) (by kernel_rfl) fun hc hfin => g_seg_ends_may_0 hc N hfin x0 h
/-! ### wharfage/ip.Bytes -/
def L_ip_Bytes_1 (N : Nat) : Nat → Int → (List Int) → Int → Option (ByteArray)
  | 0, _, _, _ => none
  | fuel + 1, t0, b164, t6 =>
    bif (decide (t6 ≥ 0)) then
      if 0 ≤ t6 ∧ t6 < ((b164.length : Nat) : Int) then
      L_ip_Bytes_1 N fuel (t0.fdiv (2 ^ 8)) (b164.set t6.toNat (IntKind.u8.wrap t0)) (IntKind.i64.wrap (t6 - 1))
      else none
    else
      some (mkS b164)
def L_ip_Bytes (N : Nat) (x0 x1 : Int) : Option (ByteArray) :=
  if 0 ≤ x1 ∧ x1 ≤ x1 ∧ ((1 : Nat) : Int) * x1 ≤ 140737488355328 ∧ x1 ≤ 4611686018427387904 then
  L_ip_Bytes_1 N N x0 (List.replicate (Int.toNat x1) (0 : Int)) (IntKind.i64.wrap (x1 - 1))
  else none
def d_ip_Bytes (r : ByteArray) : D := .str r
theorem g_ip_Bytes_1 {c : Cx} (hc : Is c Tryz.prog ty 185 24) (N : Nat) {r : ByteArray} (hfin : c.Fin [] (d_ip_Bytes r) []) : ∀ (fuel : Nat) (t0 : Int) (b164 : (List Int)) (t6 : Int), L_ip_Bytes_1 N fuel t0 b164 t6 = some r → c.Goes (items (bodyOf Tryz.f185) [.c 75, .l 75, .b 0, .c 15]) ⟨[(0, .int .i64 t0), (5, .ref 164 0 b164.length b164.length), (6, .int .i64 t6)], [(164, some ⟨true, 1, (eL (eInt .u8) b164)⟩)]⟩ := by
  intro fuel
  induction fuel with
  | zero => intro t0 b164 t6 h; simp [L_ip_Bytes_1] at h
  | succ fuel ih =>
    intro t0 b164 t6 h
    unfold L_ip_Bytes_1 at h
    rcases brk h with ⟨h0, h⟩ | ⟨h0, h⟩
    · obtain ⟨h1, h⟩ := chk h
      exact hc.jumpL (orc := [(3, [(1, oT)]), (5, [(4, oC (.ptr 164 (t6.toNat * 1 + 0))), (5, { cb := [(164, eL (eInt .u8) (b164.set t6.toNat (IntKind.u8.wrap t0)))] })])]) (m := 13) (kt := [0, 5, 6]) (kh := [(164, 164)]) (by kernel_rfl) (.cons (Le.tt h0) (.cons (h1) (.cons (Le.pt (b := 164) (k := t6.toNat * 1)) (.cons (st_need (xs := b164) (eInt_len .u8) (ixl h1) (o := 0) (k := 1) (vs := [.int .u8 (IntKind.u8.wrap t0)]) (p := true) (by decide) rfl rfl) (.cons (st_set (xs := b164) (eInt_len .u8) (ixl h1) (o := 0) (vs := [.int .u8 (IntKind.u8.wrap t0)]) (y := (IntKind.u8.wrap t0)) (Nat.le_of_ble_eq_true rfl) rfl) (.cons ((by decide : (0:Int) ≤ 8)) .nil)))))) (.cons (Le.rfl) (.cons (Le.rfs (b := 164) (by first | rfl | omega | (simp only [List.length_append, List.length_take, List.length_drop]; omega) | simp : b164.length = (b164.set t6.toNat (IntKind.u8.wrap t0)).length) (by first | rfl | omega | (simp only [List.length_append, List.length_take, List.length_drop]; omega) | simp : b164.length = (b164.set t6.toNat (IntKind.u8.wrap t0)).length)) (.cons (Le.rfl) .nil))) (ih (t0.fdiv (2 ^ 8)) (b164.set t6.toNat (IntKind.u8.wrap t0)) (IntKind.i64.wrap (t6 - 1)) h)
    · exact hc.rt hfin (fn := Tryz.f185) (by kernel_rfl) (orc := [(3, [(1, oF)]), (7, [(1, oC (.str (mkS b164)))])]) (m := 7) (by kernel_rfl) (.cons (Le.ff h0) (.cons (byte_ok b164) (.cons (Le.str (bytesD_eq b164)) .nil))) h Le.rfl rfl

theorem g_ip_Bytes_0 {c : Cx} (hc : Is c Tryz.prog ty 185 24) (N : Nat) {r : ByteArray} (hfin : c.Fin [] (d_ip_Bytes r) []) (x0 x1 : Int) (h : L_ip_Bytes N x0 x1 = some r) : c.Goes (items (bodyOf Tryz.f185) [.c 1]) ⟨[(0, .int .i64 x0), (1, .int .i64 x1)], []⟩ := by
  unfold L_ip_Bytes at h
  obtain ⟨h0, h⟩ := chk h
  exact hc.jump (orc := [(1, [(1, { cv := some (.ref 164 0 (List.replicate (Int.toNat x1) (0 : Int)).length (List.replicate (Int.toNat x1) (0 : Int)).length), cb := [(164, eL (eInt .u8) (List.replicate (Int.toNat x1) (0 : Int)))] })])]) (m := 9) (kt := [0, 5, 6]) (kh := [(164, 164)]) (by kernel_rfl) (.cons (h0) (.cons (Le.apr (b := 164) (by first | rfl | simp : (List.replicate (Int.toNat x1) (0 : Int)).length = (Int.toNat x1))) (.cons (repD_eq (e := (eInt .u8)) (z := 0) (cs := [.int .u8 0]) rfl (Int.toNat x1)) .nil))) (g_ip_Bytes_1 hc N hfin N x0 (List.replicate (Int.toNat x1) (0 : Int)) (IntKind.i64.wrap (x1 - 1)) h)

theorem c_ip_Bytes (N : Nat) (x0 x1 : Int) {r : ByteArray} (h : L_ip_Bytes N x0 x1 = some r) : Con Tryz.prog 185 [.int .i64 x0, .int .i64 x1] [] (d_ip_Bytes r) [] :=
  con_in ok mix (fn := Tryz.f185) (by kernel_rfl) (by kernel_rfl) fun hc hfin => g_ip_Bytes_0 hc N hfin x0 x1 h
/-! ### (wharfage/seg.ends).sum -/
def L_seg_ends_sum (N : Nat) (x0 : Gseg_ends) (x1 : Int) (x2 : ByteArray) : Option (Int) :=
  (L_ip_Bytes N x0.src_ 4).bind fun v1 =>
  (L_ip_Bytes N x0.dst_ 4).bind fun v2 =>
  if ((v1.size + v2.size : Nat) : Int) ≤ 9223372036854775807 then
  (L_ip_Bytes N x1 2).bind fun v3 =>
  if (((v1 ++ v2).size + v3.size : Nat) : Int) ≤ 9223372036854775807 then
  (L_ip_Bytes N (x2.size : Int) 2).bind fun v4 =>
  if ((((v1 ++ v2) ++ v3).size + v4.size : Nat) : Int) ≤ 9223372036854775807 then
  if (((((v1 ++ v2) ++ v3) ++ v4).size + x2.size : Nat) : Int) ≤ 9223372036854775807 then
  (L_sum_Sum N ((((v1 ++ v2) ++ v3) ++ v4) ++ x2)).bind fun v5 =>
  some v5
  else none
  else none
  else none
  else none
def d_seg_ends_sum (r : Int) : D := .int .i64 r
theorem g_seg_ends_sum_0 {c : Cx} (hc : Is c Tryz.prog ty 179 24) (N : Nat) {r : Int} (hfin : c.Fin [] (d_seg_ends_sum r) []) (x0 : Gseg_ends) (x1 : Int) (x2 : ByteArray) (h : L_seg_ends_sum N x0 x1 x2 = some r) : c.Goes (items (bodyOf Tryz.f179) [.c 1]) ⟨[(0, .agg [.int .i64 x0.src_, .int .i64 x0.dst_]), (1, .int .i64 x1), (2, .str x2)], []⟩ := by
  unfold L_seg_ends_sum at h
  obtain ⟨v1, h0, h⟩ := bind_of h
  obtain ⟨v2, h1, h⟩ := bind_of h
  obtain ⟨h2, h⟩ := chk h
  obtain ⟨v3, h3, h⟩ := bind_of h
  obtain ⟨h4, h⟩ := chk h
  obtain ⟨v4, h5, h⟩ := bind_of h
  obtain ⟨h6, h⟩ := chk h
  obtain ⟨h7, h⟩ := chk h
  obtain ⟨v5, h8, h⟩ := bind_of h
  exact hc.rt hfin (fn := Tryz.f179) (by kernel_rfl) (orc := [(1, [(2, oR (d_ip_Bytes v1)), (5, oR (d_ip_Bytes v2)), (8, oR (d_ip_Bytes v3)), (12, oR (d_ip_Bytes v4)), (16, oR (d_sum_Sum v5))])]) (m := 4) (by kernel_rfl) (.cons (c_ip_Bytes N x0.src_ 4 h0) (.cons (c_ip_Bytes N x0.dst_ 4 h1) (.cons (h2) (.cons (c_ip_Bytes N x1 2 h3) (.cons (h4) (.cons (c_ip_Bytes N (x2.size : Int) 2 h5) (.cons (h6) (.cons (h7) (.cons (c_sum_Sum N ((((v1 ++ v2) ++ v3) ++ v4) ++ x2) h8) .nil))))))))) h Le.rfl rfl

theorem c_seg_ends_sum (N : Nat) (x0 : Gseg_ends) (x1 : Int) (x2 : ByteArray) {r : Int} (h : L_seg_ends_sum N x0 x1 x2 = some r) : Con Tryz.prog 179 [.agg [.int .i64 x0.src_, .int .i64 x0.dst_], .int .i64 x1, .str x2] [] (d_seg_ends_sum r) [] :=
  con_in ok mix (fn := Tryz.f179) (by kernel_rfl) (by kernel_rfl) fun hc hfin => g_seg_ends_sum_0 hc N hfin x0 x1 x2 h
/-! ### wharfage/seg.Get -/
def L_seg_Get_2 (N : Nat) (b164_0 b164_1 b164_2 b164_3 b164_4 b164_5 : Int) (b164_6 : ByteArray) (b188_0 b188_1 b188_2 b188_3 b188_4 b188_5 : Int) (b188_6 : ByteArray) (t58 : Bool) : Option (GSeg × Int) :=
  bif t58 then
    some ((GSeg.mk 0 0 0 0 0 0 ByteArray.empty), 300)
  else
    some ((GSeg.mk b188_0 b188_1 b188_2 b188_3 b188_4 b188_5 b188_6), 0)
def L_seg_Get_1 (N : Nat) (t0 : Int) (t1 : ByteArray) (b164_0 b164_1 b164_2 b164_3 b164_4 b164_5 : Int) (b164_6 : ByteArray) (b180_0 b180_1 b188_0 b188_1 b188_2 b188_3 b188_4 b188_5 : Int) (b188_6 : ByteArray) (t12 t13 : Bool) : Option (GSeg × Int) :=
  bif (!t12) then
    L_seg_Get_2 N b164_0 b164_1 b164_2 b164_3 b164_4 b164_5 b164_6 b188_0 b188_1 b188_2 b188_3 b188_4 b188_5 b188_6 true
  else
    (L_seg_May N (GSeg.mk b188_0 b188_1 b188_2 b188_3 b188_4 b188_5 b188_6)).bind fun v1 =>
    bif (!v1) then
      L_seg_Get_2 N b164_0 b164_1 b164_2 b164_3 b164_4 b164_5 b164_6 b188_0 b188_1 b188_2 b188_3 b188_4 b188_5 b188_6 true
    else
      (L_seg_ends_may N (Gseg_ends.mk b180_0 b180_1)).bind fun v2 =>
      bif (!v2) then
        L_seg_Get_2 N b164_0 b164_1 b164_2 b164_3 b164_4 b164_5 b164_6 b188_0 b188_1 b188_2 b188_3 b188_4 b188_5 b188_6 true
      else
        bif (!t13) then
          (L_seg_ends_sum N (Gseg_ends.mk b180_0 b180_1) t0 t1).bind fun v3 =>
          L_seg_Get_2 N b164_0 b164_1 b164_2 b164_3 b164_4 b164_5 b164_6 b188_0 b188_1 b188_2 b188_3 b188_4 b188_5 b188_6 (v3 != 65535)
        else
          L_seg_Get_2 N b164_0 b164_1 b164_2 b164_3 b164_4 b164_5 b164_6 b188_0 b188_1 b188_2 b188_3 b188_4 b188_5 b188_6 false
def L_seg_Get (N : Nat) (x0 : Int) (x1 : ByteArray) (x2 x3 : Int) : Option (GSeg × Int) :=
  bif (x0 == 6) then
    (L_seg_tcp N x1).bind fun v1 =>
    L_seg_Get_1 N x0 x1 0 0 0 0 0 0 ByteArray.empty x2 x3 v1.1.Proto v1.1.Sport v1.1.Dport v1.1.Seq v1.1.Ack v1.1.Flags v1.1.Body v1.2 false
  else
    bif (x0 == 17) then
      (L_seg_udp N x1).bind fun v1 =>
      bif v1.2 then
        if 0 ≤ (8 : Int) ∧ (8 : Int) ≤ (x1.size : Int) ∧ 0 ≤ (6 : Int) ∧ (6 : Int) ≤ (8 : Int) then
        L_seg_Get_1 N x0 x1 0 0 0 0 0 0 ByteArray.empty x2 x3 v1.1.Proto v1.1.Sport v1.1.Dport v1.1.Seq v1.1.Ack v1.1.Flags v1.1.Body v1.2 ((x1.extract 6 8).toList == (ByteArray.mk #[0, 0]).toList)
        else none
      else
        L_seg_Get_1 N x0 x1 0 0 0 0 0 0 ByteArray.empty x2 x3 v1.1.Proto v1.1.Sport v1.1.Dport v1.1.Seq v1.1.Ack v1.1.Flags v1.1.Body v1.2 false
    else
      L_seg_Get_1 N x0 x1 0 0 0 0 0 0 ByteArray.empty x2 x3 0 0 0 0 0 0 ByteArray.empty false false
def d_seg_Get (r : GSeg × Int) : D := .tup [.agg [.int .i64 r.1.Proto, .int .i64 r.1.Sport, .int .i64 r.1.Dport, .int .i64 r.1.Seq, .int .i64 r.1.Ack, .int .i64 r.1.Flags, .str r.1.Body], .int .i64 r.2]
theorem g_seg_Get_2 {c : Cx} (hc : Is c Tryz.prog ty 127 61) (N : Nat) {r : GSeg × Int} (hfin : c.Fin [] (d_seg_Get r) []) (b164_0 b164_1 b164_2 b164_3 b164_4 b164_5 : Int) (b164_6 : ByteArray) (b188_0 b188_1 b188_2 b188_3 b188_4 b188_5 : Int) (b188_6 : ByteArray) (t58 : Bool) (h : L_seg_Get_2 N b164_0 b164_1 b164_2 b164_3 b164_4 b164_5 b164_6 b188_0 b188_1 b188_2 b188_3 b188_4 b188_5 b188_6 t58 = some r) : c.Goes (items (bodyOf Tryz.f127) [.c 223, .c 127]) ⟨[(8, .ptr 164 0), (11, .ptr 188 0), (58, .bool t58)], [(164, some ⟨false, 0, [.int .i64 b164_0, .int .i64 b164_1, .int .i64 b164_2, .int .i64 b164_3, .int .i64 b164_4, .int .i64 b164_5, .str b164_6]⟩), (188, some ⟨false, 0, [.int .i64 b188_0, .int .i64 b188_1, .int .i64 b188_2, .int .i64 b188_3, .int .i64 b188_4, .int .i64 b188_5, .str b188_6]⟩)]⟩ := by
  unfold L_seg_Get_2 at h
  rcases brk h with ⟨h0, k0⟩ | ⟨h0, k0⟩
  · subst h0
    replace h := k0
    exact hc.rt hfin (fn := Tryz.f127) (by kernel_rfl) (orc := []) (m := 3) (by kernel_rfl) .nil h Le.rfl rfl
  · subst h0
    replace h := k0
    exact hc.rt hfin (fn := Tryz.f127) (by kernel_rfl) (orc := []) (m := 4) (by kernel_rfl) .nil h Le.rfl rfl

theorem g_seg_Get_1 {c : Cx} (hc : Is c Tryz.prog ty 127 61) (N : Nat) {r : GSeg × Int} (hfin : c.Fin [] (d_seg_Get r) []) (t0 : Int) (t1 : ByteArray) (b164_0 b164_1 b164_2 b164_3 b164_4 b164_5 : Int) (b164_6 : ByteArray) (b180_0 b180_1 b188_0 b188_1 b188_2 b188_3 b188_4 b188_5 : Int) (b188_6 : ByteArray) (t12 t13 : Bool) (h : L_seg_Get_1 N t0 t1 b164_0 b164_1 b164_2 b164_3 b164_4 b164_5 b164_6 b180_0 b180_1 b188_0 b188_1 b188_2 b188_3 b188_4 b188_5 b188_6 t12 t13 = some r) : c.Goes (items (bodyOf Tryz.f127) [.b 0, .c 63]) ⟨[(0, .int .i64 t0), (1, .str t1), (8, .ptr 164 0), (10, .ptr 180 0), (11, .ptr 188 0), (12, .bool t12), (13, .bool t13)], [(164, some ⟨false, 0, [.int .i64 b164_0, .int .i64 b164_1, .int .i64 b164_2, .int .i64 b164_3, .int .i64 b164_4, .int .i64 b164_5, .str b164_6]⟩), (180, some ⟨false, 0, [.int .i64 b180_0, .int .i64 b180_1]⟩), (188, some ⟨false, 0, [.int .i64 b188_0, .int .i64 b188_1, .int .i64 b188_2, .int .i64 b188_3, .int .i64 b188_4, .int .i64 b188_5, .str b188_6]⟩)]⟩ := by
  unfold L_seg_Get_1 at h
  rcases brk h with ⟨h0, h⟩ | ⟨h0, h⟩
  · exact hc.jump (orc := [(11, [(2, oT)])]) (m := 4) (kt := [8, 11, 58]) (kh := [(164, 164), (188, 188)]) (by kernel_rfl) (.cons (Le.tt h0) .nil) (g_seg_Get_2 hc N hfin b164_0 b164_1 b164_2 b164_3 b164_4 b164_5 b164_6 b188_0 b188_1 b188_2 b188_3 b188_4 b188_5 b188_6 true h)
  · obtain ⟨v1, h1, h⟩ := bind_of h
    rcases brk h with ⟨h2, h⟩ | ⟨h2, h⟩
    · exact hc.jump (orc := [(11, [(2, oF), (4, oR (d_seg_May v1)), (7, oT)])]) (m := 4) (kt := [8, 11, 58]) (kh := [(164, 164), (188, 188)]) (by kernel_rfl) (.cons (Le.ff h0) (.cons (c_seg_May N (GSeg.mk b188_0 b188_1 b188_2 b188_3 b188_4 b188_5 b188_6) h1) (.cons (Le.tt h2) .nil))) (g_seg_Get_2 hc N hfin b164_0 b164_1 b164_2 b164_3 b164_4 b164_5 b164_6 b188_0 b188_1 b188_2 b188_3 b188_4 b188_5 b188_6 true h)
    · obtain ⟨v2, h3, h⟩ := bind_of h
      rcases brk h with ⟨h4, h⟩ | ⟨h4, h⟩
      · exact hc.jump (orc := [(11, [(2, oF), (4, oR (d_seg_May v1)), (7, oF), (9, oR (d_seg_ends_may v2)), (12, oT)])]) (m := 4) (kt := [8, 11, 58]) (kh := [(164, 164), (188, 188)]) (by kernel_rfl) (.cons (Le.ff h0) (.cons (c_seg_May N (GSeg.mk b188_0 b188_1 b188_2 b188_3 b188_4 b188_5 b188_6) h1) (.cons (Le.ff h2) (.cons (c_seg_ends_may N (Gseg_ends.mk b180_0 b180_1) h3) (.cons (Le.tt h4) .nil))))) (g_seg_Get_2 hc N hfin b164_0 b164_1 b164_2 b164_3 b164_4 b164_5 b164_6 b188_0 b188_1 b188_2 b188_3 b188_4 b188_5 b188_6 true h)
      · rcases brk h with ⟨h5, h⟩ | ⟨h5, h⟩
        · obtain ⟨v3, h6, h⟩ := bind_of h
          exact hc.jump (orc := [(11, [(2, oF), (4, oR (d_seg_May v1)), (7, oF), (9, oR (d_seg_ends_may v2)), (12, oF), (15, oT), (19, oR (d_seg_ends_sum v3))])]) (m := 4) (kt := [8, 11, 58]) (kh := [(164, 164), (188, 188)]) (by kernel_rfl) (.cons (Le.ff h0) (.cons (c_seg_May N (GSeg.mk b188_0 b188_1 b188_2 b188_3 b188_4 b188_5 b188_6) h1) (.cons (Le.ff h2) (.cons (c_seg_ends_may N (Gseg_ends.mk b180_0 b180_1) h3) (.cons (Le.ff h4) (.cons (Le.tt h5) (.cons (c_seg_ends_sum N (Gseg_ends.mk b180_0 b180_1) t0 t1 h6) .nil))))))) (g_seg_Get_2 hc N hfin b164_0 b164_1 b164_2 b164_3 b164_4 b164_5 b164_6 b188_0 b188_1 b188_2 b188_3 b188_4 b188_5 b188_6 (v3 != 65535) h)
        · exact hc.jump (orc := [(11, [(2, oF), (4, oR (d_seg_May v1)), (7, oF), (9, oR (d_seg_ends_may v2)), (12, oF), (15, oF)])]) (m := 4) (kt := [8, 11, 58]) (kh := [(164, 164), (188, 188)]) (by kernel_rfl) (.cons (Le.ff h0) (.cons (c_seg_May N (GSeg.mk b188_0 b188_1 b188_2 b188_3 b188_4 b188_5 b188_6) h1) (.cons (Le.ff h2) (.cons (c_seg_ends_may N (Gseg_ends.mk b180_0 b180_1) h3) (.cons (Le.ff h4) (.cons (Le.ff h5) .nil)))))) (g_seg_Get_2 hc N hfin b164_0 b164_1 b164_2 b164_3 b164_4 b164_5 b164_6 b188_0 b188_1 b188_2 b188_3 b188_4 b188_5 b188_6 false h)

theorem g_seg_Get_0 {c : Cx} (hc : Is c Tryz.prog ty 127 61) (N : Nat) {r : GSeg × Int} (hfin : c.Fin [] (d_seg_Get r) []) (x0 : Int) (x1 : ByteArray) (x2 x3 : Int) (h : L_seg_Get N x0 x1 x2 x3 = some r) : c.Goes (items (bodyOf Tryz.f127) [.c 1]) ⟨[(0, .int .i64 x0), (1, .str x1), (2, .int .i64 x2), (3, .int .i64 x3)], []⟩ := by
  unfold L_seg_Get at h
  rcases brk h with ⟨h0, h⟩ | ⟨h0, h⟩
  · obtain ⟨v1, h1, h⟩ := bind_of h
    exact hc.jump (orc := [(5, [(1, oT)]), (6, [(1, oR (d_seg_tcp v1))])]) (m := 16) (kt := [0, 1, 8, 10, 11, 12, 13]) (kh := [(164, 164), (180, 180), (188, 188)]) (by kernel_rfl) (.cons (Le.tt h0) (.cons (c_seg_tcp N x1 h1) .nil)) (g_seg_Get_1 hc N hfin x0 x1 0 0 0 0 0 0 ByteArray.empty x2 x3 v1.1.Proto v1.1.Sport v1.1.Dport v1.1.Seq v1.1.Ack v1.1.Flags v1.1.Body v1.2 false h)
  · rcases brk h with ⟨h1, h⟩ | ⟨h1, h⟩
    · obtain ⟨v1, h2, h⟩ := bind_of h
      rcases brk h with ⟨h3, h⟩ | ⟨h3, h⟩
      · obtain ⟨h4, h⟩ := chk h
        exact hc.jump (orc := [(5, [(1, oF)]), (7, [(1, oT)]), (8, [(1, oR (d_seg_udp v1))]), (9, [(0, oT)])]) (m := 24) (kt := [0, 1, 8, 10, 11, 12, 13]) (kh := [(164, 164), (180, 180), (188, 188)]) (by kernel_rfl) (.cons (Le.ff h0) (.cons (Le.tt h1) (.cons (c_seg_udp N x1 h2) (.cons (Le.tt h3) (.cons (h4) .nil))))) (g_seg_Get_1 hc N hfin x0 x1 0 0 0 0 0 0 ByteArray.empty x2 x3 v1.1.Proto v1.1.Sport v1.1.Dport v1.1.Seq v1.1.Ack v1.1.Flags v1.1.Body v1.2 ((x1.extract 6 8).toList == (ByteArray.mk #[0, 0]).toList) h)
      · exact hc.jump (orc := [(5, [(1, oF)]), (7, [(1, oT)]), (8, [(1, oR (d_seg_udp v1))]), (9, [(0, oF)])]) (m := 24) (kt := [0, 1, 8, 10, 11, 12, 13]) (kh := [(164, 164), (180, 180), (188, 188)]) (by kernel_rfl) (.cons (Le.ff h0) (.cons (Le.tt h1) (.cons (c_seg_udp N x1 h2) (.cons (Le.ff h3) .nil)))) (g_seg_Get_1 hc N hfin x0 x1 0 0 0 0 0 0 ByteArray.empty x2 x3 v1.1.Proto v1.1.Sport v1.1.Dport v1.1.Seq v1.1.Ack v1.1.Flags v1.1.Body v1.2 false h)
    · exact hc.jump (orc := [(5, [(1, oF)]), (7, [(1, oF)])]) (m := 19) (kt := [0, 1, 8, 10, 11, 12, 13]) (kh := [(164, 164), (180, 180), (188, 188)]) (by kernel_rfl) (.cons (Le.ff h0) (.cons (Le.ff h1) .nil)) (g_seg_Get_1 hc N hfin x0 x1 0 0 0 0 0 0 ByteArray.empty x2 x3 0 0 0 0 0 0 ByteArray.empty false false h)

theorem c_seg_Get (N : Nat) (x0 : Int) (x1 : ByteArray) (x2 x3 : Int) {r : GSeg × Int} (h : L_seg_Get N x0 x1 x2 x3 = some r) : Con Tryz.prog 127 [.int .i64 x0, .str x1, .int .i64 x2, .int .i64 x3] [] (d_seg_Get r) [] :=
  con_in ok mix (fn := Tryz.f127) (by kernel_rfl) (by kernel_rfl) fun hc hfin => g_seg_Get_0 hc N hfin x0 x1 x2 x3 h
/-! ### wharfage/flow.Of -/
def L_flow_Of_1 (N : Nat) (b116_0 b116_1 b116_2 b116_3 b116_4 b124_0 b124_1 b124_2 b124_3 b124_4 b124_5 : Int) (b124_6 : ByteArray) (b140_0 b140_1 b140_2 b140_3 b140_4 : Int) (b140_5 : ByteArray) (t22 : Bool) : Option (GFlow × GSeg × Int) :=
  bif t22 then
    some ((GFlow.mk 0 0 0 0 0), (GSeg.mk 0 0 0 0 0 0 ByteArray.empty), 3)
  else
    (L_seg_Get N b140_2 b140_5 b140_0 b140_1).bind fun v1 =>
    bif (v1.2 != 0) then
      some ((GFlow.mk 0 0 0 0 0), (GSeg.mk 0 0 0 0 0 0 ByteArray.empty), 1)
    else
      some ((GFlow.mk b140_0 b140_1 b140_2 v1.1.Sport v1.1.Dport), v1.1, 0)
def L_flow_Of (N : Nat) (x0 : ByteArray) : Option (GFlow × GSeg × Int) :=
  (L_ip_Get N x0).bind fun v1 =>
  bif (v1.2.1 != 0) then
    some ((GFlow.mk 0 0 0 0 0), (GSeg.mk 0 0 0 0 0 0 ByteArray.empty), v1.2.1)
  else
    (L_flow_handled N v1.1.Proto).bind fun v2 =>
    bif (!v2) then
      L_flow_Of_1 N 0 0 0 0 0 0 0 0 0 0 0 ByteArray.empty v1.1.Src v1.1.Dst v1.1.Proto v1.1.Ttl v1.1.Id v1.1.Body true
    else
      L_flow_Of_1 N 0 0 0 0 0 0 0 0 0 0 0 ByteArray.empty v1.1.Src v1.1.Dst v1.1.Proto v1.1.Ttl v1.1.Id v1.1.Body (v1.1.Dst != 167772161)
def d_flow_Of (r : GFlow × GSeg × Int) : D := .tup [.agg [.int .i64 r.1.Src, .int .i64 r.1.Dst, .int .i64 r.1.Proto, .int .i64 r.1.Sport, .int .i64 r.1.Dport], .agg [.int .i64 r.2.1.Proto, .int .i64 r.2.1.Sport, .int .i64 r.2.1.Dport, .int .i64 r.2.1.Seq, .int .i64 r.2.1.Ack, .int .i64 r.2.1.Flags, .str r.2.1.Body], .int .i64 r.2.2]
theorem g_flow_Of_1 {c : Cx} (hc : Is c Tryz.prog ty 61 62) (N : Nat) {r : GFlow × GSeg × Int} (hfin : c.Fin [] (d_flow_Of r) []) (b116_0 b116_1 b116_2 b116_3 b116_4 b124_0 b124_1 b124_2 b124_3 b124_4 b124_5 : Int) (b124_6 : ByteArray) (b140_0 b140_1 b140_2 b140_3 b140_4 : Int) (b140_5 : ByteArray) (t22 : Bool) (h : L_flow_Of_1 N b116_0 b116_1 b116_2 b116_3 b116_4 b124_0 b124_1 b124_2 b124_3 b124_4 b124_5 b124_6 b140_0 b140_1 b140_2 b140_3 b140_4 b140_5 t22 = some r) : c.Goes (items (bodyOf Tryz.f61) [.c 243, .b 0, .c 15]) ⟨[(2, .ptr 116 0), (3, .ptr 124 0), (5, .ptr 140 0), (22, .bool t22)], [(116, some ⟨false, 0, [.int .i64 b116_0, .int .i64 b116_1, .int .i64 b116_2, .int .i64 b116_3, .int .i64 b116_4]⟩), (124, some ⟨false, 0, [.int .i64 b124_0, .int .i64 b124_1, .int .i64 b124_2, .int .i64 b124_3, .int .i64 b124_4, .int .i64 b124_5, .str b124_6]⟩), (140, some ⟨false, 0, [.int .i64 b140_0, .int .i64 b140_1, .int .i64 b140_2, .int .i64 b140_3, .int .i64 b140_4, .str b140_5]⟩)]⟩ := by
  unfold L_flow_Of_1 at h
  rcases brk h with ⟨h0, k0⟩ | ⟨h0, k0⟩
  · subst h0
    replace h := k0
    exact hc.rt hfin (fn := Tryz.f61) (by kernel_rfl) (orc := []) (m := 3) (by kernel_rfl) .nil h Le.rfl rfl
  · subst h0
    replace h := k0
    obtain ⟨v1, h1, h⟩ := bind_of h
    rcases brk h with ⟨h2, h⟩ | ⟨h2, h⟩
    · exact hc.rt hfin (fn := Tryz.f61) (by kernel_rfl) (orc := [(6, [(8, oR (d_seg_Get v1))]), (7, [(1, oT)])]) (m := 11) (by kernel_rfl) (.cons (c_seg_Get N b140_2 b140_5 b140_0 b140_1 h1) (.cons (Le.tt h2) .nil)) h Le.rfl rfl
    · exact hc.rt hfin (fn := Tryz.f61) (by kernel_rfl) (orc := [(6, [(8, oR (d_seg_Get v1))]), (7, [(1, oF)])]) (m := 12) (by kernel_rfl) (.cons (c_seg_Get N b140_2 b140_5 b140_0 b140_1 h1) (.cons (Le.ff h2) .nil)) h Le.rfl rfl

theorem g_flow_Of_0 {c : Cx} (hc : Is c Tryz.prog ty 61 62) (N : Nat) {r : GFlow × GSeg × Int} (hfin : c.Fin [] (d_flow_Of r) []) (x0 : ByteArray) (h : L_flow_Of N x0 = some r) : c.Goes (items (bodyOf Tryz.f61) [.c 1]) ⟨[(0, .str x0)], []⟩ := by
  unfold L_flow_Of at h
  obtain ⟨v1, h0, h⟩ := bind_of h
  rcases brk h with ⟨h1, h⟩ | ⟨h1, h⟩
  · exact hc.rt hfin (fn := Tryz.f61) (by kernel_rfl) (orc := [(1, [(1, oR (d_ip_Get v1))]), (2, [(2, oT)])]) (m := 11) (by kernel_rfl) (.cons (c_ip_Get N x0 h0) (.cons (Le.tt h1) .nil)) h Le.rfl rfl
  · obtain ⟨v2, h2, h⟩ := bind_of h
    rcases brk h with ⟨h3, h⟩ | ⟨h3, h⟩
    · exact hc.jump (orc := [(1, [(1, oR (d_ip_Get v1))]), (2, [(2, oF)]), (4, [(2, oR (d_flow_handled v2)), (4, oT)])]) (m := 11) (kt := [2, 3, 5, 22]) (kh := [(116, 116), (124, 124), (140, 140)]) (by kernel_rfl) (.cons (c_ip_Get N x0 h0) (.cons (Le.ff h1) (.cons (c_flow_handled N v1.1.Proto h2) (.cons (Le.tt h3) .nil)))) (g_flow_Of_1 hc N hfin 0 0 0 0 0 0 0 0 0 0 0 ByteArray.empty v1.1.Src v1.1.Dst v1.1.Proto v1.1.Ttl v1.1.Id v1.1.Body true h)
    · exact hc.jump (orc := [(1, [(1, oR (d_ip_Get v1))]), (2, [(2, oF)]), (4, [(2, oR (d_flow_handled v2)), (4, oF)])]) (m := 11) (kt := [2, 3, 5, 22]) (kh := [(116, 116), (124, 124), (140, 140)]) (by kernel_rfl) (.cons (c_ip_Get N x0 h0) (.cons (Le.ff h1) (.cons (c_flow_handled N v1.1.Proto h2) (.cons (Le.ff h3) .nil)))) (g_flow_Of_1 hc N hfin 0 0 0 0 0 0 0 0 0 0 0 ByteArray.empty v1.1.Src v1.1.Dst v1.1.Proto v1.1.Ttl v1.1.Id v1.1.Body (v1.1.Dst != 167772161) h)

theorem c_flow_Of (N : Nat) (x0 : ByteArray) {r : GFlow × GSeg × Int} (h : L_flow_Of N x0 = some r) : Con Tryz.prog 61 [.str x0] [] (d_flow_Of r) [] :=
  con_in ok mix (fn := Tryz.f61) (by kernel_rfl) (by kernel_rfl) fun hc hfin => g_flow_Of_0 hc N hfin x0 h
/-! ### wharfage/event.Of -/
def L_event_Of (N : Nat) (x0 : Int) : Option (Int) :=
  bif (x0 == 1) then
    some 2
  else
    bif (x0 == 2) then
      some 3
    else
      some 4
def d_event_Of (r : Int) : D := .int .i64 r
theorem g_event_Of_0 {c : Cx} (hc : Is c Tryz.prog ty 63 8) (N : Nat) {r : Int} (hfin : c.Fin [] (d_event_Of r) []) (x0 : Int) (h : L_event_Of N x0 = some r) : c.Goes (items (bodyOf Tryz.f63) [.c 1]) ⟨[(0, .int .i64 x0)], []⟩ := by
  unfold L_event_Of at h
  rcases brk h with ⟨h0, h⟩ | ⟨h0, h⟩
  · exact hc.rt hfin (fn := Tryz.f63) (by kernel_rfl) (orc := [(2, [(1, oT)])]) (m := 11) (by kernel_rfl) (.cons (Le.tt h0) .nil) h Le.rfl rfl
  · rcases brk h with ⟨h1, h⟩ | ⟨h1, h⟩
    · exact hc.rt hfin (fn := Tryz.f63) (by kernel_rfl) (orc := [(2, [(1, oF)]), (4, [(1, oT)])]) (m := 14) (by kernel_rfl) (.cons (Le.ff h0) (.cons (Le.tt h1) .nil)) h Le.rfl rfl
    · exact hc.rt hfin (fn := Tryz.f63) (by kernel_rfl) (orc := [(2, [(1, oF)]), (4, [(1, oF)])]) (m := 16) (by kernel_rfl) (.cons (Le.ff h0) (.cons (Le.ff h1) .nil)) h Le.rfl rfl

theorem c_event_Of (N : Nat) (x0 : Int) {r : Int} (h : L_event_Of N x0 = some r) : Con Tryz.prog 63 [.int .i64 x0] [] (d_event_Of r) [] :=
  con_in ok mix (fn := Tryz.f63) (by kernel_rfl) (by kernel_rfl) fun hc hfin => g_event_Of_0 hc N hfin x0 h
/-! ### (wharfage/event.Teller).Tell -/
def L_event_Teller_Tell (N : Nat) (x0 : Gevent_Teller) (x1 x2 : Int) (x3 : GFlow) : Option (GEvent) :=
  some (GEvent.mk x1 x0.Role x0.Site x0.Node x2 x3)
def d_event_Teller_Tell (r : GEvent) : D := .agg [.int .i64 r.Kind, .int .i64 r.Role, .int .i64 r.Site, .int .i64 r.Node, .int .i64 r.To, .int .i64 r.Flow.Src, .int .i64 r.Flow.Dst, .int .i64 r.Flow.Proto, .int .i64 r.Flow.Sport, .int .i64 r.Flow.Dport]
theorem g_event_Teller_Tell_0 {c : Cx} (hc : Is c Tryz.prog ty 128 19) (N : Nat) {r : GEvent} (hfin : c.Fin [] (d_event_Teller_Tell r) []) (x0 : Gevent_Teller) (x1 x2 : Int) (x3 : GFlow) (h : L_event_Teller_Tell N x0 x1 x2 x3 = some r) : c.Goes (items (bodyOf Tryz.f128) [.c 1]) ⟨[(0, .agg [.int .i64 x0.Role, .int .i64 x0.Site, .int .i64 x0.Node]), (1, .int .i64 x1), (2, .int .i64 x2), (3, .agg [.int .i64 x3.Src, .int .i64 x3.Dst, .int .i64 x3.Proto, .int .i64 x3.Sport, .int .i64 x3.Dport])], []⟩ := by
  unfold L_event_Teller_Tell at h
  exact hc.rt hfin (fn := Tryz.f128) (by kernel_rfl) (orc := []) (m := 4) (by kernel_rfl) .nil h Le.rfl rfl

theorem c_event_Teller_Tell (N : Nat) (x0 : Gevent_Teller) (x1 x2 : Int) (x3 : GFlow) {r : GEvent} (h : L_event_Teller_Tell N x0 x1 x2 x3 = some r) : Con Tryz.prog 128 [.agg [.int .i64 x0.Role, .int .i64 x0.Site, .int .i64 x0.Node], .int .i64 x1, .int .i64 x2, .agg [.int .i64 x3.Src, .int .i64 x3.Dst, .int .i64 x3.Proto, .int .i64 x3.Sport, .int .i64 x3.Dport]] [] (d_event_Teller_Tell r) [] :=
  con_in ok mix (fn := Tryz.f128) (by kernel_rfl) (by kernel_rfl) fun hc hfin => g_event_Teller_Tell_0 hc N hfin x0 x1 x2 x3 h
/-! ### (wharfage/event.Teller).Alone -/
def L_event_Teller_Alone (N : Nat) (x0 : Gevent_Teller) (x1 : Int) (x2 : GFlow) : Option (GOut) :=
  (L_event_Teller_Tell N x0 x1 0 x2).bind fun v1 =>
  some (GOut.mk ([]) ([v1]))
def d_event_Teller_Alone (r : GOut) : D := .agg [.sl true (eL eStr r.Sent) r.Sent.length r.Sent.length, .sl true (eL eEvent r.Events) r.Events.length r.Events.length]
theorem g_event_Teller_Alone_0 {c : Cx} (hc : Is c Tryz.prog ty 62 13) (N : Nat) {r : GOut} (hfin : c.Fin [] (d_event_Teller_Alone r) []) (x0 : Gevent_Teller) (x1 : Int) (x2 : GFlow) (h : L_event_Teller_Alone N x0 x1 x2 = some r) : c.Goes (items (bodyOf Tryz.f62) [.c 1]) ⟨[(0, .agg [.int .i64 x0.Role, .int .i64 x0.Site, .int .i64 x0.Node]), (1, .int .i64 x1), (2, .agg [.int .i64 x2.Src, .int .i64 x2.Dst, .int .i64 x2.Proto, .int .i64 x2.Sport, .int .i64 x2.Dport])], []⟩ := by
  unfold L_event_Teller_Alone at h
  obtain ⟨v1, h0, h⟩ := bind_of h
  exact hc.rt hfin (fn := Tryz.f62) (by kernel_rfl) (orc := [(1, [(3, oR (d_event_Teller_Tell v1)), (5, { frz := true })])]) (m := 4) (d := .agg [.nils, .sl true (eL eEvent ([v1])) 1 1]) (by kernel_rfl) (.cons (c_event_Teller_Tell N x0 x1 0 x2 h0) .nil) h (Le.agg ((.cons (Le.nils (g := true)) (.cons (Le.of rfl) .nil)))) rfl

theorem c_event_Teller_Alone (N : Nat) (x0 : Gevent_Teller) (x1 : Int) (x2 : GFlow) {r : GOut} (h : L_event_Teller_Alone N x0 x1 x2 = some r) : Con Tryz.prog 62 [.agg [.int .i64 x0.Role, .int .i64 x0.Site, .int .i64 x0.Node], .int .i64 x1, .agg [.int .i64 x2.Src, .int .i64 x2.Dst, .int .i64 x2.Proto, .int .i64 x2.Sport, .int .i64 x2.Dport]] [] (d_event_Teller_Alone r) [] :=
  con_in ok mix (fn := Tryz.f62) (by kernel_rfl) (by kernel_rfl) fun hc hfin => g_event_Teller_Alone_0 hc N hfin x0 x1 x2 h
/-! ### wharfage/track.Limit -/
def L_track_Limit (N : Nat) (x0 : Int) : Option (Int × Int) :=
  (L_track_May N x0).bind fun v1 =>
  bif (!v1) then
    some (0, 1400)
  else
    bif (x0 == 0) then
      some (40, 0)
    else
      some (6, 0)
def d_track_Limit (r : Int × Int) : D := .tup [.int .i64 r.1, .int .i64 r.2]
theorem g_track_Limit_0 {c : Cx} (hc : Is c Tryz.prog ty 214 11) (N : Nat) {r : Int × Int} (hfin : c.Fin [] (d_track_Limit r) []) (x0 : Int) (h : L_track_Limit N x0 = some r) : c.Goes (items (bodyOf Tryz.f214) [.c 1]) ⟨[(0, .int .i64 x0)], []⟩ := by
  unfold L_track_Limit at h
  obtain ⟨v1, h0, h⟩ := bind_of h
  rcases brk h with ⟨h1, h⟩ | ⟨h1, h⟩
  · exact hc.rt hfin (fn := Tryz.f214) (by kernel_rfl) (orc := [(1, [(1, oR (d_track_May v1)), (3, oT)])]) (m := 9) (by kernel_rfl) (.cons (c_track_May N x0 h0) (.cons (Le.tt h1) .nil)) h Le.rfl rfl
  · rcases brk h with ⟨h2, h⟩ | ⟨h2, h⟩
    · exact hc.rt hfin (fn := Tryz.f214) (by kernel_rfl) (orc := [(1, [(1, oR (d_track_May v1)), (3, oF)]), (3, [(2, oT)])]) (m := 12) (by kernel_rfl) (.cons (c_track_May N x0 h0) (.cons (Le.ff h1) (.cons (Le.tt h2) .nil))) h Le.rfl rfl
    · exact hc.rt hfin (fn := Tryz.f214) (by kernel_rfl) (orc := [(1, [(1, oR (d_track_May v1)), (3, oF)]), (3, [(2, oF)])]) (m := 14) (by kernel_rfl) (.cons (c_track_May N x0 h0) (.cons (Le.ff h1) (.cons (Le.ff h2) .nil))) h Le.rfl rfl

theorem c_track_Limit (N : Nat) (x0 : Int) {r : Int × Int} (h : L_track_Limit N x0 = some r) : Con Tryz.prog 214 [.int .i64 x0] [] (d_track_Limit r) [] :=
  con_in ok mix (fn := Tryz.f214) (by kernel_rfl) (by kernel_rfl) fun hc hfin => g_track_Limit_0 hc N hfin x0 h
/-! ### wharfage/entry.Ran -/
def L_entry_Ran_1 (N : Nat) (t4 : Bool) : Option (Bool) :=
  some t4
def L_entry_Ran (N : Nat) (x0 : GEntry) (x1 : Int) : Option (Bool) :=
  (L_track_Limit N x0.Phase).bind fun v1 =>
  (L_entry_May N x0).bind fun v2 =>
  bif (!v2) then
    L_entry_Ran_1 N true
  else
    L_entry_Ran_1 N (decide (x1 ≥ (IntKind.i64.wrap (x0.Used + v1.1))))
def d_entry_Ran (r : Bool) : D := .bool r
theorem g_entry_Ran_1 {c : Cx} (hc : Is c Tryz.prog ty 180 24) (N : Nat) {r : Bool} (hfin : c.Fin [] (d_entry_Ran r) []) (t4 : Bool) (h : L_entry_Ran_1 N t4 = some r) : c.Goes (items (bodyOf Tryz.f180) [.c 15]) ⟨[(4, .bool t4)], []⟩ := by
  unfold L_entry_Ran_1 at h
  exact hc.rt hfin (fn := Tryz.f180) (by kernel_rfl) (orc := []) (m := 0) (by kernel_rfl) .nil h Le.rfl rfl

theorem g_entry_Ran_0 {c : Cx} (hc : Is c Tryz.prog ty 180 24) (N : Nat) {r : Bool} (hfin : c.Fin [] (d_entry_Ran r) []) (x0 : GEntry) (x1 : Int) (h : L_entry_Ran N x0 x1 = some r) : c.Goes (items (bodyOf Tryz.f180) [.c 1]) ⟨[(0, .agg [.int .i64 x0.Flow.Src, .int .i64 x0.Flow.Dst, .int .i64 x0.Flow.Proto, .int .i64 x0.Flow.Sport, .int .i64 x0.Flow.Dport, .int .i64 x0.To, .bool x0.Away, .int .i64 x0.Phase, .int .i64 x0.Used]), (1, .int .i64 x1)], []⟩ := by
  unfold L_entry_Ran at h
  obtain ⟨v1, h0, h⟩ := bind_of h
  obtain ⟨v2, h1, h⟩ := bind_of h
  rcases brk h with ⟨h2, h⟩ | ⟨h2, h⟩
  · exact hc.jump (orc := [(1, [(2, oR (d_track_Limit v1))]), (2, [(1, oR (d_entry_May v2)), (3, oT)])]) (m := 6) (kt := [4]) (kh := []) (by kernel_rfl) (.cons (c_track_Limit N x0.Phase h0) (.cons (c_entry_May N x0 h1) (.cons (Le.tt h2) .nil))) (g_entry_Ran_1 hc N hfin true h)
  · exact hc.jump (orc := [(1, [(2, oR (d_track_Limit v1))]), (2, [(1, oR (d_entry_May v2)), (3, oF)])]) (m := 6) (kt := [4]) (kh := []) (by kernel_rfl) (.cons (c_track_Limit N x0.Phase h0) (.cons (c_entry_May N x0 h1) (.cons (Le.ff h2) .nil))) (g_entry_Ran_1 hc N hfin (decide (x1 ≥ (IntKind.i64.wrap (x0.Used + v1.1)))) h)

theorem c_entry_Ran (N : Nat) (x0 : GEntry) (x1 : Int) {r : Bool} (h : L_entry_Ran N x0 x1 = some r) : Con Tryz.prog 180 [.agg [.int .i64 x0.Flow.Src, .int .i64 x0.Flow.Dst, .int .i64 x0.Flow.Proto, .int .i64 x0.Flow.Sport, .int .i64 x0.Flow.Dport, .int .i64 x0.To, .bool x0.Away, .int .i64 x0.Phase, .int .i64 x0.Used], .int .i64 x1] [] (d_entry_Ran r) [] :=
  con_in ok mix (fn := Tryz.f180) (by kernel_rfl) (by kernel_rfl) fun hc hfin => g_entry_Ran_0 hc N hfin x0 x1 h
/-! ### wharfage/cache.Find -/
def L_cache_Find_1 (N : Nat) (t0 : (List GEntry)) (b148_0 b148_1 b148_2 b148_3 b148_4 b148_5 : Int) (b148_6 : Bool) (b148_7 b148_8 t8 : Int) (t26 : Bool) : Option (GEntry × Bool) :=
  bif t26 then
    some ((GEntry.mk (GFlow.mk 0 0 0 0 0) 0 false 0 0), false)
  else
    if 0 ≤ t8 ∧ t8 < ((t0.length : Nat) : Int) then
    some ((GEntry.mk ((t0.getD t8.toNat default).Flow) ((t0.getD t8.toNat default).To) ((t0.getD t8.toNat default).Away) ((t0.getD t8.toNat default).Phase) ((t0.getD t8.toNat default).Used)), true)
    else none
def L_cache_Find (N : Nat) (x0 : (List GEntry)) (x1 : GFlow) (x2 : Int) : Option (GEntry × Bool) :=
  (L_cache_at N x0 x1).bind fun v1 =>
  bif (decide (v1 < 0)) then
    L_cache_Find_1 N x0 0 0 0 0 0 0 false 0 0 v1 true
  else
    (L_cache_May N x0).bind fun v2 =>
    bif (!v2) then
      L_cache_Find_1 N x0 0 0 0 0 0 0 false 0 0 v1 true
    else
      if 0 ≤ v1 ∧ v1 < ((x0.length : Nat) : Int) then
      (L_entry_Ran N (GEntry.mk ((x0.getD v1.toNat default).Flow) ((x0.getD v1.toNat default).To) ((x0.getD v1.toNat default).Away) ((x0.getD v1.toNat default).Phase) ((x0.getD v1.toNat default).Used)) x2).bind fun v3 =>
      L_cache_Find_1 N x0 0 0 0 0 0 0 false 0 0 v1 v3
      else none
def d_cache_Find (r : GEntry × Bool) : D := .tup [.agg [.int .i64 r.1.Flow.Src, .int .i64 r.1.Flow.Dst, .int .i64 r.1.Flow.Proto, .int .i64 r.1.Flow.Sport, .int .i64 r.1.Flow.Dport, .int .i64 r.1.To, .bool r.1.Away, .int .i64 r.1.Phase, .int .i64 r.1.Used], .bool r.2]
theorem g_cache_Find_1 (gx0 : Bool) {c : Cx} (hc : Is c Tryz.prog ty 129 32) (N : Nat) {r : GEntry × Bool} (hfin : c.Fin [] (d_cache_Find r) []) (t0 : (List GEntry)) (b148_0 b148_1 b148_2 b148_3 b148_4 b148_5 : Int) (b148_6 : Bool) (b148_7 b148_8 t8 : Int) (t26 : Bool) (h : L_cache_Find_1 N t0 b148_0 b148_1 b148_2 b148_3 b148_4 b148_5 b148_6 b148_7 b148_8 t8 t26 = some r) : c.Goes (items (bodyOf Tryz.f129) [.c 27, .c 15]) ⟨[(0, .sl gx0 (eL eEntry t0) t0.length t0.length), (6, .ptr 148 0), (8, .int .i64 t8), (26, .bool t26)], [(148, some ⟨false, 0, [.int .i64 b148_0, .int .i64 b148_1, .int .i64 b148_2, .int .i64 b148_3, .int .i64 b148_4, .int .i64 b148_5, .bool b148_6, .int .i64 b148_7, .int .i64 b148_8]⟩)]⟩ := by
  unfold L_cache_Find_1 at h
  rcases brk h with ⟨h0, k0⟩ | ⟨h0, k0⟩
  · subst h0
    replace h := k0
    exact hc.rt hfin (fn := Tryz.f129) (by kernel_rfl) (orc := []) (m := 3) (by kernel_rfl) .nil h Le.rfl rfl
  · subst h0
    replace h := k0
    obtain ⟨h1, h⟩ := chk h
    exact hc.rt hfin (fn := Tryz.f129) (by kernel_rfl) (orc := [(4, [(2, oC (.ip gx0 [.int .i64 (((t0.getD t8.toNat default).Flow).Src), .int .i64 (((t0.getD t8.toNat default).Flow).Dst), .int .i64 (((t0.getD t8.toNat default).Flow).Proto), .int .i64 (((t0.getD t8.toNat default).Flow).Sport), .int .i64 (((t0.getD t8.toNat default).Flow).Dport), .int .i64 ((t0.getD t8.toNat default).To), .bool ((t0.getD t8.toNat default).Away), .int .i64 ((t0.getD t8.toNat default).Phase), .int .i64 ((t0.getD t8.toNat default).Used)]))])]) (m := 4) (by kernel_rfl) (.cons (h1) (.cons (Le.iptl (g := gx0) (eL_at (xs := t0) eEntry_len (ixl h1))) .nil)) h Le.rfl rfl

theorem g_cache_Find_0 (gx0 : Bool) {c : Cx} (hc : Is c Tryz.prog ty 129 32) (N : Nat) {r : GEntry × Bool} (hfin : c.Fin [] (d_cache_Find r) []) (x0 : (List GEntry)) (x1 : GFlow) (x2 : Int) (h : L_cache_Find N x0 x1 x2 = some r) : c.Goes (items (bodyOf Tryz.f129) [.c 1]) ⟨[(0, .sl gx0 (eL eEntry x0) x0.length x0.length), (1, .agg [.int .i64 x1.Src, .int .i64 x1.Dst, .int .i64 x1.Proto, .int .i64 x1.Sport, .int .i64 x1.Dport]), (2, .int .i64 x2)], []⟩ := by
  unfold L_cache_Find at h
  obtain ⟨v1, h0, h⟩ := bind_of h
  rcases brk h with ⟨h1, h⟩ | ⟨h1, h⟩
  · exact hc.jump (orc := [(1, [(2, oR (d_cache_at v1))]), (2, [(2, oT)])]) (m := 7) (kt := [0, 6, 8, 26]) (kh := [(148, 148)]) (by kernel_rfl) (.cons (c_cache_at N gx0 x0 x1 h0) (.cons (Le.tt h1) .nil)) (g_cache_Find_1 gx0 hc N hfin x0 0 0 0 0 0 0 false 0 0 v1 true h)
  · obtain ⟨v2, h2, h⟩ := bind_of h
    rcases brk h with ⟨h3, h⟩ | ⟨h3, h⟩
    · exact hc.jump (orc := [(1, [(2, oR (d_cache_at v1))]), (2, [(2, oF), (4, oR (d_cache_May v2)), (7, oT)])]) (m := 7) (kt := [0, 6, 8, 26]) (kh := [(148, 148)]) (by kernel_rfl) (.cons (c_cache_at N gx0 x0 x1 h0) (.cons (Le.ff h1) (.cons (c_cache_May N gx0 x0 h2) (.cons (Le.tt h3) .nil)))) (g_cache_Find_1 gx0 hc N hfin x0 0 0 0 0 0 0 false 0 0 v1 true h)
    · obtain ⟨h4, h⟩ := chk h
      obtain ⟨v3, h5, h⟩ := bind_of h
      exact hc.jump (orc := [(1, [(2, oR (d_cache_at v1))]), (2, [(2, oF), (4, oR (d_cache_May v2)), (7, oF), (10, oC (.ip gx0 [.int .i64 (((x0.getD v1.toNat default).Flow).Src), .int .i64 (((x0.getD v1.toNat default).Flow).Dst), .int .i64 (((x0.getD v1.toNat default).Flow).Proto), .int .i64 (((x0.getD v1.toNat default).Flow).Sport), .int .i64 (((x0.getD v1.toNat default).Flow).Dport), .int .i64 ((x0.getD v1.toNat default).To), .bool ((x0.getD v1.toNat default).Away), .int .i64 ((x0.getD v1.toNat default).Phase), .int .i64 ((x0.getD v1.toNat default).Used)])), (13, oR (d_entry_Ran v3))])]) (m := 7) (kt := [0, 6, 8, 26]) (kh := [(148, 148)]) (by kernel_rfl) (.cons (c_cache_at N gx0 x0 x1 h0) (.cons (Le.ff h1) (.cons (c_cache_May N gx0 x0 h2) (.cons (Le.ff h3) (.cons (h4) (.cons (Le.iptl (g := gx0) (eL_at (xs := x0) eEntry_len (ixl h4))) (.cons (c_entry_Ran N (GEntry.mk ((x0.getD v1.toNat default).Flow) ((x0.getD v1.toNat default).To) ((x0.getD v1.toNat default).Away) ((x0.getD v1.toNat default).Phase) ((x0.getD v1.toNat default).Used)) x2 h5) .nil))))))) (g_cache_Find_1 gx0 hc N hfin x0 0 0 0 0 0 0 false 0 0 v1 v3 h)

theorem c_cache_Find (N : Nat) (gx0 : Bool) (x0 : (List GEntry)) (x1 : GFlow) (x2 : Int) {r : GEntry × Bool} (h : L_cache_Find N x0 x1 x2 = some r) : Con Tryz.prog 129 [.sl gx0 (eL eEntry x0) x0.length x0.length, .agg [.int .i64 x1.Src, .int .i64 x1.Dst, .int .i64 x1.Proto, .int .i64 x1.Sport, .int .i64 x1.Dport], .int .i64 x2] [] (d_cache_Find r) [] :=
  con_in ok mix (fn := Tryz.f129) (by kernel_rfl) (by kernel_rfl) fun hc hfin => g_cache_Find_0 gx0 hc N hfin x0 x1 x2 h
/-! ### wharfage/conf.Site -/
def L_conf_Site_1 (N : Nat) (t0 : GConfig) (t1 b132_0 : Int) (b132_1 : Bool) (b132_2 : Int) (t16 : Bool) : Option (GSite × Bool) :=
  bif t16 then
    some ((GSite.mk 0 false 0 ([])), false)
  else
    if 0 ≤ t1 ∧ t1 < ((t0.Sites.length : Nat) : Int) then
    some ((t0.Sites.getD t1.toNat default), true)
    else none
def L_conf_Site (N : Nat) (x0 : GConfig) (x1 : Int) : Option (GSite × Bool) :=
  bif (decide (x1 < 0)) then
    L_conf_Site_1 N x0 x1 0 false 0 true
  else
    L_conf_Site_1 N x0 x1 0 false 0 (decide (x1 ≥ (x0.Sites.length : Int)))
def d_conf_Site (r : GSite × Bool) : D := .tup [.agg [.int .i64 r.1.Weight, .bool r.1.Drain, .int .i64 r.1.Cap, .sl true (eL eBack r.1.Backs) r.1.Backs.length r.1.Backs.length], .bool r.2]
theorem g_conf_Site_1 (gx0 : Bool) {c : Cx} (hc : Is c Tryz.prog ty 109 25) (N : Nat) {r : GSite × Bool} (hfin : c.Fin [] (d_conf_Site r) []) (t0 : GConfig) (t1 b132_0 : Int) (b132_1 : Bool) (b132_2 : Int) (t16 : Bool) (h : L_conf_Site_1 N t0 t1 b132_0 b132_1 b132_2 t16 = some r) : c.Goes (items (bodyOf Tryz.f109) [.c 13, .c 7]) ⟨[(0, .ip gx0 [.int .i64 t0.Version, .sl true (eL (eSite true) t0.Sites) t0.Sites.length t0.Sites.length]), (1, .int .i64 t1), (4, .ptr 132 0), (16, .bool t16)], [(132, some ⟨false, 0, [.int .i64 b132_0, .bool b132_1, .int .i64 b132_2, .nils]⟩)]⟩ := by
  unfold L_conf_Site_1 at h
  rcases brk h with ⟨h0, k0⟩ | ⟨h0, k0⟩
  · subst h0
    replace h := k0
    exact hc.rt hfin (fn := Tryz.f109) (by kernel_rfl) (orc := []) (m := 3) (d := .tup [.agg [.int .i64 0, .bool false, .int .i64 0, .nils], .bool false]) (by kernel_rfl) .nil h (Le.tup ((.cons (Le.agg ((.cons (Le.of rfl) (.cons (Le.of rfl) (.cons (Le.of rfl) (.cons (Le.nils (g := true)) .nil)))))) (.cons (Le.of rfl) .nil)))) rfl
  · subst h0
    replace h := k0
    obtain ⟨h1, h⟩ := chk h
    exact hc.rt hfin (fn := Tryz.f109) (by kernel_rfl) (orc := [(3, [(5, oC (.ip true [.int .i64 ((t0.Sites.getD t1.toNat default).Weight), .bool ((t0.Sites.getD t1.toNat default).Drain), .int .i64 ((t0.Sites.getD t1.toNat default).Cap), .sl true (eL eBack ((t0.Sites.getD t1.toNat default).Backs)) (((t0.Sites.getD t1.toNat default).Backs).length) (((t0.Sites.getD t1.toNat default).Backs).length)]))])]) (m := 4) (by kernel_rfl) (.cons (h1) (.cons (Le.iptl (g := true) (eL_at (xs := t0.Sites) (eSite_len true) (ixl h1))) .nil)) h Le.rfl rfl

theorem g_conf_Site_0 (gx0 : Bool) {c : Cx} (hc : Is c Tryz.prog ty 109 25) (N : Nat) {r : GSite × Bool} (hfin : c.Fin [] (d_conf_Site r) []) (x0 : GConfig) (x1 : Int) (h : L_conf_Site N x0 x1 = some r) : c.Goes (items (bodyOf Tryz.f109) [.c 1]) ⟨[(0, .ip gx0 [.int .i64 x0.Version, .sl true (eL (eSite true) x0.Sites) x0.Sites.length x0.Sites.length]), (1, .int .i64 x1)], []⟩ := by
  unfold L_conf_Site at h
  rcases brk h with ⟨h0, h⟩ | ⟨h0, h⟩
  · exact hc.jump (orc := [(1, [(2, oT)])]) (m := 5) (kt := [0, 1, 4, 16]) (kh := [(132, 132)]) (by kernel_rfl) (.cons (Le.tt h0) .nil) (g_conf_Site_1 gx0 hc N hfin x0 x1 0 false 0 true h)
  · exact hc.jump (orc := [(1, [(2, oF)])]) (m := 5) (kt := [0, 1, 4, 16]) (kh := [(132, 132)]) (by kernel_rfl) (.cons (Le.ff h0) .nil) (g_conf_Site_1 gx0 hc N hfin x0 x1 0 false 0 (decide (x1 ≥ (x0.Sites.length : Int))) h)

theorem c_conf_Site (N : Nat) (gx0 : Bool) (x0 : GConfig) (x1 : Int) {r : GSite × Bool} (h : L_conf_Site N x0 x1 = some r) : Con Tryz.prog 109 [.ip gx0 [.int .i64 x0.Version, .sl true (eL (eSite true) x0.Sites) x0.Sites.length x0.Sites.length], .int .i64 x1] [] (d_conf_Site r) [] :=
  con_in ok mix (fn := Tryz.f109) (by kernel_rfl) (by kernel_rfl) fun hc hfin => g_conf_Site_0 gx0 hc N hfin x0 x1 h
/-! ### wharfage/conf.Has -/
def L_conf_Has_1 (N : Nat) (t6 : Bool) : Option (Bool) :=
  some t6
def L_conf_Has (N : Nat) (x0 : GConfig) (x1 x2 : Int) : Option (Bool) :=
  (L_conf_Site N x0 x1).bind fun v1 =>
  (L_conf_May N x0).bind fun v2 =>
  bif v2 then
    bif v1.2 then
      bif (x2 == (-1)) then
        L_conf_Has_1 N true
      else
        bif (decide (x2 ≥ 0)) then
          L_conf_Has_1 N (decide (x2 < (v1.1.Backs.length : Int)))
        else
          L_conf_Has_1 N false
    else
      L_conf_Has_1 N false
  else
    L_conf_Has_1 N false
def d_conf_Has (r : Bool) : D := .bool r
theorem g_conf_Has_1 {c : Cx} (hc : Is c Tryz.prog ty 130 34) (N : Nat) {r : Bool} (hfin : c.Fin [] (d_conf_Has r) []) (t6 : Bool) (h : L_conf_Has_1 N t6 = some r) : c.Goes (items (bodyOf Tryz.f130) [.c 15]) ⟨[(6, .bool t6)], []⟩ := by
  unfold L_conf_Has_1 at h
  exact hc.rt hfin (fn := Tryz.f130) (by kernel_rfl) (orc := []) (m := 0) (by kernel_rfl) .nil h Le.rfl rfl

theorem g_conf_Has_0 {c : Cx} (hc : Is c Tryz.prog ty 130 34) (N : Nat) {r : Bool} (hfin : c.Fin [] (d_conf_Has r) []) (x0 : GConfig) (x1 x2 : Int) (h : L_conf_Has N x0 x1 x2 = some r) : c.Goes (items (bodyOf Tryz.f130) [.c 1]) ⟨[(0, .agg [.int .i64 x0.Version, .sl true (eL (eSite true) x0.Sites) x0.Sites.length x0.Sites.length]), (1, .int .i64 x1), (2, .int .i64 x2)], []⟩ := by
  unfold L_conf_Has at h
  obtain ⟨v1, h0, h⟩ := bind_of h
  obtain ⟨v2, h1, h⟩ := bind_of h
  rcases brk h with ⟨h2, h⟩ | ⟨h2, h⟩
  · rcases brk h with ⟨h3, h⟩ | ⟨h3, h⟩
    · rcases brk h with ⟨h4, h⟩ | ⟨h4, h⟩
      · exact hc.jump (orc := [(1, [(1, oR (d_conf_Site v1))]), (2, [(1, oR (d_conf_May v2)), (2, oT), (5, oT), (8, oT)])]) (m := 6) (kt := [6]) (kh := []) (by kernel_rfl) (.cons (c_conf_Site N false x0 x1 h0) (.cons (c_conf_May N true x0 h1) (.cons (Le.tt h2) (.cons (Le.tt h3) (.cons (Le.tt h4) .nil))))) (g_conf_Has_1 hc N hfin true h)
      · rcases brk h with ⟨h5, h⟩ | ⟨h5, h⟩
        · exact hc.jump (orc := [(1, [(1, oR (d_conf_Site v1))]), (2, [(1, oR (d_conf_May v2)), (2, oT), (5, oT), (8, oF), (11, oT)])]) (m := 6) (kt := [6]) (kh := []) (by kernel_rfl) (.cons (c_conf_Site N false x0 x1 h0) (.cons (c_conf_May N true x0 h1) (.cons (Le.tt h2) (.cons (Le.tt h3) (.cons (Le.ff h4) (.cons (Le.tt h5) .nil)))))) (g_conf_Has_1 hc N hfin (decide (x2 < (v1.1.Backs.length : Int))) h)
        · exact hc.jump (orc := [(1, [(1, oR (d_conf_Site v1))]), (2, [(1, oR (d_conf_May v2)), (2, oT), (5, oT), (8, oF), (11, oF)])]) (m := 6) (kt := [6]) (kh := []) (by kernel_rfl) (.cons (c_conf_Site N false x0 x1 h0) (.cons (c_conf_May N true x0 h1) (.cons (Le.tt h2) (.cons (Le.tt h3) (.cons (Le.ff h4) (.cons (Le.ff h5) .nil)))))) (g_conf_Has_1 hc N hfin false h)
    · exact hc.jump (orc := [(1, [(1, oR (d_conf_Site v1))]), (2, [(1, oR (d_conf_May v2)), (2, oT), (5, oF)])]) (m := 6) (kt := [6]) (kh := []) (by kernel_rfl) (.cons (c_conf_Site N false x0 x1 h0) (.cons (c_conf_May N true x0 h1) (.cons (Le.tt h2) (.cons (Le.ff h3) .nil)))) (g_conf_Has_1 hc N hfin false h)
  · exact hc.jump (orc := [(1, [(1, oR (d_conf_Site v1))]), (2, [(1, oR (d_conf_May v2)), (2, oF)])]) (m := 6) (kt := [6]) (kh := []) (by kernel_rfl) (.cons (c_conf_Site N false x0 x1 h0) (.cons (c_conf_May N true x0 h1) (.cons (Le.ff h2) .nil))) (g_conf_Has_1 hc N hfin false h)

theorem c_conf_Has (N : Nat) (x0 : GConfig) (x1 x2 : Int) {r : Bool} (h : L_conf_Has N x0 x1 x2 = some r) : Con Tryz.prog 130 [.agg [.int .i64 x0.Version, .sl true (eL (eSite true) x0.Sites) x0.Sites.length x0.Sites.length], .int .i64 x1, .int .i64 x2] [] (d_conf_Has r) [] :=
  con_in ok mix (fn := Tryz.f130) (by kernel_rfl) (by kernel_rfl) fun hc hfin => g_conf_Has_0 hc N hfin x0 x1 x2 h
/-! ### wharfage/cand.add -/
def L_cand_add_1 (N : Nat) (b0 : (List GCandidate)) (t1 t2 : Int) (t20 : Bool) : Option ((List GCandidate) × (List GCandidate) × Bool) :=
  bif t20 then
    some (b0, b0, true)
  else
    if growOk 16 (b0.length + 1) then
    some ((b0 ++ [(GCandidate.mk t1 t2)]), [], false)
    else none
def L_cand_add (N : Nat) (x0 : (List GCandidate)) (x1 x2 : Int) (x3 : Bool) (x4 : GHealth) : Option ((List GCandidate) × (List GCandidate) × Bool) :=
  bif (!x4.Up) then
    L_cand_add_1 N x0 x1 x2 true
  else
    bif x3 then
      L_cand_add_1 N x0 x1 x2 true
    else
      L_cand_add_1 N x0 x1 x2 (decide (x2 ≤ 0))
def d_cand_add_0 (r : (List GCandidate) × (List GCandidate) × Bool) : D := .ref 0 0 r.2.1.length r.2.1.length
def h_cand_add_0 (r : (List GCandidate) × (List GCandidate) × Bool) : List (Nat × Option Blk) := [(0, some ⟨true, 2, (eL eCandidate r.2.1)⟩)]
def d_cand_add_1 (r : (List GCandidate) × (List GCandidate) × Bool) : D := .ref 1000 0 r.1.length r.1.length
def h_cand_add_1 (r : (List GCandidate) × (List GCandidate) × Bool) : List (Nat × Option Blk) := [(0, none), (1000, some ⟨true, 2, (eL eCandidate r.1)⟩)]
theorem g_cand_add_1 {c : Cx} (hc : Is c Tryz.prog ty 181 28) (N : Nat) {r : (List GCandidate) × (List GCandidate) × Bool} {C0 : List D} (hfin : (r.2.2 = true → c.Fin [(0, ⟨true, 2, C0⟩)] (d_cand_add_0 r) (h_cand_add_0 r)) ∧ (r.2.2 = false → c.Fin [(0, ⟨true, 2, C0⟩)] (d_cand_add_1 r) (h_cand_add_1 r))) (b0 : (List GCandidate)) (t1 t2 : Int) (t20 : Bool) (h : L_cand_add_1 N b0 t1 t2 t20 = some r) : c.Goes (items (bodyOf Tryz.f181) [.c 13, .c 7]) ⟨[(0, .ref 0 0 b0.length b0.length), (1, .int .i64 t1), (2, .int .i64 t2), (20, .bool t20)], [(0, some ⟨true, 2, (eL eCandidate b0)⟩)]⟩ := by
  unfold L_cand_add_1 at h
  rcases brk h with ⟨h0, k0⟩ | ⟨h0, k0⟩
  · subst h0
    replace h := k0
    have h := Option.some.inj h
    subst h
    refine hc.retB (hfin.1 rfl) [] (fn := Tryz.f181) (by kernel_rfl) (orc := []) (m := 3) (d := .ref 0 0 b0.length b0.length) (by kernel_rfl) .nil (Le.of (by kernel_rfl)) (by kernel_rfl)
  · subst h0
    replace h := k0
    obtain ⟨h1, h⟩ := chk h
    have h := Option.some.inj h
    subst h
    refine hc.retB (hfin.2 rfl) [(1000, 316)] (fn := Tryz.f181) (by kernel_rfl) (orc := [(3, [(5, { cv := some (.ref 316 0 (b0 ++ [(GCandidate.mk t1 t2)]).length (b0 ++ [(GCandidate.mk t1 t2)]).length), cb := [(316, eL eCandidate (b0 ++ [(GCandidate.mk t1 t2)]))] })])]) (m := 4) (d := .ref 316 0 ((b0 ++ [(GCandidate.mk t1 t2)]).length) ((b0 ++ [(GCandidate.mk t1 t2)]).length)) (by kernel_rfl) (.cons ((by decide : 1 * 2 ≤ 2)) (.cons (ap_len (xs := b0) eCandidate_len) (.cons (h1) (.cons (Le.apr (b := 316) (by first | rfl | (simp only [List.length_append, List.length_take, List.length_drop]; omega) | simp : (b0 ++ [(GCandidate.mk t1 t2)]).length = b0.length + 1)) (.cons (ap_one (xs := b0) eCandidate_len (y := (GCandidate.mk t1 t2)) (cs := [.int .i64 t1, .int .i64 t2]) rfl) .nil))))) (Le.of (by kernel_rfl)) (by kernel_rfl)

theorem g_cand_add_0 {c : Cx} (hc : Is c Tryz.prog ty 181 28) (N : Nat) {r : (List GCandidate) × (List GCandidate) × Bool} {C0 : List D} (hfin : (r.2.2 = true → c.Fin [(0, ⟨true, 2, C0⟩)] (d_cand_add_0 r) (h_cand_add_0 r)) ∧ (r.2.2 = false → c.Fin [(0, ⟨true, 2, C0⟩)] (d_cand_add_1 r) (h_cand_add_1 r))) (x0 : (List GCandidate)) (x1 x2 : Int) (x3 : Bool) (x4 : GHealth) (h : L_cand_add N x0 x1 x2 x3 x4 = some r) : c.Goes (items (bodyOf Tryz.f181) [.c 1]) ⟨[(0, .ref 0 0 x0.length x0.length), (1, .int .i64 x1), (2, .int .i64 x2), (3, .bool x3), (4, .agg [.bool x4.Up, .int .i64 x4.Count])], [(0, some ⟨true, 2, (eL eCandidate x0)⟩)]⟩ := by
  unfold L_cand_add at h
  rcases brk h with ⟨h0, h⟩ | ⟨h0, h⟩
  · exact hc.jump (orc := [(1, [(3, oT)])]) (m := 5) (kt := [0, 1, 2, 20]) (kh := [(0, 0)]) (by kernel_rfl) (.cons (Le.tt h0) .nil) (g_cand_add_1 hc N hfin x0 x1 x2 true h)
  · rcases brk h with ⟨h1, h⟩ | ⟨h1, h⟩
    · exact hc.jump (orc := [(1, [(3, oF), (6, oT)])]) (m := 5) (kt := [0, 1, 2, 20]) (kh := [(0, 0)]) (by kernel_rfl) (.cons (Le.ff h0) (.cons (Le.tt h1) .nil)) (g_cand_add_1 hc N hfin x0 x1 x2 true h)
    · exact hc.jump (orc := [(1, [(3, oF), (6, oF)])]) (m := 5) (kt := [0, 1, 2, 20]) (kh := [(0, 0)]) (by kernel_rfl) (.cons (Le.ff h0) (.cons (Le.ff h1) .nil)) (g_cand_add_1 hc N hfin x0 x1 x2 (decide (x2 ≤ 0)) h)

theorem c_cand_add_0 (N : Nat) (x0 : (List GCandidate)) (x1 x2 : Int) (x3 : Bool) (x4 : GHealth) {r : (List GCandidate) × (List GCandidate) × Bool} (h : L_cand_add N x0 x1 x2 x3 x4 = some r) (ht : r.2.2 = true) : Con Tryz.prog 181 [.ref 0 0 x0.length x0.length, .int .i64 x1, .int .i64 x2, .bool x3, .agg [.bool x4.Up, .int .i64 x4.Count]] [(0, ⟨true, 2, (eL eCandidate x0)⟩)] (d_cand_add_0 r) (h_cand_add_0 r) :=
  con_in ok mix (fn := Tryz.f181) (by kernel_rfl) (by kernel_rfl) fun hc hfin => g_cand_add_0 hc N ⟨fun _ => hfin, fun e => by rw [ht] at e; cases e⟩ x0 x1 x2 x3 x4 h
theorem c_cand_add_1 (N : Nat) (x0 : (List GCandidate)) (x1 x2 : Int) (x3 : Bool) (x4 : GHealth) {r : (List GCandidate) × (List GCandidate) × Bool} (h : L_cand_add N x0 x1 x2 x3 x4 = some r) (ht : r.2.2 = false) : Con Tryz.prog 181 [.ref 0 0 x0.length x0.length, .int .i64 x1, .int .i64 x2, .bool x3, .agg [.bool x4.Up, .int .i64 x4.Count]] [(0, ⟨true, 2, (eL eCandidate x0)⟩)] (d_cand_add_1 r) (h_cand_add_1 r) :=
  con_in ok mix (fn := Tryz.f181) (by kernel_rfl) (by kernel_rfl) fun hc hfin => g_cand_add_0 hc N ⟨fun e => (by rw [ht] at e; cases e), fun _ => hfin⟩ x0 x1 x2 x3 x4 h
/-! ### wharfage/cand.Sites -/
def L_cand_Sites_2 (N : Nat) : Nat → (List GHealth) → (List GCandidate) → (List GSite) → Int → Int → Option ((List GCandidate) × Int)
  | 0, _, _, _, _, _ => none
  | fuel + 1, t1, b148, t18, t19, t20 =>
    bif (decide (t20 < t19)) then
      if 0 ≤ t20 ∧ t20 < ((t18.length : Nat) : Int) then
      if 0 ≤ t20 ∧ t20 < ((t1.length : Nat) : Int) then
      (L_cand_add N b148 t20 ((t18.getD t20.toNat default).Weight) ((t18.getD t20.toNat default).Drain) (t1.getD t20.toNat default)).bind fun v1 =>
      bif v1.2.2 then
        if v1.2.1.length = b148.length then
        L_cand_Sites_2 N fuel t1 v1.2.1 t18 t19 (IntKind.i64.wrap (t20 + 1))
        else none
      else
        L_cand_Sites_2 N fuel t1 v1.1 t18 t19 (IntKind.i64.wrap (t20 + 1))
      else none
      else none
    else
      some (b148, 0)
def L_cand_Sites_1 (N : Nat) (t1 : (List GHealth)) (b116_0 : Int) (b116_1 : (List GSite)) (t16 : Bool) : Option ((List GCandidate) × Int) :=
  bif t16 then
    some ([], 1300)
  else
    L_cand_Sites_2 N N t1 ([]) b116_1 (b116_1.length : Int) 0
def L_cand_Sites (N : Nat) (x0 : GConfig) (x1 : (List GHealth)) : Option ((List GCandidate) × Int) :=
  (L_conf_May N x0).bind fun v1 =>
  bif (!v1) then
    L_cand_Sites_1 N x1 x0.Version x0.Sites true
  else
    (L_health_All N x1 3).bind fun v2 =>
    L_cand_Sites_1 N x1 x0.Version x0.Sites (!v2)
def d_cand_Sites (r : (List GCandidate) × Int) : D := .tup [.sl true (eL eCandidate r.1) r.1.length r.1.length, .int .i64 r.2]
theorem g_cand_Sites_2 (gx0 : Bool) (gx1 : Bool) {c : Cx} (hc : Is c Tryz.prog ty 131 38) (N : Nat) {r : (List GCandidate) × Int} (hfin : c.Fin [] (d_cand_Sites r) []) : ∀ (fuel : Nat) (t1 : (List GHealth)) (b148 : (List GCandidate)) (t18 : (List GSite)) (t19 t20 : Int), L_cand_Sites_2 N fuel t1 b148 t18 t19 t20 = some r → c.Goes (items (bodyOf Tryz.f131) [.c 151, .l 151, .b 0, .c 31]) ⟨[(1, .sl gx1 (eL eHealth t1) t1.length t1.length), (6, .ref 148 0 b148.length b148.length), (18, .sl gx0 (eL (eSite gx0) t18) t18.length t18.length), (19, .int .i64 t19), (20, .int .i64 t20)], [(148, some ⟨true, 2, (eL eCandidate b148)⟩)]⟩ := by
  intro fuel
  induction fuel with
  | zero => intro t1 b148 t18 t19 t20 h; simp [L_cand_Sites_2] at h
  | succ fuel ih =>
    intro t1 b148 t18 t19 t20 h
    unfold L_cand_Sites_2 at h
    rcases brk h with ⟨h0, h⟩ | ⟨h0, h⟩
    · obtain ⟨h1, h⟩ := chk h
      obtain ⟨h2, h⟩ := chk h
      obtain ⟨v1, h3, h⟩ := bind_of h
      rcases brk h with ⟨h4, h⟩ | ⟨h4, h⟩
      · obtain ⟨h5, h⟩ := chk h
        exact hc.jump (orc := [(5, [(0, oT)]), (6, [(1, oC (.ip gx0 [.int .i64 ((t18.getD t20.toNat default).Weight), .bool ((t18.getD t20.toNat default).Drain), .int .i64 ((t18.getD t20.toNat default).Cap), .sl gx0 (eL eBack ((t18.getD t20.toNat default).Backs)) (((t18.getD t20.toNat default).Backs).length) (((t18.getD t20.toNat default).Backs).length)]))]), (7, [(8, oC (.ip gx1 [.bool ((t1.getD t20.toNat default).Up), .int .i64 ((t1.getD t20.toNat default).Count)])), (10, { ρ := [148], r := d_cand_add_0 v1, H := h_cand_add_0 v1 })])]) (m := 13) (kt := [1, 6, 18, 19, 20]) (kh := [(148, 148)]) (by kernel_rfl) (.cons (Le.tt h0) (.cons (h1) (.cons (Le.iptl (g := gx0) (eL_at (xs := t18) (eSite_len gx0) (ixl h1))) (.cons (h2) (.cons (Le.iptl (g := gx1) (eL_at (xs := t1) eHealth_len (ixl h2))) (.cons (c_cand_add_0 N b148 t20 ((t18.getD t20.toNat default).Weight) ((t18.getD t20.toNat default).Drain) (t1.getD t20.toNat default) h3 h4) .nil)))))) (ih t1 v1.2.1 t18 t19 (IntKind.i64.wrap (t20 + 1)) h)
      · exact hc.jump (orc := [(5, [(0, oT)]), (6, [(1, oC (.ip gx0 [.int .i64 ((t18.getD t20.toNat default).Weight), .bool ((t18.getD t20.toNat default).Drain), .int .i64 ((t18.getD t20.toNat default).Cap), .sl gx0 (eL eBack ((t18.getD t20.toNat default).Backs)) (((t18.getD t20.toNat default).Backs).length) (((t18.getD t20.toNat default).Backs).length)]))]), (7, [(8, oC (.ip gx1 [.bool ((t1.getD t20.toNat default).Up), .int .i64 ((t1.getD t20.toNat default).Count)])), (10, { ρ := [148], r := d_cand_add_1 v1, H := h_cand_add_1 v1 })])]) (m := 13) (kt := [1, 6, 18, 19, 20]) (kh := [(380, 148)]) (by kernel_rfl) (.cons (Le.tt h0) (.cons (h1) (.cons (Le.iptl (g := gx0) (eL_at (xs := t18) (eSite_len gx0) (ixl h1))) (.cons (h2) (.cons (Le.iptl (g := gx1) (eL_at (xs := t1) eHealth_len (ixl h2))) (.cons (c_cand_add_1 N b148 t20 ((t18.getD t20.toNat default).Weight) ((t18.getD t20.toNat default).Drain) (t1.getD t20.toNat default) h3 h4) .nil)))))) (ih t1 v1.1 t18 t19 (IntKind.i64.wrap (t20 + 1)) h)
    · exact hc.rt hfin (fn := Tryz.f131) (by kernel_rfl) (orc := [(5, [(0, oF)]), (9, [(1, { frz := true })])]) (m := 7) (by kernel_rfl) (.cons (Le.ff h0) .nil) h Le.rfl rfl

theorem g_cand_Sites_1 (gx0 : Bool) (gx1 : Bool) {c : Cx} (hc : Is c Tryz.prog ty 131 38) (N : Nat) {r : (List GCandidate) × Int} (hfin : c.Fin [] (d_cand_Sites r) []) (t1 : (List GHealth)) (b116_0 : Int) (b116_1 : (List GSite)) (t16 : Bool) (h : L_cand_Sites_1 N t1 b116_0 b116_1 t16 = some r) : c.Goes (items (bodyOf Tryz.f131) [.c 13, .c 7]) ⟨[(1, .sl gx1 (eL eHealth t1) t1.length t1.length), (2, .ptr 116 0), (16, .bool t16)], [(116, some ⟨false, 0, [.int .i64 b116_0, .sl gx0 (eL (eSite gx0) b116_1) b116_1.length b116_1.length]⟩)]⟩ := by
  unfold L_cand_Sites_1 at h
  rcases brk h with ⟨h0, k0⟩ | ⟨h0, k0⟩
  · subst h0
    replace h := k0
    exact hc.rt hfin (fn := Tryz.f131) (by kernel_rfl) (orc := []) (m := 3) (d := .tup [.nils, .int .i64 1300]) (by kernel_rfl) .nil h (Le.tup ((.cons (Le.nils (g := true)) (.cons (Le.of rfl) .nil)))) rfl
  · subst h0
    replace h := k0
    exact hc.jump (orc := [(3, [(0, { own := some (2) })])]) (m := 9) (kt := [1, 6, 18, 19, 20]) (kh := [(148, 148)]) (by kernel_rfl) .nil (g_cand_Sites_2 gx0 gx1 hc N hfin N t1 ([]) b116_1 (b116_1.length : Int) 0 h)

theorem g_cand_Sites_0 (gx0 : Bool) (gx1 : Bool) {c : Cx} (hc : Is c Tryz.prog ty 131 38) (N : Nat) {r : (List GCandidate) × Int} (hfin : c.Fin [] (d_cand_Sites r) []) (x0 : GConfig) (x1 : (List GHealth)) (h : L_cand_Sites N x0 x1 = some r) : c.Goes (items (bodyOf Tryz.f131) [.c 1]) ⟨[(0, .agg [.int .i64 x0.Version, .sl gx0 (eL (eSite gx0) x0.Sites) x0.Sites.length x0.Sites.length]), (1, .sl gx1 (eL eHealth x1) x1.length x1.length)], []⟩ := by
  unfold L_cand_Sites at h
  obtain ⟨v1, h0, h⟩ := bind_of h
  rcases brk h with ⟨h1, h⟩ | ⟨h1, h⟩
  · exact hc.jump (orc := [(1, [(1, oR (d_conf_May v1)), (3, oT)])]) (m := 5) (kt := [1, 2, 16]) (kh := [(116, 116)]) (by kernel_rfl) (.cons (c_conf_May N gx0 x0 h0) (.cons (Le.tt h1) .nil)) (g_cand_Sites_1 gx0 gx1 hc N hfin x1 x0.Version x0.Sites true h)
  · obtain ⟨v2, h2, h⟩ := bind_of h
    exact hc.jump (orc := [(1, [(1, oR (d_conf_May v1)), (3, oF), (5, oR (d_health_All v2))])]) (m := 5) (kt := [1, 2, 16]) (kh := [(116, 116)]) (by kernel_rfl) (.cons (c_conf_May N gx0 x0 h0) (.cons (Le.ff h1) (.cons (c_health_All N gx1 x1 3 h2) .nil))) (g_cand_Sites_1 gx0 gx1 hc N hfin x1 x0.Version x0.Sites (!v2) h)

theorem c_cand_Sites (N : Nat) (gx0 : Bool) (gx1 : Bool) (x0 : GConfig) (x1 : (List GHealth)) {r : (List GCandidate) × Int} (h : L_cand_Sites N x0 x1 = some r) : Con Tryz.prog 131 [.agg [.int .i64 x0.Version, .sl gx0 (eL (eSite gx0) x0.Sites) x0.Sites.length x0.Sites.length], .sl gx1 (eL eHealth x1) x1.length x1.length] [] (d_cand_Sites r) [] :=
  con_in ok mix (fn := Tryz.f131) (by kernel_rfl) (by kernel_rfl) fun hc hfin => g_cand_Sites_0 gx0 gx1 hc N hfin x0 x1 h
/-! ### wharfage/hash.mix -/
def L_hash_mix (N : Nat) (x0 x1 : Int) : Option (Int) :=
  via ((bXor .u32 (IntKind.u32.wrap (x0 + 2654435769)) x1) : Int) fun v1 =>
  via ((IntKind.u32.wrap ((bXor .u32 v1 (v1.fdiv (2 ^ 16))) * 2246822507)) : Int) fun v2 =>
  via ((IntKind.u32.wrap ((bXor .u32 v2 (v2.fdiv (2 ^ 13))) * 3266489909)) : Int) fun v3 =>
  some (bXor .u32 v3 (v3.fdiv (2 ^ 16)))
def d_hash_mix (r : Int) : D := .int .u32 r
theorem g_hash_mix_0 {c : Cx} (hc : Is c Tryz.prog ty 215 24) (N : Nat) {r : Int} (hfin : c.Fin [] (d_hash_mix r) []) (x0 x1 : Int) (h : L_hash_mix N x0 x1 = some r) : c.Goes (items (bodyOf Tryz.f215) [.c 1]) ⟨[(0, .int .u32 x0), (1, .int .u32 x1)], []⟩ := by
  unfold L_hash_mix at h
  obtain ⟨v1, h0, h⟩ := via_some h
  obtain ⟨v2, h1, h⟩ := via_some h
  obtain ⟨v3, h2, h⟩ := via_some h
  exact hc.rt hfin (fn := Tryz.f215) (by kernel_rfl) (orc := [(1, [(3, oC (.int .u32 v1))]), (2, [(4, oC (.int .u32 v2))]), (3, [(4, oC (.int .u32 v3))])]) (m := 10) (by kernel_rfl) (.cons (Le.int (k := .u32) h0) (.cons ((by decide : (0:Int) ≤ 16)) (.cons (Le.int (k := .u32) h1) (.cons ((by decide : (0:Int) ≤ 13)) (.cons (Le.int (k := .u32) h2) (.cons ((by decide : (0:Int) ≤ 16)) .nil)))))) h Le.rfl rfl

theorem c_hash_mix (N : Nat) (x0 x1 : Int) {r : Int} (h : L_hash_mix N x0 x1 = some r) : Con Tryz.prog 215 [.int .u32 x0, .int .u32 x1] [] (d_hash_mix r) [] :=
  con_in ok mix (fn := Tryz.f215) (by kernel_rfl) (by kernel_rfl) fun hc hfin => g_hash_mix_0 hc N hfin x0 x1 h
/-! ### wharfage/hash.Flow -/
def L_hash_Flow_2 (N : Nat) : Nat → Int → (List Int) → Int → Int → Option (Int × Int)
  | 0, _, _, _, _ => none
  | fuel + 1, t6, b348, t32, t33 =>
    bif (decide (t33 < t32)) then
      if 0 ≤ t33 ∧ t33 < ((b348.length : Nat) : Int) then
      via ((IntKind.u32.wrap (b348.getD t33.toNat default)) : Int) fun v1 =>
      (L_hash_mix N t6 v1).bind fun v2 =>
      L_hash_Flow_2 N fuel v2 b348 t32 (IntKind.i64.wrap (t33 + 1))
      else none
    else
      some ((IntKind.i64.wrap t6), 0)
def L_hash_Flow_1 (N : Nat) (t0 b124_0 b124_1 b124_2 b124_3 b124_4 : Int) (t16 : Bool) : Option (Int × Int) :=
  bif t16 then
    some (0, 800)
  else
    via ((bOr .i64 (IntKind.i64.wrap (b124_3 * 2 ^ 16)) b124_4) : Int) fun v1 =>
    L_hash_Flow_2 N N (IntKind.u32.wrap t0) ([b124_0, b124_1, b124_2, v1]) 4 0
def L_hash_Flow (N : Nat) (x0 : Int) (x1 : GFlow) : Option (Int × Int) :=
  (L_ip_In N x0 32).bind fun v1 =>
  bif (!v1) then
    L_hash_Flow_1 N x0 x1.Src x1.Dst x1.Proto x1.Sport x1.Dport true
  else
    (L_flow_May N x1).bind fun v2 =>
    L_hash_Flow_1 N x0 x1.Src x1.Dst x1.Proto x1.Sport x1.Dport (!v2)
def d_hash_Flow (r : Int × Int) : D := .tup [.int .i64 r.1, .int .i64 r.2]
theorem g_hash_Flow_2 {c : Cx} (hc : Is c Tryz.prog ty 182 44) (N : Nat) {r : Int × Int} (hfin : c.Fin [] (d_hash_Flow r) []) : ∀ (fuel : Nat) (t6 : Int) (b348 : (List Int)) (t32 t33 : Int), L_hash_Flow_2 N fuel t6 b348 t32 t33 = some r → c.Goes (items (bodyOf Tryz.f182) [.c 151, .l 151, .b 0, .c 31]) ⟨[(6, .int .u32 t6), (31, .ref 348 0 b348.length b348.length), (32, .int .i64 t32), (33, .int .i64 t33)], [(348, some ⟨true, 1, (eL (eInt .i64) b348)⟩)]⟩ := by
  intro fuel
  induction fuel with
  | zero => intro t6 b348 t32 t33 h; simp [L_hash_Flow_2] at h
  | succ fuel ih =>
    intro t6 b348 t32 t33 h
    unfold L_hash_Flow_2 at h
    rcases brk h with ⟨h0, h⟩ | ⟨h0, h⟩
    · obtain ⟨h1, h⟩ := chk h
      obtain ⟨v1, h2, h⟩ := via_some h
      obtain ⟨v2, h3, h⟩ := bind_of h
      exact hc.jump (orc := [(5, [(0, oT)]), (6, [(0, oC (.ptr 348 (t33.toNat * 1 + 0))), (1, oC (.int .i64 (b348.getD t33.toNat default)))]), (7, [(2, oC (.int .u32 v1)), (3, oR (d_hash_mix v2))])]) (m := 13) (kt := [6, 31, 32, 33]) (kh := [(348, 348)]) (by kernel_rfl) (.cons (Le.tt h0) (.cons (h1) (.cons (Le.pt (b := 348) (k := t33.toNat * 1)) (.cons (ld_ne (xs := b348) (eInt_len .i64) (ixl h1) (o := 0) (by decide)) (.cons (Le.of (ld_hd (xs := b348) (eInt_len .i64) (ixl h1) (o := 0) (by decide))) (.cons (Le.int (k := .u32) h2) (.cons (c_hash_mix N t6 v1 h3) .nil))))))) (ih v2 b348 t32 (IntKind.i64.wrap (t33 + 1)) h)
    · exact hc.rt hfin (fn := Tryz.f182) (by kernel_rfl) (orc := [(5, [(0, oF)])]) (m := 7) (by kernel_rfl) (.cons (Le.ff h0) .nil) h Le.rfl rfl

theorem g_hash_Flow_1 {c : Cx} (hc : Is c Tryz.prog ty 182 44) (N : Nat) {r : Int × Int} (hfin : c.Fin [] (d_hash_Flow r) []) (t0 b124_0 b124_1 b124_2 b124_3 b124_4 : Int) (t16 : Bool) (h : L_hash_Flow_1 N t0 b124_0 b124_1 b124_2 b124_3 b124_4 t16 = some r) : c.Goes (items (bodyOf Tryz.f182) [.c 13, .c 7]) ⟨[(0, .int .i64 t0), (3, .ptr 124 0), (16, .bool t16)], [(124, some ⟨false, 0, [.int .i64 b124_0, .int .i64 b124_1, .int .i64 b124_2, .int .i64 b124_3, .int .i64 b124_4]⟩)]⟩ := by
  unfold L_hash_Flow_1 at h
  rcases brk h with ⟨h0, k0⟩ | ⟨h0, k0⟩
  · subst h0
    replace h := k0
    exact hc.rt hfin (fn := Tryz.f182) (by kernel_rfl) (orc := []) (m := 3) (by kernel_rfl) .nil h Le.rfl rfl
  · subst h0
    replace h := k0
    obtain ⟨v1, h1, h⟩ := via_some h
    exact hc.jump (orc := [(4, [(11, oC (.int .i64 v1))])]) (m := 9) (kt := [6, 31, 32, 33]) (kh := [(348, 348)]) (by kernel_rfl) (.cons ((by decide : (0:Int) ≤ 16)) (.cons (Le.int (k := .i64) h1) .nil)) (g_hash_Flow_2 hc N hfin N (IntKind.u32.wrap t0) ([b124_0, b124_1, b124_2, v1]) 4 0 h)

theorem g_hash_Flow_0 {c : Cx} (hc : Is c Tryz.prog ty 182 44) (N : Nat) {r : Int × Int} (hfin : c.Fin [] (d_hash_Flow r) []) (x0 : Int) (x1 : GFlow) (h : L_hash_Flow N x0 x1 = some r) : c.Goes (items (bodyOf Tryz.f182) [.c 1]) ⟨[(0, .int .i64 x0), (1, .agg [.int .i64 x1.Src, .int .i64 x1.Dst, .int .i64 x1.Proto, .int .i64 x1.Sport, .int .i64 x1.Dport])], []⟩ := by
  unfold L_hash_Flow at h
  obtain ⟨v1, h0, h⟩ := bind_of h
  rcases brk h with ⟨h1, h⟩ | ⟨h1, h⟩
  · exact hc.jump (orc := [(1, [(1, oR (d_ip_In v1)), (3, oT)])]) (m := 5) (kt := [0, 3, 16]) (kh := [(124, 124)]) (by kernel_rfl) (.cons (c_ip_In N x0 32 h0) (.cons (Le.tt h1) .nil)) (g_hash_Flow_1 hc N hfin x0 x1.Src x1.Dst x1.Proto x1.Sport x1.Dport true h)
  · obtain ⟨v2, h2, h⟩ := bind_of h
    exact hc.jump (orc := [(1, [(1, oR (d_ip_In v1)), (3, oF), (5, oR (d_flow_May v2))])]) (m := 5) (kt := [0, 3, 16]) (kh := [(124, 124)]) (by kernel_rfl) (.cons (c_ip_In N x0 32 h0) (.cons (Le.ff h1) (.cons (c_flow_May N x1 h2) .nil))) (g_hash_Flow_1 hc N hfin x0 x1.Src x1.Dst x1.Proto x1.Sport x1.Dport (!v2) h)

theorem c_hash_Flow (N : Nat) (x0 : Int) (x1 : GFlow) {r : Int × Int} (h : L_hash_Flow N x0 x1 = some r) : Con Tryz.prog 182 [.int .i64 x0, .agg [.int .i64 x1.Src, .int .i64 x1.Dst, .int .i64 x1.Proto, .int .i64 x1.Sport, .int .i64 x1.Dport]] [] (d_hash_Flow r) [] :=
  con_in ok mix (fn := Tryz.f182) (by kernel_rfl) (by kernel_rfl) fun hc hfin => g_hash_Flow_0 hc N hfin x0 x1 h
/-! ### wharfage/maglev.Weight -/
def L_maglev_Weight_1 (N : Nat) (t2 : Bool) : Option (Bool) :=
  some t2
def L_maglev_Weight (N : Nat) (x0 : Int) : Option (Bool) :=
  bif (decide (x0 ≥ 1)) then
    L_maglev_Weight_1 N (decide (x0 ≤ 16))
  else
    L_maglev_Weight_1 N false
def d_maglev_Weight (r : Bool) : D := .bool r
theorem g_maglev_Weight_1 {c : Cx} (hc : Is c Tryz.prog ty 233 9) (N : Nat) {r : Bool} (hfin : c.Fin [] (d_maglev_Weight r) []) (t2 : Bool) (h : L_maglev_Weight_1 N t2 = some r) : c.Goes (items (bodyOf Tryz.f233) [.c 7]) ⟨[(2, .bool t2)], []⟩ := by
  unfold L_maglev_Weight_1 at h
  exact hc.rt hfin (fn := Tryz.f233) (by kernel_rfl) (orc := []) (m := 0) (by kernel_rfl) .nil h Le.rfl rfl

theorem g_maglev_Weight_0 {c : Cx} (hc : Is c Tryz.prog ty 233 9) (N : Nat) {r : Bool} (hfin : c.Fin [] (d_maglev_Weight r) []) (x0 : Int) (h : L_maglev_Weight N x0 = some r) : c.Goes (items (bodyOf Tryz.f233) [.c 1]) ⟨[(0, .int .i64 x0)], []⟩ := by
  unfold L_maglev_Weight at h
  rcases brk h with ⟨h0, h⟩ | ⟨h0, h⟩
  · exact hc.jump (orc := [(1, [(2, oT)])]) (m := 4) (kt := [2]) (kh := []) (by kernel_rfl) (.cons (Le.tt h0) .nil) (g_maglev_Weight_1 hc N hfin (decide (x0 ≤ 16)) h)
  · exact hc.jump (orc := [(1, [(2, oF)])]) (m := 4) (kt := [2]) (kh := []) (by kernel_rfl) (.cons (Le.ff h0) .nil) (g_maglev_Weight_1 hc N hfin false h)

theorem c_maglev_Weight (N : Nat) (x0 : Int) {r : Bool} (h : L_maglev_Weight N x0 = some r) : Con Tryz.prog 233 [.int .i64 x0] [] (d_maglev_Weight r) [] :=
  con_in ok mix (fn := Tryz.f233) (by kernel_rfl) (by kernel_rfl) fun hc hfin => g_maglev_Weight_0 hc N hfin x0 h
end Go.Proofs.YtmhlgpdoedbedaaGreat.Lf
