import Derived.Test.YtmhlgpdoedbedaaGreatTab
set_option linter.unusedVariables false
set_option linter.unusedSimpArgs false
namespace Go.Proofs.YtmhlgpdoedbedaaGreat.Lf
set_option maxRecDepth 20000
open Go Go.RowKit Go.Proofs Go.Proofs.YtmhlgpdoedbedaaGreat.Sv
structure GBack where
  Weight : Int
  Drain : Bool
def eBack (x : GBack) : List D := [iI x.Weight, .bool x.Drain]
instance : Inhabited GBack := ⟨⟨default, default⟩⟩
theorem eBack_len (x : GBack) : (eBack x).length = 2 := rfl
theorem lo_Back (x : GBack) : looses (eBack x) = eBack x := rfl
structure GSite where
  Weight : Int
  Drain : Bool
  Cap : Int
  Backs : (List GBack)
def eSite (g : Bool) (x : GSite) : List D := [iI x.Weight, .bool x.Drain, iI x.Cap, sS g eBack x.Backs]
instance : Inhabited GSite := ⟨⟨default, default, default, default⟩⟩
theorem eSite_len (g : Bool) (x : GSite) : (eSite g x).length = 4 := rfl
theorem lo_Site (g : Bool) (x : GSite) : looses (eSite g x) = eSite false x := by simp only [eSite, looses, D.loose, looses_eL lo_Back]
structure GConfig where
  Version : Int
  Sites : (List GSite)
def eConfig (g : Bool) (x : GConfig) : List D := [iI x.Version, sS g (eSite g) x.Sites]
instance : Inhabited GConfig := ⟨⟨default, default⟩⟩
structure GHealth where
  Up : Bool
  Count : Int
def eHealth (x : GHealth) : List D := [.bool x.Up, iI x.Count]
instance : Inhabited GHealth := ⟨⟨default, default⟩⟩
theorem eHealth_len (x : GHealth) : (eHealth x).length = 2 := rfl
structure GReport where
  Site : Int
  Serial : Int
  Load : Int
  Cap : Int
def eReport (x : GReport) : List D := [iI x.Site, iI x.Serial, iI x.Load, iI x.Cap]
instance : Inhabited GReport := ⟨⟨default, default, default, default⟩⟩
structure GSeen where
  Report : GReport
  At : Int
def eSeen (x : GSeen) : List D := [iI x.Report.Site, iI x.Report.Serial, iI x.Report.Load, iI x.Report.Cap, iI x.At]
instance : Inhabited GSeen := ⟨⟨default, default⟩⟩
theorem eSeen_len (x : GSeen) : (eSeen x).length = 5 := rfl
structure GFlow where
  Src : Int
  Dst : Int
  Proto : Int
  Sport : Int
  Dport : Int
def eFlow (x : GFlow) : List D := [iI x.Src, iI x.Dst, iI x.Proto, iI x.Sport, iI x.Dport]
instance : Inhabited GFlow := ⟨⟨default, default, default, default, default⟩⟩
structure GEntry where
  Flow : GFlow
  To : Int
  Away : Bool
  Phase : Int
  Used : Int
def eEntry (x : GEntry) : List D := [iI x.Flow.Src, iI x.Flow.Dst, iI x.Flow.Proto, iI x.Flow.Sport, iI x.Flow.Dport, iI x.To, .bool x.Away, iI x.Phase, iI x.Used]
instance : Inhabited GEntry := ⟨⟨default, default, default, default, default⟩⟩
theorem eEntry_len (x : GEntry) : (eEntry x).length = 9 := rfl
structure GNode where
  Id : Int
  Config : GConfig
  Health : (List GHealth)
  Seen : (List GSeen)
  Flows : (List GEntry)
  Serial : Int
def eNode (g : Bool) (x : GNode) : List D := [iI x.Id, iI x.Config.Version, sS g (eSite g) x.Config.Sites, sS g eHealth x.Health, sS g eSeen x.Seen, sS g eEntry x.Flows, iI x.Serial]
instance : Inhabited GNode := ⟨⟨default, default, default, default, default, default⟩⟩
structure GSeg where
  Proto : Int
  Sport : Int
  Dport : Int
  Seq : Int
  Ack : Int
  Flags : Int
  Body : ByteArray
instance : Inhabited GSeg := ⟨⟨default, default, default, default, default, default, default⟩⟩
structure GIp where
  Src : Int
  Dst : Int
  Proto : Int
  Ttl : Int
  Id : Int
  Body : ByteArray
instance : Inhabited GIp := ⟨⟨default, default, default, default, default, default⟩⟩
structure GOuter where
  Src : Int
  Dst : Int
  Tier : Int
  Marker : Int
  Origin : Int
  Body : ByteArray
instance : Inhabited GOuter := ⟨⟨default, default, default, default, default, default⟩⟩
structure GEvent where
  Kind : Int
  Role : Int
  Site : Int
  Node : Int
  To : Int
  Flow : GFlow
def eEvent (x : GEvent) : List D := [iI x.Kind, iI x.Role, iI x.Site, iI x.Node, iI x.To, iI x.Flow.Src, iI x.Flow.Dst, iI x.Flow.Proto, iI x.Flow.Sport, iI x.Flow.Dport]
instance : Inhabited GEvent := ⟨⟨default, default, default, default, default, default⟩⟩
theorem eEvent_len (x : GEvent) : (eEvent x).length = 10 := rfl
structure GOut where
  Sent : (List ByteArray)
  Events : (List GEvent)
instance : Inhabited GOut := ⟨⟨default, default⟩⟩
structure Gevent_Teller where
  Role : Int
  Site : Int
  Node : Int
instance : Inhabited Gevent_Teller := ⟨⟨default, default, default⟩⟩
structure Gsite_node where
  Node : GNode
  Teller : Gevent_Teller
  now_ : Int
instance : Inhabited Gsite_node := ⟨⟨default, default, default⟩⟩
structure Gseg_ends where
  src_ : Int
  dst_ : Int
instance : Inhabited Gseg_ends := ⟨⟨default, default⟩⟩
structure GCandidate where
  Id : Int
  Weight : Int
def eCandidate (x : GCandidate) : List D := [iI x.Id, iI x.Weight]
instance : Inhabited GCandidate := ⟨⟨default, default⟩⟩
theorem eCandidate_len (x : GCandidate) : (eCandidate x).length = 2 := rfl
structure Gmaglev_walk where
  at_ : Int
  step_ : Int
def emaglev_walk (x : Gmaglev_walk) : List D := [iI x.at_, iI x.step_]
instance : Inhabited Gmaglev_walk := ⟨⟨default, default⟩⟩
theorem emaglev_walk_len (x : Gmaglev_walk) : (emaglev_walk x).length = 2 := rfl
structure GEdge where
  Id : Int
  Config : GConfig
  Health : (List GHealth)
  Flows : (List GEntry)
instance : Inhabited GEdge := ⟨⟨default, default, default, default⟩⟩
def L_law20_given (N : Nat) : Option (GConfig) :=
 some (GConfig.mk 3 ([(GSite.mk 2 false 2 ([(GBack.mk 1 false), (GBack.mk 3 false)])), (GSite.mk 1 false 4 ([(GBack.mk 1 false)]))]))
def d51 (r : GConfig) : D := .agg [iI r.Version, sS true (eSite true) r.Sites]
theorem c51 {N} {r} (h : L_law20_given N = some r) : Con Tryz.prog 51 [] [] (d51 r) [] :=
 ci ok mix Tryz.f51 fun z =>
 z.rl [(1, [(3, { frz := true }), (6, { frz := true }), (8, { frz := true })])] 4 (.agg [iI 3, .sl true (eL (eSite true) ([(GSite.mk 2 false 2 ([(GBack.mk 1 false), (GBack.mk 3 false)])), (GSite.mk 1 false 4 ([(GBack.mk 1 false)]))])) 2 2]) o0 h (Le.agg ((.cons (Le.of rfl) (.cons (Le.sln (g := true) (cs := (eL (eSite true) ([(GSite.mk 2 false 2 ([(GBack.mk 1 false), (GBack.mk 3 false)])), (GSite.mk 1 false 4 ([(GBack.mk 1 false)]))]))) (n := 2) (c := 2) (k := ([(GSite.mk 2 false 2 ([(GBack.mk 1 false), (GBack.mk 3 false)])), (GSite.mk 1 false 4 ([(GBack.mk 1 false)]))]).length) (by first | rfl | omega | simp) (by first | rfl | omega | simp)) .nil))))
def L_conf_Copy_1 (N : Nat) : Nat → Int → (List GSite) → Int → (List GSite) → (List GSite) → Int → Int → Option (GConfig)
  | 0, _, _, _, _, _, _, _ => none
  | fuel + 1, b108_0, b108_1, b116_0, b124, t7, t8, t9 =>
  bif (decide (t9 < t8)) then
   if 0 ≤ t9 ∧ t9 < ((t7.length : Nat) : Int) then
   if growOk 16 (((t7.getD t9.toNat default).Backs).length) then
   if growOk 48 (b124.length + 1) then
   L_conf_Copy_1 N fuel b108_0 b108_1 b116_0 (b124 ++ [(t7.getD t9.toNat default)]) t7 t8 (IntKind.i64.wrap (t9 + 1))
   else none
   else none
   else none
  else
   some (GConfig.mk b108_0 b124)
def L_conf_Copy (N : Nat) (x0 : GConfig) : Option (GConfig) :=
 L_conf_Copy_1 N N x0.Version x0.Sites 0 ([]) x0.Sites (x0.Sites.length : Int) 0
def d76 (r : GConfig) : D := .agg [iI r.Version, sS true (eSite true) r.Sites]
theorem g76_1 {N} (gx0 : Bool) {r} (z : Z Tryz.prog ty 76 Tryz.f76 (Fi [] (d76 r) [])) (fuel) : ∀ {b108_0 b108_1 b116_0 b124 t7 t8 t9}, L_conf_Copy_1 N fuel b108_0 b108_1 b116_0 b124 t7 t8 t9 = some r → z.G [.c 75, .l 75, .b 0, .c 15] [(1, .ptr 108 0), (2, .ptr 116 0), (3, rR 124 b124), (7, sS gx0 (eSite gx0) t7), (8, iI t8), (9, iI t9)] [qB 108 [iI b108_0, sS gx0 (eSite gx0) b108_1], qB 116 [iI b116_0, .nils], pB 124 4 (eL (eSite true) b124)] := by
 induction fuel with
 | zero => intro b108_0 b108_1 b116_0 b124 t7 t8 t9 h; cases h
 | succ fuel ih =>
  intro b108_0 b108_1 b116_0 b124 t7 t8 t9 h
  exact
   br h (fun h0 h =>
    ck h fun h1 h =>
    ck h fun h2 h =>
    ck h fun h3 h =>
    z.j [(3, [(0, oT)]), (4, [(0, oC (.ip gx0 [iI ((t7.getD t9.toNat default).Weight), .bool ((t7.getD t9.toNat default).Drain), iI ((t7.getD t9.toNat default).Cap), sS gx0 eBack ((t7.getD t9.toNat default).Backs)]))]), (5, [(2, { cb := [(220, (eL eBack ((t7.getD t9.toNat default).Backs)))] })]), (6, [(1, { frz := true }), (3, { cv := some (.ref 260 0 (b124 ++ [(t7.getD t9.toNat default)]).length (b124 ++ [(t7.getD t9.toNat default)]).length), cb := [(260, eL (eSite true) (b124 ++ [(t7.getD t9.toNat default)]))] })])] 15 [1, 2, 3, 7, 8, 9] [(108, 108), (116, 116), (260, 124)] (o5 (Le.tt h0) h1 (Le.iptl (g := gx0) (eL_at (xs := t7) (eSite_len gx0) (ixl h1))) (Or.inr (eL_frees (fun _ => rfl) _) : gx0 = true ∨ frees (eL eBack ((t7.getD t9.toNat default).Backs)) = true) (o5 (ap_len (xs := (t7.getD t9.toNat default).Backs) eBack_len) h2 (eL_all (e := eBack) eBack_len ((t7.getD t9.toNat default).Backs)) (by decide : 1 * 4 ≤ 4) (o4 (ap_len (xs := b124) (eSite_len true)) h3 (Le.apr (b := 260) (by first | rfl | (simp only [List.length_append, List.length_take, List.length_drop]; omega) | simp : (b124 ++ [(t7.getD t9.toNat default)]).length = b124.length + 1)) (ap_one (xs := b124) (eSite_len true) (y := (t7.getD t9.toNat default)) (cs := [iI ((t7.getD t9.toNat default).Weight), .bool ((t7.getD t9.toNat default).Drain), iI ((t7.getD t9.toNat default).Cap), sS true eBack ((t7.getD t9.toNat default).Backs)]) rfl)))) (ih h)) fun h0 h =>
   z.r [(3, [(0, oF)]), (9, [(0, { frz := true })])] 9 (o1 (Le.ff h0)) h
theorem c76 {N} (gx0 : Bool) {x0 r} (h : L_conf_Copy N x0 = some r) : Con Tryz.prog 76 [.agg [iI x0.Version, sS gx0 (eSite gx0) x0.Sites]] [] (d76 r) [] :=
 ci ok mix Tryz.f76 fun z =>
 z.j [(1, [(0, { own := some (4) })])] 9 [1, 2, 3, 7, 8, 9] [(108, 108), (116, 116), (124, 124)] o0 (g76_1 gx0 z N h)
def L_health_New (N : Nat) : Option (GHealth) :=
 some (GHealth.mk true 0)
def d78 (r : GHealth) : D := .agg [.bool r.Up, iI r.Count]
theorem c78 {N} {r} (h : L_health_New N = some r) : Con Tryz.prog 78 [] [] (d78 r) [] :=
 ci ok mix Tryz.f78 fun z =>
 z.r [] 4 o0 h
def L_math_bits_Mul64 (N : Nat) (x0 x1 : Int) : Option (Int × Int) :=
 via ((IntKind.u64.wrap ((bAnd .u64 x0 4294967295) * (bAnd .u64 x1 4294967295))) : Int) fun v1 =>
 via ((IntKind.u64.wrap ((x0.fdiv (2 ^ 32)) * (bAnd .u64 x1 4294967295))) : Int) fun v2 =>
 via ((bAnd .u64 (IntKind.u64.wrap (v2 + (v1.fdiv (2 ^ 32)))) 4294967295) : Int) fun v3 =>
 via (((IntKind.u64.wrap (v2 + (v1.fdiv (2 ^ 32)))).fdiv (2 ^ 32)) : Int) fun v4 =>
 via ((IntKind.u64.wrap ((bAnd .u64 x0 4294967295) * (x1.fdiv (2 ^ 32)))) : Int) fun v5 =>
 via ((IntKind.u64.wrap ((x0.fdiv (2 ^ 32)) * (x1.fdiv (2 ^ 32)))) : Int) fun v6 =>
 via ((IntKind.u64.wrap ((IntKind.u64.wrap (v6 + v4)) + ((IntKind.u64.wrap (v3 + v5)).fdiv (2 ^ 32)))) : Int) fun v7 =>
 some (v7, (IntKind.u64.wrap (x0 * x1)))
def d195 (r : Int × Int) : D := .tup [.int .u64 r.1, .int .u64 r.2]
theorem c195 {N} {x0 x1 r} (h : L_math_bits_Mul64 N x0 x1 = some r) : Con Tryz.prog 195 [.int .u64 x0, .int .u64 x1] [] (d195 r) [] :=
 ci ok mix Tryz.f195 fun z =>
 vi h fun v1 h0 h =>
 vi h fun v2 h1 h =>
 vi h fun v3 h2 h =>
 vi h fun v4 h3 h =>
 vi h fun v5 h4 h =>
 vi h fun v6 h5 h =>
 vi h fun v7 h6 h =>
 z.r [(5, [(2, oC (.int .u64 v1))]), (6, [(2, oC (.int .u64 v2))]), (7, [(1, oC (.int .u64 v3))]), (8, [(1, oC (.int .u64 v4))]), (9, [(3, oC (.int .u64 v5))]), (10, [(2, oC (.int .u64 v6)), (7, oC (.int .u64 v7))])] 24 (o5 (by decide : (0:Int) ≤ 32) (by decide : (0:Int) ≤ 32) (Le.int (k := .u64) h0) (Le.int (k := .u64) h1) (o5 (by decide : (0:Int) ≤ 32) (Le.int (k := .u64) h2) (by decide : (0:Int) ≤ 32) (Le.int (k := .u64) h3) (o4 (Le.int (k := .u64) h4) (Le.int (k := .u64) h5) (by decide : (0:Int) ≤ 32) (Le.int (k := .u64) h6)))) h
def L_math_bits_Mul (N : Nat) (x0 x1 : Int) : Option (Int × Int) :=
 (L_math_bits_Mul64 N x0 x1).bind fun v1 =>
 some (v1.1, v1.2)
def d144 (r : Int × Int) : D := .tup [.int .u64 r.1, .int .u64 r.2]
theorem c144 {N} {x0 x1 r} (h : L_math_bits_Mul N x0 x1 = some r) : Con Tryz.prog 144 [.int .u64 x0, .int .u64 x1] [] (d144 r) [] :=
 ci ok mix Tryz.f144 fun z =>
 bd h fun v1 h0 h =>
 z.r [(3, [(2, oR (d195 v1))])] 9 (o1 (c195 h0)) h
def L_slices_Repeat_api_Health_api_Health_4 (N : Nat) : Nat → (List GHealth) → Int → Option ((List GHealth))
  | 0, _, _ => none
  | fuel + 1, b340, t8 =>
  bif (decide (t8 < (b340.length : Int))) then
   if 0 ≤ ((b340.length : Nat) : Int) ∧ ((b340.length : Nat) : Int) ≤ ((b340.length : Nat) : Int) ∧ 0 ≤ t8 ∧ t8 ≤ ((b340.length : Nat) : Int) ∧ b340.length ≤ b340.length then
   if 0 ≤ t8 ∧ t8 ≤ ((b340.length : Nat) : Int) ∧ 0 ≤ (0 : Int) ∧ (0 : Int) ≤ t8 ∧ b340.length ≤ b340.length then
   if (Int.toNat (t8 - (0 : Int))) ≤ b340.length then
   if (Int.toNat t8) + (Int.toNat (((b340.length : Nat) : Int) - t8)) ≤ b340.length then
   via ((((min (Int.toNat (t8 - (0 : Int))) (Int.toNat (((b340.length : Nat) : Int) - t8))) : Nat) : Int) : Int) fun v1 =>
   L_slices_Repeat_api_Health_api_Health_4 N fuel (b340.take (Int.toNat t8) ++ b340.take (min (Int.toNat (t8 - (0 : Int))) (Int.toNat (((b340.length : Nat) : Int) - t8))) ++ b340.drop ((Int.toNat t8) + (min (Int.toNat (t8 - (0 : Int))) (Int.toNat (((b340.length : Nat) : Int) - t8))))) (IntKind.i64.wrap (t8 + v1))
   else none
   else none
   else none
   else none
  else
   some b340
def L_slices_Repeat_api_Health_api_Health_3 (N : Nat) (t0 : (List GHealth)) (t6 : Int) : Option ((List GHealth)) :=
 if 0 ≤ (IntKind.i64.wrap t6) ∧ (IntKind.i64.wrap t6) ≤ (IntKind.i64.wrap t6) ∧ ((16 : Nat) : Int) * (IntKind.i64.wrap t6) ≤ 140737488355328 ∧ (IntKind.i64.wrap t6) ≤ 4611686018427387904 then
 if t0.length ≤ t0.length then
 if 0 + (List.replicate (Int.toNat (IntKind.i64.wrap t6)) (GHealth.mk false 0)).length ≤ (List.replicate (Int.toNat (IntKind.i64.wrap t6)) (GHealth.mk false 0)).length then
 via ((((min t0.length ((List.replicate (Int.toNat (IntKind.i64.wrap t6)) (GHealth.mk false 0)).length)) : Nat) : Int) : Int) fun v1 =>
 L_slices_Repeat_api_Health_api_Health_4 N N ((List.replicate (Int.toNat (IntKind.i64.wrap t6)) (GHealth.mk false 0)).take 0 ++ t0.take (min t0.length ((List.replicate (Int.toNat (IntKind.i64.wrap t6)) (GHealth.mk false 0)).length)) ++ (List.replicate (Int.toNat (IntKind.i64.wrap t6)) (GHealth.mk false 0)).drop (0 + (min t0.length ((List.replicate (Int.toNat (IntKind.i64.wrap t6)) (GHealth.mk false 0)).length)))) v1
 else none
 else none
 else none
def L_slices_Repeat_api_Health_api_Health_2 (N : Nat) (t0 : (List GHealth)) (t6 : Int) (t26 : Bool) : Option ((List GHealth)) :=
 bif t26 then
  none
 else
  L_slices_Repeat_api_Health_api_Health_3 N t0 t6
def L_slices_Repeat_api_Health_api_Health_1 (N : Nat) (t0 : (List GHealth)) (t1 : Int) : Option ((List GHealth)) :=
 (L_math_bits_Mul N (IntKind.u64.wrap (t0.length : Int)) (IntKind.u64.wrap t1)).bind fun v1 =>
 bif (decide (v1.1 > 0)) then
  L_slices_Repeat_api_Health_api_Health_2 N t0 v1.2 true
 else
  L_slices_Repeat_api_Health_api_Health_2 N t0 v1.2 (decide (v1.2 > 9223372036854775807))
def L_slices_Repeat_api_Health_api_Health (N : Nat) (x0 : (List GHealth)) (x1 : Int) : Option ((List GHealth)) :=
 bif (decide (x1 < 0)) then
  none
 else
  L_slices_Repeat_api_Health_api_Health_1 N x0 x1
def d77 (r : (List GHealth)) : D := sS true eHealth r
theorem g77_4 {N} (gx0 : Bool) {r} (z : Z Tryz.prog ty 77 Tryz.f77 (Fi [] (d77 r) [])) (fuel) : ∀ {b340 t8}, L_slices_Repeat_api_Health_api_Health_4 N fuel b340 t8 = some r → z.G [.c 575, .l 575, .b 0, .c 255] [(7, rR 340 b340), (8, iI t8)] [pB 340 2 (eL eHealth b340)] := by
 induction fuel with
 | zero => intro b340 t8 h; cases h
 | succ fuel ih =>
  intro b340 t8 h
  exact
   br h (fun h0 h =>
    ck h fun h1 h =>
    ck h fun h2 h =>
    ck h fun h3 h =>
    ck h fun h4 h =>
    vi h fun v1 h5 h =>
    z.jL [(8, [(3, oT)]), (9, [(7, { cv := some (.int .i64 v1), cb := [(340, eL eHealth (b340.take (Int.toNat t8) ++ b340.take (min (Int.toNat (t8 - (0 : Int))) (Int.toNat (((b340.length : Nat) : Int) - t8))) ++ b340.drop ((Int.toNat t8) + (min (Int.toNat (t8 - (0 : Int))) (Int.toNat (((b340.length : Nat) : Int) - t8))))))] })])] 9 [7, 8] [(340, 340)] (o5 (Le.tt h0) h1 h2 (rd_len (xs := b340) eHealth_len h3) (o3 (cp_len (xs := b340) eHealth_len (by simp : (0 + (Int.toNat t8) * 2) = (Int.toNat t8) * 2) h4) (Le.int (k := .i64) h5) (cp_set (xs := b340) (ys := b340) (lo := (Int.toNat t8)) (k := (min (Int.toNat (t8 - (0 : Int))) (Int.toNat (((b340.length : Nat) : Int) - t8)))) (m := (Int.toNat (t8 - (0 : Int)))) eHealth_len (by simp : (0 + (Int.toNat t8) * 2) = (Int.toNat t8) * 2) (Nat.le_trans (Nat.add_le_add_left (Nat.min_le_right _ _) _) h4) (Nat.min_le_left _ _) h3))) (.cons (Le.rfs (b := 340) (by first | rfl | omega | (simp only [List.length_append, List.length_take, List.length_drop]; omega) | simp : b340.length = (b340.take (Int.toNat t8) ++ b340.take (min (Int.toNat (t8 - (0 : Int))) (Int.toNat (((b340.length : Nat) : Int) - t8))) ++ b340.drop ((Int.toNat t8) + (min (Int.toNat (t8 - (0 : Int))) (Int.toNat (((b340.length : Nat) : Int) - t8))))).length) (by first | rfl | omega | (simp only [List.length_append, List.length_take, List.length_drop]; omega) | simp : b340.length = (b340.take (Int.toNat t8) ++ b340.take (min (Int.toNat (t8 - (0 : Int))) (Int.toNat (((b340.length : Nat) : Int) - t8))) ++ b340.drop ((Int.toNat t8) + (min (Int.toNat (t8 - (0 : Int))) (Int.toNat (((b340.length : Nat) : Int) - t8))))).length)) (.cons (Le.rfl) .nil)) (ih h)) fun h0 h =>
   z.r [(8, [(3, oF)]), (10, [(1, { frz := true })])] 7 (o1 (Le.ff h0)) h
theorem g77_3 {N} (gx0 : Bool) {r} (z : Z Tryz.prog ty 77 Tryz.f77 (Fi [] (d77 r) [])) {t0 t6} (h : L_slices_Repeat_api_Health_api_Health_3 N t0 t6 = some r) : z.G [.c 31] [(0, sS gx0 eHealth t0), (6, .int .u64 t6)] [] :=
 ck h fun h0 h =>
 ck h fun h1 h =>
 ck h fun h2 h =>
 vi h fun v1 h3 h =>
 z.jL [(6, [(2, { cv := some (.ref 340 0 (List.replicate (Int.toNat (IntKind.i64.wrap t6)) (GHealth.mk false 0)).length (List.replicate (Int.toNat (IntKind.i64.wrap t6)) (GHealth.mk false 0)).length), cb := [(340, eL eHealth (List.replicate (Int.toNat (IntKind.i64.wrap t6)) (GHealth.mk false 0)))] })]), (7, [(2, { cv := some (.int .i64 v1), cb := [(340, eL eHealth ((List.replicate (Int.toNat (IntKind.i64.wrap t6)) (GHealth.mk false 0)).take 0 ++ t0.take (min t0.length ((List.replicate (Int.toNat (IntKind.i64.wrap t6)) (GHealth.mk false 0)).length)) ++ (List.replicate (Int.toNat (IntKind.i64.wrap t6)) (GHealth.mk false 0)).drop (0 + (min t0.length ((List.replicate (Int.toNat (IntKind.i64.wrap t6)) (GHealth.mk false 0)).length)))))] })])] 7 [7, 8] [(340, 340)] (o5 h0 (Le.apr (b := 340) (by first | rfl | simp : (List.replicate (Int.toNat (IntKind.i64.wrap t6)) (GHealth.mk false 0)).length = (Int.toNat (IntKind.i64.wrap t6)))) (repD_eq (e := eHealth) (z := (GHealth.mk false 0)) (cs := [.bool false, iI 0]) rfl (Int.toNat (IntKind.i64.wrap t6))) (Or.inr (eL_frees (fun _ => rfl) _) : gx0 = true ∨ frees (eL eHealth t0) = true) (o4 (rd_len (xs := t0) eHealth_len h1) (cp_len (xs := (List.replicate (Int.toNat (IntKind.i64.wrap t6)) (GHealth.mk false 0))) eHealth_len (by simp : 0 = 0 * 2) h2) (Le.int (k := .i64) h3) (cp_set (xs := (List.replicate (Int.toNat (IntKind.i64.wrap t6)) (GHealth.mk false 0))) (ys := t0) (lo := 0) (k := (min t0.length ((List.replicate (Int.toNat (IntKind.i64.wrap t6)) (GHealth.mk false 0)).length))) (m := t0.length) eHealth_len (by simp : 0 = 0 * 2) (Nat.le_trans (Nat.add_le_add_left (Nat.min_le_right _ _) _) h2) (Nat.min_le_left _ _) h1))) (.cons (Le.rfs (b := 340) (by first | rfl | omega | (simp only [List.length_append, List.length_take, List.length_drop]; omega) | simp : (List.replicate (Int.toNat (IntKind.i64.wrap t6)) (GHealth.mk false 0)).length = ((List.replicate (Int.toNat (IntKind.i64.wrap t6)) (GHealth.mk false 0)).take 0 ++ t0.take (min t0.length ((List.replicate (Int.toNat (IntKind.i64.wrap t6)) (GHealth.mk false 0)).length)) ++ (List.replicate (Int.toNat (IntKind.i64.wrap t6)) (GHealth.mk false 0)).drop (0 + (min t0.length ((List.replicate (Int.toNat (IntKind.i64.wrap t6)) (GHealth.mk false 0)).length)))).length) (by first | rfl | omega | (simp only [List.length_append, List.length_take, List.length_drop]; omega) | simp : (List.replicate (Int.toNat (IntKind.i64.wrap t6)) (GHealth.mk false 0)).length = ((List.replicate (Int.toNat (IntKind.i64.wrap t6)) (GHealth.mk false 0)).take 0 ++ t0.take (min t0.length ((List.replicate (Int.toNat (IntKind.i64.wrap t6)) (GHealth.mk false 0)).length)) ++ (List.replicate (Int.toNat (IntKind.i64.wrap t6)) (GHealth.mk false 0)).drop (0 + (min t0.length ((List.replicate (Int.toNat (IntKind.i64.wrap t6)) (GHealth.mk false 0)).length)))).length)) (.cons (Le.rfl) .nil)) (g77_4 gx0 z N h)
theorem g77_2 {N} (gx0 : Bool) {r} (z : Z Tryz.prog ty 77 Tryz.f77 (Fi [] (d77 r) [])) {t0 t6 t26} (h : L_slices_Repeat_api_Health_api_Health_2 N t0 t6 t26 = some r) : z.G [.c 55, .c 31] [(0, sS gx0 eHealth t0), (6, .int .u64 t6), (26, .bool t26)] [] :=
 by
  cases t26 with
  | true => exact brT h fun h => (
   no h)
  | false => exact brF h fun h => (
   z.j [] 2 [0, 6] [] o0 (g77_3 gx0 z h))
theorem g77_1 {N} (gx0 : Bool) {r} (z : Z Tryz.prog ty 77 Tryz.f77 (Fi [] (d77 r) [])) {t0 t1} (h : L_slices_Repeat_api_Health_api_Health_1 N t0 t1 = some r) : z.G [.c 7] [(0, sS gx0 eHealth t0), (1, iI t1)] [] :=
 bd h fun v1 h0 h =>
 z.s [(3, [(5, oR (d144 v1))])] 4 (o1 (c144 h0)) <|
 br h (fun h1 h =>
  z.j [(4, [(2, oT)])] 1 [0, 6, 26] [] (o1 (Le.tt h1)) (g77_2 gx0 z h)) fun h1 h =>
 z.j [(4, [(2, oF)])] 1 [0, 6, 26] [] (o1 (Le.ff h1)) (g77_2 gx0 z h)
theorem c77 {N} (gx0 : Bool) {x0 x1 r} (h : L_slices_Repeat_api_Health_api_Health N x0 x1 = some r) : Con Tryz.prog 77 [sS gx0 eHealth x0, iI x1] [] (d77 r) [] :=
 ci ok mix Tryz.f77 fun z =>
 br h (fun h0 h =>
  no h) fun h0 h =>
 z.j [(1, [(1, oF)])] 7 [0, 1] [] (o1 (Le.ff h0)) (g77_1 gx0 z h)
def L_slices_Repeat_api_Seen_api_Seen_4 (N : Nat) : Nat → (List GSeen) → Int → Option ((List GSeen))
  | 0, _, _ => none
  | fuel + 1, b340, t8 =>
  bif (decide (t8 < (b340.length : Int))) then
   if 0 ≤ ((b340.length : Nat) : Int) ∧ ((b340.length : Nat) : Int) ≤ ((b340.length : Nat) : Int) ∧ 0 ≤ t8 ∧ t8 ≤ ((b340.length : Nat) : Int) ∧ b340.length ≤ b340.length then
   if 0 ≤ t8 ∧ t8 ≤ ((b340.length : Nat) : Int) ∧ 0 ≤ (0 : Int) ∧ (0 : Int) ≤ t8 ∧ b340.length ≤ b340.length then
   if (Int.toNat (t8 - (0 : Int))) ≤ b340.length then
   if (Int.toNat t8) + (Int.toNat (((b340.length : Nat) : Int) - t8)) ≤ b340.length then
   via ((((min (Int.toNat (t8 - (0 : Int))) (Int.toNat (((b340.length : Nat) : Int) - t8))) : Nat) : Int) : Int) fun v1 =>
   L_slices_Repeat_api_Seen_api_Seen_4 N fuel (b340.take (Int.toNat t8) ++ b340.take (min (Int.toNat (t8 - (0 : Int))) (Int.toNat (((b340.length : Nat) : Int) - t8))) ++ b340.drop ((Int.toNat t8) + (min (Int.toNat (t8 - (0 : Int))) (Int.toNat (((b340.length : Nat) : Int) - t8))))) (IntKind.i64.wrap (t8 + v1))
   else none
   else none
   else none
   else none
  else
   some b340
def L_slices_Repeat_api_Seen_api_Seen_3 (N : Nat) (t0 : (List GSeen)) (t6 : Int) : Option ((List GSeen)) :=
 if 0 ≤ (IntKind.i64.wrap t6) ∧ (IntKind.i64.wrap t6) ≤ (IntKind.i64.wrap t6) ∧ ((40 : Nat) : Int) * (IntKind.i64.wrap t6) ≤ 140737488355328 ∧ (IntKind.i64.wrap t6) ≤ 4611686018427387904 then
 if t0.length ≤ t0.length then
 if 0 + (List.replicate (Int.toNat (IntKind.i64.wrap t6)) (GSeen.mk (GReport.mk 0 0 0 0) 0)).length ≤ (List.replicate (Int.toNat (IntKind.i64.wrap t6)) (GSeen.mk (GReport.mk 0 0 0 0) 0)).length then
 via ((((min t0.length ((List.replicate (Int.toNat (IntKind.i64.wrap t6)) (GSeen.mk (GReport.mk 0 0 0 0) 0)).length)) : Nat) : Int) : Int) fun v1 =>
 L_slices_Repeat_api_Seen_api_Seen_4 N N ((List.replicate (Int.toNat (IntKind.i64.wrap t6)) (GSeen.mk (GReport.mk 0 0 0 0) 0)).take 0 ++ t0.take (min t0.length ((List.replicate (Int.toNat (IntKind.i64.wrap t6)) (GSeen.mk (GReport.mk 0 0 0 0) 0)).length)) ++ (List.replicate (Int.toNat (IntKind.i64.wrap t6)) (GSeen.mk (GReport.mk 0 0 0 0) 0)).drop (0 + (min t0.length ((List.replicate (Int.toNat (IntKind.i64.wrap t6)) (GSeen.mk (GReport.mk 0 0 0 0) 0)).length)))) v1
 else none
 else none
 else none
def L_slices_Repeat_api_Seen_api_Seen_2 (N : Nat) (t0 : (List GSeen)) (t6 : Int) (t26 : Bool) : Option ((List GSeen)) :=
 bif t26 then
  none
 else
  L_slices_Repeat_api_Seen_api_Seen_3 N t0 t6
def L_slices_Repeat_api_Seen_api_Seen_1 (N : Nat) (t0 : (List GSeen)) (t1 : Int) : Option ((List GSeen)) :=
 (L_math_bits_Mul N (IntKind.u64.wrap (t0.length : Int)) (IntKind.u64.wrap t1)).bind fun v1 =>
 bif (decide (v1.1 > 0)) then
  L_slices_Repeat_api_Seen_api_Seen_2 N t0 v1.2 true
 else
  L_slices_Repeat_api_Seen_api_Seen_2 N t0 v1.2 (decide (v1.2 > 9223372036854775807))
def L_slices_Repeat_api_Seen_api_Seen (N : Nat) (x0 : (List GSeen)) (x1 : Int) : Option ((List GSeen)) :=
 bif (decide (x1 < 0)) then
  none
 else
  L_slices_Repeat_api_Seen_api_Seen_1 N x0 x1
def d168 (r : (List GSeen)) : D := sS true eSeen r
theorem g168_4 {N} (gx0 : Bool) {r} (z : Z Tryz.prog ty 168 Tryz.f168 (Fi [] (d168 r) [])) (fuel) : ∀ {b340 t8}, L_slices_Repeat_api_Seen_api_Seen_4 N fuel b340 t8 = some r → z.G [.c 575, .l 575, .b 0, .c 255] [(7, rR 340 b340), (8, iI t8)] [pB 340 5 (eL eSeen b340)] := by
 induction fuel with
 | zero => intro b340 t8 h; cases h
 | succ fuel ih =>
  intro b340 t8 h
  exact
   br h (fun h0 h =>
    ck h fun h1 h =>
    ck h fun h2 h =>
    ck h fun h3 h =>
    ck h fun h4 h =>
    vi h fun v1 h5 h =>
    z.jL [(8, [(3, oT)]), (9, [(7, { cv := some (.int .i64 v1), cb := [(340, eL eSeen (b340.take (Int.toNat t8) ++ b340.take (min (Int.toNat (t8 - (0 : Int))) (Int.toNat (((b340.length : Nat) : Int) - t8))) ++ b340.drop ((Int.toNat t8) + (min (Int.toNat (t8 - (0 : Int))) (Int.toNat (((b340.length : Nat) : Int) - t8))))))] })])] 9 [7, 8] [(340, 340)] (o5 (Le.tt h0) h1 h2 (rd_len (xs := b340) eSeen_len h3) (o3 (cp_len (xs := b340) eSeen_len (by simp : (0 + (Int.toNat t8) * 5) = (Int.toNat t8) * 5) h4) (Le.int (k := .i64) h5) (cp_set (xs := b340) (ys := b340) (lo := (Int.toNat t8)) (k := (min (Int.toNat (t8 - (0 : Int))) (Int.toNat (((b340.length : Nat) : Int) - t8)))) (m := (Int.toNat (t8 - (0 : Int)))) eSeen_len (by simp : (0 + (Int.toNat t8) * 5) = (Int.toNat t8) * 5) (Nat.le_trans (Nat.add_le_add_left (Nat.min_le_right _ _) _) h4) (Nat.min_le_left _ _) h3))) (.cons (Le.rfs (b := 340) (by first | rfl | omega | (simp only [List.length_append, List.length_take, List.length_drop]; omega) | simp : b340.length = (b340.take (Int.toNat t8) ++ b340.take (min (Int.toNat (t8 - (0 : Int))) (Int.toNat (((b340.length : Nat) : Int) - t8))) ++ b340.drop ((Int.toNat t8) + (min (Int.toNat (t8 - (0 : Int))) (Int.toNat (((b340.length : Nat) : Int) - t8))))).length) (by first | rfl | omega | (simp only [List.length_append, List.length_take, List.length_drop]; omega) | simp : b340.length = (b340.take (Int.toNat t8) ++ b340.take (min (Int.toNat (t8 - (0 : Int))) (Int.toNat (((b340.length : Nat) : Int) - t8))) ++ b340.drop ((Int.toNat t8) + (min (Int.toNat (t8 - (0 : Int))) (Int.toNat (((b340.length : Nat) : Int) - t8))))).length)) (.cons (Le.rfl) .nil)) (ih h)) fun h0 h =>
   z.r [(8, [(3, oF)]), (10, [(1, { frz := true })])] 7 (o1 (Le.ff h0)) h
theorem g168_3 {N} (gx0 : Bool) {r} (z : Z Tryz.prog ty 168 Tryz.f168 (Fi [] (d168 r) [])) {t0 t6} (h : L_slices_Repeat_api_Seen_api_Seen_3 N t0 t6 = some r) : z.G [.c 31] [(0, sS gx0 eSeen t0), (6, .int .u64 t6)] [] :=
 ck h fun h0 h =>
 ck h fun h1 h =>
 ck h fun h2 h =>
 vi h fun v1 h3 h =>
 z.jL [(6, [(2, { cv := some (.ref 340 0 (List.replicate (Int.toNat (IntKind.i64.wrap t6)) (GSeen.mk (GReport.mk 0 0 0 0) 0)).length (List.replicate (Int.toNat (IntKind.i64.wrap t6)) (GSeen.mk (GReport.mk 0 0 0 0) 0)).length), cb := [(340, eL eSeen (List.replicate (Int.toNat (IntKind.i64.wrap t6)) (GSeen.mk (GReport.mk 0 0 0 0) 0)))] })]), (7, [(2, { cv := some (.int .i64 v1), cb := [(340, eL eSeen ((List.replicate (Int.toNat (IntKind.i64.wrap t6)) (GSeen.mk (GReport.mk 0 0 0 0) 0)).take 0 ++ t0.take (min t0.length ((List.replicate (Int.toNat (IntKind.i64.wrap t6)) (GSeen.mk (GReport.mk 0 0 0 0) 0)).length)) ++ (List.replicate (Int.toNat (IntKind.i64.wrap t6)) (GSeen.mk (GReport.mk 0 0 0 0) 0)).drop (0 + (min t0.length ((List.replicate (Int.toNat (IntKind.i64.wrap t6)) (GSeen.mk (GReport.mk 0 0 0 0) 0)).length)))))] })])] 7 [7, 8] [(340, 340)] (o5 h0 (Le.apr (b := 340) (by first | rfl | simp : (List.replicate (Int.toNat (IntKind.i64.wrap t6)) (GSeen.mk (GReport.mk 0 0 0 0) 0)).length = (Int.toNat (IntKind.i64.wrap t6)))) (repD_eq (e := eSeen) (z := (GSeen.mk (GReport.mk 0 0 0 0) 0)) (cs := [iI 0, iI 0, iI 0, iI 0, iI 0]) rfl (Int.toNat (IntKind.i64.wrap t6))) (Or.inr (eL_frees (fun _ => rfl) _) : gx0 = true ∨ frees (eL eSeen t0) = true) (o4 (rd_len (xs := t0) eSeen_len h1) (cp_len (xs := (List.replicate (Int.toNat (IntKind.i64.wrap t6)) (GSeen.mk (GReport.mk 0 0 0 0) 0))) eSeen_len (by simp : 0 = 0 * 5) h2) (Le.int (k := .i64) h3) (cp_set (xs := (List.replicate (Int.toNat (IntKind.i64.wrap t6)) (GSeen.mk (GReport.mk 0 0 0 0) 0))) (ys := t0) (lo := 0) (k := (min t0.length ((List.replicate (Int.toNat (IntKind.i64.wrap t6)) (GSeen.mk (GReport.mk 0 0 0 0) 0)).length))) (m := t0.length) eSeen_len (by simp : 0 = 0 * 5) (Nat.le_trans (Nat.add_le_add_left (Nat.min_le_right _ _) _) h2) (Nat.min_le_left _ _) h1))) (.cons (Le.rfs (b := 340) (by first | rfl | omega | (simp only [List.length_append, List.length_take, List.length_drop]; omega) | simp : (List.replicate (Int.toNat (IntKind.i64.wrap t6)) (GSeen.mk (GReport.mk 0 0 0 0) 0)).length = ((List.replicate (Int.toNat (IntKind.i64.wrap t6)) (GSeen.mk (GReport.mk 0 0 0 0) 0)).take 0 ++ t0.take (min t0.length ((List.replicate (Int.toNat (IntKind.i64.wrap t6)) (GSeen.mk (GReport.mk 0 0 0 0) 0)).length)) ++ (List.replicate (Int.toNat (IntKind.i64.wrap t6)) (GSeen.mk (GReport.mk 0 0 0 0) 0)).drop (0 + (min t0.length ((List.replicate (Int.toNat (IntKind.i64.wrap t6)) (GSeen.mk (GReport.mk 0 0 0 0) 0)).length)))).length) (by first | rfl | omega | (simp only [List.length_append, List.length_take, List.length_drop]; omega) | simp : (List.replicate (Int.toNat (IntKind.i64.wrap t6)) (GSeen.mk (GReport.mk 0 0 0 0) 0)).length = ((List.replicate (Int.toNat (IntKind.i64.wrap t6)) (GSeen.mk (GReport.mk 0 0 0 0) 0)).take 0 ++ t0.take (min t0.length ((List.replicate (Int.toNat (IntKind.i64.wrap t6)) (GSeen.mk (GReport.mk 0 0 0 0) 0)).length)) ++ (List.replicate (Int.toNat (IntKind.i64.wrap t6)) (GSeen.mk (GReport.mk 0 0 0 0) 0)).drop (0 + (min t0.length ((List.replicate (Int.toNat (IntKind.i64.wrap t6)) (GSeen.mk (GReport.mk 0 0 0 0) 0)).length)))).length)) (.cons (Le.rfl) .nil)) (g168_4 gx0 z N h)
theorem g168_2 {N} (gx0 : Bool) {r} (z : Z Tryz.prog ty 168 Tryz.f168 (Fi [] (d168 r) [])) {t0 t6 t26} (h : L_slices_Repeat_api_Seen_api_Seen_2 N t0 t6 t26 = some r) : z.G [.c 55, .c 31] [(0, sS gx0 eSeen t0), (6, .int .u64 t6), (26, .bool t26)] [] :=
 by
  cases t26 with
  | true => exact brT h fun h => (
   no h)
  | false => exact brF h fun h => (
   z.j [] 2 [0, 6] [] o0 (g168_3 gx0 z h))
theorem g168_1 {N} (gx0 : Bool) {r} (z : Z Tryz.prog ty 168 Tryz.f168 (Fi [] (d168 r) [])) {t0 t1} (h : L_slices_Repeat_api_Seen_api_Seen_1 N t0 t1 = some r) : z.G [.c 7] [(0, sS gx0 eSeen t0), (1, iI t1)] [] :=
 bd h fun v1 h0 h =>
 z.s [(3, [(5, oR (d144 v1))])] 4 (o1 (c144 h0)) <|
 br h (fun h1 h =>
  z.j [(4, [(2, oT)])] 1 [0, 6, 26] [] (o1 (Le.tt h1)) (g168_2 gx0 z h)) fun h1 h =>
 z.j [(4, [(2, oF)])] 1 [0, 6, 26] [] (o1 (Le.ff h1)) (g168_2 gx0 z h)
theorem c168 {N} (gx0 : Bool) {x0 x1 r} (h : L_slices_Repeat_api_Seen_api_Seen N x0 x1 = some r) : Con Tryz.prog 168 [sS gx0 eSeen x0, iI x1] [] (d168 r) [] :=
 ci ok mix Tryz.f168 fun z =>
 br h (fun h0 h =>
  no h) fun h0 h =>
 z.j [(1, [(1, oF)])] 7 [0, 1] [] (o1 (Le.ff h0)) (g168_1 gx0 z h)
def L_view_New (N : Nat) : Option ((List GSeen)) :=
 (L_slices_Repeat_api_Seen_api_Seen N ([(GSeen.mk (GReport.mk 0 0 0 0) (-1))]) 3).bind fun v1 =>
 some v1
def d107 (r : (List GSeen)) : D := sS true eSeen r
theorem c107 {N} {r} (h : L_view_New N = some r) : Con Tryz.prog 107 [] [] (d107 r) [] :=
 ci ok mix Tryz.f107 fun z =>
 bd h fun v1 h0 h =>
 z.r [(1, [(2, oR (d168 v1))])] 4 (o1 (c168 false h0)) h
def L_report_Site_1 (N : Nat) (t2 : Bool) : Option (Bool) :=
 some t2
def L_report_Site (N : Nat) (x0 : Int) : Option (Bool) :=
 bif (decide (x0 ≥ 0)) then
  L_report_Site_1 N (decide (x0 < 3))
 else
  L_report_Site_1 N false
def d84 (r : Bool) : D := .bool r
theorem g84_1 {N} {r} (z : Z Tryz.prog ty 84 Tryz.f84 (Fi [] (d84 r) [])) {t2} (h : L_report_Site_1 N t2 = some r) : z.G [.c 7] [(2, .bool t2)] [] :=
 z.r [] 0 o0 h
theorem c84 {N} {x0 r} (h : L_report_Site N x0 = some r) : Con Tryz.prog 84 [iI x0] [] (d84 r) [] :=
 ci ok mix Tryz.f84 fun z =>
 br h (fun h0 h =>
  z.j [(1, [(2, oT)])] 4 [2] [] (o1 (Le.tt h0)) (g84_1 z h)) fun h0 h =>
 z.j [(1, [(2, oF)])] 4 [2] [] (o1 (Le.ff h0)) (g84_1 z h)
def L_conf_to_1 (N : Nat) (t4 : Bool) : Option (Bool) :=
 some t4
def L_conf_to (N : Nat) (x0 x1 : Int) : Option (Bool) :=
 bif (decide (x0 ≥ 0)) then
  L_conf_to_1 N (decide (x0 ≤ x1))
 else
  L_conf_to_1 N false
def d122 (r : Bool) : D := .bool r
theorem g122_1 {N} {r} (z : Z Tryz.prog ty 122 Tryz.f122 (Fi [] (d122 r) [])) {t4} (h : L_conf_to_1 N t4 = some r) : z.G [.c 7] [(4, .bool t4)] [] :=
 z.r [] 0 o0 h
theorem c122 {N} {x0 x1 r} (h : L_conf_to N x0 x1 = some r) : Con Tryz.prog 122 [iI x0, iI x1] [] (d122 r) [] :=
 ci ok mix Tryz.f122 fun z =>
 br h (fun h0 h =>
  z.j [(1, [(2, oT)])] 4 [4] [] (o1 (Le.tt h0)) (g122_1 z h)) fun h0 h =>
 z.j [(1, [(2, oF)])] 4 [4] [] (o1 (Le.ff h0)) (g122_1 z h)
def L_conf_site_2 (N : Nat) (t2 : Bool) : Option (Bool) :=
 some t2
def L_conf_site_1 (N : Nat) : Nat → GSite → (List GBack) → Int → Int → Option (Bool)
  | 0, _, _, _, _ => none
  | fuel + 1, t0, t8, t9, t10 =>
  bif (decide (t10 < t9)) then
   if 0 ≤ t10 ∧ t10 < ((t8.length : Nat) : Int) then
   (L_conf_to N ((t8.getD t10.toNat default).Weight) 16).bind fun v1 =>
   bif (!v1) then
    some false
   else
    L_conf_site_1 N fuel t0 t8 t9 (IntKind.i64.wrap (t10 + 1))
   else none
  else
   (L_conf_to N t0.Weight 16).bind fun v1 =>
   bif v1 then
    (L_conf_to N t0.Cap 8).bind fun v2 =>
    bif v2 then
     L_conf_site_2 N (decide ((t0.Backs.length : Int) ≤ 4))
    else
     L_conf_site_2 N false
   else
    L_conf_site_2 N false
def L_conf_site (N : Nat) (x0 : GSite) : Option (Bool) :=
 L_conf_site_1 N N x0 x0.Backs (x0.Backs.length : Int) 0
def d146 (r : Bool) : D := .bool r
theorem g146_2 {N} (gx0 : Bool) {r} (z : Z Tryz.prog ty 146 Tryz.f146 (Fi [] (d146 r) [])) {t2} (h : L_conf_site_2 N t2 = some r) : z.G [.c 15] [(2, .bool t2)] [] :=
 z.r [] 0 o0 h
theorem g146_1 {N} (gx0 : Bool) {r} (z : Z Tryz.prog ty 146 Tryz.f146 (Fi [] (d146 r) [])) (fuel) : ∀ {t0 t8 t9 t10}, L_conf_site_1 N fuel t0 t8 t9 t10 = some r → z.G [.c 37, .l 37, .b 0, .c 7] [(0, .ip gx0 [iI t0.Weight, .bool t0.Drain, iI t0.Cap, sS gx0 eBack t0.Backs]), (8, sS gx0 eBack t8), (9, iI t9), (10, iI t10)] [] := by
 induction fuel with
 | zero => intro t0 t8 t9 t10 h; cases h
 | succ fuel ih =>
  intro t0 t8 t9 t10 h
  exact
   br h (fun h0 h =>
    ck h fun h1 h =>
    bd h fun v1 h2 h =>
    z.s [(2, [(0, oT)]), (3, [(0, oC (.ip gx0 [iI ((t8.getD t10.toNat default).Weight), .bool ((t8.getD t10.toNat default).Drain)]))])] 10 (o3 (Le.tt h0) h1 (Le.iptl (g := gx0) (eL_at (xs := t8) eBack_len (ixl h1)))) <|
    br h (fun h3 h =>
     z.r [(4, [(2, oR (d122 v1)), (3, oT)])] 4 (o2 (c122 h2) (Le.tt h3)) h) fun h3 h =>
    z.j [(4, [(2, oR (d122 v1)), (3, oF)])] 6 [0, 8, 9, 10] [] (o2 (c122 h2) (Le.ff h3)) (ih h)) fun h0 h =>
   bd h fun v1 h1 h =>
   z.s [(2, [(0, oF)])] 6 (o1 (Le.ff h0)) <|
   br h (fun h2 h =>
    bd h fun v2 h3 h =>
    br h (fun h4 h =>
     z.j [(7, [(4, oR (d122 v1)), (5, oT), (10, oR (d122 v2)), (12, oT)])] 1 [2] [] (o4 (c122 h1) (Le.tt h2) (c122 h3) (Le.tt h4)) (g146_2 gx0 z h)) fun h4 h =>
    z.j [(7, [(4, oR (d122 v1)), (5, oT), (10, oR (d122 v2)), (12, oF)])] 1 [2] [] (o4 (c122 h1) (Le.tt h2) (c122 h3) (Le.ff h4)) (g146_2 gx0 z h)) fun h2 h =>
   z.j [(7, [(4, oR (d122 v1)), (5, oF)])] 1 [2] [] (o2 (c122 h1) (Le.ff h2)) (g146_2 gx0 z h)
theorem c146 {N} (gx0 : Bool) {x0 r} (h : L_conf_site N x0 = some r) : Con Tryz.prog 146 [.ip gx0 [iI x0.Weight, .bool x0.Drain, iI x0.Cap, sS gx0 eBack x0.Backs]] [] (d146 r) [] :=
 ci ok mix Tryz.f146 fun z =>
 z.j [] 7 [0, 8, 9, 10] [] o0 (g146_1 gx0 z N h)
def L_conf_Time (N : Nat) (x0 : Int) : Option (Bool) :=
 (L_conf_to N x0 1048576).bind fun v1 =>
 some v1
def d59 (r : Bool) : D := .bool r
theorem c59 {N} {x0 r} (h : L_conf_Time N x0 = some r) : Con Tryz.prog 59 [iI x0] [] (d59 r) [] :=
 ci ok mix Tryz.f59 fun z =>
 bd h fun v1 h0 h =>
 z.r [(1, [(1, oR (d122 v1))])] 4 (o1 (c122 h0)) h
def L_conf_May_2 (N : Nat) (t2 : Bool) : Option (Bool) :=
 some t2
def L_conf_May_1 (N : Nat) : Nat → Int → (List GSite) → Int → Int → Option (Bool)
  | 0, _, _, _, _ => none
  | fuel + 1, b108_0, b108_1, t6, t7 =>
  bif (decide (t7 < t6)) then
   if 0 ≤ t7 ∧ t7 < ((b108_1.length : Nat) : Int) then
   (L_conf_site N (b108_1.getD t7.toNat default)).bind fun v1 =>
   bif (!v1) then
    some false
   else
    L_conf_May_1 N fuel b108_0 b108_1 t6 (IntKind.i64.wrap (t7 + 1))
   else none
  else
   (L_conf_Time N b108_0).bind fun v1 =>
   bif v1 then
    L_conf_May_2 N (decide ((b108_1.length : Int) ≤ 3))
   else
    L_conf_May_2 N false
def L_conf_May (N : Nat) (x0 : GConfig) : Option (Bool) :=
 L_conf_May_1 N N x0.Version x0.Sites (x0.Sites.length : Int) 0
def d85 (r : Bool) : D := .bool r
theorem g85_2 {N} (gx0 : Bool) {r} (z : Z Tryz.prog ty 85 Tryz.f85 (Fi [] (d85 r) [])) {t2} (h : L_conf_May_2 N t2 = some r) : z.G [.c 15] [(2, .bool t2)] [] :=
 z.r [] 0 o0 h
theorem g85_1 {N} (gx0 : Bool) {r} (z : Z Tryz.prog ty 85 Tryz.f85 (Fi [] (d85 r) [])) (fuel) : ∀ {b108_0 b108_1 t6 t7}, L_conf_May_1 N fuel b108_0 b108_1 t6 t7 = some r → z.G [.c 37, .l 37, .b 0, .c 7] [(1, .ptr 108 0), (6, iI t6), (7, iI t7)] [qB 108 [iI b108_0, sS gx0 (eSite gx0) b108_1]] := by
 induction fuel with
 | zero => intro b108_0 b108_1 t6 t7 h; cases h
 | succ fuel ih =>
  intro b108_0 b108_1 t6 t7 h
  exact
   br h (fun h0 h =>
    ck h fun h1 h =>
    bd h fun v1 h2 h =>
    z.s [(2, [(0, oT)])] 10 (o1 (Le.tt h0)) <|
    br h (fun h3 h =>
     z.r [(4, [(3, oC (.ip gx0 [iI ((b108_1.getD t7.toNat default).Weight), .bool ((b108_1.getD t7.toNat default).Drain), iI ((b108_1.getD t7.toNat default).Cap), sS gx0 eBack ((b108_1.getD t7.toNat default).Backs)])), (4, oR (d146 v1)), (5, oT)])] 4 (o4 h1 (Le.iptl (g := gx0) (eL_at (xs := b108_1) (eSite_len gx0) (ixl h1))) (c146 gx0 h2) (Le.tt h3)) h) fun h3 h =>
    z.j [(4, [(3, oC (.ip gx0 [iI ((b108_1.getD t7.toNat default).Weight), .bool ((b108_1.getD t7.toNat default).Drain), iI ((b108_1.getD t7.toNat default).Cap), sS gx0 eBack ((b108_1.getD t7.toNat default).Backs)])), (4, oR (d146 v1)), (5, oF)])] 6 [1, 6, 7] [(108, 108)] (o4 h1 (Le.iptl (g := gx0) (eL_at (xs := b108_1) (eSite_len gx0) (ixl h1))) (c146 gx0 h2) (Le.ff h3)) (ih h)) fun h0 h =>
   bd h fun v1 h1 h =>
   z.s [(2, [(0, oF)])] 6 (o1 (Le.ff h0)) <|
   br h (fun h2 h =>
    z.j [(7, [(2, oR (d59 v1)), (3, oT)])] 1 [2] [] (o2 (c59 h1) (Le.tt h2)) (g85_2 gx0 z h)) fun h2 h =>
   z.j [(7, [(2, oR (d59 v1)), (3, oF)])] 1 [2] [] (o2 (c59 h1) (Le.ff h2)) (g85_2 gx0 z h)
theorem c85 {N} (gx0 : Bool) {x0 r} (h : L_conf_May N x0 = some r) : Con Tryz.prog 85 [.agg [iI x0.Version, sS gx0 (eSite gx0) x0.Sites]] [] (d85 r) [] :=
 ci ok mix Tryz.f85 fun z =>
 z.j [] 7 [1, 6, 7] [(108, 108)] o0 (g85_1 gx0 z N h)
def L_health_turns (N : Nat) (x0 : GHealth) : Option (Int) :=
 bif x0.Up then
  some 3
 else
  some 3
def d196 (r : Int) : D := iI r
theorem c196 {N} (gx0 : Bool) {x0 r} (h : L_health_turns N x0 = some r) : Con Tryz.prog 196 [.ip gx0 [.bool x0.Up, iI x0.Count]] [] (d196 r) [] :=
 ci ok mix Tryz.f196 fun z =>
 br h (fun h0 h =>
  z.r [(1, [(3, oT)])] 8 (o2 (List.cons_ne_nil _ _ : ([.bool x0.Up, iI x0.Count] : List D) ≠ []) (Le.tt h0)) h) fun h0 h =>
 z.r [(1, [(3, oF)])] 9 (o2 (List.cons_ne_nil _ _ : ([.bool x0.Up, iI x0.Count] : List D) ≠ []) (Le.ff h0)) h
def L_health_May_1 (N : Nat) (t2 : Bool) : Option (Bool) :=
 some t2
def L_health_May (N : Nat) (x0 : GHealth) : Option (Bool) :=
 bif (decide (x0.Count ≥ 0)) then
  (L_health_turns N x0).bind fun v1 =>
  L_health_May_1 N (decide (x0.Count < v1))
 else
  L_health_May_1 N false
def d147 (r : Bool) : D := .bool r
theorem g147_1 {N} {r} (z : Z Tryz.prog ty 147 Tryz.f147 (Fi [] (d147 r) [])) {t2} (h : L_health_May_1 N t2 = some r) : z.G [.c 7] [(2, .bool t2)] [] :=
 z.r [] 0 o0 h
theorem c147 {N} {x0 r} (h : L_health_May N x0 = some r) : Con Tryz.prog 147 [.agg [.bool x0.Up, iI x0.Count]] [] (d147 r) [] :=
 ci ok mix Tryz.f147 fun z =>
 br h (fun h0 h =>
  bd h fun v1 h1 h =>
  z.j [(1, [(3, oT), (6, oR (d196 v1))])] 4 [2] [] (o2 (Le.tt h0) (c196 false h1)) (g147_1 z h)) fun h0 h =>
 z.j [(1, [(3, oF)])] 4 [2] [] (o1 (Le.ff h0)) (g147_1 z h)
def L_health_All_1 (N : Nat) : Nat → (List GHealth) → Int → (List GHealth) → Int → Int → Option (Bool)
  | 0, _, _, _, _, _ => none
  | fuel + 1, t0, t1, t7, t8, t9 =>
  bif (decide (t9 < t8)) then
   if 0 ≤ t9 ∧ t9 < ((t7.length : Nat) : Int) then
   (L_health_May N (t7.getD t9.toNat default)).bind fun v1 =>
   bif (!v1) then
    some false
   else
    L_health_All_1 N fuel t0 t1 t7 t8 (IntKind.i64.wrap (t9 + 1))
   else none
  else
   some ((t0.length : Int) == t1)
def L_health_All (N : Nat) (x0 : (List GHealth)) (x1 : Int) : Option (Bool) :=
 L_health_All_1 N N x0 x1 x0 (x0.length : Int) 0
def d86 (r : Bool) : D := .bool r
theorem g86_1 {N} (gx0 : Bool) {r} (z : Z Tryz.prog ty 86 Tryz.f86 (Fi [] (d86 r) [])) (fuel) : ∀ {t0 t1 t7 t8 t9}, L_health_All_1 N fuel t0 t1 t7 t8 t9 = some r → z.G [.c 37, .l 37, .b 0, .c 7] [(0, sS gx0 eHealth t0), (1, iI t1), (7, sS gx0 eHealth t7), (8, iI t8), (9, iI t9)] [] := by
 induction fuel with
 | zero => intro t0 t1 t7 t8 t9 h; cases h
 | succ fuel ih =>
  intro t0 t1 t7 t8 t9 h
  exact
   br h (fun h0 h =>
    ck h fun h1 h =>
    bd h fun v1 h2 h =>
    z.s [(2, [(0, oT)]), (3, [(0, oC (.ip gx0 [.bool ((t7.getD t9.toNat default).Up), iI ((t7.getD t9.toNat default).Count)]))])] 10 (o3 (Le.tt h0) h1 (Le.iptl (g := gx0) (eL_at (xs := t7) eHealth_len (ixl h1)))) <|
    br h (fun h3 h =>
     z.r [(4, [(1, oR (d147 v1)), (2, oT)])] 4 (o2 (c147 h2) (Le.tt h3)) h) fun h3 h =>
    z.j [(4, [(1, oR (d147 v1)), (2, oF)])] 6 [0, 1, 7, 8, 9] [] (o2 (c147 h2) (Le.ff h3)) (ih h)) fun h0 h =>
   z.r [(2, [(0, oF)])] 7 (o1 (Le.ff h0)) h
theorem c86 {N} (gx0 : Bool) {x0 x1 r} (h : L_health_All N x0 x1 = some r) : Con Tryz.prog 86 [sS gx0 eHealth x0, iI x1] [] (d86 r) [] :=
 ci ok mix Tryz.f86 fun z =>
 z.j [] 7 [0, 1, 7, 8, 9] [] o0 (g86_1 gx0 z N h)
def L_report_serial_1 (N : Nat) (t2 : Bool) : Option (Bool) :=
 some t2
def L_report_serial (N : Nat) (x0 : Int) : Option (Bool) :=
 bif (decide (x0 ≥ 0)) then
  L_report_serial_1 N (decide (x0 < 65536))
 else
  L_report_serial_1 N false
def d226 (r : Bool) : D := .bool r
theorem g226_1 {N} {r} (z : Z Tryz.prog ty 226 Tryz.f226 (Fi [] (d226 r) [])) {t2} (h : L_report_serial_1 N t2 = some r) : z.G [.c 7] [(2, .bool t2)] [] :=
 z.r [] 0 o0 h
theorem c226 {N} {x0 r} (h : L_report_serial N x0 = some r) : Con Tryz.prog 226 [iI x0] [] (d226 r) [] :=
 ci ok mix Tryz.f226 fun z =>
 br h (fun h0 h =>
  z.j [(1, [(2, oT)])] 4 [2] [] (o1 (Le.tt h0)) (g226_1 z h)) fun h0 h =>
 z.j [(1, [(2, oF)])] 4 [2] [] (o1 (Le.ff h0)) (g226_1 z h)
def L_ip_In_1 (N : Nat) (t4 : Bool) : Option (Bool) :=
 some t4
def L_ip_In (N : Nat) (x0 x1 : Int) : Option (Bool) :=
 bif (decide (x0 ≥ 0)) then
  if 0 ≤ x1 then
  L_ip_In_1 N ((x0.fdiv (2 ^ (min x1.toNat 64))) == 0)
  else none
 else
  L_ip_In_1 N false
def d198 (r : Bool) : D := .bool r
theorem g198_1 {N} {r} (z : Z Tryz.prog ty 198 Tryz.f198 (Fi [] (d198 r) [])) {t4} (h : L_ip_In_1 N t4 = some r) : z.G [.c 7] [(4, .bool t4)] [] :=
 z.r [] 0 o0 h
theorem c198 {N} {x0 x1 r} (h : L_ip_In N x0 x1 = some r) : Con Tryz.prog 198 [iI x0, iI x1] [] (d198 r) [] :=
 ci ok mix Tryz.f198 fun z =>
 br h (fun h0 h =>
  ck h fun h1 h =>
  z.j [(1, [(2, oT)])] 4 [4] [] (o2 (Le.tt h0) h1) (g198_1 z h)) fun h0 h =>
 z.j [(1, [(2, oF)])] 4 [4] [] (o1 (Le.ff h0)) (g198_1 z h)
def L_report_May_1 (N : Nat) (t2 : Bool) : Option (Bool) :=
 some t2
def L_report_May (N : Nat) (x0 : GReport) : Option (Bool) :=
 (L_report_Site N x0.Site).bind fun v1 =>
 bif v1 then
  (L_report_serial N x0.Serial).bind fun v2 =>
  bif v2 then
   (L_ip_In N x0.Load 8).bind fun v3 =>
   bif v3 then
    (L_ip_In N x0.Cap 8).bind fun v4 =>
    L_report_May_1 N v4
   else
    L_report_May_1 N false
  else
   L_report_May_1 N false
 else
  L_report_May_1 N false
def d212 (r : Bool) : D := .bool r
theorem g212_1 {N} {r} (z : Z Tryz.prog ty 212 Tryz.f212 (Fi [] (d212 r) [])) {t2} (h : L_report_May_1 N t2 = some r) : z.G [.c 7] [(2, .bool t2)] [] :=
 z.r [] 0 o0 h
theorem c212 {N} {x0 r} (h : L_report_May N x0 = some r) : Con Tryz.prog 212 [.agg [iI x0.Site, iI x0.Serial, iI x0.Load, iI x0.Cap]] [] (d212 r) [] :=
 ci ok mix Tryz.f212 fun z =>
 bd h fun v1 h0 h =>
 br h (fun h1 h =>
  bd h fun v2 h2 h =>
  br h (fun h3 h =>
   bd h fun v3 h4 h =>
   br h (fun h5 h =>
    bd h fun v4 h6 h =>
    z.j [(1, [(2, oR (d84 v1)), (3, oT), (6, oR (d226 v2)), (8, oT), (11, oR (d198 v3)), (13, oT), (16, oR (d198 v4))])] 4 [2] [] (o5 (c84 h0) (Le.tt h1) (c226 h2) (Le.tt h3) (o3 (c198 h4) (Le.tt h5) (c198 h6))) (g212_1 z h)) fun h5 h =>
   z.j [(1, [(2, oR (d84 v1)), (3, oT), (6, oR (d226 v2)), (8, oT), (11, oR (d198 v3)), (13, oF)])] 4 [2] [] (o5 (c84 h0) (Le.tt h1) (c226 h2) (Le.tt h3) (o2 (c198 h4) (Le.ff h5))) (g212_1 z h)) fun h3 h =>
  z.j [(1, [(2, oR (d84 v1)), (3, oT), (6, oR (d226 v2)), (8, oF)])] 4 [2] [] (o4 (c84 h0) (Le.tt h1) (c226 h2) (Le.ff h3)) (g212_1 z h)) fun h1 h =>
 z.j [(1, [(2, oR (d84 v1)), (3, oF)])] 4 [2] [] (o2 (c84 h0) (Le.ff h1)) (g212_1 z h)
def L_view_May_3 (N : Nat) (r1 : (List GSeen) → (List GSeen) → Int → Int → Option (Bool)) (t0 t6 : (List GSeen)) (t7 t8 : Int) (t42 : Bool) : Option (Bool) :=
 bif t42 then
  some false
 else
  r1 t0 t6 t7 (IntKind.i64.wrap (t8 + 1))
def L_view_May_2 (N : Nat) (r1 : (List GSeen) → (List GSeen) → Int → Int → Option (Bool)) (t0 : (List GSeen)) (t3 b132_0 b132_1 b132_2 b132_3 b132_4 : Int) (t5 : Bool) (t6 : (List GSeen)) (t7 t8 : Int) : Option (Bool) :=
 bif (!t5) then
  (L_conf_Time N b132_4).bind fun v1 =>
  bif (!v1) then
   L_view_May_3 N r1 t0 t6 t7 t8 true
  else
   (L_report_May N (GReport.mk b132_0 b132_1 b132_2 b132_3)).bind fun v2 =>
   bif (!v2) then
    L_view_May_3 N r1 t0 t6 t7 t8 true
   else
    L_view_May_3 N r1 t0 t6 t7 t8 (b132_0 != t3)
 else
  L_view_May_3 N r1 t0 t6 t7 t8 false
def L_view_May_1 (N : Nat) : Nat → (List GSeen) → (List GSeen) → Int → Int → Option (Bool)
  | 0, _, _, _, _ => none
  | fuel + 1, t0, t6, t7, t8 =>
  bif (decide (t8 < t7)) then
   if 0 ≤ t8 ∧ t8 < ((t6.length : Nat) : Int) then
   bif ((t6.getD t8.toNat default).At == (-1)) then
    via (((((t6.getD t8.toNat default).Report).Site == (0 : Int)) && ((((t6.getD t8.toNat default).Report).Serial == (0 : Int)) && ((((t6.getD t8.toNat default).Report).Load == (0 : Int)) && ((((t6.getD t8.toNat default).Report).Cap == (0 : Int)) && true)))) : Bool) fun v1 =>
    L_view_May_2 N (L_view_May_1 N fuel) t0 t8 (((t6.getD t8.toNat default).Report).Site) (((t6.getD t8.toNat default).Report).Serial) (((t6.getD t8.toNat default).Report).Load) (((t6.getD t8.toNat default).Report).Cap) ((t6.getD t8.toNat default).At) v1 t6 t7 t8
   else
    L_view_May_2 N (L_view_May_1 N fuel) t0 t8 (((t6.getD t8.toNat default).Report).Site) (((t6.getD t8.toNat default).Report).Serial) (((t6.getD t8.toNat default).Report).Load) (((t6.getD t8.toNat default).Report).Cap) ((t6.getD t8.toNat default).At) false t6 t7 t8
   else none
  else
   some ((t0.length : Int) == 3)
def L_view_May (N : Nat) (x0 : (List GSeen)) : Option (Bool) :=
 L_view_May_1 N N x0 x0 (x0.length : Int) 0
def d169 (r : Bool) : D := .bool r
theorem g169_3 {N} (gx0 : Bool) {r} (z : Z Tryz.prog ty 169 Tryz.f169 (Fi [] (d169 r) [])) {r1 : (List GSeen) → (List GSeen) → Int → Int → Option (Bool)} (hr1 : ∀ {t0 t6 t7 t8}, r1 t0 t6 t7 t8 = some r → z.G [.c 37, .l 37, .b 0, .c 7] [(0, sS gx0 eSeen t0), (6, sS gx0 eSeen t6), (7, iI t7), (8, iI t8)] []) {t0 t6 t7 t8 t42} (h : L_view_May_3 N r1 t0 t6 t7 t8 t42 = some r) : z.G [.c 7781, .b 1, .c 485, .l 37, .b 0, .c 7] [(0, sS gx0 eSeen t0), (6, sS gx0 eSeen t6), (7, iI t7), (8, iI t8), (42, .bool t42)] [] :=
 by
  cases t42 with
  | true => exact brT h fun h => (
   z.r [] 3 o0 h)
  | false => exact brF h fun h => (
   z.j [] 5 [0, 6, 7, 8] [] o0 (hr1 h))
theorem g169_2 {N} (gx0 : Bool) {r} (z : Z Tryz.prog ty 169 Tryz.f169 (Fi [] (d169 r) [])) {r1 : (List GSeen) → (List GSeen) → Int → Int → Option (Bool)} (hr1 : ∀ {t0 t6 t7 t8}, r1 t0 t6 t7 t8 = some r → z.G [.c 37, .l 37, .b 0, .c 7] [(0, sS gx0 eSeen t0), (6, sS gx0 eSeen t6), (7, iI t7), (8, iI t8)] []) {t0 t3 b132_0 b132_1 b132_2 b132_3 b132_4 t5 t6 t7 t8} (h : L_view_May_2 N r1 t0 t3 b132_0 b132_1 b132_2 b132_3 b132_4 t5 t6 t7 t8 = some r) : z.G [.c 3685, .b 1, .c 485, .l 37, .b 0, .c 7] [(0, sS gx0 eSeen t0), (3, iI t3), (4, .ptr 132 0), (5, .bool t5), (6, sS gx0 eSeen t6), (7, iI t7), (8, iI t8)] [qB 132 [iI b132_0, iI b132_1, iI b132_2, iI b132_3, iI b132_4]] :=
 br h (fun h0 h =>
  bd h fun v1 h1 h =>
  br h (fun h2 h =>
   z.j [(5, [(2, oT), (5, oR (d59 v1)), (7, oT)])] 2 [0, 6, 7, 8, 42] [] (o3 (Le.tt h0) (c59 h1) (Le.tt h2)) (g169_3 gx0 z @hr1 h)) fun h2 h =>
  bd h fun v2 h3 h =>
  br h (fun h4 h =>
   z.j [(5, [(2, oT), (5, oR (d59 v1)), (7, oF), (10, oR (d212 v2)), (13, oT)])] 2 [0, 6, 7, 8, 42] [] (o5 (Le.tt h0) (c59 h1) (Le.ff h2) (c212 h3) (o1 (Le.tt h4))) (g169_3 gx0 z @hr1 h)) fun h4 h =>
  z.j [(5, [(2, oT), (5, oR (d59 v1)), (7, oF), (10, oR (d212 v2)), (13, oF)])] 2 [0, 6, 7, 8, 42] [] (o5 (Le.tt h0) (c59 h1) (Le.ff h2) (c212 h3) (o1 (Le.ff h4))) (g169_3 gx0 z @hr1 h)) fun h0 h =>
 z.j [(5, [(2, oF)])] 2 [0, 6, 7, 8, 42] [] (o1 (Le.ff h0)) (g169_3 gx0 z @hr1 h)
theorem g169_1 {N} (gx0 : Bool) {r} (z : Z Tryz.prog ty 169 Tryz.f169 (Fi [] (d169 r) [])) (fuel) : ∀ {t0 t6 t7 t8}, L_view_May_1 N fuel t0 t6 t7 t8 = some r → z.G [.c 37, .l 37, .b 0, .c 7] [(0, sS gx0 eSeen t0), (6, sS gx0 eSeen t6), (7, iI t7), (8, iI t8)] [] := by
 induction fuel with
 | zero => intro t0 t6 t7 t8 h; cases h
 | succ fuel ih =>
  intro t0 t6 t7 t8 h
  exact
   br h (fun h0 h =>
    ck h fun h1 h =>
    z.s [(2, [(0, oT)]), (3, [(1, oC (.ip gx0 [iI (((t6.getD t8.toNat default).Report).Site), iI (((t6.getD t8.toNat default).Report).Serial), iI (((t6.getD t8.toNat default).Report).Load), iI (((t6.getD t8.toNat default).Report).Cap), iI ((t6.getD t8.toNat default).At)]))])] 10 (o3 (Le.tt h0) h1 (Le.iptl (g := gx0) (eL_at (xs := t6) eSeen_len (ixl h1)))) <|
    br h (fun h2 h =>
     vi h fun v1 h3 h =>
     z.j [(4, [(3, oT), (7, oC (.bool v1))])] 1 [0, 3, 4, 5, 6, 7, 8] [(132, 132)] (o2 (Le.tt h2) (Le.boo h3)) (g169_2 gx0 z @ih h)) fun h2 h =>
    z.j [(4, [(3, oF)])] 1 [0, 3, 4, 5, 6, 7, 8] [(132, 132)] (o1 (Le.ff h2)) (g169_2 gx0 z @ih h)) fun h0 h =>
   z.r [(2, [(0, oF)])] 7 (o1 (Le.ff h0)) h
theorem c169 {N} (gx0 : Bool) {x0 r} (h : L_view_May N x0 = some r) : Con Tryz.prog 169 [sS gx0 eSeen x0] [] (d169 r) [] :=
 ci ok mix Tryz.f169 fun z =>
 z.j [] 7 [0, 6, 7, 8] [] o0 (g169_1 gx0 z N h)
def L_flow_handled_1 (N : Nat) (t2 : Bool) : Option (Bool) :=
 some t2
def L_flow_handled (N : Nat) (x0 : Int) : Option (Bool) :=
 bif (x0 == 6) then
  L_flow_handled_1 N true
 else
  L_flow_handled_1 N (x0 == 17)
def d126 (r : Bool) : D := .bool r
theorem g126_1 {N} {r} (z : Z Tryz.prog ty 126 Tryz.f126 (Fi [] (d126 r) [])) {t2} (h : L_flow_handled_1 N t2 = some r) : z.G [.c 7] [(2, .bool t2)] [] :=
 z.r [] 0 o0 h
theorem c126 {N} {x0 r} (h : L_flow_handled N x0 = some r) : Con Tryz.prog 126 [iI x0] [] (d126 r) [] :=
 ci ok mix Tryz.f126 fun z =>
 br h (fun h0 h =>
  z.j [(1, [(2, oT)])] 4 [2] [] (o1 (Le.tt h0)) (g126_1 z h)) fun h0 h =>
 z.j [(1, [(2, oF)])] 4 [2] [] (o1 (Le.ff h0)) (g126_1 z h)
def L_flow_May_1 (N : Nat) (t2 : Bool) : Option (Bool) :=
 some t2
def L_flow_May (N : Nat) (x0 : GFlow) : Option (Bool) :=
 (L_ip_In N x0.Src 32).bind fun v1 =>
 bif v1 then
  (L_ip_In N x0.Dst 32).bind fun v2 =>
  bif v2 then
   (L_flow_handled N x0.Proto).bind fun v3 =>
   bif v3 then
    (L_ip_In N x0.Sport 16).bind fun v4 =>
    bif v4 then
     (L_ip_In N x0.Dport 16).bind fun v5 =>
     L_flow_May_1 N v5
    else
     L_flow_May_1 N false
   else
    L_flow_May_1 N false
  else
   L_flow_May_1 N false
 else
  L_flow_May_1 N false
def d197 (r : Bool) : D := .bool r
theorem g197_1 {N} {r} (z : Z Tryz.prog ty 197 Tryz.f197 (Fi [] (d197 r) [])) {t2} (h : L_flow_May_1 N t2 = some r) : z.G [.c 7] [(2, .bool t2)] [] :=
 z.r [] 0 o0 h
theorem c197 {N} {x0 r} (h : L_flow_May N x0 = some r) : Con Tryz.prog 197 [.agg [iI x0.Src, iI x0.Dst, iI x0.Proto, iI x0.Sport, iI x0.Dport]] [] (d197 r) [] :=
 ci ok mix Tryz.f197 fun z =>
 bd h fun v1 h0 h =>
 br h (fun h1 h =>
  bd h fun v2 h2 h =>
  br h (fun h3 h =>
   bd h fun v3 h4 h =>
   br h (fun h5 h =>
    bd h fun v4 h6 h =>
    br h (fun h7 h =>
     bd h fun v5 h8 h =>
     z.j [(1, [(2, oR (d198 v1)), (3, oT), (6, oR (d198 v2)), (8, oT), (11, oR (d126 v3)), (13, oT), (16, oR (d198 v4)), (18, oT), (21, oR (d198 v5))])] 4 [2] [] (o5 (c198 h0) (Le.tt h1) (c198 h2) (Le.tt h3) (o5 (c126 h4) (Le.tt h5) (c198 h6) (Le.tt h7) (o1 (c198 h8)))) (g197_1 z h)) fun h7 h =>
    z.j [(1, [(2, oR (d198 v1)), (3, oT), (6, oR (d198 v2)), (8, oT), (11, oR (d126 v3)), (13, oT), (16, oR (d198 v4)), (18, oF)])] 4 [2] [] (o5 (c198 h0) (Le.tt h1) (c198 h2) (Le.tt h3) (o4 (c126 h4) (Le.tt h5) (c198 h6) (Le.ff h7))) (g197_1 z h)) fun h5 h =>
   z.j [(1, [(2, oR (d198 v1)), (3, oT), (6, oR (d198 v2)), (8, oT), (11, oR (d126 v3)), (13, oF)])] 4 [2] [] (o5 (c198 h0) (Le.tt h1) (c198 h2) (Le.tt h3) (o2 (c126 h4) (Le.ff h5))) (g197_1 z h)) fun h3 h =>
  z.j [(1, [(2, oR (d198 v1)), (3, oT), (6, oR (d198 v2)), (8, oF)])] 4 [2] [] (o4 (c198 h0) (Le.tt h1) (c198 h2) (Le.ff h3)) (g197_1 z h)) fun h1 h =>
 z.j [(1, [(2, oR (d198 v1)), (3, oF)])] 4 [2] [] (o2 (c198 h0) (Le.ff h1)) (g197_1 z h)
def L_track_May_1 (N : Nat) (t2 : Bool) : Option (Bool) :=
 some t2
def L_track_May (N : Nat) (x0 : Int) : Option (Bool) :=
 bif (decide (x0 ≥ 0)) then
  L_track_May_1 N (decide (x0 ≤ 2))
 else
  L_track_May_1 N false
def d199 (r : Bool) : D := .bool r
theorem g199_1 {N} {r} (z : Z Tryz.prog ty 199 Tryz.f199 (Fi [] (d199 r) [])) {t2} (h : L_track_May_1 N t2 = some r) : z.G [.c 7] [(2, .bool t2)] [] :=
 z.r [] 0 o0 h
theorem c199 {N} {x0 r} (h : L_track_May N x0 = some r) : Con Tryz.prog 199 [iI x0] [] (d199 r) [] :=
 ci ok mix Tryz.f199 fun z =>
 br h (fun h0 h =>
  z.j [(1, [(2, oT)])] 4 [2] [] (o1 (Le.tt h0)) (g199_1 z h)) fun h0 h =>
 z.j [(1, [(2, oF)])] 4 [2] [] (o1 (Le.ff h0)) (g199_1 z h)
def L_entry_May_1 (N : Nat) (t2 : Bool) : Option (Bool) :=
 some t2
def L_entry_May (N : Nat) (x0 : GEntry) : Option (Bool) :=
 (L_flow_May N x0.Flow).bind fun v1 =>
 bif v1 then
  (L_ip_In N x0.To 8).bind fun v2 =>
  bif v2 then
   (L_track_May N x0.Phase).bind fun v3 =>
   bif v3 then
    (L_conf_Time N x0.Used).bind fun v4 =>
    L_entry_May_1 N v4
   else
    L_entry_May_1 N false
  else
   L_entry_May_1 N false
 else
  L_entry_May_1 N false
def d148 (r : Bool) : D := .bool r
theorem g148_1 {N} {r} (z : Z Tryz.prog ty 148 Tryz.f148 (Fi [] (d148 r) [])) {t2} (h : L_entry_May_1 N t2 = some r) : z.G [.c 7] [(2, .bool t2)] [] :=
 z.r [] 0 o0 h
theorem c148 {N} {x0 r} (h : L_entry_May N x0 = some r) : Con Tryz.prog 148 [.agg [iI x0.Flow.Src, iI x0.Flow.Dst, iI x0.Flow.Proto, iI x0.Flow.Sport, iI x0.Flow.Dport, iI x0.To, .bool x0.Away, iI x0.Phase, iI x0.Used]] [] (d148 r) [] :=
 ci ok mix Tryz.f148 fun z =>
 bd h fun v1 h0 h =>
 br h (fun h1 h =>
  bd h fun v2 h2 h =>
  br h (fun h3 h =>
   bd h fun v3 h4 h =>
   br h (fun h5 h =>
    bd h fun v4 h6 h =>
    z.j [(1, [(2, oR (d197 v1)), (3, oT), (6, oR (d198 v2)), (8, oT), (11, oR (d199 v3)), (13, oT), (16, oR (d59 v4))])] 4 [2] [] (o5 (c197 h0) (Le.tt h1) (c198 h2) (Le.tt h3) (o3 (c199 h4) (Le.tt h5) (c59 h6))) (g148_1 z h)) fun h5 h =>
   z.j [(1, [(2, oR (d197 v1)), (3, oT), (6, oR (d198 v2)), (8, oT), (11, oR (d199 v3)), (13, oF)])] 4 [2] [] (o5 (c197 h0) (Le.tt h1) (c198 h2) (Le.tt h3) (o2 (c199 h4) (Le.ff h5))) (g148_1 z h)) fun h3 h =>
  z.j [(1, [(2, oR (d197 v1)), (3, oT), (6, oR (d198 v2)), (8, oF)])] 4 [2] [] (o4 (c197 h0) (Le.tt h1) (c198 h2) (Le.ff h3)) (g148_1 z h)) fun h1 h =>
 z.j [(1, [(2, oR (d197 v1)), (3, oF)])] 4 [2] [] (o2 (c197 h0) (Le.ff h1)) (g148_1 z h)
def L_cache_at_f1 (N : Nat) (x0 : GEntry) (x1_0 x1_1 x1_2 x1_3 x1_4 : Int) : Option (Bool) :=
 via (((x0.Flow.Src == x1_0) && ((x0.Flow.Dst == x1_1) && ((x0.Flow.Proto == x1_2) && ((x0.Flow.Sport == x1_3) && ((x0.Flow.Dport == x1_4) && true))))) : Bool) fun v1 =>
 some v1
def d201 (r : Bool) : D := .bool r
theorem c201 {N} (gx1 : Bool) {x0 x1_0 x1_1 x1_2 x1_3 x1_4 r} (h : L_cache_at_f1 N x0 x1_0 x1_1 x1_2 x1_3 x1_4 = some r) : Con Tryz.prog 201 [.agg [iI x0.Flow.Src, iI x0.Flow.Dst, iI x0.Flow.Proto, iI x0.Flow.Sport, iI x0.Flow.Dport, iI x0.To, .bool x0.Away, iI x0.Phase, iI x0.Used], .ip gx1 [iI x1_0, iI x1_1, iI x1_2, iI x1_3, iI x1_4]] [] (d201 r) [] :=
 ci ok mix Tryz.f201 fun z =>
 vi h fun v1 h0 h =>
 z.r [(1, [(3, oC (.bool v1))])] 4 (o1 (Le.boo h0)) h
def L_slices_IndexFunc_api_Entry_api_Entry_1 (N : Nat) : Nat → (List GEntry) → Int → Int → Int → Int → Int → Int → Int → Option (Int)
  | 0, _, _, _, _, _, _, _, _ => none
  | fuel + 1, t0, t1_0_0, t1_0_1, t1_0_2, t1_0_3, t1_0_4, t7, t8 =>
  bif (decide (t8 < t7)) then
   if 0 ≤ t8 ∧ t8 < ((t0.length : Nat) : Int) then
   (L_cache_at_f1 N (GEntry.mk ((t0.getD t8.toNat default).Flow) ((t0.getD t8.toNat default).To) ((t0.getD t8.toNat default).Away) ((t0.getD t8.toNat default).Phase) ((t0.getD t8.toNat default).Used)) t1_0_0 t1_0_1 t1_0_2 t1_0_3 t1_0_4).bind fun v1 =>
   bif v1 then
    some t8
   else
    L_slices_IndexFunc_api_Entry_api_Entry_1 N fuel t0 t1_0_0 t1_0_1 t1_0_2 t1_0_3 t1_0_4 t7 (IntKind.i64.wrap (t8 + 1))
   else none
  else
   some (-1)
def L_slices_IndexFunc_api_Entry_api_Entry (N : Nat) (x0 : (List GEntry)) (x1_0_0 x1_0_1 x1_0_2 x1_0_3 x1_0_4 : Int) : Option (Int) :=
 L_slices_IndexFunc_api_Entry_api_Entry_1 N N x0 x1_0_0 x1_0_1 x1_0_2 x1_0_3 x1_0_4 (x0.length : Int) 0
def d200 (r : Int) : D := iI r
theorem g200_1 {N} (gx0 gx1_0 : Bool) {r} (z : Z Tryz.prog ty 200 Tryz.f200 (Fi [] (d200 r) [])) (fuel) : ∀ {t0 t1_0_0 t1_0_1 t1_0_2 t1_0_3 t1_0_4 t7 t8}, L_slices_IndexFunc_api_Entry_api_Entry_1 N fuel t0 t1_0_0 t1_0_1 t1_0_2 t1_0_3 t1_0_4 t7 t8 = some r → z.G [.c 37, .l 37, .b 0, .c 7] [(0, sS gx0 eEntry t0), (1, .fn 201 [.ip gx1_0 [iI t1_0_0, iI t1_0_1, iI t1_0_2, iI t1_0_3, iI t1_0_4]]), (7, iI t7), (8, iI t8)] [] := by
 induction fuel with
 | zero => intro t0 t1_0_0 t1_0_1 t1_0_2 t1_0_3 t1_0_4 t7 t8 h; cases h
 | succ fuel ih =>
  intro t0 t1_0_0 t1_0_1 t1_0_2 t1_0_3 t1_0_4 t7 t8 h
  exact
   br h (fun h0 h =>
    ck h fun h1 h =>
    bd h fun v1 h2 h =>
    z.s [(2, [(0, oT)])] 10 (o1 (Le.tt h0)) <|
    br h (fun h3 h =>
     z.r [(4, [(3, oC (.ip gx0 [iI (((t0.getD t8.toNat default).Flow).Src), iI (((t0.getD t8.toNat default).Flow).Dst), iI (((t0.getD t8.toNat default).Flow).Proto), iI (((t0.getD t8.toNat default).Flow).Sport), iI (((t0.getD t8.toNat default).Flow).Dport), iI ((t0.getD t8.toNat default).To), .bool ((t0.getD t8.toNat default).Away), iI ((t0.getD t8.toNat default).Phase), iI ((t0.getD t8.toNat default).Used)])), (5, { r := d201 v1, cv := some (.bool true) })])] 4 (o4 h1 (Le.iptl (g := gx0) (eL_at (xs := t0) eEntry_len (ixl h1))) (c201 gx1_0 h2) (Le.tt h3)) h) fun h3 h =>
    z.j [(4, [(3, oC (.ip gx0 [iI (((t0.getD t8.toNat default).Flow).Src), iI (((t0.getD t8.toNat default).Flow).Dst), iI (((t0.getD t8.toNat default).Flow).Proto), iI (((t0.getD t8.toNat default).Flow).Sport), iI (((t0.getD t8.toNat default).Flow).Dport), iI ((t0.getD t8.toNat default).To), .bool ((t0.getD t8.toNat default).Away), iI ((t0.getD t8.toNat default).Phase), iI ((t0.getD t8.toNat default).Used)])), (5, { r := d201 v1, cv := some (.bool false) })])] 6 [0, 1, 7, 8] [] (o4 h1 (Le.iptl (g := gx0) (eL_at (xs := t0) eEntry_len (ixl h1))) (c201 gx1_0 h2) (Le.ff h3)) (ih h)) fun h0 h =>
   z.r [(2, [(0, oF)])] 7 (o1 (Le.ff h0)) h
theorem c200 {N} (gx0 gx1_0 : Bool) {x0 x1_0_0 x1_0_1 x1_0_2 x1_0_3 x1_0_4 r} (h : L_slices_IndexFunc_api_Entry_api_Entry N x0 x1_0_0 x1_0_1 x1_0_2 x1_0_3 x1_0_4 = some r) : Con Tryz.prog 200 [sS gx0 eEntry x0, .fn 201 [.ip gx1_0 [iI x1_0_0, iI x1_0_1, iI x1_0_2, iI x1_0_3, iI x1_0_4]]] [] (d200 r) [] :=
 ci ok mix Tryz.f200 fun z =>
 z.j [] 7 [0, 1, 7, 8] [] o0 (g200_1 gx0 gx1_0 z N h)
def L_cache_at (N : Nat) (x0 : (List GEntry)) (x1 : GFlow) : Option (Int) :=
 (L_slices_IndexFunc_api_Entry_api_Entry N x0 x1.Src x1.Dst x1.Proto x1.Sport x1.Dport).bind fun v1 =>
 some v1
def d149 (r : Int) : D := iI r
theorem c149 {N} (gx0 : Bool) {x0 x1 r} (h : L_cache_at N x0 x1 = some r) : Con Tryz.prog 149 [sS gx0 eEntry x0, .agg [iI x1.Src, iI x1.Dst, iI x1.Proto, iI x1.Sport, iI x1.Dport]] [] (d149 r) [] :=
 ci ok mix Tryz.f149 fun z =>
 bd h fun v1 h0 h =>
 z.r [(1, [(2, oR (d200 v1))])] 4 (o1 (c200 gx0 false h0)) h
def L_cache_May_2 (N : Nat) (r1 : (List GEntry) → (List GEntry) → Int → Int → Option (Bool)) (t0 t5 : (List GEntry)) (t6 t7 : Int) (t22 : Bool) : Option (Bool) :=
 bif t22 then
  some false
 else
  r1 t0 t5 t6 (IntKind.i64.wrap (t7 + 1))
def L_cache_May_1 (N : Nat) : Nat → (List GEntry) → (List GEntry) → Int → Int → Option (Bool)
  | 0, _, _, _, _ => none
  | fuel + 1, t0, t5, t6, t7 =>
  bif (decide (t7 < t6)) then
   if 0 ≤ t7 ∧ t7 < ((t5.length : Nat) : Int) then
   (L_entry_May N (GEntry.mk ((t5.getD t7.toNat default).Flow) ((t5.getD t7.toNat default).To) ((t5.getD t7.toNat default).Away) ((t5.getD t7.toNat default).Phase) ((t5.getD t7.toNat default).Used))).bind fun v1 =>
   bif (!v1) then
    L_cache_May_2 N (L_cache_May_1 N fuel) t0 t5 t6 t7 true
   else
    (L_cache_at N t0 ((t5.getD t7.toNat default).Flow)).bind fun v2 =>
    L_cache_May_2 N (L_cache_May_1 N fuel) t0 t5 t6 t7 (v2 != t7)
   else none
  else
   some (decide ((t0.length : Int) ≤ 8))
def L_cache_May (N : Nat) (x0 : (List GEntry)) : Option (Bool) :=
 L_cache_May_1 N N x0 x0 (x0.length : Int) 0
def d87 (r : Bool) : D := .bool r
theorem g87_2 {N} (gx0 : Bool) {r} (z : Z Tryz.prog ty 87 Tryz.f87 (Fi [] (d87 r) [])) {r1 : (List GEntry) → (List GEntry) → Int → Int → Option (Bool)} (hr1 : ∀ {t0 t5 t6 t7}, r1 t0 t5 t6 t7 = some r → z.G [.c 37, .l 37, .b 0, .c 7] [(0, sS gx0 eEntry t0), (5, sS gx0 eEntry t5), (6, iI t6), (7, iI t7)] []) {t0 t5 t6 t7 t22} (h : L_cache_May_2 N r1 t0 t5 t6 t7 t22 = some r) : z.G [.c 3685, .b 1, .c 485, .l 37, .b 0, .c 7] [(0, sS gx0 eEntry t0), (5, sS gx0 eEntry t5), (6, iI t6), (7, iI t7), (22, .bool t22)] [] :=
 by
  cases t22 with
  | true => exact brT h fun h => (
   z.r [] 3 o0 h)
  | false => exact brF h fun h => (
   z.j [] 5 [0, 5, 6, 7] [] o0 (hr1 h))
theorem g87_1 {N} (gx0 : Bool) {r} (z : Z Tryz.prog ty 87 Tryz.f87 (Fi [] (d87 r) [])) (fuel) : ∀ {t0 t5 t6 t7}, L_cache_May_1 N fuel t0 t5 t6 t7 = some r → z.G [.c 37, .l 37, .b 0, .c 7] [(0, sS gx0 eEntry t0), (5, sS gx0 eEntry t5), (6, iI t6), (7, iI t7)] [] := by
 induction fuel with
 | zero => intro t0 t5 t6 t7 h; cases h
 | succ fuel ih =>
  intro t0 t5 t6 t7 h
  exact
   br h (fun h0 h =>
    ck h fun h1 h =>
    bd h fun v1 h2 h =>
    z.s [(2, [(0, oT)]), (3, [(1, oC (.ip gx0 [iI (((t5.getD t7.toNat default).Flow).Src), iI (((t5.getD t7.toNat default).Flow).Dst), iI (((t5.getD t7.toNat default).Flow).Proto), iI (((t5.getD t7.toNat default).Flow).Sport), iI (((t5.getD t7.toNat default).Flow).Dport), iI ((t5.getD t7.toNat default).To), .bool ((t5.getD t7.toNat default).Away), iI ((t5.getD t7.toNat default).Phase), iI ((t5.getD t7.toNat default).Used)]))])] 10 (o3 (Le.tt h0) h1 (Le.iptl (g := gx0) (eL_at (xs := t5) eEntry_len (ixl h1)))) <|
    br h (fun h3 h =>
     z.j [(4, [(1, oR (d148 v1)), (3, oT)])] 1 [0, 5, 6, 7, 22] [] (o2 (c148 h2) (Le.tt h3)) (g87_2 gx0 z @ih h)) fun h3 h =>
    bd h fun v2 h4 h =>
    z.j [(4, [(1, oR (d148 v1)), (3, oF), (7, oR (d149 v2))])] 1 [0, 5, 6, 7, 22] [] (o3 (c148 h2) (Le.ff h3) (c149 gx0 h4)) (g87_2 gx0 z @ih h)) fun h0 h =>
   z.r [(2, [(0, oF)])] 7 (o1 (Le.ff h0)) h
theorem c87 {N} (gx0 : Bool) {x0 r} (h : L_cache_May N x0 = some r) : Con Tryz.prog 87 [sS gx0 eEntry x0] [] (d87 r) [] :=
 ci ok mix Tryz.f87 fun z =>
 z.j [] 7 [0, 5, 6, 7] [] o0 (g87_1 gx0 z N h)
def L_spare_May_1 (N : Nat) (t2 : Bool) : Option (Bool) :=
 some t2
def L_spare_May (N : Nat) (x0 : GNode) : Option (Bool) :=
 (L_conf_May N x0.Config).bind fun v1 =>
 bif v1 then
  (L_report_Site N x0.Id).bind fun v2 =>
  bif v2 then
   (L_health_All N x0.Health 4).bind fun v3 =>
   bif v3 then
    (L_view_May N x0.Seen).bind fun v4 =>
    bif v4 then
     (L_cache_May N x0.Flows).bind fun v5 =>
     L_spare_May_1 N v5
    else
     L_spare_May_1 N false
   else
    L_spare_May_1 N false
  else
   L_spare_May_1 N false
 else
  L_spare_May_1 N false
def d113 (r : Bool) : D := .bool r
theorem g113_1 {N} (gx0 : Bool) {r} (z : Z Tryz.prog ty 113 Tryz.f113 (Fi [] (d113 r) [])) {t2} (h : L_spare_May_1 N t2 = some r) : z.G [.c 7] [(2, .bool t2)] [] :=
 z.r [] 0 o0 h
theorem c113 {N} (gx0 : Bool) {x0 r} (h : L_spare_May N x0 = some r) : Con Tryz.prog 113 [.ip gx0 [iI x0.Id, iI x0.Config.Version, sS gx0 (eSite gx0) x0.Config.Sites, sS gx0 eHealth x0.Health, sS gx0 eSeen x0.Seen, sS gx0 eEntry x0.Flows, iI x0.Serial]] [] (d113 r) [] :=
 ci ok mix Tryz.f113 fun z =>
 bd h fun v1 h0 h =>
 br h (fun h1 h =>
  bd h fun v2 h2 h =>
  br h (fun h3 h =>
   bd h fun v3 h4 h =>
   br h (fun h5 h =>
    bd h fun v4 h6 h =>
    br h (fun h7 h =>
     bd h fun v5 h8 h =>
     z.j [(1, [(4, oR (d85 v1)), (5, oT), (10, oR (d84 v2)), (12, oT), (17, oR (d86 v3)), (19, oT), (24, oR (d169 v4)), (26, oT), (31, oR (d87 v5))])] 4 [2] [] (o5 (c85 gx0 h0) (Le.tt h1) (c84 h2) (Le.tt h3) (o5 (c86 gx0 h4) (Le.tt h5) (c169 gx0 h6) (Le.tt h7) (o1 (c87 gx0 h8)))) (g113_1 gx0 z h)) fun h7 h =>
    z.j [(1, [(4, oR (d85 v1)), (5, oT), (10, oR (d84 v2)), (12, oT), (17, oR (d86 v3)), (19, oT), (24, oR (d169 v4)), (26, oF)])] 4 [2] [] (o5 (c85 gx0 h0) (Le.tt h1) (c84 h2) (Le.tt h3) (o4 (c86 gx0 h4) (Le.tt h5) (c169 gx0 h6) (Le.ff h7))) (g113_1 gx0 z h)) fun h5 h =>
   z.j [(1, [(4, oR (d85 v1)), (5, oT), (10, oR (d84 v2)), (12, oT), (17, oR (d86 v3)), (19, oF)])] 4 [2] [] (o5 (c85 gx0 h0) (Le.tt h1) (c84 h2) (Le.tt h3) (o2 (c86 gx0 h4) (Le.ff h5))) (g113_1 gx0 z h)) fun h3 h =>
  z.j [(1, [(4, oR (d85 v1)), (5, oT), (10, oR (d84 v2)), (12, oF)])] 4 [2] [] (o4 (c85 gx0 h0) (Le.tt h1) (c84 h2) (Le.ff h3)) (g113_1 gx0 z h)) fun h1 h =>
 z.j [(1, [(4, oR (d85 v1)), (5, oF)])] 4 [2] [] (o2 (c85 gx0 h0) (Le.ff h1)) (g113_1 gx0 z h)
def L_site_May_2 (N : Nat) (r1 : Int → Int → (List GSite) → (List GHealth) → (List GSeen) → (List GEntry) → Int → (List GEntry) → Int → Int → Option (Bool)) (b108_0 b108_1 : Int) (b108_2 : (List GSite)) (b108_3 : (List GHealth)) (b108_4 : (List GSeen)) (b108_5 : (List GEntry)) (b108_6 : Int) (t6 : (List GEntry)) (t7 t8 : Int) (t36 : Bool) : Option (Bool) :=
 bif t36 then
  some false
 else
  r1 b108_0 b108_1 b108_2 b108_3 b108_4 b108_5 b108_6 t6 t7 (IntKind.i64.wrap (t8 + 1))
def L_site_May_3 (N : Nat) (t2 : Bool) : Option (Bool) :=
 some t2
def L_site_May_1 (N : Nat) : Nat → Int → Int → (List GSite) → (List GHealth) → (List GSeen) → (List GEntry) → Int → (List GEntry) → Int → Int → Option (Bool)
  | 0, _, _, _, _, _, _, _, _, _, _ => none
  | fuel + 1, b108_0, b108_1, b108_2, b108_3, b108_4, b108_5, b108_6, t6, t7, t8 =>
  bif (decide (t8 < t7)) then
   if 0 ≤ t8 ∧ t8 < ((t6.length : Nat) : Int) then
   bif (t6.getD t8.toNat default).Away then
    (L_report_Site N ((t6.getD t8.toNat default).To)).bind fun v1 =>
    bif (!v1) then
     L_site_May_2 N (L_site_May_1 N fuel) b108_0 b108_1 b108_2 b108_3 b108_4 b108_5 b108_6 t6 t7 t8 true
    else
     bif ((t6.getD t8.toNat default).To == b108_0) then
      L_site_May_2 N (L_site_May_1 N fuel) b108_0 b108_1 b108_2 b108_3 b108_4 b108_5 b108_6 t6 t7 t8 true
     else
      bif (!((t6.getD t8.toNat default).Away)) then
       L_site_May_2 N (L_site_May_1 N fuel) b108_0 b108_1 b108_2 b108_3 b108_4 b108_5 b108_6 t6 t7 t8 (decide ((t6.getD t8.toNat default).To ≥ 4))
      else
       L_site_May_2 N (L_site_May_1 N fuel) b108_0 b108_1 b108_2 b108_3 b108_4 b108_5 b108_6 t6 t7 t8 false
   else
    bif (!((t6.getD t8.toNat default).Away)) then
     L_site_May_2 N (L_site_May_1 N fuel) b108_0 b108_1 b108_2 b108_3 b108_4 b108_5 b108_6 t6 t7 t8 (decide ((t6.getD t8.toNat default).To ≥ 4))
    else
     L_site_May_2 N (L_site_May_1 N fuel) b108_0 b108_1 b108_2 b108_3 b108_4 b108_5 b108_6 t6 t7 t8 false
   else none
  else
   bif (decide (b108_6 ≥ 0)) then
    bif (decide (b108_6 < 65536)) then
     (L_spare_May N (GNode.mk b108_0 (GConfig.mk b108_1 b108_2) b108_3 b108_4 b108_5 b108_6)).bind fun v1 =>
     L_site_May_3 N v1
    else
     L_site_May_3 N false
   else
    L_site_May_3 N false
def L_site_May (N : Nat) (x0 : GNode) : Option (Bool) :=
 L_site_May_1 N N x0.Id x0.Config.Version x0.Config.Sites x0.Health x0.Seen x0.Flows x0.Serial x0.Flows (x0.Flows.length : Int) 0
def d46 (r : Bool) : D := .bool r
theorem g46_2 {N} (gx0 : Bool) {r} (z : Z Tryz.prog ty 46 Tryz.f46 (Fi [] (d46 r) [])) {r1 : Int → Int → (List GSite) → (List GHealth) → (List GSeen) → (List GEntry) → Int → (List GEntry) → Int → Int → Option (Bool)} (hr1 : ∀ {b108_0 b108_1 b108_2 b108_3 b108_4 b108_5 b108_6 t6 t7 t8}, r1 b108_0 b108_1 b108_2 b108_3 b108_4 b108_5 b108_6 t6 t7 t8 = some r → z.G [.c 37, .l 37, .b 0, .c 7] [(1, .ptr 108 0), (6, sS gx0 eEntry t6), (7, iI t7), (8, iI t8)] [qB 108 [iI b108_0, iI b108_1, sS gx0 (eSite gx0) b108_2, sS gx0 eHealth b108_3, sS gx0 eSeen b108_4, sS gx0 eEntry b108_5, iI b108_6]]) {b108_0 b108_1 b108_2 b108_3 b108_4 b108_5 b108_6 t6 t7 t8 t36} (h : L_site_May_2 N r1 b108_0 b108_1 b108_2 b108_3 b108_4 b108_5 b108_6 t6 t7 t8 t36 = some r) : z.G [.c 3685, .b 1, .c 485, .l 37, .b 0, .c 7] [(1, .ptr 108 0), (6, sS gx0 eEntry t6), (7, iI t7), (8, iI t8), (36, .bool t36)] [qB 108 [iI b108_0, iI b108_1, sS gx0 (eSite gx0) b108_2, sS gx0 eHealth b108_3, sS gx0 eSeen b108_4, sS gx0 eEntry b108_5, iI b108_6]] :=
 by
  cases t36 with
  | true => exact brT h fun h => (
   z.r [] 3 o0 h)
  | false => exact brF h fun h => (
   z.j [] 5 [1, 6, 7, 8] [(108, 108)] o0 (hr1 h))
theorem g46_3 {N} (gx0 : Bool) {r} (z : Z Tryz.prog ty 46 Tryz.f46 (Fi [] (d46 r) [])) {t2} (h : L_site_May_3 N t2 = some r) : z.G [.c 15] [(2, .bool t2)] [] :=
 z.r [] 0 o0 h
theorem g46_1 {N} (gx0 : Bool) {r} (z : Z Tryz.prog ty 46 Tryz.f46 (Fi [] (d46 r) [])) (fuel) : ∀ {b108_0 b108_1 b108_2 b108_3 b108_4 b108_5 b108_6 t6 t7 t8}, L_site_May_1 N fuel b108_0 b108_1 b108_2 b108_3 b108_4 b108_5 b108_6 t6 t7 t8 = some r → z.G [.c 37, .l 37, .b 0, .c 7] [(1, .ptr 108 0), (6, sS gx0 eEntry t6), (7, iI t7), (8, iI t8)] [qB 108 [iI b108_0, iI b108_1, sS gx0 (eSite gx0) b108_2, sS gx0 eHealth b108_3, sS gx0 eSeen b108_4, sS gx0 eEntry b108_5, iI b108_6]] := by
 induction fuel with
 | zero => intro b108_0 b108_1 b108_2 b108_3 b108_4 b108_5 b108_6 t6 t7 t8 h; cases h
 | succ fuel ih =>
  intro b108_0 b108_1 b108_2 b108_3 b108_4 b108_5 b108_6 t6 t7 t8 h
  exact
   br h (fun h0 h =>
    ck h fun h1 h =>
    z.s [(2, [(0, oT)]), (3, [(0, oC (.ip gx0 [iI (((t6.getD t8.toNat default).Flow).Src), iI (((t6.getD t8.toNat default).Flow).Dst), iI (((t6.getD t8.toNat default).Flow).Proto), iI (((t6.getD t8.toNat default).Flow).Sport), iI (((t6.getD t8.toNat default).Flow).Dport), iI ((t6.getD t8.toNat default).To), .bool ((t6.getD t8.toNat default).Away), iI ((t6.getD t8.toNat default).Phase), iI ((t6.getD t8.toNat default).Used)]))])] 10 (o3 (Le.tt h0) h1 (Le.iptl (g := gx0) (eL_at (xs := t6) eEntry_len (ixl h1)))) <|
    br h (fun h2 h =>
     bd h fun v1 h3 h =>
     br h (fun h4 h =>
      z.j [(4, [(2, oT), (5, oR (d84 v1)), (7, oT)])] 1 [1, 6, 7, 8, 36] [(108, 108)] (o3 (Le.tt h2) (c84 h3) (Le.tt h4)) (g46_2 gx0 z @ih h)) fun h4 h =>
     br h (fun h5 h =>
      z.j [(4, [(2, oT), (5, oR (d84 v1)), (7, oF), (15, oT)])] 1 [1, 6, 7, 8, 36] [(108, 108)] (o4 (Le.tt h2) (c84 h3) (Le.ff h4) (Le.tt h5)) (g46_2 gx0 z @ih h)) fun h5 h =>
     br h (fun h6 h =>
      z.j [(4, [(2, oT), (5, oR (d84 v1)), (7, oF), (15, oF), (19, oT)])] 1 [1, 6, 7, 8, 36] [(108, 108)] (o5 (Le.tt h2) (c84 h3) (Le.ff h4) (Le.ff h5) (o1 (Le.tt h6))) (g46_2 gx0 z @ih h)) fun h6 h =>
     z.j [(4, [(2, oT), (5, oR (d84 v1)), (7, oF), (15, oF), (19, oF)])] 1 [1, 6, 7, 8, 36] [(108, 108)] (o5 (Le.tt h2) (c84 h3) (Le.ff h4) (Le.ff h5) (o1 (Le.ff h6))) (g46_2 gx0 z @ih h)) fun h2 h =>
    br h (fun h3 h =>
     z.j [(4, [(2, oF), (19, oT)])] 1 [1, 6, 7, 8, 36] [(108, 108)] (o2 (Le.ff h2) (Le.tt h3)) (g46_2 gx0 z @ih h)) fun h3 h =>
    z.j [(4, [(2, oF), (19, oF)])] 1 [1, 6, 7, 8, 36] [(108, 108)] (o2 (Le.ff h2) (Le.ff h3)) (g46_2 gx0 z @ih h)) fun h0 h =>
   z.s [(2, [(0, oF)])] 6 (o1 (Le.ff h0)) <|
   br h (fun h1 h =>
    br h (fun h2 h =>
     bd h fun v1 h3 h =>
     z.j [(7, [(3, oT), (8, oT), (9, oR (d113 v1))])] 1 [2] [] (o3 (Le.tt h1) (Le.tt h2) ((c113 false h3).le ((.cons (Le.ipl ((.cons (Le.rfl) (.cons (Le.rfl) (.cons (Le.loo (g := gx0) (xs := b108_2) (n := b108_2.length) (c := b108_2.length) (lo_Site gx0)) (.cons (Le.lnd (g := gx0) (cs := (eL eHealth b108_3)) (n := b108_3.length) (c := b108_3.length)) (.cons (Le.lnd (g := gx0) (cs := (eL eSeen b108_4)) (n := b108_4.length) (c := b108_4.length)) (.cons (Le.lnd (g := gx0) (cs := (eL eEntry b108_5)) (n := b108_5.length) (c := b108_5.length)) (.cons (Le.rfl) .nil))))))))) .nil)))) (g46_3 gx0 z h)) fun h2 h =>
    z.j [(7, [(3, oT), (8, oF)])] 1 [2] [] (o2 (Le.tt h1) (Le.ff h2)) (g46_3 gx0 z h)) fun h1 h =>
   z.j [(7, [(3, oF)])] 1 [2] [] (o1 (Le.ff h1)) (g46_3 gx0 z h)
theorem c46 {N} (gx0 : Bool) {x0 r} (h : L_site_May N x0 = some r) : Con Tryz.prog 46 [.agg [iI x0.Id, iI x0.Config.Version, sS gx0 (eSite gx0) x0.Config.Sites, sS gx0 eHealth x0.Health, sS gx0 eSeen x0.Seen, sS gx0 eEntry x0.Flows, iI x0.Serial]] [] (d46 r) [] :=
 ci ok mix Tryz.f46 fun z =>
 z.j [] 7 [1, 6, 7, 8] [(108, 108)] o0 (g46_1 gx0 z N h)
def L_site_New (N : Nat) (x0 : Int) (x1 : GConfig) : Option (GNode × Int) :=
 (L_conf_Copy N x1).bind fun v1 =>
 (L_health_New N).bind fun v2 =>
 (L_slices_Repeat_api_Health_api_Health N ([v2]) 4).bind fun v3 =>
 (L_view_New N).bind fun v4 =>
 (L_site_May N (GNode.mk x0 v1 v3 v4 ([]) 0)).bind fun v5 =>
 bif (!v5) then
  some ((GNode.mk 0 (GConfig.mk 0 ([])) ([]) ([]) ([]) 0), 2000)
 else
  some ((GNode.mk x0 v1 v3 v4 ([]) 0), 0)
def d41 (r : GNode × Int) : D := .tup [.agg [iI r.1.Id, iI r.1.Config.Version, sS true (eSite true) r.1.Config.Sites, sS true eHealth r.1.Health, sS true eSeen r.1.Seen, sS true eEntry r.1.Flows, iI r.1.Serial], iI r.2]
theorem c41 {N} (gx1 : Bool) {x0 x1 r} (h : L_site_New N x0 x1 = some r) : Con Tryz.prog 41 [iI x0, .agg [iI x1.Version, sS gx1 (eSite gx1) x1.Sites]] [] (d41 r) [] :=
 ci ok mix Tryz.f41 fun z =>
 bd h fun v1 h0 h =>
 bd h fun v2 h1 h =>
 bd h fun v3 h2 h =>
 bd h fun v4 h3 h =>
 bd h fun v5 h4 h =>
 z.s [(1, [(2, oR (d76 v1)), (3, oR (d78 v2)), (5, oR (d77 v3)), (6, oR (d107 v4))])] 6 (o4 (c76 gx1 h0) (c78 h1) (c77 false h2) (c107 h3)) <|
 br h (fun h5 h =>
  z.rl [(2, [(1, oR (d46 v5)), (2, oT)])] 4 (.tup [.agg [iI 0, iI 0, .nils, .nils, .nils, .nils, iI 0], iI 2000]) (o2 ((c46 true h4).le ((.cons (Le.agg ((.cons (Le.rfl) (.cons (Le.rfl) (.cons (Le.rfl) (.cons (Le.rfl) (.cons (Le.rfl) (.cons (Le.nils) (.cons (Le.rfl) .nil))))))))) .nil))) (Le.tt h5)) h (Le.tup ((.cons (Le.agg ((.cons (Le.of rfl) (.cons (Le.of rfl) (.cons (Le.nils (g := true)) (.cons (Le.nils (g := true)) (.cons (Le.nils (g := true)) (.cons (Le.nils (g := true)) (.cons (Le.of rfl) .nil))))))))) (.cons (Le.of rfl) .nil))))) fun h5 h =>
 z.rl [(2, [(1, oR (d46 v5)), (2, oF)])] 5 (.tup [.agg [iI x0, iI v1.Version, sS true (eSite true) v1.Sites, sS true eHealth v3, sS true eSeen v4, .nils, iI 0], iI 0]) (o2 ((c46 true h4).le ((.cons (Le.agg ((.cons (Le.rfl) (.cons (Le.rfl) (.cons (Le.rfl) (.cons (Le.rfl) (.cons (Le.rfl) (.cons (Le.nils) (.cons (Le.rfl) .nil))))))))) .nil))) (Le.ff h5)) h (Le.tup ((.cons (Le.agg ((.cons (Le.of rfl) (.cons (Le.of rfl) (.cons (Le.of rfl) (.cons (Le.of rfl) (.cons (Le.of rfl) (.cons (Le.nils (g := true)) (.cons (Le.of rfl) .nil))))))))) (.cons (Le.of rfl) .nil))))
def L_ref1_within_1 (N : Nat) (t4 : Bool) : Option (Bool) :=
 some t4
def L_ref1_within (N : Nat) (x0 x1 : Int) : Option (Bool) :=
 bif (decide (x0 ≥ 0)) then
  if 0 ≤ x1 then
  via ((IntKind.i64.wrap (1 * 2 ^ (min x1.toNat 64))) : Int) fun v1 =>
  L_ref1_within_1 N (decide (x0 < v1))
  else none
 else
  L_ref1_within_1 N false
def d137 (r : Bool) : D := .bool r
theorem g137_1 {N} {r} (z : Z Tryz.prog ty 137 Tryz.f137 (Fi [] (d137 r) [])) {t4} (h : L_ref1_within_1 N t4 = some r) : z.G [.c 7] [(4, .bool t4)] [] :=
 z.r [] 0 o0 h
theorem c137 {N} {x0 x1 r} (h : L_ref1_within N x0 x1 = some r) : Con Tryz.prog 137 [iI x0, iI x1] [] (d137 r) [] :=
 ci ok mix Tryz.f137 fun z =>
 br h (fun h0 h =>
  ck h fun h1 h =>
  vi h fun v1 h2 h =>
  z.j [(1, [(2, oT), (5, oC (.int .i64 v1))])] 4 [4] [] (o3 (Le.tt h0) h1 (Le.int (k := .i64) h2)) (g137_1 z h)) fun h0 h =>
 z.j [(1, [(2, oF)])] 4 [4] [] (o1 (Le.ff h0)) (g137_1 z h)
def L_ref1_FlowMay_1 (N : Nat) (t2 : Bool) : Option (Bool) :=
 some t2
def L_ref1_FlowMay (N : Nat) (x0 : GFlow) : Option (Bool) :=
 (L_ref1_within N x0.Src 32).bind fun v1 =>
 bif v1 then
  (L_ref1_within N x0.Dst 32).bind fun v2 =>
  bif v2 then
   bif (x0.Proto == 6) then
    (L_ref1_within N x0.Sport 16).bind fun v3 =>
    bif v3 then
     (L_ref1_within N x0.Dport 16).bind fun v4 =>
     L_ref1_FlowMay_1 N v4
    else
     L_ref1_FlowMay_1 N false
   else
    bif (x0.Proto == 17) then
     (L_ref1_within N x0.Sport 16).bind fun v3 =>
     bif v3 then
      (L_ref1_within N x0.Dport 16).bind fun v4 =>
      L_ref1_FlowMay_1 N v4
     else
      L_ref1_FlowMay_1 N false
    else
     L_ref1_FlowMay_1 N false
  else
   L_ref1_FlowMay_1 N false
 else
  L_ref1_FlowMay_1 N false
def d138 (r : Bool) : D := .bool r
theorem g138_1 {N} {r} (z : Z Tryz.prog ty 138 Tryz.f138 (Fi [] (d138 r) [])) {t2} (h : L_ref1_FlowMay_1 N t2 = some r) : z.G [.c 7] [(2, .bool t2)] [] :=
 z.r [] 0 o0 h
theorem c138 {N} {x0 r} (h : L_ref1_FlowMay N x0 = some r) : Con Tryz.prog 138 [.agg [iI x0.Src, iI x0.Dst, iI x0.Proto, iI x0.Sport, iI x0.Dport]] [] (d138 r) [] :=
 ci ok mix Tryz.f138 fun z =>
 bd h fun v1 h0 h =>
 br h (fun h1 h =>
  bd h fun v2 h2 h =>
  br h (fun h3 h =>
   br h (fun h4 h =>
    bd h fun v3 h5 h =>
    br h (fun h6 h =>
     bd h fun v4 h7 h =>
     z.j [(1, [(2, oR (d137 v1)), (3, oT), (6, oR (d137 v2)), (8, oT), (12, oT), (21, oR (d137 v3)), (23, oT), (26, oR (d137 v4))])] 4 [2] [] (o5 (c137 h0) (Le.tt h1) (c137 h2) (Le.tt h3) (o4 (Le.tt h4) (c137 h5) (Le.tt h6) (c137 h7))) (g138_1 z h)) fun h6 h =>
    z.j [(1, [(2, oR (d137 v1)), (3, oT), (6, oR (d137 v2)), (8, oT), (12, oT), (21, oR (d137 v3)), (23, oF)])] 4 [2] [] (o5 (c137 h0) (Le.tt h1) (c137 h2) (Le.tt h3) (o3 (Le.tt h4) (c137 h5) (Le.ff h6))) (g138_1 z h)) fun h4 h =>
   br h (fun h5 h =>
    bd h fun v3 h6 h =>
    br h (fun h7 h =>
     bd h fun v4 h8 h =>
     z.j [(1, [(2, oR (d137 v1)), (3, oT), (6, oR (d137 v2)), (8, oT), (12, oF), (18, oT), (21, oR (d137 v3)), (23, oT), (26, oR (d137 v4))])] 4 [2] [] (o5 (c137 h0) (Le.tt h1) (c137 h2) (Le.tt h3) (o5 (Le.ff h4) (Le.tt h5) (c137 h6) (Le.tt h7) (o1 (c137 h8)))) (g138_1 z h)) fun h7 h =>
    z.j [(1, [(2, oR (d137 v1)), (3, oT), (6, oR (d137 v2)), (8, oT), (12, oF), (18, oT), (21, oR (d137 v3)), (23, oF)])] 4 [2] [] (o5 (c137 h0) (Le.tt h1) (c137 h2) (Le.tt h3) (o4 (Le.ff h4) (Le.tt h5) (c137 h6) (Le.ff h7))) (g138_1 z h)) fun h5 h =>
   z.j [(1, [(2, oR (d137 v1)), (3, oT), (6, oR (d137 v2)), (8, oT), (12, oF), (18, oF)])] 4 [2] [] (o5 (c137 h0) (Le.tt h1) (c137 h2) (Le.tt h3) (o2 (Le.ff h4) (Le.ff h5))) (g138_1 z h)) fun h3 h =>
  z.j [(1, [(2, oR (d137 v1)), (3, oT), (6, oR (d137 v2)), (8, oF)])] 4 [2] [] (o4 (c137 h0) (Le.tt h1) (c137 h2) (Le.ff h3)) (g138_1 z h)) fun h1 h =>
 z.j [(1, [(2, oR (d137 v1)), (3, oF)])] 4 [2] [] (o2 (c137 h0) (Le.ff h1)) (g138_1 z h)
def L_ref1_SegMay_2 (N : Nat) (t2 : Bool) : Option (Bool) :=
 some t2
def L_ref1_SegMay_3 (N : Nat) (t2 : Bool) : Option (Bool) :=
 some t2
def L_ref1_SegMay_1 (N : Nat) (b108_0 b108_1 b108_2 b108_3 b108_4 b108_5 : Int) (b108_6 : ByteArray) (t18 : Bool) : Option (Bool) :=
 bif t18 then
  some false
 else
  bif (b108_0 == 17) then
   bif (b108_3 == 0) then
    bif (b108_4 == 0) then
     L_ref1_SegMay_2 N (b108_5 == 0)
    else
     L_ref1_SegMay_2 N false
   else
    L_ref1_SegMay_2 N false
  else
   bif (b108_0 == 6) then
    (L_ref1_within N b108_3 32).bind fun v1 =>
    bif v1 then
     (L_ref1_within N b108_4 32).bind fun v2 =>
     bif v2 then
      (L_ref1_within N b108_5 6).bind fun v3 =>
      L_ref1_SegMay_3 N v3
     else
      L_ref1_SegMay_3 N false
    else
     L_ref1_SegMay_3 N false
   else
    L_ref1_SegMay_3 N false
def L_ref1_SegMay (N : Nat) (x0 : GSeg) : Option (Bool) :=
 (L_ref1_within N x0.Sport 16).bind fun v1 =>
 bif (!v1) then
  L_ref1_SegMay_1 N x0.Proto x0.Sport x0.Dport x0.Seq x0.Ack x0.Flags x0.Body true
 else
  (L_ref1_within N x0.Dport 16).bind fun v2 =>
  bif (!v2) then
   L_ref1_SegMay_1 N x0.Proto x0.Sport x0.Dport x0.Seq x0.Ack x0.Flags x0.Body true
  else
   L_ref1_SegMay_1 N x0.Proto x0.Sport x0.Dport x0.Seq x0.Ack x0.Flags x0.Body (decide ((x0.Body.size : Int) > 256))
def d155 (r : Bool) : D := .bool r
theorem g155_2 {N} {r} (z : Z Tryz.prog ty 155 Tryz.f155 (Fi [] (d155 r) [])) {t2} (h : L_ref1_SegMay_2 N t2 = some r) : z.G [.c 107, .c 15] [(2, .bool t2)] [] :=
 z.r [] 0 o0 h
theorem g155_3 {N} {r} (z : Z Tryz.prog ty 155 Tryz.f155 (Fi [] (d155 r) [])) {t2} (h : L_ref1_SegMay_3 N t2 = some r) : z.G [.c 31] [(2, .bool t2)] [] :=
 z.r [] 0 o0 h
theorem g155_1 {N} {r} (z : Z Tryz.prog ty 155 Tryz.f155 (Fi [] (d155 r) [])) {b108_0 b108_1 b108_2 b108_3 b108_4 b108_5 b108_6 t18} (h : L_ref1_SegMay_1 N b108_0 b108_1 b108_2 b108_3 b108_4 b108_5 b108_6 t18 = some r) : z.G [.c 13, .c 7] [(1, .ptr 108 0), (18, .bool t18)] [qB 108 [iI b108_0, iI b108_1, iI b108_2, iI b108_3, iI b108_4, iI b108_5, .str b108_6]] :=
 by
  cases t18 with
  | true => exact brT h fun h => (
   z.r [] 3 o0 h)
  | false => exact brF h fun h => (
   br h (fun h1 h =>
    z.s [(3, [(2, oT)])] 7 (o1 (Le.tt h1)) <|
    br h (fun h2 h =>
     br h (fun h3 h =>
      z.j [(4, [(3, oT), (8, oT)])] 1 [2] [] (o2 (Le.tt h2) (Le.tt h3)) (g155_2 z h)) fun h3 h =>
     z.j [(4, [(3, oT), (8, oF)])] 1 [2] [] (o2 (Le.tt h2) (Le.ff h3)) (g155_2 z h)) fun h2 h =>
    z.j [(4, [(3, oF)])] 1 [2] [] (o1 (Le.ff h2)) (g155_2 z h)) fun h1 h =>
   z.s [(3, [(2, oF)])] 8 (o1 (Le.ff h1)) <|
   br h (fun h2 h =>
    bd h fun v1 h3 h =>
    br h (fun h4 h =>
     bd h fun v2 h5 h =>
     br h (fun h6 h =>
      bd h fun v3 h7 h =>
      z.j [(5, [(3, oT), (6, oR (d137 v1)), (8, oT), (11, oR (d137 v2)), (13, oT), (16, oR (d137 v3))])] 1 [2] [] (o5 (Le.tt h2) (c137 h3) (Le.tt h4) (c137 h5) (o2 (Le.tt h6) (c137 h7))) (g155_3 z h)) fun h6 h =>
     z.j [(5, [(3, oT), (6, oR (d137 v1)), (8, oT), (11, oR (d137 v2)), (13, oF)])] 1 [2] [] (o5 (Le.tt h2) (c137 h3) (Le.tt h4) (c137 h5) (o1 (Le.ff h6))) (g155_3 z h)) fun h4 h =>
    z.j [(5, [(3, oT), (6, oR (d137 v1)), (8, oF)])] 1 [2] [] (o3 (Le.tt h2) (c137 h3) (Le.ff h4)) (g155_3 z h)) fun h2 h =>
   z.j [(5, [(3, oF)])] 1 [2] [] (o1 (Le.ff h2)) (g155_3 z h))
theorem c155 {N} {x0 r} (h : L_ref1_SegMay N x0 = some r) : Con Tryz.prog 155 [.agg [iI x0.Proto, iI x0.Sport, iI x0.Dport, iI x0.Seq, iI x0.Ack, iI x0.Flags, .str x0.Body]] [] (d155 r) [] :=
 ci ok mix Tryz.f155 fun z =>
 bd h fun v1 h0 h =>
 br h (fun h1 h =>
  z.j [(1, [(2, oR (d137 v1)), (4, oT)])] 5 [1, 18] [(108, 108)] (o2 (c137 h0) (Le.tt h1)) (g155_1 z h)) fun h1 h =>
 bd h fun v2 h2 h =>
 br h (fun h3 h =>
  z.j [(1, [(2, oR (d137 v1)), (4, oF), (7, oR (d137 v2)), (10, oT)])] 5 [1, 18] [(108, 108)] (o4 (c137 h0) (Le.ff h1) (c137 h2) (Le.tt h3)) (g155_1 z h)) fun h3 h =>
 z.j [(1, [(2, oR (d137 v1)), (4, oF), (7, oR (d137 v2)), (10, oF)])] 5 [1, 18] [(108, 108)] (o4 (c137 h0) (Le.ff h1) (c137 h2) (Le.ff h3)) (g155_1 z h)
def L_ref1_Num_1 (N : Nat) : Nat → Int → (List Int) → Int → Option (ByteArray)
  | 0, _, _, _ => none
  | fuel + 1, t0, b140, t6 =>
  bif (decide (t6 ≥ 0)) then
   if 0 ≤ (IntKind.i64.wrap ((8 : Int) * t6)) then
   via ((t0.fdiv (2 ^ (min (IntKind.i64.wrap ((8 : Int) * t6)).toNat 64))) : Int) fun v1 =>
   if growOk 1 (b140.length + 1) then
   L_ref1_Num_1 N fuel t0 (b140 ++ [(IntKind.u8.wrap v1)]) (IntKind.i64.wrap (t6 - 1))
   else none
   else none
  else
   some (mkS b140)
def L_ref1_Num (N : Nat) (x0 x1 : Int) : Option (ByteArray) :=
 L_ref1_Num_1 N N x0 ([]) (IntKind.i64.wrap (x1 - 1))
def d118 (r : ByteArray) : D := .str r
theorem g118_1 {N} {r} (z : Z Tryz.prog ty 118 Tryz.f118 (Fi [] (d118 r) [])) (fuel) : ∀ {t0 b140 t6}, L_ref1_Num_1 N fuel t0 b140 t6 = some r → z.G [.c 75, .l 75, .b 0, .c 15] [(0, iI t0), (5, rR 140 b140), (6, iI t6)] [pB 140 1 (eL (eInt .u8) b140)] := by
 induction fuel with
 | zero => intro t0 b140 t6 h; cases h
 | succ fuel ih =>
  intro t0 b140 t6 h
  exact
   br h (fun h0 h =>
    ck h fun h1 h =>
    vi h fun v1 h2 h =>
    ck h fun h3 h =>
    z.j [(3, [(1, oT)]), (5, [(4, oC (.int .i64 v1)), (7, { cv := some (.ref 260 0 (b140 ++ [(IntKind.u8.wrap v1)]).length (b140 ++ [(IntKind.u8.wrap v1)]).length), cb := [(260, eL (eInt .u8) (b140 ++ [(IntKind.u8.wrap v1)]))] })])] 11 [0, 5, 6] [(260, 140)] (o5 (Le.tt h0) h1 (Le.int (k := .i64) h2) (by decide : 1 * 1 ≤ 1) (o4 (ap_len (xs := b140) (eInt_len .u8)) h3 (Le.apr (b := 260) (by first | rfl | (simp only [List.length_append, List.length_take, List.length_drop]; omega) | simp : (b140 ++ [(IntKind.u8.wrap v1)]).length = b140.length + 1)) (ap_one (xs := b140) (eInt_len .u8) (y := (IntKind.u8.wrap v1)) (cs := [.int .u8 (IntKind.u8.wrap v1)]) rfl))) (ih h)) fun h0 h =>
   z.r [(3, [(1, oF)]), (6, [(1, oC (.str (mkS b140)))])] 7 (o3 (Le.ff h0) (byte_ok b140) (Le.str (bytesD_eq b140))) h
theorem c118 {N} {x0 x1 r} (h : L_ref1_Num N x0 x1 = some r) : Con Tryz.prog 118 [iI x0, iI x1] [] (d118 r) [] :=
 ci ok mix Tryz.f118 fun z =>
 z.j [(1, [(0, { own := some (1) })])] 9 [0, 5, 6] [(140, 140)] o0 (g118_1 z N h)
def L_ref1_fold_1 (N : Nat) : Nat → Int → Option (Int)
  | 0, _ => none
  | fuel + 1, t0 =>
  bif (decide (t0 > 65535)) then
   via ((IntKind.i64.wrap ((bAnd .i64 t0 65535) + (t0.fdiv (2 ^ 16)))) : Int) fun v1 =>
   L_ref1_fold_1 N fuel v1
  else
   some t0
def L_ref1_fold (N : Nat) (x0 : Int) : Option (Int) :=
 L_ref1_fold_1 N N x0
def d172 (r : Int) : D := iI r
theorem g172_1 {N} {r} (z : Z Tryz.prog ty 172 Tryz.f172 (Fi [] (d172 r) [])) (fuel) : ∀ {t0}, L_ref1_fold_1 N fuel t0 = some r → z.G [.c 17, .l 17, .b 0, .c 7] [(0, iI t0)] [] := by
 induction fuel with
 | zero => intro t0 h; cases h
 | succ fuel ih =>
  intro t0 h
  exact
   br h (fun h0 h =>
    vi h fun v1 h1 h =>
    z.j [(1, [(1, oT)]), (2, [(4, oC (.int .i64 v1))])] 9 [0] [] (o3 (Le.tt h0) (by decide : (0:Int) ≤ 16) (Le.int (k := .i64) h1)) (ih h)) fun h0 h =>
   z.r [(1, [(1, oF)])] 7 (o1 (Le.ff h0)) h
theorem c172 {N} {x0 r} (h : L_ref1_fold N x0 = some r) : Con Tryz.prog 172 [iI x0] [] (d172 r) [] :=
 ci ok mix Tryz.f172 fun z =>
 z.j [] 5 [0] [] o0 (g172_1 z N h)
def L_ref1_Sum_2 (N : Nat) (r1 : ByteArray → Int → Int → Option (Int)) (t0 : ByteArray) (t3 t4 : Int) : Option (Int) :=
 (L_ref1_fold N t3).bind fun v1 =>
 r1 t0 v1 (IntKind.i64.wrap (t4 + 2))
def L_ref1_Sum_1 (N : Nat) : Nat → ByteArray → Int → Int → Option (Int)
  | 0, _, _, _ => none
  | fuel + 1, t0, t3, t4 =>
  bif (decide (t4 < (t0.size : Int))) then
   if 0 ≤ t4 ∧ t4 < (t0.size : Int) then
   via ((IntKind.i64.wrap ((IntKind.i64.wrap (bt t0 t4)) * 2 ^ 8)) : Int) fun v1 =>
   bif (decide ((IntKind.i64.wrap (t4 + 1)) < (t0.size : Int))) then
    if 0 ≤ (IntKind.i64.wrap (t4 + 1)) ∧ (IntKind.i64.wrap (t4 + 1)) < (t0.size : Int) then
    via ((IntKind.i64.wrap (bt t0 (IntKind.i64.wrap (t4 + 1)))) : Int) fun v2 =>
    via ((IntKind.i64.wrap ((IntKind.i64.wrap (t3 + v1)) + v2)) : Int) fun v3 =>
    L_ref1_Sum_2 N (L_ref1_Sum_1 N fuel) t0 v3 t4
    else none
   else
    L_ref1_Sum_2 N (L_ref1_Sum_1 N fuel) t0 (IntKind.i64.wrap (t3 + v1)) t4
   else none
  else
   some t3
def L_ref1_Sum (N : Nat) (x0 : ByteArray) : Option (Int) :=
 L_ref1_Sum_1 N N x0 0 0
def d121 (r : Int) : D := iI r
theorem g121_2 {N} {r} (z : Z Tryz.prog ty 121 Tryz.f121 (Fi [] (d121 r) [])) {r1 : ByteArray → Int → Int → Option (Int)} (hr1 : ∀ {t0 t3 t4}, r1 t0 t3 t4 = some r → z.G [.c 75, .l 75, .b 0, .c 15] [(0, .str t0), (3, iI t3), (4, iI t4)] []) {t0 t3 t4} (h : L_ref1_Sum_2 N r1 t0 t3 t4 = some r) : z.G [.c 3659, .b 1, .c 459, .l 75, .b 0, .c 15] [(0, .str t0), (3, iI t3), (4, iI t4)] [] :=
 bd h fun v1 h0 h =>
 z.j [(8, [(1, oR (d172 v1))])] 4 [0, 3, 4] [] (o1 (c172 h0)) (hr1 h)
theorem g121_1 {N} {r} (z : Z Tryz.prog ty 121 Tryz.f121 (Fi [] (d121 r) [])) (fuel) : ∀ {t0 t3 t4}, L_ref1_Sum_1 N fuel t0 t3 t4 = some r → z.G [.c 75, .l 75, .b 0, .c 15] [(0, .str t0), (3, iI t3), (4, iI t4)] [] := by
 induction fuel with
 | zero => intro t0 t3 t4 h; cases h
 | succ fuel ih =>
  intro t0 t3 t4 h
  exact
   br h (fun h0 h =>
    ck h fun h1 h =>
    vi h fun v1 h2 h =>
    z.s [(3, [(3, oT)]), (5, [(5, oC (.int .i64 v1))])] 11 (o4 (Le.tt h0) h1 (by decide : (0:Int) ≤ 8) (Le.int (k := .i64) h2)) <|
    br h (fun h3 h =>
     ck h fun h4 h =>
     vi h fun v2 h5 h =>
     vi h fun v3 h6 h =>
     z.j [(6, [(4, oT)]), (7, [(5, oC (.int .i64 v2)), (6, oC (.int .i64 v3))])] 3 [0, 3, 4] [] (o4 (Le.tt h3) h4 (Le.int (k := .i64) h5) (Le.int (k := .i64) h6)) (g121_2 z @ih h)) fun h3 h =>
    z.j [(6, [(4, oF)])] 3 [0, 3, 4] [] (o1 (Le.ff h3)) (g121_2 z @ih h)) fun h0 h =>
   z.r [(3, [(3, oF)])] 7 (o1 (Le.ff h0)) h
theorem c121 {N} {x0 r} (h : L_ref1_Sum N x0 = some r) : Con Tryz.prog 121 [.str x0] [] (d121 r) [] :=
 ci ok mix Tryz.f121 fun z =>
 z.j [] 9 [0, 3, 4] [] o0 (g121_1 z N h)
def L_ref1_pseudo (N : Nat) (x0 : Int) (x1 : ByteArray) (x2 x3 : Int) : Option (Int) :=
 (L_ref1_Num N x2 4).bind fun v1 =>
 (L_ref1_Num N x3 4).bind fun v2 =>
 if ((v1.size + v2.size : Nat) : Int) ≤ 9223372036854775807 then
 (L_ref1_Num N x0 2).bind fun v3 =>
 if (((v1 ++ v2).size + v3.size : Nat) : Int) ≤ 9223372036854775807 then
 (L_ref1_Num N (x1.size : Int) 2).bind fun v4 =>
 if ((((v1 ++ v2) ++ v3).size + v4.size : Nat) : Int) ≤ 9223372036854775807 then
 if (((((v1 ++ v2) ++ v3) ++ v4).size + x1.size : Nat) : Int) ≤ 9223372036854775807 then
 (L_ref1_Sum N ((((v1 ++ v2) ++ v3) ++ v4) ++ x1)).bind fun v5 =>
 some v5
 else none
 else none
 else none
 else none
def d154 (r : Int) : D := iI r
theorem c154 {N} {x0 x1 x2 x3 r} (h : L_ref1_pseudo N x0 x1 x2 x3 = some r) : Con Tryz.prog 154 [iI x0, .str x1, iI x2, iI x3] [] (d154 r) [] :=
 ci ok mix Tryz.f154 fun z =>
 bd h fun v1 h0 h =>
 bd h fun v2 h1 h =>
 ck h fun h2 h =>
 bd h fun v3 h3 h =>
 ck h fun h4 h =>
 bd h fun v4 h5 h =>
 ck h fun h6 h =>
 ck h fun h7 h =>
 bd h fun v5 h8 h =>
 z.r [(1, [(1, oR (d118 v1)), (3, oR (d118 v2)), (6, oR (d118 v3)), (10, oR (d118 v4)), (14, oR (d121 v5))])] 4 (o5 (c118 h0) (c118 h1) h2 (c118 h3) (o5 h4 (c118 h5) h6 h7 (o1 (c121 h8)))) h
def L_ref1_PutSeg_2 (N : Nat) (b124_0 b124_1 b124_2 b124_3 b124_4 b124_5 : Int) (b124_6 t8 : ByteArray) (t10 : Int) : Option (ByteArray × Int) :=
 (L_ref1_Num N t10 2).bind fun v1 =>
 if ((t8.size + v1.size : Nat) : Int) ≤ 9223372036854775807 then
 if (((t8 ++ v1).size + b124_6.size : Nat) : Int) ≤ 9223372036854775807 then
 some (((t8 ++ v1) ++ b124_6), 0)
 else none
 else none
def L_ref1_PutSeg_1 (N : Nat) (t1 t2 b124_0 b124_1 b124_2 b124_3 b124_4 b124_5 : Int) (b124_6 : ByteArray) (t23 : Bool) : Option (ByteArray × Int) :=
 bif t23 then
  some (ByteArray.empty, 300)
 else
  (L_ref1_Num N b124_1 2).bind fun v1 =>
  (L_ref1_Num N b124_2 2).bind fun v2 =>
  if ((v1.size + v2.size : Nat) : Int) ≤ 9223372036854775807 then
  bif (b124_0 == 6) then
   (L_ref1_Num N b124_3 4).bind fun v3 =>
   if (((v1 ++ v2).size + v3.size : Nat) : Int) ≤ 9223372036854775807 then
   (L_ref1_Num N b124_4 4).bind fun v4 =>
   if ((((v1 ++ v2) ++ v3).size + v4.size : Nat) : Int) ≤ 9223372036854775807 then
   if (((((v1 ++ v2) ++ v3) ++ v4).size + (ByteArray.mk #[80]).size : Nat) : Int) ≤ 9223372036854775807 then
   via (((((v1 ++ v2) ++ v3) ++ v4) ++ (ByteArray.mk #[80])) : ByteArray) fun v5 =>
   (L_ref1_Num N b124_5 1).bind fun v6 =>
   if ((v5.size + v6.size : Nat) : Int) ≤ 9223372036854775807 then
   (L_ref1_Num N 1024 2).bind fun v7 =>
   if (((v5 ++ v6).size + v7.size : Nat) : Int) ≤ 9223372036854775807 then
   if (((ByteArray.mk #[0, 0]).size + b124_6.size : Nat) : Int) ≤ 9223372036854775807 then
   if ((((v5 ++ v6) ++ v7).size + (ByteArray.mk #[0, 0]).size : Nat) : Int) ≤ 9223372036854775807 then
   via ((((v5 ++ v6) ++ v7) ++ (ByteArray.mk #[0, 0])) : ByteArray) fun v8 =>
   if ((v8.size + ((ByteArray.mk #[0, 0]) ++ b124_6).size : Nat) : Int) ≤ 9223372036854775807 then
   (L_ref1_pseudo N b124_0 (v8 ++ ((ByteArray.mk #[0, 0]) ++ b124_6)) t1 t2).bind fun v9 =>
   (L_ref1_Num N (IntKind.i64.wrap ((65535 : Int) - v9)) 2).bind fun v10 =>
   if ((((v5 ++ v6) ++ v7).size + v10.size : Nat) : Int) ≤ 9223372036854775807 then
   if (((((v5 ++ v6) ++ v7) ++ v10).size + ((ByteArray.mk #[0, 0]) ++ b124_6).size : Nat) : Int) ≤ 9223372036854775807 then
   via (((((v5 ++ v6) ++ v7) ++ v10) ++ ((ByteArray.mk #[0, 0]) ++ b124_6)) : ByteArray) fun v11 =>
   some (v11, 0)
   else none
   else none
   else none
   else none
   else none
   else none
   else none
   else none
   else none
   else none
  else
   via ((IntKind.i64.wrap ((8 : Int) + (b124_6.size : Int))) : Int) fun v3 =>
   (L_ref1_Num N v3 2).bind fun v4 =>
   if (((v1 ++ v2).size + v4.size : Nat) : Int) ≤ 9223372036854775807 then
   if ((((v1 ++ v2) ++ v4).size + (ByteArray.mk #[0, 0]).size : Nat) : Int) ≤ 9223372036854775807 then
   via ((((v1 ++ v2) ++ v4) ++ (ByteArray.mk #[0, 0])) : ByteArray) fun v5 =>
   if ((v5.size + b124_6.size : Nat) : Int) ≤ 9223372036854775807 then
   (L_ref1_pseudo N b124_0 (v5 ++ b124_6) t1 t2).bind fun v6 =>
   bif ((IntKind.i64.wrap ((65535 : Int) - v6)) == 0) then
    L_ref1_PutSeg_2 N b124_0 b124_1 b124_2 b124_3 b124_4 b124_5 b124_6 ((v1 ++ v2) ++ v4) 65535
   else
    L_ref1_PutSeg_2 N b124_0 b124_1 b124_2 b124_3 b124_4 b124_5 b124_6 ((v1 ++ v2) ++ v4) (IntKind.i64.wrap ((65535 : Int) - v6))
   else none
   else none
   else none
  else none
def L_ref1_PutSeg (N : Nat) (x0 : GSeg) (x1 x2 : Int) : Option (ByteArray × Int) :=
 (L_ref1_SegMay N x0).bind fun v1 =>
 bif (!v1) then
  L_ref1_PutSeg_1 N x1 x2 x0.Proto x0.Sport x0.Dport x0.Seq x0.Ack x0.Flags x0.Body true
 else
  (L_ref1_within N x1 32).bind fun v2 =>
  bif (!v2) then
   L_ref1_PutSeg_1 N x1 x2 x0.Proto x0.Sport x0.Dport x0.Seq x0.Ack x0.Flags x0.Body true
  else
   (L_ref1_within N x2 32).bind fun v3 =>
   L_ref1_PutSeg_1 N x1 x2 x0.Proto x0.Sport x0.Dport x0.Seq x0.Ack x0.Flags x0.Body (!v3)
def d157 (r : ByteArray × Int) : D := .tup [.str r.1, iI r.2]
theorem g157_2 {N} {r} (z : Z Tryz.prog ty 157 Tryz.f157 (Fi [] (d157 r) [])) {b124_0 b124_1 b124_2 b124_3 b124_4 b124_5 b124_6 t8 t10} (h : L_ref1_PutSeg_2 N b124_0 b124_1 b124_2 b124_3 b124_4 b124_5 b124_6 t8 t10 = some r) : z.G [.c 255] [(3, .ptr 124 0), (8, .str t8), (10, iI t10)] [qB 124 [iI b124_0, iI b124_1, iI b124_2, iI b124_3, iI b124_4, iI b124_5, .str b124_6]] :=
 bd h fun v1 h0 h =>
 ck h fun h1 h =>
 ck h fun h2 h =>
 z.r [(12, [(2, oR (d118 v1))])] 2 (o3 (c118 h0) h1 h2) h
theorem g157_1 {N} {r} (z : Z Tryz.prog ty 157 Tryz.f157 (Fi [] (d157 r) [])) {t1 t2 b124_0 b124_1 b124_2 b124_3 b124_4 b124_5 b124_6 t23} (h : L_ref1_PutSeg_1 N t1 t2 b124_0 b124_1 b124_2 b124_3 b124_4 b124_5 b124_6 t23 = some r) : z.G [.c 13, .c 7] [(1, iI t1), (2, iI t2), (3, .ptr 124 0), (23, .bool t23)] [qB 124 [iI b124_0, iI b124_1, iI b124_2, iI b124_3, iI b124_4, iI b124_5, .str b124_6]] :=
 by
  cases t23 with
  | true => exact brT h fun h => (
   z.r [] 3 o0 h)
  | false => exact brF h fun h => (
   bd h fun v1 h1 h =>
   bd h fun v2 h2 h =>
   ck h fun h3 h =>
   z.s [(3, [(2, oR (d118 v1)), (5, oR (d118 v2))])] 6 (o3 (c118 h1) (c118 h2) h3) <|
   br h (fun h4 h =>
    bd h fun v3 h5 h =>
    ck h fun h6 h =>
    bd h fun v4 h7 h =>
    ck h fun h8 h =>
    ck h fun h9 h =>
    vi h fun v5 h10 h =>
    bd h fun v6 h11 h =>
    ck h fun h12 h =>
    bd h fun v7 h13 h =>
    ck h fun h14 h =>
    ck h fun h15 h =>
    ck h fun h16 h =>
    vi h fun v8 h17 h =>
    ck h fun h18 h =>
    bd h fun v9 h19 h =>
    bd h fun v10 h20 h =>
    ck h fun h21 h =>
    ck h fun h22 h =>
    vi h fun v11 h23 h =>
    z.r [(4, [(2, oT)]), (5, [(3, oR (d118 v3)), (7, oR (d118 v4)), (9, oC (.str v5)), (12, oR (d118 v6)), (14, oR (d118 v7))]), (7, [(4, oC (.str v8)), (9, oR (d154 v9)), (11, oR (d118 v10)), (14, oC (.str v11))])] 8 (o5 (Le.tt h4) (c118 h5) h6 (c118 h7) (o5 h8 h9 (Le.str h10) (c118 h11) (o5 h12 (c118 h13) h14 h15 (o5 h16 (Le.str h17) h18 (c154 h19) (o4 (c118 h20) h21 h22 (Le.str h23)))))) h) fun h4 h =>
   vi h fun v3 h5 h =>
   bd h fun v4 h6 h =>
   ck h fun h7 h =>
   ck h fun h8 h =>
   vi h fun v5 h9 h =>
   ck h fun h10 h =>
   bd h fun v6 h11 h =>
   z.s [(4, [(2, oF)]), (8, [(4, oC (.int .i64 v3)), (5, oR (d118 v4))]), (9, [(3, oC (.str v5)), (9, oR (d154 v6))])] 9 (o5 (Le.ff h4) (Le.int (k := .i64) h5) (c118 h6) h7 (o4 h8 (Le.str h9) h10 (c154 h11))) <|
   br h (fun h12 h =>
    z.j [(10, [(1, oT)])] 3 [3, 8, 10] [(124, 124)] (o1 (Le.tt h12)) (g157_2 z h)) fun h12 h =>
   z.j [(10, [(1, oF)])] 3 [3, 8, 10] [(124, 124)] (o1 (Le.ff h12)) (g157_2 z h))
theorem c157 {N} {x0 x1 x2 r} (h : L_ref1_PutSeg N x0 x1 x2 = some r) : Con Tryz.prog 157 [.agg [iI x0.Proto, iI x0.Sport, iI x0.Dport, iI x0.Seq, iI x0.Ack, iI x0.Flags, .str x0.Body], iI x1, iI x2] [] (d157 r) [] :=
 ci ok mix Tryz.f157 fun z =>
 bd h fun v1 h0 h =>
 br h (fun h1 h =>
  z.j [(1, [(1, oR (d155 v1)), (3, oT)])] 5 [1, 2, 3, 23] [(124, 124)] (o2 (c155 h0) (Le.tt h1)) (g157_1 z h)) fun h1 h =>
 bd h fun v2 h2 h =>
 br h (fun h3 h =>
  z.j [(1, [(1, oR (d155 v1)), (3, oF), (5, oR (d137 v2)), (8, oT)])] 5 [1, 2, 3, 23] [(124, 124)] (o4 (c155 h0) (Le.ff h1) (c137 h2) (Le.tt h3)) (g157_1 z h)) fun h3 h =>
 bd h fun v3 h4 h =>
 z.j [(1, [(1, oR (d155 v1)), (3, oF), (5, oR (d137 v2)), (8, oF), (10, oR (d137 v3))])] 5 [1, 2, 3, 23] [(124, 124)] (o5 (c155 h0) (Le.ff h1) (c137 h2) (Le.ff h3) (o1 (c137 h4))) (g157_1 z h)
def L_ref1_IpMay_1 (N : Nat) (t2 : Bool) : Option (Bool) :=
 some t2
def L_ref1_IpMay (N : Nat) (x0 : GIp) : Option (Bool) :=
 (L_ref1_within N x0.Src 32).bind fun v1 =>
 bif v1 then
  (L_ref1_within N x0.Dst 32).bind fun v2 =>
  bif v2 then
   (L_ref1_within N x0.Proto 8).bind fun v3 =>
   bif v3 then
    (L_ref1_within N x0.Ttl 8).bind fun v4 =>
    bif v4 then
     (L_ref1_within N x0.Id 16).bind fun v5 =>
     bif v5 then
      L_ref1_IpMay_1 N (decide ((x0.Body.size : Int) ≤ 492))
     else
      L_ref1_IpMay_1 N false
    else
     L_ref1_IpMay_1 N false
   else
    L_ref1_IpMay_1 N false
  else
   L_ref1_IpMay_1 N false
 else
  L_ref1_IpMay_1 N false
def d171 (r : Bool) : D := .bool r
theorem g171_1 {N} {r} (z : Z Tryz.prog ty 171 Tryz.f171 (Fi [] (d171 r) [])) {t2} (h : L_ref1_IpMay_1 N t2 = some r) : z.G [.c 7] [(2, .bool t2)] [] :=
 z.r [] 0 o0 h
theorem c171 {N} {x0 r} (h : L_ref1_IpMay N x0 = some r) : Con Tryz.prog 171 [.agg [iI x0.Src, iI x0.Dst, iI x0.Proto, iI x0.Ttl, iI x0.Id, .str x0.Body]] [] (d171 r) [] :=
 ci ok mix Tryz.f171 fun z =>
 bd h fun v1 h0 h =>
 br h (fun h1 h =>
  bd h fun v2 h2 h =>
  br h (fun h3 h =>
   bd h fun v3 h4 h =>
   br h (fun h5 h =>
    bd h fun v4 h6 h =>
    br h (fun h7 h =>
     bd h fun v5 h8 h =>
     br h (fun h9 h =>
      z.j [(1, [(2, oR (d137 v1)), (3, oT), (6, oR (d137 v2)), (8, oT), (11, oR (d137 v3)), (13, oT), (16, oR (d137 v4)), (18, oT), (21, oR (d137 v5)), (23, oT)])] 4 [2] [] (o5 (c137 h0) (Le.tt h1) (c137 h2) (Le.tt h3) (o5 (c137 h4) (Le.tt h5) (c137 h6) (Le.tt h7) (o2 (c137 h8) (Le.tt h9)))) (g171_1 z h)) fun h9 h =>
     z.j [(1, [(2, oR (d137 v1)), (3, oT), (6, oR (d137 v2)), (8, oT), (11, oR (d137 v3)), (13, oT), (16, oR (d137 v4)), (18, oT), (21, oR (d137 v5)), (23, oF)])] 4 [2] [] (o5 (c137 h0) (Le.tt h1) (c137 h2) (Le.tt h3) (o5 (c137 h4) (Le.tt h5) (c137 h6) (Le.tt h7) (o2 (c137 h8) (Le.ff h9)))) (g171_1 z h)) fun h7 h =>
    z.j [(1, [(2, oR (d137 v1)), (3, oT), (6, oR (d137 v2)), (8, oT), (11, oR (d137 v3)), (13, oT), (16, oR (d137 v4)), (18, oF)])] 4 [2] [] (o5 (c137 h0) (Le.tt h1) (c137 h2) (Le.tt h3) (o4 (c137 h4) (Le.tt h5) (c137 h6) (Le.ff h7))) (g171_1 z h)) fun h5 h =>
   z.j [(1, [(2, oR (d137 v1)), (3, oT), (6, oR (d137 v2)), (8, oT), (11, oR (d137 v3)), (13, oF)])] 4 [2] [] (o5 (c137 h0) (Le.tt h1) (c137 h2) (Le.tt h3) (o2 (c137 h4) (Le.ff h5))) (g171_1 z h)) fun h3 h =>
  z.j [(1, [(2, oR (d137 v1)), (3, oT), (6, oR (d137 v2)), (8, oF)])] 4 [2] [] (o4 (c137 h0) (Le.tt h1) (c137 h2) (Le.ff h3)) (g171_1 z h)) fun h1 h =>
 z.j [(1, [(2, oR (d137 v1)), (3, oF)])] 4 [2] [] (o2 (c137 h0) (Le.ff h1)) (g171_1 z h)
def L_ref1_PutIp (N : Nat) (x0 : GIp) : Option (ByteArray × Int) :=
 (L_ref1_IpMay N x0).bind fun v1 =>
 bif (!v1) then
  some (ByteArray.empty, 200)
 else
  via ((IntKind.i64.wrap ((20 : Int) + (x0.Body.size : Int))) : Int) fun v2 =>
  (L_ref1_Num N v2 2).bind fun v3 =>
  if (((ByteArray.mk #[69, 0]).size + v3.size : Nat) : Int) ≤ 9223372036854775807 then
  (L_ref1_Num N x0.Id 2).bind fun v4 =>
  if ((((ByteArray.mk #[69, 0]) ++ v3).size + v4.size : Nat) : Int) ≤ 9223372036854775807 then
  if (((((ByteArray.mk #[69, 0]) ++ v3) ++ v4).size + (ByteArray.mk #[64, 0]).size : Nat) : Int) ≤ 9223372036854775807 then
  via (((((ByteArray.mk #[69, 0]) ++ v3) ++ v4) ++ (ByteArray.mk #[64, 0])) : ByteArray) fun v5 =>
  (L_ref1_Num N x0.Ttl 1).bind fun v6 =>
  if ((v5.size + v6.size : Nat) : Int) ≤ 9223372036854775807 then
  (L_ref1_Num N x0.Proto 1).bind fun v7 =>
  if (((v5 ++ v6).size + v7.size : Nat) : Int) ≤ 9223372036854775807 then
  (L_ref1_Num N x0.Src 4).bind fun v8 =>
  (L_ref1_Num N x0.Dst 4).bind fun v9 =>
  if ((v8.size + v9.size : Nat) : Int) ≤ 9223372036854775807 then
  if ((((v5 ++ v6) ++ v7).size + (ByteArray.mk #[0, 0]).size : Nat) : Int) ≤ 9223372036854775807 then
  via ((((v5 ++ v6) ++ v7) ++ (ByteArray.mk #[0, 0])) : ByteArray) fun v10 =>
  if ((v10.size + (v8 ++ v9).size : Nat) : Int) ≤ 9223372036854775807 then
  (L_ref1_Sum N (v10 ++ (v8 ++ v9))).bind fun v11 =>
  (L_ref1_Num N (IntKind.i64.wrap ((65535 : Int) - v11)) 2).bind fun v12 =>
  if ((((v5 ++ v6) ++ v7).size + v12.size : Nat) : Int) ≤ 9223372036854775807 then
  if (((((v5 ++ v6) ++ v7) ++ v12).size + (v8 ++ v9).size : Nat) : Int) ≤ 9223372036854775807 then
  if ((((((v5 ++ v6) ++ v7) ++ v12) ++ (v8 ++ v9)).size + x0.Body.size : Nat) : Int) ≤ 9223372036854775807 then
  via ((((((v5 ++ v6) ++ v7) ++ v12) ++ (v8 ++ v9)) ++ x0.Body) : ByteArray) fun v13 =>
  some (v13, 0)
  else none
  else none
  else none
  else none
  else none
  else none
  else none
  else none
  else none
  else none
  else none
def d119 (r : ByteArray × Int) : D := .tup [.str r.1, iI r.2]
theorem c119 {N} {x0 r} (h : L_ref1_PutIp N x0 = some r) : Con Tryz.prog 119 [.agg [iI x0.Src, iI x0.Dst, iI x0.Proto, iI x0.Ttl, iI x0.Id, .str x0.Body]] [] (d119 r) [] :=
 ci ok mix Tryz.f119 fun z =>
 bd h fun v1 h0 h =>
 br h (fun h1 h =>
  z.r [(1, [(1, oR (d171 v1)), (2, oT)])] 8 (o2 (c171 h0) (Le.tt h1)) h) fun h1 h =>
 vi h fun v2 h2 h =>
 bd h fun v3 h3 h =>
 ck h fun h4 h =>
 bd h fun v4 h5 h =>
 ck h fun h6 h =>
 ck h fun h7 h =>
 vi h fun v5 h8 h =>
 bd h fun v6 h9 h =>
 ck h fun h10 h =>
 bd h fun v7 h11 h =>
 ck h fun h12 h =>
 bd h fun v8 h13 h =>
 bd h fun v9 h14 h =>
 ck h fun h15 h =>
 ck h fun h16 h =>
 vi h fun v10 h17 h =>
 ck h fun h18 h =>
 bd h fun v11 h19 h =>
 bd h fun v12 h20 h =>
 ck h fun h21 h =>
 ck h fun h22 h =>
 ck h fun h23 h =>
 vi h fun v13 h24 h =>
 z.r [(1, [(1, oR (d171 v1)), (2, oF)]), (3, [(3, oC (.int .i64 v2)), (4, oR (d118 v3)), (8, oR (d118 v4)), (10, oC (.str v5)), (13, oR (d118 v6)), (17, oR (d118 v7))]), (4, [(2, oR (d118 v8)), (5, oR (d118 v9))]), (5, [(2, oC (.str v10)), (5, oR (d121 v11)), (7, oR (d118 v12)), (13, oC (.str v13))])] 13 (o5 (c171 h0) (Le.ff h1) (Le.int (k := .i64) h2) (c118 h3) (o5 h4 (c118 h5) h6 h7 (o5 (Le.str h8) (c118 h9) h10 (c118 h11) (o5 h12 (c118 h13) (c118 h14) h15 (o5 h16 (Le.str h17) h18 (c121 h19) (o5 (c118 h20) h21 h22 h23 (o1 (Le.str h24)))))))) h
def L_ref1_PacketOf_1 (N : Nat) (b124_0 b124_1 b124_2 b124_3 b124_4 b164_0 b164_1 b164_2 b164_3 b164_4 b164_5 : Int) (b164_6 : ByteArray) (t29 : Bool) : Option (ByteArray × Int) :=
 bif t29 then
  some (ByteArray.empty, 400)
 else
  (L_ref1_PutSeg N (GSeg.mk b164_0 b164_1 b164_2 b164_3 b164_4 b164_5 b164_6) b124_0 b124_1).bind fun v1 =>
  (L_ref1_PutIp N (GIp.mk b124_0 b124_1 b124_2 64 0 v1.1)).bind fun v2 =>
  some (v2.1, 0)
def L_ref1_PacketOf (N : Nat) (x0 : GFlow) (x1 : Int) (x2 : ByteArray) : Option (ByteArray × Int) :=
 (L_ref1_FlowMay N x0).bind fun v1 =>
 bif (!v1) then
  L_ref1_PacketOf_1 N x0.Src x0.Dst x0.Proto x0.Sport x0.Dport x0.Proto x0.Sport x0.Dport 0 0 x1 x2 true
 else
  (L_ref1_SegMay N (GSeg.mk x0.Proto x0.Sport x0.Dport 0 0 x1 x2)).bind fun v2 =>
  L_ref1_PacketOf_1 N x0.Src x0.Dst x0.Proto x0.Sport x0.Dport x0.Proto x0.Sport x0.Dport 0 0 x1 x2 (!v2)
def d99 (r : ByteArray × Int) : D := .tup [.str r.1, iI r.2]
theorem g99_1 {N} {r} (z : Z Tryz.prog ty 99 Tryz.f99 (Fi [] (d99 r) [])) {b124_0 b124_1 b124_2 b124_3 b124_4 b164_0 b164_1 b164_2 b164_3 b164_4 b164_5 b164_6 t29} (h : L_ref1_PacketOf_1 N b124_0 b124_1 b124_2 b124_3 b124_4 b164_0 b164_1 b164_2 b164_3 b164_4 b164_5 b164_6 t29 = some r) : z.G [.c 27, .c 15] [(3, .ptr 124 0), (8, .ptr 164 0), (29, .bool t29)] [qB 124 [iI b124_0, iI b124_1, iI b124_2, iI b124_3, iI b124_4], qB 164 [iI b164_0, iI b164_1, iI b164_2, iI b164_3, iI b164_4, iI b164_5, .str b164_6]] :=
 by
  cases t29 with
  | true => exact brT h fun h => (
   z.r [] 3 o0 h)
  | false => exact brF h fun h => (
   bd h fun v1 h1 h =>
   bd h fun v2 h2 h =>
   z.r [(4, [(5, oR (d157 v1))]), (5, [(8, oR (d119 v2))])] 8 (o2 (c157 h1) (c119 h2)) h)
theorem c99 {N} {x0 x1 x2 r} (h : L_ref1_PacketOf N x0 x1 x2 = some r) : Con Tryz.prog 99 [.agg [iI x0.Src, iI x0.Dst, iI x0.Proto, iI x0.Sport, iI x0.Dport], iI x1, .str x2] [] (d99 r) [] :=
 ci ok mix Tryz.f99 fun z =>
 bd h fun v1 h0 h =>
 br h (fun h1 h =>
  z.j [(2, [(1, oR (d138 v1)), (3, oT)])] 7 [3, 8, 29] [(124, 124), (164, 164)] (o2 (c138 h0) (Le.tt h1)) (g99_1 z h)) fun h1 h =>
 bd h fun v2 h2 h =>
 z.j [(2, [(1, oR (d138 v1)), (3, oF), (5, oR (d155 v2))])] 7 [3, 8, 29] [(124, 124), (164, 164)] (o3 (c138 h0) (Le.ff h1) (c155 h2)) (g99_1 z h)
def L_law20_said (N : Nat) (x0 x1 : Int) (x2 : ByteArray) : Option (ByteArray) :=
 via ((if decide (60 < (x2.size : Int)) then 60 else (x2.size : Int)) : Int) fun v1 =>
 if 0 ≤ v1 ∧ v1 ≤ (x2.size : Int) ∧ 0 ≤ (0 : Int) ∧ (0 : Int) ≤ v1 then
 (L_ref1_PacketOf N (GFlow.mk (bAnd .i64 x0 65535) 167772161 6 7 80) (bAnd .i64 x1 63) (x2.extract 0 v1.toNat)).bind fun v2 =>
 some v2.1
 else none
def d52 (r : ByteArray) : D := .str r
theorem c52 {N} {x0 x1 x2 r} (h : L_law20_said N x0 x1 x2 = some r) : Con Tryz.prog 52 [iI x0, iI x1, .str x2] [] (d52 r) [] :=
 ci ok mix Tryz.f52 fun z =>
 vi h fun v1 h0 h =>
 ck h fun h1 h =>
 bd h fun v2 h2 h =>
 z.r [(2, [(6, oC (.int .i64 v1)), (8, oR (d99 v2))])] 8 (o3 (Le.int (k := .i64) h0) h1 (c99 h2)) h
def L_ref1_Whose_3 (N : Nat) (r2 : Int → Int → Option (Int × Int × Int × Bool)) : Nat → Int → Int → Int → Option (Int × Int × Int × Bool)
  | 0, _, _, _ => none
  | fuel + 1, t0, t7, t8 =>
  bif (decide (t8 < 4)) then
   via ((IntKind.i64.wrap ((167968768 : Int) + (IntKind.i64.wrap ((256 : Int) * t7)))) : Int) fun v1 =>
   bif (t0 == (IntKind.i64.wrap (v1 + t8))) then
    some (2, t7, t8, true)
   else
    L_ref1_Whose_3 N r2 fuel t0 t7 (IntKind.i64.wrap (t8 + 1))
  else
   r2 t0 (IntKind.i64.wrap (t7 + 1))
def L_ref1_Whose_2 (N : Nat) : Nat → Int → Int → Option (Int × Int × Int × Bool)
  | 0, _, _ => none
  | fuel + 1, t0, t7 =>
  bif (decide (t7 < 3)) then
   bif (t0 == (IntKind.i64.wrap ((167903232 : Int) + t7))) then
    some (1, t7, 0, true)
   else
    L_ref1_Whose_3 N (L_ref1_Whose_2 N fuel) N t0 t7 0
  else
   some (0, 0, 0, false)
def L_ref1_Whose_1 (N : Nat) : Nat → Int → Int → Option (Int × Int × Int × Bool)
  | 0, _, _ => none
  | fuel + 1, t0, t6 =>
  bif (decide (t6 < 2)) then
   bif (t0 == (IntKind.i64.wrap ((167837696 : Int) + t6))) then
    some (0, 0, t6, true)
   else
    L_ref1_Whose_1 N fuel t0 (IntKind.i64.wrap (t6 + 1))
  else
   L_ref1_Whose_2 N N t0 0
def L_ref1_Whose (N : Nat) (x0 : Int) : Option (Int × Int × Int × Bool) :=
 L_ref1_Whose_1 N N x0 0
def d37 (r : Int × Int × Int × Bool) : D := .tup [iI r.1, iI r.2.1, iI r.2.2.1, .bool r.2.2.2]
theorem g37_3 {N} {r} (z : Z Tryz.prog ty 37 Tryz.f37 (Fi [] (d37 r) [])) {r2 : Int → Int → Option (Int × Int × Int × Bool)} (hr2 : ∀ {t0 t7}, r2 t0 t7 = some r → z.G [.c 75, .l 75, .b 2, .c 15] [(0, iI t0), (7, iI t7)] []) (fuel) : ∀ {t0 t7 t8}, L_ref1_Whose_3 N r2 fuel t0 t7 t8 = some r → z.G [.c 9803, .l 9803, .b 4, .b 3, .c 459, .l 75, .b 2, .c 15] [(0, iI t0), (7, iI t7), (8, iI t8)] [] := by
 induction fuel with
 | zero => intro t0 t7 t8 h; cases h
 | succ fuel ih =>
  intro t0 t7 t8 h
  exact
   br h (fun h0 h =>
    vi h fun v1 h1 h =>
    z.s [(12, [(1, oT)])] 8 (o1 (Le.tt h0)) <|
    br h (fun h2 h =>
     z.r [(14, [(3, oC (.int .i64 v1)), (6, oT)])] 4 (o2 (Le.int (k := .i64) h1) (Le.tt h2)) h) fun h2 h =>
    z.j [(14, [(3, oC (.int .i64 v1)), (6, oF)])] 6 [0, 7, 8] [] (o2 (Le.int (k := .i64) h1) (Le.ff h2)) (ih h)) fun h0 h =>
   z.j [(12, [(1, oF)])] 8 [0, 7] [] (o1 (Le.ff h0)) (hr2 h)
theorem g37_2 {N} {r} (z : Z Tryz.prog ty 37 Tryz.f37 (Fi [] (d37 r) [])) (fuel) : ∀ {t0 t7}, L_ref1_Whose_2 N fuel t0 t7 = some r → z.G [.c 75, .l 75, .b 2, .c 15] [(0, iI t0), (7, iI t7)] [] := by
 induction fuel with
 | zero => intro t0 t7 h; cases h
 | succ fuel ih =>
  intro t0 t7 h
  exact
   br h (fun h0 h =>
    z.s [(7, [(1, oT)])] 9 (o1 (Le.tt h0)) <|
    br h (fun h1 h =>
     z.r [(9, [(3, oT)])] 4 (o1 (Le.tt h1)) h) fun h1 h =>
    z.j [(9, [(3, oF)])] 7 [0, 7, 8] [] (o1 (Le.ff h1)) (g37_3 z @ih N h)) fun h0 h =>
   z.r [(7, [(1, oF)])] 7 (o1 (Le.ff h0)) h
theorem g37_1 {N} {r} (z : Z Tryz.prog ty 37 Tryz.f37 (Fi [] (d37 r) [])) (fuel) : ∀ {t0 t6}, L_ref1_Whose_1 N fuel t0 t6 = some r → z.G [.c 37, .l 37, .b 0, .c 7] [(0, iI t0), (6, iI t6)] [] := by
 induction fuel with
 | zero => intro t0 t6 h; cases h
 | succ fuel ih =>
  intro t0 t6 h
  exact
   br h (fun h0 h =>
    z.s [(2, [(1, oT)])] 8 (o1 (Le.tt h0)) <|
    br h (fun h1 h =>
     z.r [(4, [(3, oT)])] 4 (o1 (Le.tt h1)) h) fun h1 h =>
    z.j [(4, [(3, oF)])] 6 [0, 6] [] (o1 (Le.ff h1)) (ih h)) fun h0 h =>
   z.j [(2, [(1, oF)])] 10 [0, 7] [] (o1 (Le.ff h0)) (g37_2 z N h)
theorem c37 {N} {x0 r} (h : L_ref1_Whose N x0 = some r) : Con Tryz.prog 37 [iI x0] [] (d37 r) [] :=
 ci ok mix Tryz.f37 fun z =>
 z.j [] 7 [0, 6] [] o0 (g37_1 z N h)
def L_ref1_OuterMay_1 (N : Nat) (t2 : Bool) : Option (Bool) :=
 some t2
def L_ref1_OuterMay (N : Nat) (x0 : GOuter) : Option (Bool) :=
 (L_ref1_Whose N x0.Src).bind fun v1 =>
 (L_ref1_Whose N x0.Dst).bind fun v2 =>
 bif v1.2.2.2 then
  bif v2.2.2.2 then
   bif (decide (x0.Tier ≥ 1)) then
    bif (decide (x0.Tier ≤ 4)) then
     (L_ref1_within N x0.Marker 8).bind fun v3 =>
     bif v3 then
      (L_ref1_within N x0.Origin 8).bind fun v4 =>
      bif v4 then
       L_ref1_OuterMay_1 N (decide ((x0.Body.size : Int) ≤ 512))
      else
       L_ref1_OuterMay_1 N false
     else
      L_ref1_OuterMay_1 N false
    else
     L_ref1_OuterMay_1 N false
   else
    L_ref1_OuterMay_1 N false
  else
   L_ref1_OuterMay_1 N false
 else
  L_ref1_OuterMay_1 N false
def d117 (r : Bool) : D := .bool r
theorem g117_1 {N} {r} (z : Z Tryz.prog ty 117 Tryz.f117 (Fi [] (d117 r) [])) {t2} (h : L_ref1_OuterMay_1 N t2 = some r) : z.G [.c 31] [(2, .bool t2)] [] :=
 z.r [] 0 o0 h
theorem c117 {N} {x0 r} (h : L_ref1_OuterMay N x0 = some r) : Con Tryz.prog 117 [.agg [iI x0.Src, iI x0.Dst, iI x0.Tier, iI x0.Marker, iI x0.Origin, .str x0.Body]] [] (d117 r) [] :=
 ci ok mix Tryz.f117 fun z =>
 bd h fun v1 h0 h =>
 bd h fun v2 h1 h =>
 z.s [(1, [(2, oR (d37 v1))]), (2, [(2, oR (d37 v2))])] 7 (o2 (c37 h0) (c37 h1)) <|
 br h (fun h2 h =>
  br h (fun h3 h =>
   br h (fun h4 h =>
    br h (fun h5 h =>
     bd h fun v3 h6 h =>
     br h (fun h7 h =>
      bd h fun v4 h8 h =>
      br h (fun h9 h =>
       z.j [(3, [(1, oT), (4, oT), (9, oT), (14, oT), (17, oR (d137 v3)), (19, oT), (22, oR (d137 v4)), (24, oT)])] 1 [2] [] (o5 (Le.tt h2) (Le.tt h3) (Le.tt h4) (Le.tt h5) (o4 (c137 h6) (Le.tt h7) (c137 h8) (Le.tt h9))) (g117_1 z h)) fun h9 h =>
      z.j [(3, [(1, oT), (4, oT), (9, oT), (14, oT), (17, oR (d137 v3)), (19, oT), (22, oR (d137 v4)), (24, oF)])] 1 [2] [] (o5 (Le.tt h2) (Le.tt h3) (Le.tt h4) (Le.tt h5) (o4 (c137 h6) (Le.tt h7) (c137 h8) (Le.ff h9))) (g117_1 z h)) fun h7 h =>
     z.j [(3, [(1, oT), (4, oT), (9, oT), (14, oT), (17, oR (d137 v3)), (19, oF)])] 1 [2] [] (o5 (Le.tt h2) (Le.tt h3) (Le.tt h4) (Le.tt h5) (o2 (c137 h6) (Le.ff h7))) (g117_1 z h)) fun h5 h =>
    z.j [(3, [(1, oT), (4, oT), (9, oT), (14, oF)])] 1 [2] [] (o4 (Le.tt h2) (Le.tt h3) (Le.tt h4) (Le.ff h5)) (g117_1 z h)) fun h4 h =>
   z.j [(3, [(1, oT), (4, oT), (9, oF)])] 1 [2] [] (o3 (Le.tt h2) (Le.tt h3) (Le.ff h4)) (g117_1 z h)) fun h3 h =>
  z.j [(3, [(1, oT), (4, oF)])] 1 [2] [] (o2 (Le.tt h2) (Le.ff h3)) (g117_1 z h)) fun h2 h =>
 z.j [(3, [(1, oF)])] 1 [2] [] (o1 (Le.ff h2)) (g117_1 z h)
def L_ref1_Push (N : Nat) (x0 : GOuter) : Option (ByteArray × Int) :=
 (L_ref1_OuterMay N x0).bind fun v1 =>
 bif (!v1) then
  some (ByteArray.empty, 600)
 else
  via ((IntKind.i64.wrap ((16 : Int) + (x0.Body.size : Int))) : Int) fun v2 =>
  bif (decide ((IntKind.i64.wrap ((20 : Int) + v2)) > 360)) then
   some (ByteArray.empty, 601)
  else
   (L_ref1_Num N 61440 2).bind fun v3 =>
   (L_ref1_Num N 6080 2).bind fun v4 =>
   if ((v3.size + v4.size : Nat) : Int) ≤ 9223372036854775807 then
   (L_ref1_Num N v2 2).bind fun v5 =>
   if (((v3 ++ v4).size + v5.size : Nat) : Int) ≤ 9223372036854775807 then
   (L_ref1_Num N 0 2).bind fun v6 =>
   if ((((v3 ++ v4) ++ v5).size + v6.size : Nat) : Int) ≤ 9223372036854775807 then
   (L_ref1_Num N 0 1).bind fun v7 =>
   if (((((v3 ++ v4) ++ v5) ++ v6).size + v7.size : Nat) : Int) ≤ 9223372036854775807 then
   (L_ref1_Num N x0.Tier 1).bind fun v8 =>
   if ((((((v3 ++ v4) ++ v5) ++ v6) ++ v7).size + v8.size : Nat) : Int) ≤ 9223372036854775807 then
   (L_ref1_Num N x0.Marker 1).bind fun v9 =>
   if (((((((v3 ++ v4) ++ v5) ++ v6) ++ v7) ++ v8).size + v9.size : Nat) : Int) ≤ 9223372036854775807 then
   via (((((((v3 ++ v4) ++ v5) ++ v6) ++ v7) ++ v8) ++ v9) : ByteArray) fun v10 =>
   (L_ref1_Num N x0.Origin 1).bind fun v11 =>
   if ((v10.size + v11.size : Nat) : Int) ≤ 9223372036854775807 then
   (L_ref1_Num N (x0.Body.size : Int) 2).bind fun v12 =>
   if (((v10 ++ v11).size + v12.size : Nat) : Int) ≤ 9223372036854775807 then
   (L_ref1_Num N 0 2).bind fun v13 =>
   if ((((v10 ++ v11) ++ v12).size + v13.size : Nat) : Int) ≤ 9223372036854775807 then
   if (((((v10 ++ v11) ++ v12) ++ v13).size + x0.Body.size : Nat) : Int) ≤ 9223372036854775807 then
   (L_ref1_PutIp N (GIp.mk x0.Src x0.Dst 17 64 0 ((((v10 ++ v11) ++ v12) ++ v13) ++ x0.Body))).bind fun v14 =>
   some (v14.1, 0)
   else none
   else none
   else none
   else none
   else none
   else none
   else none
   else none
   else none
   else none
def d53 (r : ByteArray × Int) : D := .tup [.str r.1, iI r.2]
theorem c53 {N} {x0 r} (h : L_ref1_Push N x0 = some r) : Con Tryz.prog 53 [.agg [iI x0.Src, iI x0.Dst, iI x0.Tier, iI x0.Marker, iI x0.Origin, .str x0.Body]] [] (d53 r) [] :=
 ci ok mix Tryz.f53 fun z =>
 bd h fun v1 h0 h =>
 br h (fun h1 h =>
  z.r [(1, [(1, oR (d117 v1)), (2, oT)])] 8 (o2 (c117 h0) (Le.tt h1)) h) fun h1 h =>
 vi h fun v2 h2 h =>
 z.s [(1, [(1, oR (d117 v1)), (2, oF)]), (3, [(3, oC (.int .i64 v2))])] 11 (o3 (c117 h0) (Le.ff h1) (Le.int (k := .i64) h2)) <|
 br h (fun h3 h =>
  z.r [(4, [(2, oT)])] 4 (o1 (Le.tt h3)) h) fun h3 h =>
 bd h fun v3 h4 h =>
 bd h fun v4 h5 h =>
 ck h fun h6 h =>
 bd h fun v5 h7 h =>
 ck h fun h8 h =>
 bd h fun v6 h9 h =>
 ck h fun h10 h =>
 bd h fun v7 h11 h =>
 ck h fun h12 h =>
 bd h fun v8 h13 h =>
 ck h fun h14 h =>
 bd h fun v9 h15 h =>
 ck h fun h16 h =>
 vi h fun v10 h17 h =>
 bd h fun v11 h18 h =>
 ck h fun h19 h =>
 bd h fun v12 h20 h =>
 ck h fun h21 h =>
 bd h fun v13 h22 h =>
 ck h fun h23 h =>
 ck h fun h24 h =>
 bd h fun v14 h25 h =>
 z.r [(4, [(2, oF)]), (6, [(0, oR (d118 v3)), (1, oR (d118 v4)), (4, oR (d118 v5)), (6, oR (d118 v6)), (8, oR (d118 v7)), (12, oR (d118 v8)), (16, oR (d118 v9)), (17, oC (.str v10)), (20, oR (d118 v11)), (25, oR (d118 v12)), (27, oR (d118 v13))]), (7, [(6, oR (d119 v14))])] 9 (o5 (Le.ff h3) (c118 h4) (c118 h5) h6 (o5 (c118 h7) h8 (c118 h9) h10 (o5 (c118 h11) h12 (c118 h13) h14 (o5 (c118 h15) h16 (Le.str h17) (c118 h18) (o5 h19 (c118 h20) h21 (c118 h22) (o3 h23 h24 (c119 h25))))))) h
def L_law20_pushed (N : Nat) (x0 : Int) (x1 : ByteArray) : Option (ByteArray) :=
 (L_ref1_Push N (GOuter.mk 167837696 (IntKind.i64.wrap ((167903232 : Int) + x0)) 1 0 0 x1)).bind fun v1 =>
 some v1.1
def d56 (r : ByteArray) : D := .str r
theorem c56 {N} {x0 x1 r} (h : L_law20_pushed N x0 x1 = some r) : Con Tryz.prog 56 [iI x0, .str x1] [] (d56 r) [] :=
 ci ok mix Tryz.f56 fun z =>
 bd h fun v1 h0 h =>
 z.r [(1, [(4, oR (d53 v1))])] 6 (o1 (c53 h0)) h
def L_slices_Clone_api_Health_api_Health (N : Nat) : Option ((List GHealth)) :=
 some ([])
def d123 (r : (List GHealth)) : D := sS true eHealth r
theorem c123 {N} {r} (h : L_slices_Clone_api_Health_api_Health N = some r) : Con Tryz.prog 123 [.nils] [] (d123 r) [] :=
 ci ok mix Tryz.f123 fun z =>
 z.rl [] 8 .nils (o1 trivial) h (Le.nils (g := true))
def d123v1 (r : (List GHealth)) : D := sS true eHealth r
theorem c123v1 {N} {r} (h : L_slices_Clone_api_Health_api_Health N = some r) : Con Tryz.prog 123 [.e0] [] (d123v1 r) [] :=
 ci ok mix Tryz.f123 fun z =>
 z.r [(3, [(3, { frz := true })])] 9 (o3 trivial (by decide : 0 * 2 ≤ 0) (show growOk 16 (0 + 0) from ⟨by decide, by decide⟩)) h
def L_slices_Clone_api_Health_api_Health_v2 (N : Nat) (x0 : (List GHealth)) : Option ((List GHealth)) :=
 if x0.length ≠ 0 then
 if growOk 16 (0 + x0.length) then
 some ([] ++ x0)
 else none
 else none
def d123v2 (r : (List GHealth)) : D := sS true eHealth r
theorem c123v2 {N} (gx0 : Bool) {x0 r} (h : L_slices_Clone_api_Health_api_Health_v2 N x0 = some r) : Con Tryz.prog 123 [sS gx0 eHealth x0] [] (d123v2 r) [] :=
 ci ok mix Tryz.f123 fun z =>
 ck h fun h0 h =>
 ck h fun h1 h =>
 z.r [(3, [(2, { cv := some (.ref 156 0 ([] ++ x0).length ([] ++ x0).length), cb := [(156, eL eHealth ([] ++ x0))] }), (3, { frz := true })])] 9 (o5 h0 (Or.inr (eL_frees (fun _ => rfl) _) : gx0 = true ∨ frees (eL eHealth x0) = true) (ap_len (xs := x0) eHealth_len) (ap_len (xs := []) eHealth_len) (o3 h1 (Le.apr (b := 156) (by first | rfl | (simp only [List.length_append, List.length_take, List.length_drop]; omega) | simp : ([] ++ x0).length = 0 + x0.length)) (ap_all (xs := []) (ys := x0) eHealth_len))) h
def L_slices_Clone_api_Health_api_Health_v3 (N : Nat) (x0 : (List GHealth)) : Option ((List GHealth)) :=
  if x0.length = 0 then L_slices_Clone_api_Health_api_Health N else L_slices_Clone_api_Health_api_Health_v2 N x0
def d123c3 (r : (List GHealth)) : D := d123v2 r
theorem c123c3 {N} (gx0 : Bool) {x0 : (List GHealth)} {r : (List GHealth)} (h : L_slices_Clone_api_Health_api_Health_v3 N x0 = some r) : Con Tryz.prog 123 [sS gx0 eHealth x0] [] (d123c3 r) [] := by
  unfold L_slices_Clone_api_Health_api_Health_v3 at h
  split at h
  · rename_i e
    obtain rfl := List.eq_nil_of_length_eq_zero e
    exact Con.nilsplit (c123 (N := N) h) (c123v1 (N := N) h)
  · exact c123v2 gx0 h
def L_slices_Clone_api_Seen_api_Seen (N : Nat) : Option ((List GSeen)) :=
 some ([])
def d158 (r : (List GSeen)) : D := sS true eSeen r
theorem c158 {N} {r} (h : L_slices_Clone_api_Seen_api_Seen N = some r) : Con Tryz.prog 158 [.nils] [] (d158 r) [] :=
 ci ok mix Tryz.f158 fun z =>
 z.rl [] 8 .nils (o1 trivial) h (Le.nils (g := true))
def d158v1 (r : (List GSeen)) : D := sS true eSeen r
theorem c158v1 {N} {r} (h : L_slices_Clone_api_Seen_api_Seen N = some r) : Con Tryz.prog 158 [.e0] [] (d158v1 r) [] :=
 ci ok mix Tryz.f158 fun z =>
 z.r [(3, [(3, { frz := true })])] 9 (o3 trivial (by decide : 0 * 5 ≤ 0) (show growOk 40 (0 + 0) from ⟨by decide, by decide⟩)) h
def L_slices_Clone_api_Seen_api_Seen_v2 (N : Nat) (x0 : (List GSeen)) : Option ((List GSeen)) :=
 if x0.length ≠ 0 then
 if growOk 40 (0 + x0.length) then
 some ([] ++ x0)
 else none
 else none
def d158v2 (r : (List GSeen)) : D := sS true eSeen r
theorem c158v2 {N} (gx0 : Bool) {x0 r} (h : L_slices_Clone_api_Seen_api_Seen_v2 N x0 = some r) : Con Tryz.prog 158 [sS gx0 eSeen x0] [] (d158v2 r) [] :=
 ci ok mix Tryz.f158 fun z =>
 ck h fun h0 h =>
 ck h fun h1 h =>
 z.r [(3, [(2, { cv := some (.ref 156 0 ([] ++ x0).length ([] ++ x0).length), cb := [(156, eL eSeen ([] ++ x0))] }), (3, { frz := true })])] 9 (o5 h0 (Or.inr (eL_frees (fun _ => rfl) _) : gx0 = true ∨ frees (eL eSeen x0) = true) (ap_len (xs := x0) eSeen_len) (ap_len (xs := []) eSeen_len) (o3 h1 (Le.apr (b := 156) (by first | rfl | (simp only [List.length_append, List.length_take, List.length_drop]; omega) | simp : ([] ++ x0).length = 0 + x0.length)) (ap_all (xs := []) (ys := x0) eSeen_len))) h
def L_slices_Clone_api_Seen_api_Seen_v3 (N : Nat) (x0 : (List GSeen)) : Option ((List GSeen)) :=
  if x0.length = 0 then L_slices_Clone_api_Seen_api_Seen N else L_slices_Clone_api_Seen_api_Seen_v2 N x0
def d158c3 (r : (List GSeen)) : D := d158v2 r
theorem c158c3 {N} (gx0 : Bool) {x0 : (List GSeen)} {r : (List GSeen)} (h : L_slices_Clone_api_Seen_api_Seen_v3 N x0 = some r) : Con Tryz.prog 158 [sS gx0 eSeen x0] [] (d158c3 r) [] := by
  unfold L_slices_Clone_api_Seen_api_Seen_v3 at h
  split at h
  · rename_i e
    obtain rfl := List.eq_nil_of_length_eq_zero e
    exact Con.nilsplit (c158 (N := N) h) (c158v1 (N := N) h)
  · exact c158v2 gx0 h
def L_slices_Clone_api_Entry_api_Entry (N : Nat) : Option ((List GEntry)) :=
 some ([])
def d124 (r : (List GEntry)) : D := sS true eEntry r
theorem c124 {N} {r} (h : L_slices_Clone_api_Entry_api_Entry N = some r) : Con Tryz.prog 124 [.nils] [] (d124 r) [] :=
 ci ok mix Tryz.f124 fun z =>
 z.rl [] 8 .nils (o1 trivial) h (Le.nils (g := true))
def d124v1 (r : (List GEntry)) : D := sS true eEntry r
theorem c124v1 {N} {r} (h : L_slices_Clone_api_Entry_api_Entry N = some r) : Con Tryz.prog 124 [.e0] [] (d124v1 r) [] :=
 ci ok mix Tryz.f124 fun z =>
 z.r [(3, [(3, { frz := true })])] 9 (o3 trivial (by decide : 0 * 9 ≤ 0) (show growOk 72 (0 + 0) from ⟨by decide, by decide⟩)) h
def L_slices_Clone_api_Entry_api_Entry_v2 (N : Nat) (x0 : (List GEntry)) : Option ((List GEntry)) :=
 if x0.length ≠ 0 then
 if growOk 72 (0 + x0.length) then
 some ([] ++ x0)
 else none
 else none
def d124v2 (r : (List GEntry)) : D := sS true eEntry r
theorem c124v2 {N} (gx0 : Bool) {x0 r} (h : L_slices_Clone_api_Entry_api_Entry_v2 N x0 = some r) : Con Tryz.prog 124 [sS gx0 eEntry x0] [] (d124v2 r) [] :=
 ci ok mix Tryz.f124 fun z =>
 ck h fun h0 h =>
 ck h fun h1 h =>
 z.r [(3, [(2, { cv := some (.ref 156 0 ([] ++ x0).length ([] ++ x0).length), cb := [(156, eL eEntry ([] ++ x0))] }), (3, { frz := true })])] 9 (o5 h0 (Or.inr (eL_frees (fun _ => rfl) _) : gx0 = true ∨ frees (eL eEntry x0) = true) (ap_len (xs := x0) eEntry_len) (ap_len (xs := []) eEntry_len) (o3 h1 (Le.apr (b := 156) (by first | rfl | (simp only [List.length_append, List.length_take, List.length_drop]; omega) | simp : ([] ++ x0).length = 0 + x0.length)) (ap_all (xs := []) (ys := x0) eEntry_len))) h
def L_slices_Clone_api_Entry_api_Entry_v3 (N : Nat) (x0 : (List GEntry)) : Option ((List GEntry)) :=
  if x0.length = 0 then L_slices_Clone_api_Entry_api_Entry N else L_slices_Clone_api_Entry_api_Entry_v2 N x0
def d124c3 (r : (List GEntry)) : D := d124v2 r
theorem c124c3 {N} (gx0 : Bool) {x0 : (List GEntry)} {r : (List GEntry)} (h : L_slices_Clone_api_Entry_api_Entry_v3 N x0 = some r) : Con Tryz.prog 124 [sS gx0 eEntry x0] [] (d124c3 r) [] := by
  unfold L_slices_Clone_api_Entry_api_Entry_v3 at h
  split at h
  · rename_i e
    obtain rfl := List.eq_nil_of_length_eq_zero e
    exact Con.nilsplit (c124 (N := N) h) (c124v1 (N := N) h)
  · exact c124v2 gx0 h
def L_site_Copy (N : Nat) (x0 : GNode) : Option (GNode) :=
 (L_conf_Copy N x0.Config).bind fun v1 =>
 (L_slices_Clone_api_Health_api_Health_v3 N x0.Health).bind fun v2 =>
 (L_slices_Clone_api_Seen_api_Seen_v3 N x0.Seen).bind fun v3 =>
 (L_slices_Clone_api_Entry_api_Entry_v3 N x0.Flows).bind fun v4 =>
 some (GNode.mk x0.Id v1 v2 v3 v4 x0.Serial)
def d100 (r : GNode) : D := .agg [iI r.Id, iI r.Config.Version, sS true (eSite true) r.Config.Sites, sS true eHealth r.Health, sS true eSeen r.Seen, sS true eEntry r.Flows, iI r.Serial]
theorem c100 {N} (gx0 : Bool) {x0 r} (h : L_site_Copy N x0 = some r) : Con Tryz.prog 100 [.agg [iI x0.Id, iI x0.Config.Version, sS gx0 (eSite gx0) x0.Config.Sites, sS gx0 eHealth x0.Health, sS gx0 eSeen x0.Seen, sS gx0 eEntry x0.Flows, iI x0.Serial]] [] (d100 r) [] :=
 ci ok mix Tryz.f100 fun z =>
 bd h fun v1 h0 h =>
 bd h fun v2 h1 h =>
 bd h fun v3 h2 h =>
 bd h fun v4 h3 h =>
 z.r [(1, [(2, oR (d76 v1)), (5, oR (d123c3 v2)), (8, oR (d158c3 v3)), (11, oR (d124c3 v4))])] 6 (o4 (c76 gx0 h0) (c123c3 gx0 h1) (c158c3 gx0 h2) (c124c3 gx0 h3)) h
def L_ip_Number_1 (N : Nat) : Nat → ByteArray → Int → Int → Int → Option (Int)
  | 0, _, _, _, _ => none
  | fuel + 1, t0, t3, t6, t7 =>
  bif (decide (t7 < t6)) then
   if 0 ≤ t7 ∧ t7 < (t0.size : Int) then
   via ((bOr .i64 (IntKind.i64.wrap (t3 * 2 ^ 8)) (IntKind.i64.wrap (bt t0 t7))) : Int) fun v1 =>
   L_ip_Number_1 N fuel t0 v1 t6 (IntKind.i64.wrap (t7 + 1))
   else none
  else
   some t3
def L_ip_Number (N : Nat) (x0 : ByteArray) : Option (Int) :=
 L_ip_Number_1 N N x0 0 (x0.size : Int) 0
def d174 (r : Int) : D := iI r
theorem g174_1 {N} {r} (z : Z Tryz.prog ty 174 Tryz.f174 (Fi [] (d174 r) [])) (fuel) : ∀ {t0 t3 t6 t7}, L_ip_Number_1 N fuel t0 t3 t6 t7 = some r → z.G [.c 75, .l 75, .b 0, .c 15] [(0, .str t0), (3, iI t3), (6, iI t6), (7, iI t7)] [] := by
 induction fuel with
 | zero => intro t0 t3 t6 t7 h; cases h
 | succ fuel ih =>
  intro t0 t3 t6 t7 h
  exact
   br h (fun h0 h =>
    ck h fun h1 h =>
    vi h fun v1 h2 h =>
    z.j [(3, [(0, oT)]), (5, [(6, oC (.int .i64 v1))])] 13 [0, 3, 6, 7] [] (o4 (Le.tt h0) (by decide : (0:Int) ≤ 8) h1 (Le.int (k := .i64) h2)) (ih h)) fun h0 h =>
   z.r [(3, [(0, oF)])] 7 (o1 (Le.ff h0)) h
theorem c174 {N} {x0 r} (h : L_ip_Number N x0 = some r) : Con Tryz.prog 174 [.str x0] [] (d174 r) [] :=
 ci ok mix Tryz.f174 fun z =>
 z.j [] 9 [0, 3, 6, 7] [] o0 (g174_1 z N h)
def L_addr_below_1 (N : Nat) (t4 : Bool) : Option (Bool) :=
 some t4
def L_addr_below (N : Nat) (x0 x1 : Int) : Option (Bool) :=
 bif (decide (x0 ≥ 0)) then
  L_addr_below_1 N (decide (x0 < x1))
 else
  L_addr_below_1 N false
def d133 (r : Bool) : D := .bool r
theorem g133_1 {N} {r} (z : Z Tryz.prog ty 133 Tryz.f133 (Fi [] (d133 r) [])) {t4} (h : L_addr_below_1 N t4 = some r) : z.G [.c 7] [(4, .bool t4)] [] :=
 z.r [] 0 o0 h
theorem c133 {N} {x0 x1 r} (h : L_addr_below N x0 x1 = some r) : Con Tryz.prog 133 [iI x0, iI x1] [] (d133 r) [] :=
 ci ok mix Tryz.f133 fun z =>
 br h (fun h0 h =>
  z.j [(1, [(2, oT)])] 4 [4] [] (o1 (Le.tt h0)) (g133_1 z h)) fun h0 h =>
 z.j [(1, [(2, oF)])] 4 [4] [] (o1 (Le.ff h0)) (g133_1 z h)
def L_addr_Whose_1 (N : Nat) (t8 : Int) (t23 : Bool) : Option (Int × Int × Int × Bool) :=
 bif t23 then
  some (2, (IntKind.i64.wrap (t8.tdiv 256)), (t8.tmod 256), true)
 else
  some (0, 0, 0, false)
def L_addr_Whose (N : Nat) (x0 : Int) : Option (Int × Int × Int × Bool) :=
 (L_addr_below N (IntKind.i64.wrap (x0 - 167837696)) 2).bind fun v1 =>
 bif v1 then
  some (0, 0, (IntKind.i64.wrap (x0 - 167837696)), true)
 else
  (L_addr_below N (IntKind.i64.wrap (x0 - 167903232)) 3).bind fun v2 =>
  bif v2 then
   some (1, (IntKind.i64.wrap (x0 - 167903232)), 0, true)
  else
   (L_addr_below N (IntKind.i64.wrap (x0 - 167968768)) 768).bind fun v3 =>
   bif v3 then
    via (((IntKind.i64.wrap (x0 - 167968768)).tmod 256) : Int) fun v4 =>
    L_addr_Whose_1 N (IntKind.i64.wrap (x0 - 167968768)) (decide (v4 < 4))
   else
    L_addr_Whose_1 N (IntKind.i64.wrap (x0 - 167968768)) false
def d206 (r : Int × Int × Int × Bool) : D := .tup [iI r.1, iI r.2.1, iI r.2.2.1, .bool r.2.2.2]
theorem g206_1 {N} {r} (z : Z Tryz.prog ty 206 Tryz.f206 (Fi [] (d206 r) [])) {t8 t23} (h : L_addr_Whose_1 N t8 t23 = some r) : z.G [.c 1011, .b 0, .c 15] [(8, iI t8), (23, .bool t23)] [] :=
 by
  cases t23 with
  | true => exact brT h fun h => (
   z.r [] 3 (o2 (by decide : (256:Int) ≠ 0) (by decide : (256:Int) ≠ 0)) h)
  | false => exact brF h fun h => (
   z.r [] 5 o0 h)
theorem c206 {N} {x0 r} (h : L_addr_Whose N x0 = some r) : Con Tryz.prog 206 [iI x0] [] (d206 r) [] :=
 ci ok mix Tryz.f206 fun z =>
 bd h fun v1 h0 h =>
 br h (fun h1 h =>
  z.r [(2, [(1, oR (d133 v1)), (2, oT)])] 11 (o2 (c133 h0) (Le.tt h1)) h) fun h1 h =>
 bd h fun v2 h2 h =>
 z.s [(2, [(1, oR (d133 v1)), (2, oF)])] 10 (o2 (c133 h0) (Le.ff h1)) <|
 br h (fun h3 h =>
  z.r [(4, [(1, oR (d133 v2)), (2, oT)])] 4 (o2 (c133 h2) (Le.tt h3)) h) fun h3 h =>
 bd h fun v3 h4 h =>
 z.s [(4, [(1, oR (d133 v2)), (2, oF)])] 3 (o2 (c133 h2) (Le.ff h3)) <|
 br h (fun h5 h =>
  vi h fun v4 h6 h =>
  z.j [(6, [(1, oR (d133 v3)), (2, oT), (4, oC (.int .i64 v4))])] 1 [8, 23] [] (o4 (c133 h4) (Le.tt h5) (by decide : (256:Int) ≠ 0) (Le.int (k := .i64) h6)) (g206_1 z h)) fun h5 h =>
 z.j [(6, [(1, oR (d133 v3)), (2, oF)])] 1 [8, 23] [] (o2 (c133 h4) (Le.ff h5)) (g206_1 z h)
def L_gue_node (N : Nat) (x0 : Int) : Option (Bool) :=
 (L_addr_Whose N x0).bind fun v1 =>
 some v1.2.2.2
def d217 (r : Bool) : D := .bool r
theorem c217 {N} {x0 r} (h : L_gue_node N x0 = some r) : Con Tryz.prog 217 [iI x0] [] (d217 r) [] :=
 ci ok mix Tryz.f217 fun z =>
 bd h fun v1 h0 h =>
 z.r [(1, [(1, oR (d206 v1))])] 6 (o1 (c206 h0)) h
def L_gue_May_1 (N : Nat) (t2 : Bool) : Option (Bool) :=
 some t2
def L_gue_May (N : Nat) (x0 : GOuter) : Option (Bool) :=
 (L_gue_node N x0.Src).bind fun v1 =>
 bif v1 then
  (L_gue_node N x0.Dst).bind fun v2 =>
  bif v2 then
   bif (decide (x0.Tier ≥ 1)) then
    bif (decide (x0.Tier ≤ 4)) then
     (L_ip_In N x0.Marker 8).bind fun v3 =>
     bif v3 then
      (L_ip_In N x0.Origin 8).bind fun v4 =>
      bif v4 then
       L_gue_May_1 N (decide ((x0.Body.size : Int) ≤ 512))
      else
       L_gue_May_1 N false
     else
      L_gue_May_1 N false
    else
     L_gue_May_1 N false
   else
    L_gue_May_1 N false
  else
   L_gue_May_1 N false
 else
  L_gue_May_1 N false
def d184 (r : Bool) : D := .bool r
theorem g184_1 {N} {r} (z : Z Tryz.prog ty 184 Tryz.f184 (Fi [] (d184 r) [])) {t2} (h : L_gue_May_1 N t2 = some r) : z.G [.c 7] [(2, .bool t2)] [] :=
 z.r [] 0 o0 h
theorem c184 {N} {x0 r} (h : L_gue_May N x0 = some r) : Con Tryz.prog 184 [.agg [iI x0.Src, iI x0.Dst, iI x0.Tier, iI x0.Marker, iI x0.Origin, .str x0.Body]] [] (d184 r) [] :=
 ci ok mix Tryz.f184 fun z =>
 bd h fun v1 h0 h =>
 br h (fun h1 h =>
  bd h fun v2 h2 h =>
  br h (fun h3 h =>
   br h (fun h4 h =>
    br h (fun h5 h =>
     bd h fun v3 h6 h =>
     br h (fun h7 h =>
      bd h fun v4 h8 h =>
      br h (fun h9 h =>
       z.j [(1, [(2, oR (d217 v1)), (3, oT), (6, oR (d217 v2)), (8, oT), (13, oT), (18, oT), (21, oR (d198 v3)), (23, oT), (26, oR (d198 v4)), (28, oT)])] 4 [2] [] (o5 (c217 h0) (Le.tt h1) (c217 h2) (Le.tt h3) (o5 (Le.tt h4) (Le.tt h5) (c198 h6) (Le.tt h7) (o2 (c198 h8) (Le.tt h9)))) (g184_1 z h)) fun h9 h =>
      z.j [(1, [(2, oR (d217 v1)), (3, oT), (6, oR (d217 v2)), (8, oT), (13, oT), (18, oT), (21, oR (d198 v3)), (23, oT), (26, oR (d198 v4)), (28, oF)])] 4 [2] [] (o5 (c217 h0) (Le.tt h1) (c217 h2) (Le.tt h3) (o5 (Le.tt h4) (Le.tt h5) (c198 h6) (Le.tt h7) (o2 (c198 h8) (Le.ff h9)))) (g184_1 z h)) fun h7 h =>
     z.j [(1, [(2, oR (d217 v1)), (3, oT), (6, oR (d217 v2)), (8, oT), (13, oT), (18, oT), (21, oR (d198 v3)), (23, oF)])] 4 [2] [] (o5 (c217 h0) (Le.tt h1) (c217 h2) (Le.tt h3) (o4 (Le.tt h4) (Le.tt h5) (c198 h6) (Le.ff h7))) (g184_1 z h)) fun h5 h =>
    z.j [(1, [(2, oR (d217 v1)), (3, oT), (6, oR (d217 v2)), (8, oT), (13, oT), (18, oF)])] 4 [2] [] (o5 (c217 h0) (Le.tt h1) (c217 h2) (Le.tt h3) (o2 (Le.tt h4) (Le.ff h5))) (g184_1 z h)) fun h4 h =>
   z.j [(1, [(2, oR (d217 v1)), (3, oT), (6, oR (d217 v2)), (8, oT), (13, oF)])] 4 [2] [] (o5 (c217 h0) (Le.tt h1) (c217 h2) (Le.tt h3) (o1 (Le.ff h4))) (g184_1 z h)) fun h3 h =>
  z.j [(1, [(2, oR (d217 v1)), (3, oT), (6, oR (d217 v2)), (8, oF)])] 4 [2] [] (o4 (c217 h0) (Le.tt h1) (c217 h2) (Le.ff h3)) (g184_1 z h)) fun h1 h =>
 z.j [(1, [(2, oR (d217 v1)), (3, oF)])] 4 [2] [] (o2 (c217 h0) (Le.ff h1)) (g184_1 z h)
def L_ip_Bytes_1 (N : Nat) : Nat → Int → (List Int) → Int → Option (ByteArray)
  | 0, _, _, _ => none
  | fuel + 1, t0, b164, t6 =>
  bif (decide (t6 ≥ 0)) then
   if 0 ≤ t6 ∧ t6 < ((b164.length : Nat) : Int) then
   L_ip_Bytes_1 N fuel (t0.fdiv (2 ^ 8)) (b164.set t6.toNat (IntKind.u8.wrap t0)) (IntKind.i64.wrap (t6 - 1))
   else none
  else
   some (mkS b164)
def L_ip_Bytes (N : Nat) (x0 x1 : Int) : Option (ByteArray) :=
 if 0 ≤ x1 ∧ x1 ≤ x1 ∧ ((1 : Nat) : Int) * x1 ≤ 140737488355328 ∧ x1 ≤ 4611686018427387904 then
 L_ip_Bytes_1 N N x0 (List.replicate (Int.toNat x1) (0 : Int)) (IntKind.i64.wrap (x1 - 1))
 else none
def d185 (r : ByteArray) : D := .str r
theorem g185_1 {N} {r} (z : Z Tryz.prog ty 185 Tryz.f185 (Fi [] (d185 r) [])) (fuel) : ∀ {t0 b164 t6}, L_ip_Bytes_1 N fuel t0 b164 t6 = some r → z.G [.c 75, .l 75, .b 0, .c 15] [(0, iI t0), (5, rR 164 b164), (6, iI t6)] [pB 164 1 (eL (eInt .u8) b164)] := by
 induction fuel with
 | zero => intro t0 b164 t6 h; cases h
 | succ fuel ih =>
  intro t0 b164 t6 h
  exact
   br h (fun h0 h =>
    ck h fun h1 h =>
    z.jL [(3, [(1, oT)]), (5, [(4, oC (.ptr 164 (t6.toNat * 1 + 0))), (5, { cb := [(164, eL (eInt .u8) (b164.set t6.toNat (IntKind.u8.wrap t0)))] })])] 13 [0, 5, 6] [(164, 164)] (o5 (Le.tt h0) h1 (Le.pt (b := 164) (k := t6.toNat * 1)) (st_need (xs := b164) (eInt_len .u8) (ixl h1) (o := 0) (k := 1) (vs := [.int .u8 (IntKind.u8.wrap t0)]) (p := true) (by decide) rfl rfl) (o2 (st_set (xs := b164) (eInt_len .u8) (ixl h1) (o := 0) (vs := [.int .u8 (IntKind.u8.wrap t0)]) (y := (IntKind.u8.wrap t0)) (Nat.le_of_ble_eq_true rfl) rfl) (by decide : (0:Int) ≤ 8))) (.cons (Le.rfl) (.cons (Le.rfs (b := 164) (by first | rfl | omega | (simp only [List.length_append, List.length_take, List.length_drop]; omega) | simp : b164.length = (b164.set t6.toNat (IntKind.u8.wrap t0)).length) (by first | rfl | omega | (simp only [List.length_append, List.length_take, List.length_drop]; omega) | simp : b164.length = (b164.set t6.toNat (IntKind.u8.wrap t0)).length)) (.cons (Le.rfl) .nil))) (ih h)) fun h0 h =>
   z.r [(3, [(1, oF)]), (7, [(1, oC (.str (mkS b164)))])] 7 (o3 (Le.ff h0) (byte_ok b164) (Le.str (bytesD_eq b164))) h
theorem c185 {N} {x0 x1 r} (h : L_ip_Bytes N x0 x1 = some r) : Con Tryz.prog 185 [iI x0, iI x1] [] (d185 r) [] :=
 ci ok mix Tryz.f185 fun z =>
 ck h fun h0 h =>
 z.j [(1, [(1, { cv := some (.ref 164 0 (List.replicate (Int.toNat x1) (0 : Int)).length (List.replicate (Int.toNat x1) (0 : Int)).length), cb := [(164, eL (eInt .u8) (List.replicate (Int.toNat x1) (0 : Int)))] })])] 9 [0, 5, 6] [(164, 164)] (o3 h0 (Le.apr (b := 164) (by first | rfl | simp : (List.replicate (Int.toNat x1) (0 : Int)).length = (Int.toNat x1))) (repD_eq (e := (eInt .u8)) (z := 0) (cs := [.int .u8 0]) rfl (Int.toNat x1))) (g185_1 z N h)
def L_ip_May_1 (N : Nat) (t2 : Bool) : Option (Bool) :=
 some t2
def L_ip_May (N : Nat) (x0 : GIp) : Option (Bool) :=
 (L_ip_In N x0.Src 32).bind fun v1 =>
 bif v1 then
  (L_ip_In N x0.Dst 32).bind fun v2 =>
  bif v2 then
   (L_ip_In N x0.Proto 8).bind fun v3 =>
   bif v3 then
    (L_ip_In N x0.Ttl 8).bind fun v4 =>
    bif v4 then
     (L_ip_In N x0.Id 16).bind fun v5 =>
     bif v5 then
      L_ip_May_1 N (decide ((x0.Body.size : Int) ≤ 492))
     else
      L_ip_May_1 N false
    else
     L_ip_May_1 N false
   else
    L_ip_May_1 N false
  else
   L_ip_May_1 N false
 else
  L_ip_May_1 N false
def d218 (r : Bool) : D := .bool r
theorem g218_1 {N} {r} (z : Z Tryz.prog ty 218 Tryz.f218 (Fi [] (d218 r) [])) {t2} (h : L_ip_May_1 N t2 = some r) : z.G [.c 7] [(2, .bool t2)] [] :=
 z.r [] 0 o0 h
theorem c218 {N} {x0 r} (h : L_ip_May N x0 = some r) : Con Tryz.prog 218 [.agg [iI x0.Src, iI x0.Dst, iI x0.Proto, iI x0.Ttl, iI x0.Id, .str x0.Body]] [] (d218 r) [] :=
 ci ok mix Tryz.f218 fun z =>
 bd h fun v1 h0 h =>
 br h (fun h1 h =>
  bd h fun v2 h2 h =>
  br h (fun h3 h =>
   bd h fun v3 h4 h =>
   br h (fun h5 h =>
    bd h fun v4 h6 h =>
    br h (fun h7 h =>
     bd h fun v5 h8 h =>
     br h (fun h9 h =>
      z.j [(1, [(2, oR (d198 v1)), (3, oT), (6, oR (d198 v2)), (8, oT), (11, oR (d198 v3)), (13, oT), (16, oR (d198 v4)), (18, oT), (21, oR (d198 v5)), (23, oT)])] 4 [2] [] (o5 (c198 h0) (Le.tt h1) (c198 h2) (Le.tt h3) (o5 (c198 h4) (Le.tt h5) (c198 h6) (Le.tt h7) (o2 (c198 h8) (Le.tt h9)))) (g218_1 z h)) fun h9 h =>
     z.j [(1, [(2, oR (d198 v1)), (3, oT), (6, oR (d198 v2)), (8, oT), (11, oR (d198 v3)), (13, oT), (16, oR (d198 v4)), (18, oT), (21, oR (d198 v5)), (23, oF)])] 4 [2] [] (o5 (c198 h0) (Le.tt h1) (c198 h2) (Le.tt h3) (o5 (c198 h4) (Le.tt h5) (c198 h6) (Le.tt h7) (o2 (c198 h8) (Le.ff h9)))) (g218_1 z h)) fun h7 h =>
    z.j [(1, [(2, oR (d198 v1)), (3, oT), (6, oR (d198 v2)), (8, oT), (11, oR (d198 v3)), (13, oT), (16, oR (d198 v4)), (18, oF)])] 4 [2] [] (o5 (c198 h0) (Le.tt h1) (c198 h2) (Le.tt h3) (o4 (c198 h4) (Le.tt h5) (c198 h6) (Le.ff h7))) (g218_1 z h)) fun h5 h =>
   z.j [(1, [(2, oR (d198 v1)), (3, oT), (6, oR (d198 v2)), (8, oT), (11, oR (d198 v3)), (13, oF)])] 4 [2] [] (o5 (c198 h0) (Le.tt h1) (c198 h2) (Le.tt h3) (o2 (c198 h4) (Le.ff h5))) (g218_1 z h)) fun h3 h =>
  z.j [(1, [(2, oR (d198 v1)), (3, oT), (6, oR (d198 v2)), (8, oF)])] 4 [2] [] (o4 (c198 h0) (Le.tt h1) (c198 h2) (Le.ff h3)) (g218_1 z h)) fun h1 h =>
 z.j [(1, [(2, oR (d198 v1)), (3, oF)])] 4 [2] [] (o2 (c198 h0) (Le.ff h1)) (g218_1 z h)
def L_ip_head (N : Nat) (x0 : GIp) (x1 : Int) : Option (ByteArray) :=
 (L_ip_Bytes N 69 1).bind fun v1 =>
 (L_ip_Bytes N 0 1).bind fun v2 =>
 if ((v1.size + v2.size : Nat) : Int) ≤ 9223372036854775807 then
 via ((IntKind.i64.wrap ((20 : Int) + (x0.Body.size : Int))) : Int) fun v3 =>
 (L_ip_Bytes N v3 2).bind fun v4 =>
 if (((v1 ++ v2).size + v4.size : Nat) : Int) ≤ 9223372036854775807 then
 (L_ip_Bytes N x0.Id 2).bind fun v5 =>
 if ((((v1 ++ v2) ++ v4).size + v5.size : Nat) : Int) ≤ 9223372036854775807 then
 (L_ip_Bytes N 64 1).bind fun v6 =>
 if (((((v1 ++ v2) ++ v4) ++ v5).size + v6.size : Nat) : Int) ≤ 9223372036854775807 then
 (L_ip_Bytes N 0 1).bind fun v7 =>
 if ((((((v1 ++ v2) ++ v4) ++ v5) ++ v6).size + v7.size : Nat) : Int) ≤ 9223372036854775807 then
 (L_ip_Bytes N x0.Ttl 1).bind fun v8 =>
 if (((((((v1 ++ v2) ++ v4) ++ v5) ++ v6) ++ v7).size + v8.size : Nat) : Int) ≤ 9223372036854775807 then
 via (((((((v1 ++ v2) ++ v4) ++ v5) ++ v6) ++ v7) ++ v8) : ByteArray) fun v9 =>
 (L_ip_Bytes N x0.Proto 1).bind fun v10 =>
 if ((v9.size + v10.size : Nat) : Int) ≤ 9223372036854775807 then
 (L_ip_Bytes N x1 2).bind fun v11 =>
 if (((v9 ++ v10).size + v11.size : Nat) : Int) ≤ 9223372036854775807 then
 (L_ip_Bytes N x0.Src 4).bind fun v12 =>
 if ((((v9 ++ v10) ++ v11).size + v12.size : Nat) : Int) ≤ 9223372036854775807 then
 (L_ip_Bytes N x0.Dst 4).bind fun v13 =>
 if (((((v9 ++ v10) ++ v11) ++ v12).size + v13.size : Nat) : Int) ≤ 9223372036854775807 then
 some ((((v9 ++ v10) ++ v11) ++ v12) ++ v13)
 else none
 else none
 else none
 else none
 else none
 else none
 else none
 else none
 else none
 else none
def d219 (r : ByteArray) : D := .str r
theorem c219 {N} (gx0 : Bool) {x0 x1 r} (h : L_ip_head N x0 x1 = some r) : Con Tryz.prog 219 [.ip gx0 [iI x0.Src, iI x0.Dst, iI x0.Proto, iI x0.Ttl, iI x0.Id, .str x0.Body], iI x1] [] (d219 r) [] :=
 ci ok mix Tryz.f219 fun z =>
 bd h fun v1 h0 h =>
 bd h fun v2 h1 h =>
 ck h fun h2 h =>
 vi h fun v3 h3 h =>
 bd h fun v4 h4 h =>
 ck h fun h5 h =>
 bd h fun v5 h6 h =>
 ck h fun h7 h =>
 bd h fun v6 h8 h =>
 ck h fun h9 h =>
 bd h fun v7 h10 h =>
 ck h fun h11 h =>
 bd h fun v8 h12 h =>
 ck h fun h13 h =>
 vi h fun v9 h14 h =>
 bd h fun v10 h15 h =>
 ck h fun h16 h =>
 bd h fun v11 h17 h =>
 ck h fun h18 h =>
 bd h fun v12 h19 h =>
 ck h fun h20 h =>
 bd h fun v13 h21 h =>
 ck h fun h22 h =>
 z.r [(1, [(0, oR (d185 v1)), (1, oR (d185 v2)), (8, oC (.int .i64 v3)), (9, oR (d185 v4)), (15, oR (d185 v5)), (17, oR (d185 v6)), (19, oR (d185 v7)), (25, oR (d185 v8)), (26, oC (.str v9)), (31, oR (d185 v10)), (34, oR (d185 v11)), (40, oR (d185 v12)), (46, oR (d185 v13))])] 4 (o5 (c185 h0) (c185 h1) h2 (Le.int (k := .i64) h3) (o5 (c185 h4) h5 (c185 h6) h7 (o5 (c185 h8) h9 (c185 h10) h11 (o5 (c185 h12) h13 (Le.str h14) (c185 h15) (o5 h16 (c185 h17) h18 (c185 h19) (o3 h20 (c185 h21) h22)))))) h
def L_sum_fold_uint64_1 (N : Nat) : Nat → Int → Option (Int)
  | 0, _ => none
  | fuel + 1, t0 =>
  bif (decide (t0 ≥ 65536)) then
   via ((IntKind.u64.wrap ((t0.tmod 65536) + (IntKind.u64.wrap (t0.tdiv 65536)))) : Int) fun v1 =>
   L_sum_fold_uint64_1 N fuel v1
  else
   some (IntKind.i64.wrap t0)
def L_sum_fold_uint64 (N : Nat) (x0 : Int) : Option (Int) :=
 L_sum_fold_uint64_1 N N x0
def d227 (r : Int) : D := iI r
theorem g227_1 {N} {r} (z : Z Tryz.prog ty 227 Tryz.f227 (Fi [] (d227 r) [])) (fuel) : ∀ {t0}, L_sum_fold_uint64_1 N fuel t0 = some r → z.G [.c 17, .l 17, .b 0, .c 7] [(0, .int .u64 t0)] [] := by
 induction fuel with
 | zero => intro t0 h; cases h
 | succ fuel ih =>
  intro t0 h
  exact
   br h (fun h0 h =>
    vi h fun v1 h1 h =>
    z.j [(1, [(1, oT)]), (2, [(4, oC (.int .u64 v1))])] 9 [0] [] (o4 (Le.tt h0) (by decide : (65536:Int) ≠ 0) (by decide : (65536:Int) ≠ 0) (Le.int (k := .u64) h1)) (ih h)) fun h0 h =>
   z.r [(1, [(1, oF)])] 7 (o1 (Le.ff h0)) h
theorem c227 {N} {x0 r} (h : L_sum_fold_uint64 N x0 = some r) : Con Tryz.prog 227 [.int .u64 x0] [] (d227 r) [] :=
 ci ok mix Tryz.f227 fun z =>
 z.j [] 5 [0] [] o0 (g227_1 z N h)
def L_sum_Sum_2 (N : Nat) (r1 : ByteArray → Int → Int → Option (Int)) (t0 : ByteArray) (t3 t4 : Int) : Option (Int) :=
 r1 t0 t3 (IntKind.i64.wrap (t4 + 2))
def L_sum_Sum_1 (N : Nat) : Nat → ByteArray → Int → Int → Option (Int)
  | 0, _, _, _ => none
  | fuel + 1, t0, t3, t4 =>
  bif (decide (t4 < (t0.size : Int))) then
   if 0 ≤ t4 ∧ t4 < (t0.size : Int) then
   via ((IntKind.u64.wrap ((IntKind.u64.wrap (bt t0 t4)) * 2 ^ 8)) : Int) fun v1 =>
   bif (decide ((IntKind.i64.wrap (t4 + 1)) < (t0.size : Int))) then
    if 0 ≤ (IntKind.i64.wrap (t4 + 1)) ∧ (IntKind.i64.wrap (t4 + 1)) < (t0.size : Int) then
    via ((IntKind.u64.wrap (bt t0 (IntKind.i64.wrap (t4 + 1)))) : Int) fun v2 =>
    via ((IntKind.u64.wrap ((IntKind.u64.wrap (t3 + v1)) + v2)) : Int) fun v3 =>
    L_sum_Sum_2 N (L_sum_Sum_1 N fuel) t0 v3 t4
    else none
   else
    L_sum_Sum_2 N (L_sum_Sum_1 N fuel) t0 (IntKind.u64.wrap (t3 + v1)) t4
   else none
  else
   (L_sum_fold_uint64 N t3).bind fun v1 =>
   some v1
def L_sum_Sum (N : Nat) (x0 : ByteArray) : Option (Int) :=
 L_sum_Sum_1 N N x0 0 0
def d213 (r : Int) : D := iI r
theorem g213_2 {N} {r} (z : Z Tryz.prog ty 213 Tryz.f213 (Fi [] (d213 r) [])) {r1 : ByteArray → Int → Int → Option (Int)} (hr1 : ∀ {t0 t3 t4}, r1 t0 t3 t4 = some r → z.G [.c 75, .l 75, .b 0, .c 15] [(0, .str t0), (3, .int .u64 t3), (4, iI t4)] []) {t0 t3 t4} (h : L_sum_Sum_2 N r1 t0 t3 t4 = some r) : z.G [.b 1, .c 459, .l 75, .b 0, .c 15] [(0, .str t0), (3, .int .u64 t3), (4, iI t4)] [] :=
 z.j [] 3 [0, 3, 4] [] o0 (hr1 h)
theorem g213_1 {N} {r} (z : Z Tryz.prog ty 213 Tryz.f213 (Fi [] (d213 r) [])) (fuel) : ∀ {t0 t3 t4}, L_sum_Sum_1 N fuel t0 t3 t4 = some r → z.G [.c 75, .l 75, .b 0, .c 15] [(0, .str t0), (3, .int .u64 t3), (4, iI t4)] [] := by
 induction fuel with
 | zero => intro t0 t3 t4 h; cases h
 | succ fuel ih =>
  intro t0 t3 t4 h
  exact
   br h (fun h0 h =>
    ck h fun h1 h =>
    vi h fun v1 h2 h =>
    z.s [(3, [(3, oT)]), (5, [(5, oC (.int .u64 v1))])] 10 (o4 (Le.tt h0) h1 (by decide : (0:Int) ≤ 8) (Le.int (k := .u64) h2)) <|
    br h (fun h3 h =>
     ck h fun h4 h =>
     vi h fun v2 h5 h =>
     vi h fun v3 h6 h =>
     z.j [(6, [(4, oT)]), (7, [(5, oC (.int .u64 v2)), (6, oC (.int .u64 v3))])] 3 [0, 3, 4] [] (o4 (Le.tt h3) h4 (Le.int (k := .u64) h5) (Le.int (k := .u64) h6)) (g213_2 z @ih h)) fun h3 h =>
    z.j [(6, [(4, oF)])] 3 [0, 3, 4] [] (o1 (Le.ff h3)) (g213_2 z @ih h)) fun h0 h =>
   bd h fun v1 h1 h =>
   z.r [(3, [(3, oF)]), (8, [(1, oR (d227 v1))])] 7 (o2 (Le.ff h0) (c227 h1)) h
theorem c213 {N} {x0 r} (h : L_sum_Sum N x0 = some r) : Con Tryz.prog 213 [.str x0] [] (d213 r) [] :=
 ci ok mix Tryz.f213 fun z =>
 z.j [] 9 [0, 3, 4] [] o0 (g213_1 z N h)
def L_ip_Put (N : Nat) (x0 : GIp) : Option (ByteArray × Int) :=
 (L_ip_May N x0).bind fun v1 =>
 bif (!v1) then
  some (ByteArray.empty, 200)
 else
  (L_ip_head N x0 0).bind fun v2 =>
  (L_sum_Sum N v2).bind fun v3 =>
  (L_ip_head N x0 (IntKind.i64.wrap ((65535 : Int) - v3))).bind fun v4 =>
  if ((v4.size + x0.Body.size : Nat) : Int) ≤ 9223372036854775807 then
  some ((v4 ++ x0.Body), 0)
  else none
def d186 (r : ByteArray × Int) : D := .tup [.str r.1, iI r.2]
theorem c186 {N} {x0 r} (h : L_ip_Put N x0 = some r) : Con Tryz.prog 186 [.agg [iI x0.Src, iI x0.Dst, iI x0.Proto, iI x0.Ttl, iI x0.Id, .str x0.Body]] [] (d186 r) [] :=
 ci ok mix Tryz.f186 fun z =>
 bd h fun v1 h0 h =>
 br h (fun h1 h =>
  z.r [(1, [(1, oR (d218 v1)), (2, oT)])] 8 (o2 (c218 h0) (Le.tt h1)) h) fun h1 h =>
 bd h fun v2 h2 h =>
 bd h fun v3 h3 h =>
 bd h fun v4 h4 h =>
 ck h fun h5 h =>
 z.r [(1, [(1, oR (d218 v1)), (2, oF)]), (3, [(0, oR (d219 v2)), (1, oR (d213 v3)), (3, oR (d219 v4))])] 9 (o5 (c218 h0) (Le.ff h1) (c219 false h2) (c213 h3) (o2 (c219 false h4) h5)) h
def L_gue_Push (N : Nat) (x0 : GOuter) : Option (ByteArray × Int) :=
 (L_gue_May N x0).bind fun v1 =>
 bif (!v1) then
  some (ByteArray.empty, 600)
 else
  via ((IntKind.i64.wrap ((36 : Int) + (x0.Body.size : Int))) : Int) fun v2 =>
  bif (decide (v2 > 360)) then
   some (ByteArray.empty, 601)
  else
   (L_ip_Bytes N 0 1).bind fun v3 =>
   (L_ip_Bytes N x0.Tier 1).bind fun v4 =>
   if ((v3.size + v4.size : Nat) : Int) ≤ 9223372036854775807 then
   (L_ip_Bytes N x0.Marker 1).bind fun v5 =>
   if (((v3 ++ v4).size + v5.size : Nat) : Int) ≤ 9223372036854775807 then
   (L_ip_Bytes N x0.Origin 1).bind fun v6 =>
   if ((((v3 ++ v4) ++ v5).size + v6.size : Nat) : Int) ≤ 9223372036854775807 then
   (L_ip_Bytes N (x0.Body.size : Int) 2).bind fun v7 =>
   if (((((v3 ++ v4) ++ v5) ++ v6).size + v7.size : Nat) : Int) ≤ 9223372036854775807 then
   (L_ip_Bytes N 0 2).bind fun v8 =>
   if ((((((v3 ++ v4) ++ v5) ++ v6) ++ v7).size + v8.size : Nat) : Int) ≤ 9223372036854775807 then
   if (((((((v3 ++ v4) ++ v5) ++ v6) ++ v7) ++ v8).size + x0.Body.size : Nat) : Int) ≤ 9223372036854775807 then
   via (((((((v3 ++ v4) ++ v5) ++ v6) ++ v7) ++ v8) ++ x0.Body) : ByteArray) fun v9 =>
   (L_ip_Bytes N 61440 2).bind fun v10 =>
   (L_ip_Bytes N 6080 2).bind fun v11 =>
   if ((v10.size + v11.size : Nat) : Int) ≤ 9223372036854775807 then
   via ((IntKind.i64.wrap ((8 : Int) + (v9.size : Int))) : Int) fun v12 =>
   (L_ip_Bytes N v12 2).bind fun v13 =>
   if (((v10 ++ v11).size + v13.size : Nat) : Int) ≤ 9223372036854775807 then
   (L_ip_Bytes N 0 2).bind fun v14 =>
   if ((((v10 ++ v11) ++ v13).size + v14.size : Nat) : Int) ≤ 9223372036854775807 then
   if (((((v10 ++ v11) ++ v13) ++ v14).size + v9.size : Nat) : Int) ≤ 9223372036854775807 then
   (L_ip_Put N (GIp.mk x0.Src x0.Dst 17 64 0 ((((v10 ++ v11) ++ v13) ++ v14) ++ v9))).bind fun v15 =>
   some (v15.1, v15.2)
   else none
   else none
   else none
   else none
   else none
   else none
   else none
   else none
   else none
   else none
def d134 (r : ByteArray × Int) : D := .tup [.str r.1, iI r.2]
theorem c134 {N} {x0 r} (h : L_gue_Push N x0 = some r) : Con Tryz.prog 134 [.agg [iI x0.Src, iI x0.Dst, iI x0.Tier, iI x0.Marker, iI x0.Origin, .str x0.Body]] [] (d134 r) [] :=
 ci ok mix Tryz.f134 fun z =>
 bd h fun v1 h0 h =>
 br h (fun h1 h =>
  z.r [(1, [(1, oR (d184 v1)), (3, oT)])] 9 (o2 (c184 h0) (Le.tt h1)) h) fun h1 h =>
 vi h fun v2 h2 h =>
 z.s [(1, [(1, oR (d184 v1)), (3, oF)])] 8 (o2 (c184 h0) (Le.ff h1)) <|
 br h (fun h3 h =>
  z.r [(3, [(3, oC (.int .i64 v2)), (5, oT)])] 4 (o2 (Le.int (k := .i64) h2) (Le.tt h3)) h) fun h3 h =>
 bd h fun v3 h4 h =>
 bd h fun v4 h5 h =>
 ck h fun h6 h =>
 bd h fun v5 h7 h =>
 ck h fun h8 h =>
 bd h fun v6 h9 h =>
 ck h fun h10 h =>
 bd h fun v7 h11 h =>
 ck h fun h12 h =>
 bd h fun v8 h13 h =>
 ck h fun h14 h =>
 ck h fun h15 h =>
 vi h fun v9 h16 h =>
 bd h fun v10 h17 h =>
 bd h fun v11 h18 h =>
 ck h fun h19 h =>
 vi h fun v12 h20 h =>
 bd h fun v13 h21 h =>
 ck h fun h22 h =>
 bd h fun v14 h23 h =>
 ck h fun h24 h =>
 ck h fun h25 h =>
 bd h fun v15 h26 h =>
 z.r [(3, [(3, oC (.int .i64 v2)), (5, oF)]), (5, [(0, oR (d185 v3)), (3, oR (d185 v4)), (7, oR (d185 v5)), (11, oR (d185 v6)), (16, oR (d185 v7)), (18, oR (d185 v8)), (22, oC (.str v9))]), (6, [(0, oR (d185 v10)), (1, oR (d185 v11)), (5, oC (.int .i64 v12)), (6, oR (d185 v13)), (8, oR (d185 v14))]), (7, [(8, oR (d186 v15))])] 10 (o5 (Le.int (k := .i64) h2) (Le.ff h3) (c185 h4) (c185 h5) (o5 h6 (c185 h7) h8 (c185 h9) (o5 h10 (c185 h11) h12 (c185 h13) (o5 h14 h15 (Le.str h16) (c185 h17) (o5 (c185 h18) h19 (Le.int (k := .i64) h20) (c185 h21) (o5 h22 (c185 h23) h24 h25 (o1 (c186 h26)))))))) h
def L_gue_Pop_1 (N : Nat) (b116_0 b116_1 b116_2 b116_3 b116_4 : Int) (b116_5 : ByteArray) (b140_0 b140_1 b140_2 b140_3 b140_4 : Int) (b140_5 : ByteArray) (t43 : Bool) : Option (GOuter × Int) :=
 bif t43 then
  some ((GOuter.mk 0 0 0 0 0 ByteArray.empty), 600)
 else
  some ((GOuter.mk b140_0 b140_1 b140_2 b140_3 b140_4 b140_5), 0)
def L_gue_Pop (N : Nat) (x0 : ByteArray) : Option (GOuter × Int) :=
 bif (decide ((x0.size : Int) < 36)) then
  some ((GOuter.mk 0 0 0 0 0 ByteArray.empty), 600)
 else
  if 0 ≤ (x0.size : Int) ∧ (x0.size : Int) ≤ (x0.size : Int) ∧ 0 ≤ (28 : Int) ∧ (28 : Int) ≤ (x0.size : Int) then
  if 0 ≤ (16 : Int) ∧ (16 : Int) ≤ (x0.size : Int) ∧ 0 ≤ (12 : Int) ∧ (12 : Int) ≤ (16 : Int) then
  (L_ip_Number N (x0.extract 12 16)).bind fun v1 =>
  if 0 ≤ (20 : Int) ∧ (20 : Int) ≤ (x0.size : Int) ∧ 0 ≤ (16 : Int) ∧ (16 : Int) ≤ (20 : Int) then
  (L_ip_Number N (x0.extract 16 20)).bind fun v2 =>
  if 0 ≤ (1 : Int) ∧ (1 : Int) < ((x0.extract 28 x0.size).size : Int) then
  via ((IntKind.i64.wrap (bt (x0.extract 28 x0.size) 1)) : Int) fun v3 =>
  if 0 ≤ (2 : Int) ∧ (2 : Int) < ((x0.extract 28 x0.size).size : Int) then
  via ((IntKind.i64.wrap (bt (x0.extract 28 x0.size) 2)) : Int) fun v4 =>
  if 0 ≤ (3 : Int) ∧ (3 : Int) < ((x0.extract 28 x0.size).size : Int) then
  via ((IntKind.i64.wrap (bt (x0.extract 28 x0.size) 3)) : Int) fun v5 =>
  if 0 ≤ ((x0.extract 28 x0.size).size : Int) ∧ ((x0.extract 28 x0.size).size : Int) ≤ ((x0.extract 28 x0.size).size : Int) ∧ 0 ≤ (8 : Int) ∧ (8 : Int) ≤ ((x0.extract 28 x0.size).size : Int) then
  via (((x0.extract 28 x0.size).extract 8 (x0.extract 28 x0.size).size) : ByteArray) fun v6 =>
  (L_gue_Push N (GOuter.mk v1 v2 v3 v4 v5 v6)).bind fun v7 =>
  bif (v7.2 != 0) then
   L_gue_Pop_1 N 0 0 0 0 0 ByteArray.empty v1 v2 v3 v4 v5 v6 true
  else
   L_gue_Pop_1 N 0 0 0 0 0 ByteArray.empty v1 v2 v3 v4 v5 v6 (!(v7.1.toList == x0.toList))
  else none
  else none
  else none
  else none
  else none
  else none
  else none
def d159 (r : GOuter × Int) : D := .tup [.agg [iI r.1.Src, iI r.1.Dst, iI r.1.Tier, iI r.1.Marker, iI r.1.Origin, .str r.1.Body], iI r.2]
theorem g159_1 {N} {r} (z : Z Tryz.prog ty 159 Tryz.f159 (Fi [] (d159 r) [])) {b116_0 b116_1 b116_2 b116_3 b116_4 b116_5 b140_0 b140_1 b140_2 b140_3 b140_4 b140_5 t43} (h : L_gue_Pop_1 N b116_0 b116_1 b116_2 b116_3 b116_4 b116_5 b140_0 b140_1 b140_2 b140_3 b140_4 b140_5 t43 = some r) : z.G [.c 239, .c 63] [(2, .ptr 116 0), (5, .ptr 140 0), (43, .bool t43)] [qB 116 [iI b116_0, iI b116_1, iI b116_2, iI b116_3, iI b116_4, .str b116_5], qB 140 [iI b140_0, iI b140_1, iI b140_2, iI b140_3, iI b140_4, .str b140_5]] :=
 by
  cases t43 with
  | true => exact brT h fun h => (
   z.r [] 3 o0 h)
  | false => exact brF h fun h => (
   z.r [] 4 o0 h)
theorem c159 {N} {x0 r} (h : L_gue_Pop N x0 = some r) : Con Tryz.prog 159 [.str x0] [] (d159 r) [] :=
 ci ok mix Tryz.f159 fun z =>
 br h (fun h0 h =>
  z.r [(1, [(2, oT)])] 8 (o1 (Le.tt h0)) h) fun h0 h =>
 ck h fun h1 h =>
 ck h fun h2 h =>
 bd h fun v1 h3 h =>
 ck h fun h4 h =>
 bd h fun v2 h5 h =>
 ck h fun h6 h =>
 vi h fun v3 h7 h =>
 ck h fun h8 h =>
 vi h fun v4 h9 h =>
 ck h fun h10 h =>
 vi h fun v5 h11 h =>
 ck h fun h12 h =>
 vi h fun v6 h13 h =>
 bd h fun v7 h14 h =>
 z.s [(1, [(2, oF)]), (4, [(2, oR (d174 v1)), (5, oR (d174 v2)), (8, oC (.int .i64 v3)), (11, oC (.int .i64 v4)), (14, oC (.int .i64 v5)), (16, oC (.str v6))]), (5, [(1, oR (d134 v7))])] 15 (o5 (Le.ff h0) h1 h2 (c174 h3) (o5 h4 (c174 h5) h6 (Le.int (k := .i64) h7) (o5 h8 (Le.int (k := .i64) h9) h10 (Le.int (k := .i64) h11) (o3 h12 (Le.str h13) (c134 h14))))) <|
 br h (fun h15 h =>
  z.j [(6, [(2, oT)])] 1 [2, 5, 43] [(116, 116), (140, 140)] (o1 (Le.tt h15)) (g159_1 z h)) fun h15 h =>
 z.j [(6, [(2, oF)])] 1 [2, 5, 43] [(116, 116), (140, 140)] (o1 (Le.ff h15)) (g159_1 z h)
def L_addr_Address_3 (N : Nat) (t1 t2 : Int) (t34 : Bool) : Option (Int × Int) :=
 bif t34 then
  via ((IntKind.i64.wrap ((167968768 : Int) + (IntKind.i64.wrap ((256 : Int) * t1)))) : Int) fun v1 =>
  some ((IntKind.i64.wrap (v1 + t2)), 0)
 else
  some (0, 500)
def L_addr_Address_2 (N : Nat) (t0 t1 t2 : Int) (t21 : Bool) : Option (Int × Int) :=
 bif t21 then
  some ((IntKind.i64.wrap ((167903232 : Int) + t1)), 0)
 else
  bif (t0 == 2) then
   (L_addr_below N t1 3).bind fun v1 =>
   bif v1 then
    (L_addr_below N t2 4).bind fun v2 =>
    L_addr_Address_3 N t1 t2 v2
   else
    L_addr_Address_3 N t1 t2 false
  else
   L_addr_Address_3 N t1 t2 false
def L_addr_Address_1 (N : Nat) (t0 t1 t2 : Int) (t8 : Bool) : Option (Int × Int) :=
 bif t8 then
  some ((IntKind.i64.wrap ((167837696 : Int) + t2)), 0)
 else
  bif (t0 == 1) then
   (L_addr_below N t1 3).bind fun v1 =>
   bif v1 then
    L_addr_Address_2 N t0 t1 t2 (t2 == 0)
   else
    L_addr_Address_2 N t0 t1 t2 false
  else
   L_addr_Address_2 N t0 t1 t2 false
def L_addr_Address (N : Nat) (x0 x1 x2 : Int) : Option (Int × Int) :=
 bif (x0 == 0) then
  bif (x1 == 0) then
   (L_addr_below N x2 2).bind fun v1 =>
   L_addr_Address_1 N x0 x1 x2 v1
  else
   L_addr_Address_1 N x0 x1 x2 false
 else
  L_addr_Address_1 N x0 x1 x2 false
def d65 (r : Int × Int) : D := .tup [iI r.1, iI r.2]
theorem g65_3 {N} {r} (z : Z Tryz.prog ty 65 Tryz.f65 (Fi [] (d65 r) [])) {t1 t2 t34} (h : L_addr_Address_3 N t1 t2 t34 = some r) : z.G [.c 505, .b 0, .c 7] [(1, iI t1), (2, iI t2), (34, .bool t34)] [] :=
 by
  cases t34 with
  | true => exact brT h fun h => (
   vi h fun v1 h1 h =>
   z.r [(6, [(2, oC (.int .i64 v1))])] 3 (o1 (Le.int (k := .i64) h1)) h)
  | false => exact brF h fun h => (
   z.r [] 5 o0 h)
theorem g65_2 {N} {r} (z : Z Tryz.prog ty 65 Tryz.f65 (Fi [] (d65 r) [])) {t0 t1 t2 t21} (h : L_addr_Address_2 N t0 t1 t2 t21 = some r) : z.G [.c 121, .b 0, .c 7] [(0, iI t0), (1, iI t1), (2, iI t2), (21, .bool t21)] [] :=
 by
  cases t21 with
  | true => exact brT h fun h => (
   z.r [] 3 o0 h)
  | false => exact brF h fun h => (
   br h (fun h1 h =>
    bd h fun v1 h2 h =>
    br h (fun h3 h =>
     bd h fun v2 h4 h =>
     z.j [(5, [(2, oT), (4, oR (d133 v1)), (6, oT), (8, oR (d133 v2))])] 3 [1, 2, 34] [] (o4 (Le.tt h1) (c133 h2) (Le.tt h3) (c133 h4)) (g65_3 z h)) fun h3 h =>
    z.j [(5, [(2, oT), (4, oR (d133 v1)), (6, oF)])] 3 [1, 2, 34] [] (o3 (Le.tt h1) (c133 h2) (Le.ff h3)) (g65_3 z h)) fun h1 h =>
   z.j [(5, [(2, oF)])] 3 [1, 2, 34] [] (o1 (Le.ff h1)) (g65_3 z h))
theorem g65_1 {N} {r} (z : Z Tryz.prog ty 65 Tryz.f65 (Fi [] (d65 r) [])) {t0 t1 t2 t8} (h : L_addr_Address_1 N t0 t1 t2 t8 = some r) : z.G [.c 25, .b 0, .c 7] [(0, iI t0), (1, iI t1), (2, iI t2), (8, .bool t8)] [] :=
 by
  cases t8 with
  | true => exact brT h fun h => (
   z.r [] 3 o0 h)
  | false => exact brF h fun h => (
   br h (fun h1 h =>
    bd h fun v1 h2 h =>
    br h (fun h3 h =>
     z.j [(3, [(2, oT), (4, oR (d133 v1)), (6, oT)])] 3 [0, 1, 2, 21] [] (o3 (Le.tt h1) (c133 h2) (Le.tt h3)) (g65_2 z h)) fun h3 h =>
    z.j [(3, [(2, oT), (4, oR (d133 v1)), (6, oF)])] 3 [0, 1, 2, 21] [] (o3 (Le.tt h1) (c133 h2) (Le.ff h3)) (g65_2 z h)) fun h1 h =>
   z.j [(3, [(2, oF)])] 3 [0, 1, 2, 21] [] (o1 (Le.ff h1)) (g65_2 z h))
theorem c65 {N} {x0 x1 x2 r} (h : L_addr_Address N x0 x1 x2 = some r) : Con Tryz.prog 65 [iI x0, iI x1, iI x2] [] (d65 r) [] :=
 ci ok mix Tryz.f65 fun z =>
 br h (fun h0 h =>
  br h (fun h1 h =>
   bd h fun v1 h2 h =>
   z.j [(1, [(2, oT), (6, oT), (8, oR (d133 v1))])] 6 [0, 1, 2, 8] [] (o3 (Le.tt h0) (Le.tt h1) (c133 h2)) (g65_1 z h)) fun h1 h =>
  z.j [(1, [(2, oT), (6, oF)])] 6 [0, 1, 2, 8] [] (o2 (Le.tt h0) (Le.ff h1)) (g65_1 z h)) fun h0 h =>
 z.j [(1, [(2, oF)])] 6 [0, 1, 2, 8] [] (o1 (Le.ff h0)) (g65_1 z h)
def L_event_Teller_Tell (N : Nat) (x0 : Gevent_Teller) (x1 x2 : Int) (x3 : GFlow) : Option (GEvent) :=
 some (GEvent.mk x1 x0.Role x0.Site x0.Node x2 x3)
def d128 (r : GEvent) : D := .agg [iI r.Kind, iI r.Role, iI r.Site, iI r.Node, iI r.To, iI r.Flow.Src, iI r.Flow.Dst, iI r.Flow.Proto, iI r.Flow.Sport, iI r.Flow.Dport]
theorem c128 {N} {x0 x1 x2 x3 r} (h : L_event_Teller_Tell N x0 x1 x2 x3 = some r) : Con Tryz.prog 128 [.agg [iI x0.Role, iI x0.Site, iI x0.Node], iI x1, iI x2, .agg [iI x3.Src, iI x3.Dst, iI x3.Proto, iI x3.Sport, iI x3.Dport]] [] (d128 r) [] :=
 ci ok mix Tryz.f128 fun z =>
 z.r [] 4 o0 h
def L_event_Teller_Alone (N : Nat) (x0 : Gevent_Teller) (x1 : Int) (x2 : GFlow) : Option (GOut) :=
 (L_event_Teller_Tell N x0 x1 0 x2).bind fun v1 =>
 some (GOut.mk ([]) ([v1]))
def d62 (r : GOut) : D := .agg [sS true eStr r.Sent, sS true eEvent r.Events]
theorem c62 {N} {x0 x1 x2 r} (h : L_event_Teller_Alone N x0 x1 x2 = some r) : Con Tryz.prog 62 [.agg [iI x0.Role, iI x0.Site, iI x0.Node], iI x1, .agg [iI x2.Src, iI x2.Dst, iI x2.Proto, iI x2.Sport, iI x2.Dport]] [] (d62 r) [] :=
 ci ok mix Tryz.f62 fun z =>
 bd h fun v1 h0 h =>
 z.rl [(1, [(3, oR (d128 v1)), (5, { frz := true })])] 4 (.agg [.nils, .sl true (eL eEvent ([v1])) 1 1]) (o1 (c128 h0)) h (Le.agg ((.cons (Le.nils (g := true)) (.cons (Le.sln (g := true) (cs := (eL eEvent ([v1]))) (n := 1) (c := 1) (k := ([v1]).length) (by first | rfl | omega | simp) (by first | rfl | omega | simp)) .nil))))
def L_report_Put (N : Nat) (x0 : GReport) : Option (ByteArray × Int) :=
 (L_report_May N x0).bind fun v1 =>
 bif (!v1) then
  some (ByteArray.empty, 700)
 else
  (L_ip_Bytes N x0.Site 1).bind fun v2 =>
  (L_ip_Bytes N x0.Serial 2).bind fun v3 =>
  if ((v2.size + v3.size : Nat) : Int) ≤ 9223372036854775807 then
  (L_ip_Bytes N x0.Load 1).bind fun v4 =>
  if (((v2 ++ v3).size + v4.size : Nat) : Int) ≤ 9223372036854775807 then
  (L_ip_Bytes N x0.Cap 1).bind fun v5 =>
  if ((((v2 ++ v3) ++ v4).size + v5.size : Nat) : Int) ≤ 9223372036854775807 then
  (L_sum_Sum N (((v2 ++ v3) ++ v4) ++ v5)).bind fun v6 =>
  if (((((v2 ++ v3) ++ v4) ++ v5).size + (mkS ([(bXor .u8 255 (IntKind.u8.wrap v6))])).size : Nat) : Int) ≤ 9223372036854775807 then
  via (((((v2 ++ v3) ++ v4) ++ v5) ++ (mkS ([(bXor .u8 255 (IntKind.u8.wrap v6))]))) : ByteArray) fun v7 =>
  some (v7, 0)
  else none
  else none
  else none
  else none
def d222 (r : ByteArray × Int) : D := .tup [.str r.1, iI r.2]
theorem c222 {N} {x0 r} (h : L_report_Put N x0 = some r) : Con Tryz.prog 222 [.agg [iI x0.Site, iI x0.Serial, iI x0.Load, iI x0.Cap]] [] (d222 r) [] :=
 ci ok mix Tryz.f222 fun z =>
 bd h fun v1 h0 h =>
 br h (fun h1 h =>
  z.r [(1, [(1, oR (d212 v1)), (2, oT)])] 8 (o2 (c212 h0) (Le.tt h1)) h) fun h1 h =>
 bd h fun v2 h2 h =>
 bd h fun v3 h3 h =>
 ck h fun h4 h =>
 bd h fun v4 h5 h =>
 ck h fun h6 h =>
 bd h fun v5 h7 h =>
 ck h fun h8 h =>
 bd h fun v6 h9 h =>
 ck h fun h10 h =>
 vi h fun v7 h11 h =>
 z.r [(1, [(1, oR (d212 v1)), (2, oF)]), (3, [(2, oR (d185 v2)), (5, oR (d185 v3)), (9, oR (d185 v4)), (13, oR (d185 v5))]), (4, [(2, oR (d213 v6)), (6, oC (.str (mkS ([(bXor .u8 255 (IntKind.u8.wrap v6))])))), (7, oC (.str v7))])] 11 (o5 (c212 h0) (Le.ff h1) (c185 h2) (c185 h3) (o5 h4 (c185 h5) h6 (c185 h7) (o5 h8 (c213 h9) (byte_ok ([(bXor .u8 255 (IntKind.u8.wrap v6))])) (Le.str (bytesD_eq ([(bXor .u8 255 (IntKind.u8.wrap v6))]))) (o2 h10 (Le.str h11))))) h
def L_report_Get_1 (N : Nat) (b116_0 b116_1 b116_2 b116_3 b132_0 b132_1 b132_2 b132_3 : Int) (t35 : Bool) : Option (GReport × Int) :=
 bif t35 then
  some ((GReport.mk 0 0 0 0), 700)
 else
  some ((GReport.mk b132_0 b132_1 b132_2 b132_3), 0)
def L_report_Get (N : Nat) (x0 : ByteArray) : Option (GReport × Int) :=
 bif ((x0.size : Int) != 6) then
  some ((GReport.mk 0 0 0 0), 700)
 else
  if 0 ≤ (0 : Int) ∧ (0 : Int) < (x0.size : Int) then
  if 0 ≤ (3 : Int) ∧ (3 : Int) ≤ (x0.size : Int) ∧ 0 ≤ (1 : Int) ∧ (1 : Int) ≤ (3 : Int) then
  (L_ip_Number N (x0.extract 1 3)).bind fun v1 =>
  if 0 ≤ (3 : Int) ∧ (3 : Int) < (x0.size : Int) then
  if 0 ≤ (4 : Int) ∧ (4 : Int) < (x0.size : Int) then
  (L_report_Put N (GReport.mk (IntKind.i64.wrap (bt x0 0)) v1 (IntKind.i64.wrap (bt x0 3)) (IntKind.i64.wrap (bt x0 4)))).bind fun v2 =>
  bif (v2.2 != 0) then
   L_report_Get_1 N 0 0 0 0 (IntKind.i64.wrap (bt x0 0)) v1 (IntKind.i64.wrap (bt x0 3)) (IntKind.i64.wrap (bt x0 4)) true
  else
   L_report_Get_1 N 0 0 0 0 (IntKind.i64.wrap (bt x0 0)) v1 (IntKind.i64.wrap (bt x0 3)) (IntKind.i64.wrap (bt x0 4)) (!(v2.1.toList == x0.toList))
  else none
  else none
  else none
  else none
def d203 (r : GReport × Int) : D := .tup [.agg [iI r.1.Site, iI r.1.Serial, iI r.1.Load, iI r.1.Cap], iI r.2]
theorem g203_1 {N} {r} (z : Z Tryz.prog ty 203 Tryz.f203 (Fi [] (d203 r) [])) {b116_0 b116_1 b116_2 b116_3 b132_0 b132_1 b132_2 b132_3 t35} (h : L_report_Get_1 N b116_0 b116_1 b116_2 b116_3 b132_0 b132_1 b132_2 b132_3 t35 = some r) : z.G [.c 119, .c 31] [(2, .ptr 116 0), (4, .ptr 132 0), (35, .bool t35)] [qB 116 [iI b116_0, iI b116_1, iI b116_2, iI b116_3], qB 132 [iI b132_0, iI b132_1, iI b132_2, iI b132_3]] :=
 by
  cases t35 with
  | true => exact brT h fun h => (
   z.r [] 3 o0 h)
  | false => exact brF h fun h => (
   z.r [] 4 o0 h)
theorem c203 {N} {x0 r} (h : L_report_Get N x0 = some r) : Con Tryz.prog 203 [.str x0] [] (d203 r) [] :=
 ci ok mix Tryz.f203 fun z =>
 br h (fun h0 h =>
  z.r [(1, [(2, oT)])] 8 (o1 (Le.tt h0)) h) fun h0 h =>
 ck h fun h1 h =>
 ck h fun h2 h =>
 bd h fun v1 h3 h =>
 ck h fun h4 h =>
 ck h fun h5 h =>
 bd h fun v2 h6 h =>
 z.s [(1, [(2, oF)]), (3, [(5, oR (d174 v1))]), (4, [(1, oR (d222 v2))])] 13 (o5 (Le.ff h0) h1 h2 (c174 h3) (o3 h4 h5 (c222 h6))) <|
 br h (fun h7 h =>
  z.j [(5, [(2, oT)])] 1 [2, 4, 35] [(116, 116), (132, 132)] (o1 (Le.tt h7)) (g203_1 z h)) fun h7 h =>
 z.j [(5, [(2, oF)])] 1 [2, 4, 35] [(116, 116), (132, 132)] (o1 (Le.ff h7)) (g203_1 z h)
def L_report_Newer_2 (N : Nat) (t4 : Bool) (t5 : Int) : Option (Bool × Int) :=
 some (t4, t5)
def L_report_Newer_1 (N : Nat) (t0 t1 : Int) (t14 : Bool) : Option (Bool × Int) :=
 bif t14 then
  some (false, 700)
 else
  via ((IntKind.i64.wrap ((IntKind.i64.wrap (t0 - t1)) + 65536)) : Int) fun v1 =>
  bif (decide ((v1.tmod 65536) ≥ 1)) then
   L_report_Newer_2 N (decide ((v1.tmod 65536) < 32768)) 0
  else
   L_report_Newer_2 N false 0
def L_report_Newer (N : Nat) (x0 x1 : Int) : Option (Bool × Int) :=
 (L_report_serial N x0).bind fun v1 =>
 bif (!v1) then
  L_report_Newer_1 N x0 x1 true
 else
  (L_report_serial N x1).bind fun v2 =>
  L_report_Newer_1 N x0 x1 (!v2)
def d223 (r : Bool × Int) : D := .tup [.bool r.1, iI r.2]
theorem g223_2 {N} {r} (z : Z Tryz.prog ty 223 Tryz.f223 (Fi [] (d223 r) [])) {t4 t5} (h : L_report_Newer_2 N t4 t5 = some r) : z.G [.c 31] [(4, .bool t4), (5, iI t5)] [] :=
 z.r [] 0 o0 h
theorem g223_1 {N} {r} (z : Z Tryz.prog ty 223 Tryz.f223 (Fi [] (d223 r) [])) {t0 t1 t14} (h : L_report_Newer_1 N t0 t1 t14 = some r) : z.G [.c 13, .c 7] [(0, iI t0), (1, iI t1), (14, .bool t14)] [] :=
 by
  cases t14 with
  | true => exact brT h fun h => (
   z.r [] 3 o0 h)
  | false => exact brF h fun h => (
   vi h fun v1 h1 h =>
   z.s [(3, [(3, oC (.int .i64 v1))])] 5 (o2 (Le.int (k := .i64) h1) (by decide : (65536:Int) ≠ 0)) <|
   br h (fun h2 h =>
    z.j [(4, [(2, oT)])] 1 [4, 5] [] (o1 (Le.tt h2)) (g223_2 z h)) fun h2 h =>
   z.j [(4, [(2, oF)])] 1 [4, 5] [] (o1 (Le.ff h2)) (g223_2 z h))
theorem c223 {N} {x0 x1 r} (h : L_report_Newer N x0 x1 = some r) : Con Tryz.prog 223 [iI x0, iI x1] [] (d223 r) [] :=
 ci ok mix Tryz.f223 fun z =>
 bd h fun v1 h0 h =>
 br h (fun h1 h =>
  z.j [(1, [(1, oR (d226 v1)), (3, oT)])] 5 [0, 1, 14] [] (o2 (c226 h0) (Le.tt h1)) (g223_1 z h)) fun h1 h =>
 bd h fun v2 h2 h =>
 z.j [(1, [(1, oR (d226 v1)), (3, oF), (5, oR (d226 v2))])] 5 [0, 1, 14] [] (o3 (c226 h0) (Le.ff h1) (c226 h2)) (g223_1 z h)
def d158v4 (r : (List GSeen)) : D := rR 1000 r
def h158v4 (r : (List GSeen)) : List (Nat × Option Blk) := [pB 1000 5 (eL eSeen r)]
theorem c158v4 {N} {r} (h : L_slices_Clone_api_Seen_api_Seen N = some r) : Con Tryz.prog 158 [.nils] [] (d158v4 r) (h158v4 r) :=
 ci ok mix Tryz.f158 fun z =>
 z.rb [(2, [(0, { own := some (5) })])] 8 [(1000, 116)] (.ref 116 0 0 0) (o1 trivial) h (Le.of (by kernel_rfl))
def d158v5 (r : (List GSeen)) : D := rR 1000 r
def h158v5 (r : (List GSeen)) : List (Nat × Option Blk) := [pB 1000 5 (eL eSeen r)]
theorem c158v5 {N} {r} (h : L_slices_Clone_api_Seen_api_Seen N = some r) : Con Tryz.prog 158 [.e0] [] (d158v5 r) (h158v5 r) :=
 ci ok mix Tryz.f158 fun z =>
 z.rb [] 9 [(1000, 156)] (.ref 156 0 0 0) (o3 trivial (by decide : 0 * 5 ≤ 0) (show growOk 40 (0 + 0) from ⟨by decide, by decide⟩)) h (Le.of (by kernel_rfl))
def d158v6 (r : (List GSeen)) : D := rR 1000 r
def h158v6 (r : (List GSeen)) : List (Nat × Option Blk) := [pB 1000 5 (eL eSeen r)]
theorem c158v6 {N} (gx0 : Bool) {x0 r} (h : L_slices_Clone_api_Seen_api_Seen_v2 N x0 = some r) : Con Tryz.prog 158 [sS gx0 eSeen x0] [] (d158v6 r) (h158v6 r) :=
 ci ok mix Tryz.f158 fun z =>
 ck h fun h0 h =>
 ck h fun h1 h =>
 z.rb [(3, [(2, { cv := some (.ref 156 0 ([] ++ x0).length ([] ++ x0).length), cb := [(156, eL eSeen ([] ++ x0))] })])] 9 [(1000, 156)] (rR 156 ([] ++ x0)) (o5 h0 (Or.inr (eL_frees (fun _ => rfl) _) : gx0 = true ∨ frees (eL eSeen x0) = true) (ap_len (xs := x0) eSeen_len) (ap_len (xs := []) eSeen_len) (o3 h1 (Le.apr (b := 156) (by first | rfl | (simp only [List.length_append, List.length_take, List.length_drop]; omega) | simp : ([] ++ x0).length = 0 + x0.length)) (ap_all (xs := []) (ys := x0) eSeen_len))) h (Le.of (by kernel_rfl))
def d158c7 (r : (List GSeen)) : D := d158v6 r
def h158c7 (r : (List GSeen)) : List (Nat × Option Blk) := h158v6 r
theorem c158c7 {N} (gx0 : Bool) {x0 : (List GSeen)} {r : (List GSeen)} (h : L_slices_Clone_api_Seen_api_Seen_v3 N x0 = some r) : Con Tryz.prog 158 [sS gx0 eSeen x0] [] (d158c7 r) (h158c7 r) := by
  unfold L_slices_Clone_api_Seen_api_Seen_v3 at h
  split at h
  · rename_i e
    obtain rfl := List.eq_nil_of_length_eq_zero e
    exact Con.nilsplit (c158v4 (N := N) h) (c158v5 (N := N) h)
  · exact c158v6 gx0 h
def L_view_Take_2 (N : Nat) (t2 b132_0 b132_1 b132_2 b132_3 : Int) (b316 : (List GSeen)) (t10i : Nat) (t51 : Bool) : Option ((List GSeen) × Bool × Int) :=
 if 0 ≤ ((t10i : Nat) : Int) ∧ ((t10i : Nat) : Int) < ((b316.length : Nat) : Int) then
 bif t51 then
  some (b316, false, 0)
 else
  some ((b316.set t10i (GSeen.mk (GReport.mk b132_0 b132_1 b132_2 b132_3) t2)), true, 0)
 else none
def L_view_Take_1 (N : Nat) (t0 : (List GSeen)) (t2 b132_0 b132_1 b132_2 b132_3 : Int) (t25 : Bool) : Option ((List GSeen) × Bool × Int) :=
 bif t25 then
  some ([], false, 1200)
 else
  (L_slices_Clone_api_Seen_api_Seen_v3 N t0).bind fun v1 =>
  if 0 ≤ b132_0 ∧ b132_0 < ((v1.length : Nat) : Int) then
  (L_report_Newer N b132_1 (((v1.getD b132_0.toNat default).Report).Serial)).bind fun v2 =>
  bif ((v1.getD b132_0.toNat default).At != (-1)) then
   L_view_Take_2 N t2 b132_0 b132_1 b132_2 b132_3 v1 b132_0.toNat (!v2.1)
  else
   L_view_Take_2 N t2 b132_0 b132_1 b132_2 b132_3 v1 b132_0.toNat false
  else none
def L_view_Take (N : Nat) (x0 : (List GSeen)) (x1 : GReport) (x2 : Int) : Option ((List GSeen) × Bool × Int) :=
 (L_view_May N x0).bind fun v1 =>
 bif (!v1) then
  L_view_Take_1 N x0 x2 x1.Site x1.Serial x1.Load x1.Cap true
 else
  (L_report_May N x1).bind fun v2 =>
  bif (!v2) then
   L_view_Take_1 N x0 x2 x1.Site x1.Serial x1.Load x1.Cap true
  else
   (L_conf_Time N x2).bind fun v3 =>
   L_view_Take_1 N x0 x2 x1.Site x1.Serial x1.Load x1.Cap (!v3)
def d204 (r : (List GSeen) × Bool × Int) : D := .tup [sS true eSeen r.1, .bool r.2.1, iI r.2.2]
theorem g204_2 {N} (gx0 : Bool) {r} (z : Z Tryz.prog ty 204 Tryz.f204 (Fi [] (d204 r) [])) {t2 b132_0 b132_1 b132_2 b132_3 b316 t10i t51} (h : L_view_Take_2 N t2 b132_0 b132_1 b132_2 b132_3 b316 t10i t51 = some r) : z.G [.c 239, .c 63] [(2, iI t2), (4, .ptr 132 0), (9, rR 316 b316), (10, .ptr 316 (t10i * 5 + 0)), (51, .bool t51)] [qB 132 [iI b132_0, iI b132_1, iI b132_2, iI b132_3], pB 316 5 (eL eSeen b316)] :=
 ck h fun h0 h =>
 by
  cases t51 with
  | true => exact brT h fun h => (
   z.r [(7, [(1, { frz := true })])] 3 o0 h)
  | false => exact brF h fun h => (
   z.rl [(8, [(5, { cb := [(316, eL eSeen (b316.set t10i (GSeen.mk (GReport.mk b132_0 b132_1 b132_2 b132_3) t2)))] })]), (9, [(1, { frz := true })])] 6 (.tup [.sl true (eL eSeen (b316.set t10i (GSeen.mk (GReport.mk b132_0 b132_1 b132_2 b132_3) t2))) b316.length b316.length, .bool true, iI 0]) (o2 (st_need (xs := b316) eSeen_len (ixl h0) (o := 0) (k := 5) (vs := [iI b132_0, iI b132_1, iI b132_2, iI b132_3, iI t2]) (p := true) (by decide) rfl rfl) (st_set (xs := b316) eSeen_len (ixl h0) (o := 0) (vs := [iI b132_0, iI b132_1, iI b132_2, iI b132_3, iI t2]) (y := (GSeen.mk (GReport.mk b132_0 b132_1 b132_2 b132_3) t2)) (Nat.le_of_ble_eq_true rfl) rfl)) h (Le.tup ((.cons (Le.sln (g := true) (cs := (eL eSeen (b316.set t10i (GSeen.mk (GReport.mk b132_0 b132_1 b132_2 b132_3) t2)))) (n := b316.length) (c := b316.length) (k := (b316.set t10i (GSeen.mk (GReport.mk b132_0 b132_1 b132_2 b132_3) t2)).length) (by first | rfl | omega | simp) (by first | rfl | omega | simp)) (.cons (Le.of rfl) (.cons (Le.of rfl) .nil))))))
theorem g204_1 {N} (gx0 : Bool) {r} (z : Z Tryz.prog ty 204 Tryz.f204 (Fi [] (d204 r) [])) {t0 t2 b132_0 b132_1 b132_2 b132_3 t25} (h : L_view_Take_1 N t0 t2 b132_0 b132_1 b132_2 b132_3 t25 = some r) : z.G [.c 13, .c 7] [(0, sS gx0 eSeen t0), (2, iI t2), (4, .ptr 132 0), (25, .bool t25)] [qB 132 [iI b132_0, iI b132_1, iI b132_2, iI b132_3]] :=
 by
  cases t25 with
  | true => exact brT h fun h => (
   z.rl [] 3 (.tup [.nils, .bool false, iI 1200]) o0 h (Le.tup ((.cons (Le.nils (g := true)) (.cons (Le.of rfl) (.cons (Le.of rfl) .nil))))))
  | false => exact brF h fun h => (
   bd h fun v1 h1 h =>
   ck h fun h2 h =>
   bd h fun v2 h3 h =>
   z.s [(3, [(1, { r := d158c7 v1, H := h158c7 v1 })]), (4, [(3, oC (.ptr 316 (b132_0.toNat * 5 + 0)))]), (5, [(6, oC (iI (((v1.getD b132_0.toNat default).Report).Serial))), (7, oR (d223 v2))])] 10 (o5 (c158c7 gx0 h1) h2 (Le.pt (b := 316) (k := b132_0.toNat * 5)) (ld_ne (xs := v1) eSeen_len (ixl h2) (o := 1) (by decide)) (o2 (Le.of (ld_hd (xs := v1) eSeen_len (ixl h2) (o := 1) (by decide))) (c223 h3))) <|
   br h (fun h4 h =>
    z.j [(6, [(3, oC (iI ((v1.getD b132_0.toNat default).At))), (5, oT)])] 1 [2, 4, 9, 10, 51] [(132, 132), (316, 316)] (o3 (ld_ne (xs := v1) eSeen_len (ixl h2) (o := 4) (by decide)) (Le.of (ld_hd (xs := v1) eSeen_len (ixl h2) (o := 4) (by decide))) (Le.tt h4)) (g204_2 gx0 z h)) fun h4 h =>
   z.j [(6, [(3, oC (iI ((v1.getD b132_0.toNat default).At))), (5, oF)])] 1 [2, 4, 9, 10, 51] [(132, 132), (316, 316)] (o3 (ld_ne (xs := v1) eSeen_len (ixl h2) (o := 4) (by decide)) (Le.of (ld_hd (xs := v1) eSeen_len (ixl h2) (o := 4) (by decide))) (Le.ff h4)) (g204_2 gx0 z h))
theorem c204 {N} (gx0 : Bool) {x0 x1 x2 r} (h : L_view_Take N x0 x1 x2 = some r) : Con Tryz.prog 204 [sS gx0 eSeen x0, .agg [iI x1.Site, iI x1.Serial, iI x1.Load, iI x1.Cap], iI x2] [] (d204 r) [] :=
 ci ok mix Tryz.f204 fun z =>
 bd h fun v1 h0 h =>
 br h (fun h1 h =>
  z.j [(1, [(1, oR (d169 v1)), (3, oT)])] 5 [0, 2, 4, 25] [(132, 132)] (o2 (c169 gx0 h0) (Le.tt h1)) (g204_1 gx0 z h)) fun h1 h =>
 bd h fun v2 h2 h =>
 br h (fun h3 h =>
  z.j [(1, [(1, oR (d169 v1)), (3, oF), (5, oR (d212 v2)), (8, oT)])] 5 [0, 2, 4, 25] [(132, 132)] (o4 (c169 gx0 h0) (Le.ff h1) (c212 h2) (Le.tt h3)) (g204_1 gx0 z h)) fun h3 h =>
 bd h fun v3 h4 h =>
 z.j [(1, [(1, oR (d169 v1)), (3, oF), (5, oR (d212 v2)), (8, oF), (10, oR (d59 v3))])] 5 [0, 2, 4, 25] [(132, 132)] (o5 (c169 gx0 h0) (Le.ff h1) (c212 h2) (Le.ff h3) (o1 (c59 h4))) (g204_1 gx0 z h)
def L_site_node_told_1 (N : Nat) (b0_0 b0_1 : Int) (b0_2 : (List GSite)) (b0_3 : (List GHealth)) (b0_4 : (List GSeen)) (b0_5 : (List GEntry)) (b0_6 b0_7 b0_8 b0_9 b0_10 b140_0 b140_1 b140_2 b140_3 : Int) (t45 : Bool) : Option (GOut × Gsite_node) :=
 bif t45 then
  (L_event_Teller_Alone N (Gevent_Teller.mk b0_7 b0_8 b0_9) 8 (GFlow.mk 0 0 0 0 0)).bind fun v1 =>
  some (v1, (Gsite_node.mk (GNode.mk b0_0 (GConfig.mk b0_1 b0_2) b0_3 b0_4 b0_5 b0_6) (Gevent_Teller.mk b0_7 b0_8 b0_9) b0_10))
 else
  (L_view_Take N b0_4 (GReport.mk b140_0 b140_1 b140_2 b140_3) b0_10).bind fun v1 =>
  bif (!v1.2.1) then
   some ((GOut.mk ([]) ([])), (Gsite_node.mk (GNode.mk b0_0 (GConfig.mk b0_1 b0_2) b0_3 b0_4 b0_5 b0_6) (Gevent_Teller.mk b0_7 b0_8 b0_9) b0_10))
  else
   (L_event_Teller_Tell N (Gevent_Teller.mk b0_7 b0_8 b0_9) 13 b140_0 (GFlow.mk 0 0 0 0 0)).bind fun v2 =>
   some ((GOut.mk ([]) ([v2])), (Gsite_node.mk (GNode.mk b0_0 (GConfig.mk b0_1 b0_2) b0_3 v1.1 b0_5 b0_6) (Gevent_Teller.mk b0_7 b0_8 b0_9) b0_10))
def L_site_node_told (N : Nat) (x0 : Gsite_node) (x1 : GOuter) : Option (GOut × Gsite_node) :=
 (L_report_Get N x1.Body).bind fun v1 =>
 (L_addr_Address N 1 v1.1.Site 0).bind fun v2 =>
 bif (v1.2 != 0) then
  L_site_node_told_1 N x0.Node.Id x0.Node.Config.Version x0.Node.Config.Sites x0.Node.Health x0.Node.Seen x0.Node.Flows x0.Node.Serial x0.Teller.Role x0.Teller.Site x0.Teller.Node x0.now_ v1.1.Site v1.1.Serial v1.1.Load v1.1.Cap true
 else
  bif (x1.Src != v2.1) then
   L_site_node_told_1 N x0.Node.Id x0.Node.Config.Version x0.Node.Config.Sites x0.Node.Health x0.Node.Seen x0.Node.Flows x0.Node.Serial x0.Teller.Role x0.Teller.Site x0.Teller.Node x0.now_ v1.1.Site v1.1.Serial v1.1.Load v1.1.Cap true
  else
   L_site_node_told_1 N x0.Node.Id x0.Node.Config.Version x0.Node.Config.Sites x0.Node.Health x0.Node.Seen x0.Node.Flows x0.Node.Serial x0.Teller.Role x0.Teller.Site x0.Teller.Node x0.now_ v1.1.Site v1.1.Serial v1.1.Load v1.1.Cap (v1.1.Site == x0.Node.Id)
def d160 (r : GOut × Gsite_node) : D := .agg [sS true eStr r.1.Sent, sS true eEvent r.1.Events]
def h160 (r : GOut × Gsite_node) : List (Nat × Option Blk) := [qB 0 [iI r.2.Node.Id, iI r.2.Node.Config.Version, sS true (eSite true) r.2.Node.Config.Sites, sS true eHealth r.2.Node.Health, sS true eSeen r.2.Node.Seen, sS true eEntry r.2.Node.Flows, iI r.2.Node.Serial, iI r.2.Teller.Role, iI r.2.Teller.Site, iI r.2.Teller.Node, iI r.2.now_]]
theorem g160_1 {N} (gx1 : Bool) {r C0} (z : Z Tryz.prog ty 160 Tryz.f160 (Fi [(0, ⟨false, 0, C0⟩)] (d160 r) (h160 r))) {b0_0 b0_1 b0_2 b0_3 b0_4 b0_5 b0_6 b0_7 b0_8 b0_9 b0_10 b140_0 b140_1 b140_2 b140_3 t45} (h : L_site_node_told_1 N b0_0 b0_1 b0_2 b0_3 b0_4 b0_5 b0_6 b0_7 b0_8 b0_9 b0_10 b140_0 b140_1 b140_2 b140_3 t45 = some r) : z.G [.c 55, .c 31] [(0, .ptr 0 0), (4, .ptr 132 0), (5, .ptr 140 0), (45, .bool t45)] [qB 0 [iI b0_0, iI b0_1, sS true (eSite true) b0_2, sS true eHealth b0_3, sS true eSeen b0_4, sS true eEntry b0_5, iI b0_6, iI b0_7, iI b0_8, iI b0_9, iI b0_10], qB 132 [.nils, .nils], qB 140 [iI b140_0, iI b140_1, iI b140_2, iI b140_3]] :=
 by
  cases t45 with
  | true => exact brT h fun h => (
   bd h fun v1 h1 h =>
   z.rb [(4, [(5, oR (d62 v1))])] 3 [] (.agg [sS true eStr v1.Sent, sS true eEvent v1.Events]) (o1 (c62 h1)) h (Le.of (by kernel_rfl)))
  | false => exact brF h fun h => (
   bd h fun v1 h1 h =>
   z.s [(5, [(10, oR (d204 v1))])] 6 (o1 (c204 true h1)) <|
   br h (fun h2 h =>
    z.rb [(6, [(1, oT)])] 4 [] (.agg [.nils, .nils]) (o1 (Le.tt h2)) h (Le.ofEq (Le.agg ((.cons (Le.nils (g := true)) (.cons (Le.nils (g := true)) .nil)))) (by kernel_rfl))) fun h2 h =>
   bd h fun v2 h3 h =>
   z.rb [(6, [(1, oF)]), (9, [(7, oR (d128 v2)), (9, { frz := true })])] 7 [] (.agg [.nils, .sl true (eL eEvent ([v2])) 1 1]) (o2 (Le.ff h2) (c128 h3)) h (Le.ofEq (Le.agg ((.cons (Le.nils (g := true)) (.cons (Le.sln (g := true) (cs := (eL eEvent ([v2]))) (n := 1) (c := 1) (k := ([v2]).length) (by first | rfl | omega | simp) (by first | rfl | omega | simp)) .nil)))) (by kernel_rfl)))
theorem c160 {N} (gx1 : Bool) {x0 x1 r} (h : L_site_node_told N x0 x1 = some r) : Con Tryz.prog 160 [.ptr 0 0, .ip gx1 [iI x1.Src, iI x1.Dst, iI x1.Tier, iI x1.Marker, iI x1.Origin, .str x1.Body]] [(0, ⟨false, 0, [iI x0.Node.Id, iI x0.Node.Config.Version, sS true (eSite true) x0.Node.Config.Sites, sS true eHealth x0.Node.Health, sS true eSeen x0.Node.Seen, sS true eEntry x0.Node.Flows, iI x0.Node.Serial, iI x0.Teller.Role, iI x0.Teller.Site, iI x0.Teller.Node, iI x0.now_]⟩)] (d160 r) (h160 r) :=
 ci ok mix Tryz.f160 fun z =>
 bd h fun v1 h0 h =>
 bd h fun v2 h1 h =>
 z.s [(1, [(4, oR (d203 v1))]), (2, [(2, oR (d65 v2))])] 8 (o2 (c203 h0) (c65 h1)) <|
 br h (fun h2 h =>
  z.j [(3, [(2, oT)])] 1 [0, 4, 5, 45] [(0, 0), (132, 132), (140, 140)] (o1 (Le.tt h2)) (g160_1 gx1 z h)) fun h2 h =>
 br h (fun h3 h =>
  z.j [(3, [(2, oF), (10, oT)])] 1 [0, 4, 5, 45] [(0, 0), (132, 132), (140, 140)] (o2 (Le.ff h2) (Le.tt h3)) (g160_1 gx1 z h)) fun h3 h =>
 z.j [(3, [(2, oF), (10, oF)])] 1 [0, 4, 5, 45] [(0, 0), (132, 132), (140, 140)] (o2 (Le.ff h2) (Le.ff h3)) (g160_1 gx1 z h)
def L_site_plain_1 (N : Nat) (t2 : Bool) : Option (Bool) :=
 some t2
def L_site_plain (N : Nat) (x0 : GOuter) : Option (Bool) :=
 (L_addr_Whose N x0.Src).bind fun v1 =>
 bif (x0.Tier == 1) then
  bif (x0.Marker == 0) then
   bif (x0.Origin == 0) then
    bif v1.2.2.2 then
     L_site_plain_1 N (v1.1 == 0)
    else
     L_site_plain_1 N false
   else
    L_site_plain_1 N false
  else
   L_site_plain_1 N false
 else
  L_site_plain_1 N false
def d205 (r : Bool) : D := .bool r
theorem g205_1 {N} (gx0 : Bool) {r} (z : Z Tryz.prog ty 205 Tryz.f205 (Fi [] (d205 r) [])) {t2} (h : L_site_plain_1 N t2 = some r) : z.G [.c 15] [(2, .bool t2)] [] :=
 z.r [] 0 o0 h
theorem c205 {N} (gx0 : Bool) {x0 r} (h : L_site_plain N x0 = some r) : Con Tryz.prog 205 [.ip gx0 [iI x0.Src, iI x0.Dst, iI x0.Tier, iI x0.Marker, iI x0.Origin, .str x0.Body]] [] (d205 r) [] :=
 ci ok mix Tryz.f205 fun z =>
 bd h fun v1 h0 h =>
 z.s [(1, [(4, oR (d206 v1))])] 5 (o1 (c206 h0)) <|
 br h (fun h1 h =>
  br h (fun h2 h =>
   br h (fun h3 h =>
    br h (fun h4 h =>
     z.j [(2, [(5, oT), (12, oT), (19, oT), (22, oT)])] 1 [2] [] (o4 (Le.tt h1) (Le.tt h2) (Le.tt h3) (Le.tt h4)) (g205_1 gx0 z h)) fun h4 h =>
    z.j [(2, [(5, oT), (12, oT), (19, oT), (22, oF)])] 1 [2] [] (o4 (Le.tt h1) (Le.tt h2) (Le.tt h3) (Le.ff h4)) (g205_1 gx0 z h)) fun h3 h =>
   z.j [(2, [(5, oT), (12, oT), (19, oF)])] 1 [2] [] (o3 (Le.tt h1) (Le.tt h2) (Le.ff h3)) (g205_1 gx0 z h)) fun h2 h =>
  z.j [(2, [(5, oT), (12, oF)])] 1 [2] [] (o2 (Le.tt h1) (Le.ff h2)) (g205_1 gx0 z h)) fun h1 h =>
 z.j [(2, [(5, oF)])] 1 [2] [] (o1 (Le.ff h1)) (g205_1 gx0 z h)
def L_site_node_inside_2 (N : Nat) (t4 : ByteArray) (t5 : Bool) : Option (ByteArray × Bool) :=
 some (t4, t5)
def L_site_node_inside_1 (N : Nat) (t1 : GOuter) (t63 : Bool) : Option (ByteArray × Bool) :=
 bif t63 then
  some (ByteArray.empty, false)
 else
  (L_gue_Pop N t1.Body).bind fun v1 =>
  bif (v1.2 == 0) then
   (L_site_plain N v1.1).bind fun v2 =>
   bif v2 then
    L_site_node_inside_2 N v1.1.Body (v1.1.Dst == t1.Src)
   else
    L_site_node_inside_2 N v1.1.Body false
  else
   L_site_node_inside_2 N v1.1.Body false
def L_site_node_inside (N : Nat) (x0 : Gsite_node) (x1 : GOuter) : Option (ByteArray × Bool) :=
 bif (x1.Tier != 2) then
  (L_site_plain N x1).bind fun v1 =>
  some (x1.Body, v1)
 else
  (L_addr_Whose N x1.Src).bind fun v1 =>
  bif (!v1.2.2.2) then
   L_site_node_inside_1 N x1 true
  else
   bif (v1.1 != 1) then
    L_site_node_inside_1 N x1 true
   else
    bif (v1.2.1 == x0.Node.Id) then
     L_site_node_inside_1 N x1 true
    else
     bif (x1.Marker != 1) then
      L_site_node_inside_1 N x1 true
     else
      L_site_node_inside_1 N x1 (x1.Origin != (IntKind.i64.wrap (v1.2.1 + 1)))
def d161 (r : ByteArray × Bool) : D := .tup [.str r.1, .bool r.2]
theorem g161_2 {N} (gx0 gx1 : Bool) {r} (z : Z Tryz.prog ty 161 Tryz.f161 (Fi [] (d161 r) [])) {t4 t5} (h : L_site_node_inside_2 N t4 t5 = some r) : z.G [.c 127] [(4, .str t4), (5, .bool t5)] [] :=
 z.r [] 0 o0 h
theorem g161_1 {N} (gx0 gx1 : Bool) {r} (z : Z Tryz.prog ty 161 Tryz.f161 (Fi [] (d161 r) [])) {t1 t63} (h : L_site_node_inside_1 N t1 t63 = some r) : z.G [.c 55, .c 31] [(1, .ip gx1 [iI t1.Src, iI t1.Dst, iI t1.Tier, iI t1.Marker, iI t1.Origin, .str t1.Body]), (63, .bool t63)] [] :=
 by
  cases t63 with
  | true => exact brT h fun h => (
   z.r [] 3 o0 h)
  | false => exact brF h fun h => (
   bd h fun v1 h1 h =>
   z.s [(6, [(4, oR (d159 v1))])] 5 (o1 (c159 h1)) <|
   br h (fun h2 h =>
    bd h fun v2 h3 h =>
    br h (fun h4 h =>
     z.j [(7, [(4, oT), (5, oR (d205 v2)), (7, oT)])] 1 [4, 5] [] (o3 (Le.tt h2) (c205 false h3) (Le.tt h4)) (g161_2 gx0 gx1 z h)) fun h4 h =>
    z.j [(7, [(4, oT), (5, oR (d205 v2)), (7, oF)])] 1 [4, 5] [] (o3 (Le.tt h2) (c205 false h3) (Le.ff h4)) (g161_2 gx0 gx1 z h)) fun h2 h =>
   z.j [(7, [(4, oF)])] 1 [4, 5] [] (o1 (Le.ff h2)) (g161_2 gx0 gx1 z h))
theorem c161 {N} (gx0 gx1 : Bool) {x0 x1 r} (h : L_site_node_inside N x0 x1 = some r) : Con Tryz.prog 161 [.ip gx0 [iI x0.Node.Id, iI x0.Node.Config.Version, sS true (eSite true) x0.Node.Config.Sites, sS true eHealth x0.Node.Health, sS true eSeen x0.Node.Seen, sS true eEntry x0.Node.Flows, iI x0.Node.Serial, iI x0.Teller.Role, iI x0.Teller.Site, iI x0.Teller.Node, iI x0.now_], .ip gx1 [iI x1.Src, iI x1.Dst, iI x1.Tier, iI x1.Marker, iI x1.Origin, .str x1.Body]] [] (d161 r) [] :=
 ci ok mix Tryz.f161 fun z =>
 br h (fun h0 h =>
  bd h fun v1 h1 h =>
  z.r [(1, [(4, oT)]), (2, [(5, oR (d205 v1))])] 8 (o2 (Le.tt h0) (c205 gx1 h1)) h) fun h0 h =>
 bd h fun v1 h1 h =>
 z.s [(1, [(4, oF)]), (3, [(4, oR (d206 v1))])] 11 (o2 (Le.ff h0) (c206 h1)) <|
 br h (fun h2 h =>
  z.j [(4, [(2, oT)])] 1 [1, 63] [] (o1 (Le.tt h2)) (g161_1 gx0 gx1 z h)) fun h2 h =>
 br h (fun h3 h =>
  z.j [(4, [(2, oF), (6, oT)])] 1 [1, 63] [] (o2 (Le.ff h2) (Le.tt h3)) (g161_1 gx0 gx1 z h)) fun h3 h =>
 br h (fun h4 h =>
  z.j [(4, [(2, oF), (6, oF), (15, oT)])] 1 [1, 63] [] (o3 (Le.ff h2) (Le.ff h3) (Le.tt h4)) (g161_1 gx0 gx1 z h)) fun h4 h =>
 br h (fun h5 h =>
  z.j [(4, [(2, oF), (6, oF), (15, oF), (22, oT)])] 1 [1, 63] [] (o4 (Le.ff h2) (Le.ff h3) (Le.ff h4) (Le.tt h5)) (g161_1 gx0 gx1 z h)) fun h5 h =>
 z.j [(4, [(2, oF), (6, oF), (15, oF), (22, oF)])] 1 [1, 63] [] (o4 (Le.ff h2) (Le.ff h3) (Le.ff h4) (Le.ff h5)) (g161_1 gx0 gx1 z h)
def L_ip_words_3 (N : Nat) (t2 : Int) (t3 : Bool) : Option (Int × Bool) :=
 some (t2, t3)
def L_ip_words_2 (N : Nat) (t0 : ByteArray) (t4 : Int) (t31 : Bool) : Option (Int × Bool) :=
 bif t31 then
  some (0, false)
 else
  if 0 ≤ (4 : Int) ∧ (4 : Int) ≤ (t0.size : Int) ∧ 0 ≤ (2 : Int) ∧ (2 : Int) ≤ (4 : Int) then
  (L_ip_Number N (t0.extract 2 4)).bind fun v1 =>
  bif (v1 == (t0.size : Int)) then
   if 0 ≤ (IntKind.i64.wrap ((4 : Int) * t4)) ∧ (IntKind.i64.wrap ((4 : Int) * t4)) ≤ (t0.size : Int) ∧ 0 ≤ (0 : Int) ∧ (0 : Int) ≤ (IntKind.i64.wrap ((4 : Int) * t4)) then
   via ((t0.extract 0 (IntKind.i64.wrap ((4 : Int) * t4)).toNat) : ByteArray) fun v2 =>
   (L_sum_Sum N v2).bind fun v3 =>
   L_ip_words_3 N t4 (v3 == 65535)
   else none
  else
   L_ip_words_3 N t4 false
  else none
def L_ip_words_1 (N : Nat) (t0 : ByteArray) (t12 : Bool) : Option (Int × Bool) :=
 bif t12 then
  some (0, false)
 else
  if 0 ≤ (0 : Int) ∧ (0 : Int) < (t0.size : Int) then
  if 0 ≤ (0 : Int) ∧ (0 : Int) < (t0.size : Int) then
  bif (((bt t0 0).fdiv (2 ^ 4)) != 4) then
   L_ip_words_2 N t0 (IntKind.i64.wrap (bAnd .u8 (bt t0 0) 15)) true
  else
   bif (decide ((IntKind.i64.wrap (bAnd .u8 (bt t0 0) 15)) < 5)) then
    L_ip_words_2 N t0 (IntKind.i64.wrap (bAnd .u8 (bt t0 0) 15)) true
   else
    via ((IntKind.i64.wrap ((4 : Int) * (IntKind.i64.wrap (bAnd .u8 (bt t0 0) 15)))) : Int) fun v1 =>
    L_ip_words_2 N t0 (IntKind.i64.wrap (bAnd .u8 (bt t0 0) 15)) (decide (v1 > (t0.size : Int)))
  else none
  else none
def L_ip_words (N : Nat) (x0 : ByteArray) : Option (Int × Bool) :=
 bif (decide ((x0.size : Int) < 20)) then
  L_ip_words_1 N x0 true
 else
  L_ip_words_1 N x0 (decide ((x0.size : Int) > 512))
def d173 (r : Int × Bool) : D := .tup [iI r.1, .bool r.2]
theorem g173_3 {N} {r} (z : Z Tryz.prog ty 173 Tryz.f173 (Fi [] (d173 r) [])) {t2 t3} (h : L_ip_words_3 N t2 t3 = some r) : z.G [.c 63] [(2, iI t2), (3, .bool t3)] [] :=
 z.r [] 0 o0 h
theorem g173_2 {N} {r} (z : Z Tryz.prog ty 173 Tryz.f173 (Fi [] (d173 r) [])) {t0 t4 t31} (h : L_ip_words_2 N t0 t4 t31 = some r) : z.G [.c 55, .c 31] [(0, .str t0), (4, iI t4), (31, .bool t31)] [] :=
 by
  cases t31 with
  | true => exact brT h fun h => (
   z.r [] 3 o0 h)
  | false => exact brF h fun h => (
   ck h fun h1 h =>
   bd h fun v1 h2 h =>
   br h (fun h3 h =>
    ck h fun h4 h =>
    vi h fun v2 h5 h =>
    bd h fun v3 h6 h =>
    z.j [(6, [(3, oR (d174 v1)), (7, oT), (11, oC (.str v2)), (12, oR (d213 v3))])] 4 [2, 3] [] (o5 h1 (c174 h2) (Le.tt h3) h4 (o2 (Le.str h5) (c213 h6))) (g173_3 z h)) fun h3 h =>
   z.j [(6, [(3, oR (d174 v1)), (7, oF)])] 4 [2, 3] [] (o3 h1 (c174 h2) (Le.ff h3)) (g173_3 z h))
theorem g173_1 {N} {r} (z : Z Tryz.prog ty 173 Tryz.f173 (Fi [] (d173 r) [])) {t0 t12} (h : L_ip_words_1 N t0 t12 = some r) : z.G [.c 13, .c 7] [(0, .str t0), (12, .bool t12)] [] :=
 by
  cases t12 with
  | true => exact brT h fun h => (
   z.r [] 3 o0 h)
  | false => exact brF h fun h => (
   ck h fun h1 h =>
   ck h fun h2 h =>
   z.s [] 6 (o1 h1) <|
   br h (fun h3 h =>
    z.j [(4, [(4, oT)])] 1 [0, 4, 31] [] (o3 h2 (by decide : (0:Int) ≤ 4) (Le.tt h3)) (g173_2 z h)) fun h3 h =>
   br h (fun h4 h =>
    z.j [(4, [(4, oF), (8, oT)])] 1 [0, 4, 31] [] (o4 h2 (by decide : (0:Int) ≤ 4) (Le.ff h3) (Le.tt h4)) (g173_2 z h)) fun h4 h =>
   vi h fun v1 h5 h =>
   z.j [(4, [(4, oF), (8, oF), (10, oC (.int .i64 v1))])] 1 [0, 4, 31] [] (o5 h2 (by decide : (0:Int) ≤ 4) (Le.ff h3) (Le.ff h4) (o1 (Le.int (k := .i64) h5))) (g173_2 z h))
theorem c173 {N} {x0 r} (h : L_ip_words N x0 = some r) : Con Tryz.prog 173 [.str x0] [] (d173 r) [] :=
 ci ok mix Tryz.f173 fun z =>
 br h (fun h0 h =>
  z.j [(1, [(3, oT)])] 5 [0, 12] [] (o1 (Le.tt h0)) (g173_1 z h)) fun h0 h =>
 z.j [(1, [(3, oF)])] 5 [0, 12] [] (o1 (Le.ff h0)) (g173_1 z h)
def L_ip_Get (N : Nat) (x0 : ByteArray) : Option (GIp × Int × Int) :=
 (L_ip_words N x0).bind fun v1 =>
 bif (!v1.2) then
  some ((GIp.mk 0 0 0 0 0 ByteArray.empty), 1, 200)
 else
  bif (decide (v1.1 > 5)) then
   some ((GIp.mk 0 0 0 0 0 ByteArray.empty), 3, 0)
  else
   if 0 ≤ (8 : Int) ∧ (8 : Int) ≤ (x0.size : Int) ∧ 0 ≤ (6 : Int) ∧ (6 : Int) ≤ (8 : Int) then
   (L_ip_Number N (x0.extract 6 8)).bind fun v2 =>
   bif ((bAndNot .i64 v2 16384) != 0) then
    some ((GIp.mk 0 0 0 0 0 ByteArray.empty), 2, 0)
   else
    if 0 ≤ (16 : Int) ∧ (16 : Int) ≤ (x0.size : Int) ∧ 0 ≤ (12 : Int) ∧ (12 : Int) ≤ (16 : Int) then
    (L_ip_Number N (x0.extract 12 16)).bind fun v3 =>
    if 0 ≤ (20 : Int) ∧ (20 : Int) ≤ (x0.size : Int) ∧ 0 ≤ (16 : Int) ∧ (16 : Int) ≤ (20 : Int) then
    (L_ip_Number N (x0.extract 16 20)).bind fun v4 =>
    if 0 ≤ (9 : Int) ∧ (9 : Int) < (x0.size : Int) then
    if 0 ≤ (8 : Int) ∧ (8 : Int) < (x0.size : Int) then
    if 0 ≤ (6 : Int) ∧ (6 : Int) ≤ (x0.size : Int) ∧ 0 ≤ (4 : Int) ∧ (4 : Int) ≤ (6 : Int) then
    (L_ip_Number N (x0.extract 4 6)).bind fun v5 =>
    if 0 ≤ (x0.size : Int) ∧ (x0.size : Int) ≤ (x0.size : Int) ∧ 0 ≤ (20 : Int) ∧ (20 : Int) ≤ (x0.size : Int) then
    some ((GIp.mk v3 v4 (IntKind.i64.wrap (bt x0 9)) (IntKind.i64.wrap (bt x0 8)) v5 (x0.extract 20 x0.size)), 0, 0)
    else none
    else none
    else none
    else none
    else none
    else none
   else none
def d125 (r : GIp × Int × Int) : D := .tup [.agg [iI r.1.Src, iI r.1.Dst, iI r.1.Proto, iI r.1.Ttl, iI r.1.Id, .str r.1.Body], iI r.2.1, iI r.2.2]
theorem c125 {N} {x0 r} (h : L_ip_Get N x0 = some r) : Con Tryz.prog 125 [.str x0] [] (d125 r) [] :=
 ci ok mix Tryz.f125 fun z =>
 bd h fun v1 h0 h =>
 z.s [(1, [(1, oR (d173 v1))])] 7 (o1 (c173 h0)) <|
 br h (fun h1 h =>
  z.r [(2, [(2, oT)])] 4 (o1 (Le.tt h1)) h) fun h1 h =>
 z.s [(2, [(2, oF)])] 3 (o1 (Le.ff h1)) <|
 br h (fun h2 h =>
  z.r [(4, [(2, oT)])] 4 (o1 (Le.tt h2)) h) fun h2 h =>
 ck h fun h3 h =>
 bd h fun v2 h4 h =>
 z.s [(4, [(2, oF)])] 3 (o1 (Le.ff h2)) <|
 br h (fun h5 h =>
  z.r [(6, [(2, oR (d174 v2)), (5, oT)])] 4 (o3 h3 (c174 h4) (Le.tt h5)) h) fun h5 h =>
 ck h fun h6 h =>
 bd h fun v3 h7 h =>
 ck h fun h8 h =>
 bd h fun v4 h9 h =>
 ck h fun h10 h =>
 ck h fun h11 h =>
 ck h fun h12 h =>
 bd h fun v5 h13 h =>
 ck h fun h14 h =>
 z.r [(6, [(2, oR (d174 v2)), (5, oF)]), (8, [(2, oR (d174 v3)), (5, oR (d174 v4)), (14, oR (d174 v5))])] 6 (o5 h3 (c174 h4) (Le.ff h5) h6 (o5 (c174 h7) h8 (c174 h9) h10 (o4 h11 h12 (c174 h13) h14))) h
def L_seg_tcp_1 (N : Nat) (t0 : ByteArray) (b116_0 b116_1 b116_2 b116_3 b116_4 b116_5 : Int) (b116_6 : ByteArray) (t11 : Bool) : Option (GSeg × Bool) :=
 bif t11 then
  some ((GSeg.mk 0 0 0 0 0 0 ByteArray.empty), false)
 else
  if 0 ≤ (2 : Int) ∧ (2 : Int) ≤ (t0.size : Int) ∧ 0 ≤ (0 : Int) ∧ (0 : Int) ≤ (2 : Int) then
  (L_ip_Number N (t0.extract 0 2)).bind fun v1 =>
  if 0 ≤ (4 : Int) ∧ (4 : Int) ≤ (t0.size : Int) ∧ 0 ≤ (2 : Int) ∧ (2 : Int) ≤ (4 : Int) then
  (L_ip_Number N (t0.extract 2 4)).bind fun v2 =>
  if 0 ≤ (8 : Int) ∧ (8 : Int) ≤ (t0.size : Int) ∧ 0 ≤ (4 : Int) ∧ (4 : Int) ≤ (8 : Int) then
  (L_ip_Number N (t0.extract 4 8)).bind fun v3 =>
  if 0 ≤ (12 : Int) ∧ (12 : Int) ≤ (t0.size : Int) ∧ 0 ≤ (8 : Int) ∧ (8 : Int) ≤ (12 : Int) then
  (L_ip_Number N (t0.extract 8 12)).bind fun v4 =>
  if 0 ≤ (13 : Int) ∧ (13 : Int) < (t0.size : Int) then
  if 0 ≤ (t0.size : Int) ∧ (t0.size : Int) ≤ (t0.size : Int) ∧ 0 ≤ (20 : Int) ∧ (20 : Int) ≤ (t0.size : Int) then
  some ((GSeg.mk 6 v1 v2 v3 v4 (IntKind.i64.wrap (bt t0 13)) (t0.extract 20 t0.size)), true)
  else none
  else none
  else none
  else none
  else none
  else none
def L_seg_tcp (N : Nat) (x0 : ByteArray) : Option (GSeg × Bool) :=
 bif (decide ((x0.size : Int) < 20)) then
  L_seg_tcp_1 N x0 0 0 0 0 0 0 ByteArray.empty true
 else
  if 0 ≤ (12 : Int) ∧ (12 : Int) < (x0.size : Int) then
  L_seg_tcp_1 N x0 0 0 0 0 0 0 ByteArray.empty ((bt x0 12) != 80)
  else none
def d175 (r : GSeg × Bool) : D := .tup [.agg [iI r.1.Proto, iI r.1.Sport, iI r.1.Dport, iI r.1.Seq, iI r.1.Ack, iI r.1.Flags, .str r.1.Body], .bool r.2]
theorem g175_1 {N} {r} (z : Z Tryz.prog ty 175 Tryz.f175 (Fi [] (d175 r) [])) {t0 b116_0 b116_1 b116_2 b116_3 b116_4 b116_5 b116_6 t11} (h : L_seg_tcp_1 N t0 b116_0 b116_1 b116_2 b116_3 b116_4 b116_5 b116_6 t11 = some r) : z.G [.c 13, .c 7] [(0, .str t0), (2, .ptr 116 0), (11, .bool t11)] [qB 116 [iI b116_0, iI b116_1, iI b116_2, iI b116_3, iI b116_4, iI b116_5, .str b116_6]] :=
 by
  cases t11 with
  | true => exact brT h fun h => (
   z.r [] 3 o0 h)
  | false => exact brF h fun h => (
   ck h fun h1 h =>
   bd h fun v1 h2 h =>
   ck h fun h3 h =>
   bd h fun v2 h4 h =>
   ck h fun h5 h =>
   bd h fun v3 h6 h =>
   ck h fun h7 h =>
   bd h fun v4 h8 h =>
   ck h fun h9 h =>
   ck h fun h10 h =>
   z.r [(3, [(2, oR (d174 v1)), (5, oR (d174 v2)), (8, oR (d174 v3)), (11, oR (d174 v4))])] 4 (o5 h1 (c174 h2) h3 (c174 h4) (o5 h5 (c174 h6) h7 (c174 h8) (o2 h9 h10))) h)
theorem c175 {N} {x0 r} (h : L_seg_tcp N x0 = some r) : Con Tryz.prog 175 [.str x0] [] (d175 r) [] :=
 ci ok mix Tryz.f175 fun z =>
 br h (fun h0 h =>
  z.j [(1, [(3, oT)])] 5 [0, 2, 11] [(116, 116)] (o1 (Le.tt h0)) (g175_1 z h)) fun h0 h =>
 ck h fun h1 h =>
 z.j [(1, [(3, oF)])] 5 [0, 2, 11] [(116, 116)] (o2 (Le.ff h0) h1) (g175_1 z h)
def L_seg_udp_1 (N : Nat) (t0 : ByteArray) (b116_0 b116_1 b116_2 b116_3 b116_4 b116_5 : Int) (b116_6 : ByteArray) (t14 : Bool) : Option (GSeg × Bool) :=
 bif t14 then
  some ((GSeg.mk 0 0 0 0 0 0 ByteArray.empty), false)
 else
  if 0 ≤ (2 : Int) ∧ (2 : Int) ≤ (t0.size : Int) ∧ 0 ≤ (0 : Int) ∧ (0 : Int) ≤ (2 : Int) then
  (L_ip_Number N (t0.extract 0 2)).bind fun v1 =>
  if 0 ≤ (4 : Int) ∧ (4 : Int) ≤ (t0.size : Int) ∧ 0 ≤ (2 : Int) ∧ (2 : Int) ≤ (4 : Int) then
  (L_ip_Number N (t0.extract 2 4)).bind fun v2 =>
  if 0 ≤ (t0.size : Int) ∧ (t0.size : Int) ≤ (t0.size : Int) ∧ 0 ≤ (8 : Int) ∧ (8 : Int) ≤ (t0.size : Int) then
  some ((GSeg.mk 17 v1 v2 0 0 0 (t0.extract 8 t0.size)), true)
  else none
  else none
  else none
def L_seg_udp (N : Nat) (x0 : ByteArray) : Option (GSeg × Bool) :=
 bif (decide ((x0.size : Int) < 8)) then
  L_seg_udp_1 N x0 0 0 0 0 0 0 ByteArray.empty true
 else
  if 0 ≤ (6 : Int) ∧ (6 : Int) ≤ (x0.size : Int) ∧ 0 ≤ (4 : Int) ∧ (4 : Int) ≤ (6 : Int) then
  (L_ip_Number N (x0.extract 4 6)).bind fun v1 =>
  L_seg_udp_1 N x0 0 0 0 0 0 0 ByteArray.empty (v1 != (x0.size : Int))
  else none
def d176 (r : GSeg × Bool) : D := .tup [.agg [iI r.1.Proto, iI r.1.Sport, iI r.1.Dport, iI r.1.Seq, iI r.1.Ack, iI r.1.Flags, .str r.1.Body], .bool r.2]
theorem g176_1 {N} {r} (z : Z Tryz.prog ty 176 Tryz.f176 (Fi [] (d176 r) [])) {t0 b116_0 b116_1 b116_2 b116_3 b116_4 b116_5 b116_6 t14} (h : L_seg_udp_1 N t0 b116_0 b116_1 b116_2 b116_3 b116_4 b116_5 b116_6 t14 = some r) : z.G [.c 13, .c 7] [(0, .str t0), (2, .ptr 116 0), (14, .bool t14)] [qB 116 [iI b116_0, iI b116_1, iI b116_2, iI b116_3, iI b116_4, iI b116_5, .str b116_6]] :=
 by
  cases t14 with
  | true => exact brT h fun h => (
   z.r [] 3 o0 h)
  | false => exact brF h fun h => (
   ck h fun h1 h =>
   bd h fun v1 h2 h =>
   ck h fun h3 h =>
   bd h fun v2 h4 h =>
   ck h fun h5 h =>
   z.r [(3, [(2, oR (d174 v1)), (5, oR (d174 v2))])] 4 (o5 h1 (c174 h2) h3 (c174 h4) (o1 h5)) h)
theorem c176 {N} {x0 r} (h : L_seg_udp N x0 = some r) : Con Tryz.prog 176 [.str x0] [] (d176 r) [] :=
 ci ok mix Tryz.f176 fun z =>
 br h (fun h0 h =>
  z.j [(1, [(3, oT)])] 5 [0, 2, 14] [(116, 116)] (o1 (Le.tt h0)) (g176_1 z h)) fun h0 h =>
 ck h fun h1 h =>
 bd h fun v1 h2 h =>
 z.j [(1, [(3, oF), (6, oR (d174 v1))])] 5 [0, 2, 14] [(116, 116)] (o3 (Le.ff h0) h1 (c174 h2)) (g176_1 z h)
def L_seg_May_2 (N : Nat) (t2 : Bool) : Option (Bool) :=
 some t2
def L_seg_May_3 (N : Nat) (t2 : Bool) : Option (Bool) :=
 some t2
def L_seg_May_1 (N : Nat) (b108_0 b108_1 b108_2 b108_3 b108_4 b108_5 : Int) (b108_6 : ByteArray) (t3 : Bool) : Option (Bool) :=
 bif (b108_0 == 6) then
  bif t3 then
   (L_ip_In N b108_3 32).bind fun v1 =>
   bif v1 then
    (L_ip_In N b108_4 32).bind fun v2 =>
    bif v2 then
     (L_ip_In N b108_5 6).bind fun v3 =>
     L_seg_May_2 N v3
    else
     L_seg_May_2 N false
   else
    L_seg_May_2 N false
  else
   L_seg_May_2 N false
 else
  bif (b108_0 == 17) then
   bif t3 then
    bif (b108_3 == 0) then
     bif (b108_4 == 0) then
      L_seg_May_3 N (b108_5 == 0)
     else
      L_seg_May_3 N false
    else
     L_seg_May_3 N false
   else
    L_seg_May_3 N false
  else
   some false
def L_seg_May (N : Nat) (x0 : GSeg) : Option (Bool) :=
 (L_ip_In N x0.Sport 16).bind fun v1 =>
 bif v1 then
  (L_ip_In N x0.Dport 16).bind fun v2 =>
  bif v2 then
   L_seg_May_1 N x0.Proto x0.Sport x0.Dport x0.Seq x0.Ack x0.Flags x0.Body (decide ((x0.Body.size : Int) ≤ 256))
  else
   L_seg_May_1 N x0.Proto x0.Sport x0.Dport x0.Seq x0.Ack x0.Flags x0.Body false
 else
  L_seg_May_1 N x0.Proto x0.Sport x0.Dport x0.Seq x0.Ack x0.Flags x0.Body false
def d177 (r : Bool) : D := .bool r
theorem g177_2 {N} {r} (z : Z Tryz.prog ty 177 Tryz.f177 (Fi [] (d177 r) [])) {t2} (h : L_seg_May_2 N t2 = some r) : z.G [.c 427, .b 0, .c 15] [(2, .bool t2)] [] :=
 z.r [] 0 o0 h
theorem g177_3 {N} {r} (z : Z Tryz.prog ty 177 Tryz.f177 (Fi [] (d177 r) [])) {t2} (h : L_seg_May_3 N t2 = some r) : z.G [.c 1771, .b 0, .c 15] [(2, .bool t2)] [] :=
 z.r [] 0 o0 h
theorem g177_1 {N} {r} (z : Z Tryz.prog ty 177 Tryz.f177 (Fi [] (d177 r) [])) {b108_0 b108_1 b108_2 b108_3 b108_4 b108_5 b108_6 t3} (h : L_seg_May_1 N b108_0 b108_1 b108_2 b108_3 b108_4 b108_5 b108_6 t3 = some r) : z.G [.c 7] [(1, .ptr 108 0), (3, .bool t3)] [qB 108 [iI b108_0, iI b108_1, iI b108_2, iI b108_3, iI b108_4, iI b108_5, .str b108_6]] :=
 br h (fun h0 h =>
  z.s [(3, [(1, oT)])] 8 (o1 (Le.tt h0)) <|
  br h (fun h1 h =>
   bd h fun v1 h2 h =>
   br h (fun h3 h =>
    bd h fun v2 h4 h =>
    br h (fun h5 h =>
     bd h fun v3 h6 h =>
     z.j [(4, [(1, oT), (4, oR (d198 v1)), (6, oT), (9, oR (d198 v2)), (11, oT), (14, oR (d198 v3))])] 1 [2] [] (o5 (Le.tt h1) (c198 h2) (Le.tt h3) (c198 h4) (o2 (Le.tt h5) (c198 h6))) (g177_2 z h)) fun h5 h =>
    z.j [(4, [(1, oT), (4, oR (d198 v1)), (6, oT), (9, oR (d198 v2)), (11, oF)])] 1 [2] [] (o5 (Le.tt h1) (c198 h2) (Le.tt h3) (c198 h4) (o1 (Le.ff h5))) (g177_2 z h)) fun h3 h =>
   z.j [(4, [(1, oT), (4, oR (d198 v1)), (6, oF)])] 1 [2] [] (o3 (Le.tt h1) (c198 h2) (Le.ff h3)) (g177_2 z h)) fun h1 h =>
  z.j [(4, [(1, oF)])] 1 [2] [] (o1 (Le.ff h1)) (g177_2 z h)) fun h0 h =>
 z.s [(3, [(1, oF)])] 8 (o1 (Le.ff h0)) <|
 br h (fun h1 h =>
  z.s [(5, [(1, oT)])] 3 (o1 (Le.tt h1)) <|
  br h (fun h2 h =>
   br h (fun h3 h =>
    br h (fun h4 h =>
     z.j [(6, [(1, oT), (6, oT), (11, oT)])] 1 [2] [] (o3 (Le.tt h2) (Le.tt h3) (Le.tt h4)) (g177_3 z h)) fun h4 h =>
    z.j [(6, [(1, oT), (6, oT), (11, oF)])] 1 [2] [] (o3 (Le.tt h2) (Le.tt h3) (Le.ff h4)) (g177_3 z h)) fun h3 h =>
   z.j [(6, [(1, oT), (6, oF)])] 1 [2] [] (o2 (Le.tt h2) (Le.ff h3)) (g177_3 z h)) fun h2 h =>
  z.j [(6, [(1, oF)])] 1 [2] [] (o1 (Le.ff h2)) (g177_3 z h)) fun h1 h =>
 z.r [(5, [(1, oF)])] 6 (o1 (Le.ff h1)) h
theorem c177 {N} {x0 r} (h : L_seg_May N x0 = some r) : Con Tryz.prog 177 [.agg [iI x0.Proto, iI x0.Sport, iI x0.Dport, iI x0.Seq, iI x0.Ack, iI x0.Flags, .str x0.Body]] [] (d177 r) [] :=
 ci ok mix Tryz.f177 fun z =>
 bd h fun v1 h0 h =>
 br h (fun h1 h =>
  bd h fun v2 h2 h =>
  br h (fun h3 h =>
   z.j [(1, [(2, oR (d198 v1)), (3, oT), (6, oR (d198 v2)), (8, oT)])] 4 [1, 3] [(108, 108)] (o4 (c198 h0) (Le.tt h1) (c198 h2) (Le.tt h3)) (g177_1 z h)) fun h3 h =>
  z.j [(1, [(2, oR (d198 v1)), (3, oT), (6, oR (d198 v2)), (8, oF)])] 4 [1, 3] [(108, 108)] (o4 (c198 h0) (Le.tt h1) (c198 h2) (Le.ff h3)) (g177_1 z h)) fun h1 h =>
 z.j [(1, [(2, oR (d198 v1)), (3, oF)])] 4 [1, 3] [(108, 108)] (o2 (c198 h0) (Le.ff h1)) (g177_1 z h)
def L_seg_ends_may_1 (N : Nat) (t2 : Bool) : Option (Bool) :=
 some t2
def L_seg_ends_may (N : Nat) (x0 : Gseg_ends) : Option (Bool) :=
 (L_ip_In N x0.src_ 32).bind fun v1 =>
 bif v1 then
  (L_ip_In N x0.dst_ 32).bind fun v2 =>
  L_seg_ends_may_1 N v2
 else
  L_seg_ends_may_1 N false
def d178 (r : Bool) : D := .bool r
theorem g178_1 {N} {r} (z : Z Tryz.prog ty 178 Tryz.f178 (Fi [] (d178 r) [])) {t2} (h : L_seg_ends_may_1 N t2 = some r) : z.G [.c 7] [(2, .bool t2)] [] :=
 z.r [] 0 o0 h
theorem c178 {N} {x0 r} (h : L_seg_ends_may N x0 = some r) : Con Tryz.prog 178 [.agg [iI x0.src_, iI x0.dst_]] [] (d178 r) [] :=
 ci ok mix Tryz.f178 fun z =>
 bd h fun v1 h0 h =>
 br h (fun h1 h =>
  bd h fun v2 h2 h =>
  z.j [(1, [(2, oR (d198 v1)), (3, oT), (6, oR (d198 v2))])] 4 [2] [] (o3 (c198 h0) (Le.tt h1) (c198 h2)) (g178_1 z h)) fun h1 h =>
 z.j [(1, [(2, oR (d198 v1)), (3, oF)])] 4 [2] [] (o2 (c198 h0) (Le.ff h1)) (g178_1 z h)
def L_seg_ends_sum (N : Nat) (x0 : Gseg_ends) (x1 : Int) (x2 : ByteArray) : Option (Int) :=
 (L_ip_Bytes N x0.src_ 4).bind fun v1 =>
 (L_ip_Bytes N x0.dst_ 4).bind fun v2 =>
 if ((v1.size + v2.size : Nat) : Int) ≤ 9223372036854775807 then
 (L_ip_Bytes N x1 2).bind fun v3 =>
 if (((v1 ++ v2).size + v3.size : Nat) : Int) ≤ 9223372036854775807 then
 (L_ip_Bytes N (x2.size : Int) 2).bind fun v4 =>
 if ((((v1 ++ v2) ++ v3).size + v4.size : Nat) : Int) ≤ 9223372036854775807 then
 if (((((v1 ++ v2) ++ v3) ++ v4).size + x2.size : Nat) : Int) ≤ 9223372036854775807 then
 (L_sum_Sum N ((((v1 ++ v2) ++ v3) ++ v4) ++ x2)).bind fun v5 =>
 some v5
 else none
 else none
 else none
 else none
def d179 (r : Int) : D := iI r
theorem c179 {N} {x0 x1 x2 r} (h : L_seg_ends_sum N x0 x1 x2 = some r) : Con Tryz.prog 179 [.agg [iI x0.src_, iI x0.dst_], iI x1, .str x2] [] (d179 r) [] :=
 ci ok mix Tryz.f179 fun z =>
 bd h fun v1 h0 h =>
 bd h fun v2 h1 h =>
 ck h fun h2 h =>
 bd h fun v3 h3 h =>
 ck h fun h4 h =>
 bd h fun v4 h5 h =>
 ck h fun h6 h =>
 ck h fun h7 h =>
 bd h fun v5 h8 h =>
 z.r [(1, [(2, oR (d185 v1)), (5, oR (d185 v2)), (8, oR (d185 v3)), (12, oR (d185 v4)), (16, oR (d213 v5))])] 4 (o5 (c185 h0) (c185 h1) h2 (c185 h3) (o5 h4 (c185 h5) h6 h7 (o1 (c213 h8)))) h
def L_seg_Get_2 (N : Nat) (b164_0 b164_1 b164_2 b164_3 b164_4 b164_5 : Int) (b164_6 : ByteArray) (b188_0 b188_1 b188_2 b188_3 b188_4 b188_5 : Int) (b188_6 : ByteArray) (t58 : Bool) : Option (GSeg × Int) :=
 bif t58 then
  some ((GSeg.mk 0 0 0 0 0 0 ByteArray.empty), 300)
 else
  some ((GSeg.mk b188_0 b188_1 b188_2 b188_3 b188_4 b188_5 b188_6), 0)
def L_seg_Get_1 (N : Nat) (t0 : Int) (t1 : ByteArray) (b164_0 b164_1 b164_2 b164_3 b164_4 b164_5 : Int) (b164_6 : ByteArray) (b180_0 b180_1 b188_0 b188_1 b188_2 b188_3 b188_4 b188_5 : Int) (b188_6 : ByteArray) (t12 t13 : Bool) : Option (GSeg × Int) :=
 bif (!t12) then
  L_seg_Get_2 N b164_0 b164_1 b164_2 b164_3 b164_4 b164_5 b164_6 b188_0 b188_1 b188_2 b188_3 b188_4 b188_5 b188_6 true
 else
  (L_seg_May N (GSeg.mk b188_0 b188_1 b188_2 b188_3 b188_4 b188_5 b188_6)).bind fun v1 =>
  bif (!v1) then
   L_seg_Get_2 N b164_0 b164_1 b164_2 b164_3 b164_4 b164_5 b164_6 b188_0 b188_1 b188_2 b188_3 b188_4 b188_5 b188_6 true
  else
   (L_seg_ends_may N (Gseg_ends.mk b180_0 b180_1)).bind fun v2 =>
   bif (!v2) then
    L_seg_Get_2 N b164_0 b164_1 b164_2 b164_3 b164_4 b164_5 b164_6 b188_0 b188_1 b188_2 b188_3 b188_4 b188_5 b188_6 true
   else
    bif (!t13) then
     (L_seg_ends_sum N (Gseg_ends.mk b180_0 b180_1) t0 t1).bind fun v3 =>
     L_seg_Get_2 N b164_0 b164_1 b164_2 b164_3 b164_4 b164_5 b164_6 b188_0 b188_1 b188_2 b188_3 b188_4 b188_5 b188_6 (v3 != 65535)
    else
     L_seg_Get_2 N b164_0 b164_1 b164_2 b164_3 b164_4 b164_5 b164_6 b188_0 b188_1 b188_2 b188_3 b188_4 b188_5 b188_6 false
def L_seg_Get (N : Nat) (x0 : Int) (x1 : ByteArray) (x2 x3 : Int) : Option (GSeg × Int) :=
 bif (x0 == 6) then
  (L_seg_tcp N x1).bind fun v1 =>
  L_seg_Get_1 N x0 x1 0 0 0 0 0 0 ByteArray.empty x2 x3 v1.1.Proto v1.1.Sport v1.1.Dport v1.1.Seq v1.1.Ack v1.1.Flags v1.1.Body v1.2 false
 else
  bif (x0 == 17) then
   (L_seg_udp N x1).bind fun v1 =>
   bif v1.2 then
    if 0 ≤ (8 : Int) ∧ (8 : Int) ≤ (x1.size : Int) ∧ 0 ≤ (6 : Int) ∧ (6 : Int) ≤ (8 : Int) then
    L_seg_Get_1 N x0 x1 0 0 0 0 0 0 ByteArray.empty x2 x3 v1.1.Proto v1.1.Sport v1.1.Dport v1.1.Seq v1.1.Ack v1.1.Flags v1.1.Body v1.2 ((x1.extract 6 8).toList == (ByteArray.mk #[0, 0]).toList)
    else none
   else
    L_seg_Get_1 N x0 x1 0 0 0 0 0 0 ByteArray.empty x2 x3 v1.1.Proto v1.1.Sport v1.1.Dport v1.1.Seq v1.1.Ack v1.1.Flags v1.1.Body v1.2 false
  else
   L_seg_Get_1 N x0 x1 0 0 0 0 0 0 ByteArray.empty x2 x3 0 0 0 0 0 0 ByteArray.empty false false
def d127 (r : GSeg × Int) : D := .tup [.agg [iI r.1.Proto, iI r.1.Sport, iI r.1.Dport, iI r.1.Seq, iI r.1.Ack, iI r.1.Flags, .str r.1.Body], iI r.2]
theorem g127_2 {N} {r} (z : Z Tryz.prog ty 127 Tryz.f127 (Fi [] (d127 r) [])) {b164_0 b164_1 b164_2 b164_3 b164_4 b164_5 b164_6 b188_0 b188_1 b188_2 b188_3 b188_4 b188_5 b188_6 t58} (h : L_seg_Get_2 N b164_0 b164_1 b164_2 b164_3 b164_4 b164_5 b164_6 b188_0 b188_1 b188_2 b188_3 b188_4 b188_5 b188_6 t58 = some r) : z.G [.c 223, .c 127] [(8, .ptr 164 0), (11, .ptr 188 0), (58, .bool t58)] [qB 164 [iI b164_0, iI b164_1, iI b164_2, iI b164_3, iI b164_4, iI b164_5, .str b164_6], qB 188 [iI b188_0, iI b188_1, iI b188_2, iI b188_3, iI b188_4, iI b188_5, .str b188_6]] :=
 by
  cases t58 with
  | true => exact brT h fun h => (
   z.r [] 3 o0 h)
  | false => exact brF h fun h => (
   z.r [] 4 o0 h)
theorem g127_1 {N} {r} (z : Z Tryz.prog ty 127 Tryz.f127 (Fi [] (d127 r) [])) {t0 t1 b164_0 b164_1 b164_2 b164_3 b164_4 b164_5 b164_6 b180_0 b180_1 b188_0 b188_1 b188_2 b188_3 b188_4 b188_5 b188_6 t12 t13} (h : L_seg_Get_1 N t0 t1 b164_0 b164_1 b164_2 b164_3 b164_4 b164_5 b164_6 b180_0 b180_1 b188_0 b188_1 b188_2 b188_3 b188_4 b188_5 b188_6 t12 t13 = some r) : z.G [.b 0, .c 63] [(0, iI t0), (1, .str t1), (8, .ptr 164 0), (10, .ptr 180 0), (11, .ptr 188 0), (12, .bool t12), (13, .bool t13)] [qB 164 [iI b164_0, iI b164_1, iI b164_2, iI b164_3, iI b164_4, iI b164_5, .str b164_6], qB 180 [iI b180_0, iI b180_1], qB 188 [iI b188_0, iI b188_1, iI b188_2, iI b188_3, iI b188_4, iI b188_5, .str b188_6]] :=
 br h (fun h0 h =>
  z.j [(11, [(2, oT)])] 4 [8, 11, 58] [(164, 164), (188, 188)] (o1 (Le.tt h0)) (g127_2 z h)) fun h0 h =>
 bd h fun v1 h1 h =>
 br h (fun h2 h =>
  z.j [(11, [(2, oF), (4, oR (d177 v1)), (7, oT)])] 4 [8, 11, 58] [(164, 164), (188, 188)] (o3 (Le.ff h0) (c177 h1) (Le.tt h2)) (g127_2 z h)) fun h2 h =>
 bd h fun v2 h3 h =>
 br h (fun h4 h =>
  z.j [(11, [(2, oF), (4, oR (d177 v1)), (7, oF), (9, oR (d178 v2)), (12, oT)])] 4 [8, 11, 58] [(164, 164), (188, 188)] (o5 (Le.ff h0) (c177 h1) (Le.ff h2) (c178 h3) (o1 (Le.tt h4))) (g127_2 z h)) fun h4 h =>
 br h (fun h5 h =>
  bd h fun v3 h6 h =>
  z.j [(11, [(2, oF), (4, oR (d177 v1)), (7, oF), (9, oR (d178 v2)), (12, oF), (15, oT), (19, oR (d179 v3))])] 4 [8, 11, 58] [(164, 164), (188, 188)] (o5 (Le.ff h0) (c177 h1) (Le.ff h2) (c178 h3) (o3 (Le.ff h4) (Le.tt h5) (c179 h6))) (g127_2 z h)) fun h5 h =>
 z.j [(11, [(2, oF), (4, oR (d177 v1)), (7, oF), (9, oR (d178 v2)), (12, oF), (15, oF)])] 4 [8, 11, 58] [(164, 164), (188, 188)] (o5 (Le.ff h0) (c177 h1) (Le.ff h2) (c178 h3) (o2 (Le.ff h4) (Le.ff h5))) (g127_2 z h)
theorem c127 {N} {x0 x1 x2 x3 r} (h : L_seg_Get N x0 x1 x2 x3 = some r) : Con Tryz.prog 127 [iI x0, .str x1, iI x2, iI x3] [] (d127 r) [] :=
 ci ok mix Tryz.f127 fun z =>
 br h (fun h0 h =>
  bd h fun v1 h1 h =>
  z.j [(5, [(1, oT)]), (6, [(1, oR (d175 v1))])] 16 [0, 1, 8, 10, 11, 12, 13] [(164, 164), (180, 180), (188, 188)] (o2 (Le.tt h0) (c175 h1)) (g127_1 z h)) fun h0 h =>
 z.s [(5, [(1, oF)])] 16 (o1 (Le.ff h0)) <|
 br h (fun h1 h =>
  bd h fun v1 h2 h =>
  z.s [(7, [(1, oT)]), (8, [(1, oR (d176 v1))])] 5 (o2 (Le.tt h1) (c176 h2)) <|
  br h (fun h3 h =>
   ck h fun h4 h =>
   z.j [(9, [(0, oT)])] 3 [0, 1, 8, 10, 11, 12, 13] [(164, 164), (180, 180), (188, 188)] (o2 (Le.tt h3) h4) (g127_1 z h)) fun h3 h =>
  z.j [(9, [(0, oF)])] 3 [0, 1, 8, 10, 11, 12, 13] [(164, 164), (180, 180), (188, 188)] (o1 (Le.ff h3)) (g127_1 z h)) fun h1 h =>
 z.j [(7, [(1, oF)])] 3 [0, 1, 8, 10, 11, 12, 13] [(164, 164), (180, 180), (188, 188)] (o1 (Le.ff h1)) (g127_1 z h)
def L_flow_Of_1 (N : Nat) (b116_0 b116_1 b116_2 b116_3 b116_4 b124_0 b124_1 b124_2 b124_3 b124_4 b124_5 : Int) (b124_6 : ByteArray) (b140_0 b140_1 b140_2 b140_3 b140_4 : Int) (b140_5 : ByteArray) (t22 : Bool) : Option (GFlow × GSeg × Int) :=
 bif t22 then
  some ((GFlow.mk 0 0 0 0 0), (GSeg.mk 0 0 0 0 0 0 ByteArray.empty), 3)
 else
  (L_seg_Get N b140_2 b140_5 b140_0 b140_1).bind fun v1 =>
  bif (v1.2 != 0) then
   some ((GFlow.mk 0 0 0 0 0), (GSeg.mk 0 0 0 0 0 0 ByteArray.empty), 1)
  else
   some ((GFlow.mk b140_0 b140_1 b140_2 v1.1.Sport v1.1.Dport), v1.1, 0)
def L_flow_Of (N : Nat) (x0 : ByteArray) : Option (GFlow × GSeg × Int) :=
 (L_ip_Get N x0).bind fun v1 =>
 bif (v1.2.1 != 0) then
  some ((GFlow.mk 0 0 0 0 0), (GSeg.mk 0 0 0 0 0 0 ByteArray.empty), v1.2.1)
 else
  (L_flow_handled N v1.1.Proto).bind fun v2 =>
  bif (!v2) then
   L_flow_Of_1 N 0 0 0 0 0 0 0 0 0 0 0 ByteArray.empty v1.1.Src v1.1.Dst v1.1.Proto v1.1.Ttl v1.1.Id v1.1.Body true
  else
   L_flow_Of_1 N 0 0 0 0 0 0 0 0 0 0 0 ByteArray.empty v1.1.Src v1.1.Dst v1.1.Proto v1.1.Ttl v1.1.Id v1.1.Body (v1.1.Dst != 167772161)
def d61 (r : GFlow × GSeg × Int) : D := .tup [.agg [iI r.1.Src, iI r.1.Dst, iI r.1.Proto, iI r.1.Sport, iI r.1.Dport], .agg [iI r.2.1.Proto, iI r.2.1.Sport, iI r.2.1.Dport, iI r.2.1.Seq, iI r.2.1.Ack, iI r.2.1.Flags, .str r.2.1.Body], iI r.2.2]
theorem g61_1 {N} {r} (z : Z Tryz.prog ty 61 Tryz.f61 (Fi [] (d61 r) [])) {b116_0 b116_1 b116_2 b116_3 b116_4 b124_0 b124_1 b124_2 b124_3 b124_4 b124_5 b124_6 b140_0 b140_1 b140_2 b140_3 b140_4 b140_5 t22} (h : L_flow_Of_1 N b116_0 b116_1 b116_2 b116_3 b116_4 b124_0 b124_1 b124_2 b124_3 b124_4 b124_5 b124_6 b140_0 b140_1 b140_2 b140_3 b140_4 b140_5 t22 = some r) : z.G [.c 243, .b 0, .c 15] [(2, .ptr 116 0), (3, .ptr 124 0), (5, .ptr 140 0), (22, .bool t22)] [qB 116 [iI b116_0, iI b116_1, iI b116_2, iI b116_3, iI b116_4], qB 124 [iI b124_0, iI b124_1, iI b124_2, iI b124_3, iI b124_4, iI b124_5, .str b124_6], qB 140 [iI b140_0, iI b140_1, iI b140_2, iI b140_3, iI b140_4, .str b140_5]] :=
 by
  cases t22 with
  | true => exact brT h fun h => (
   z.r [] 3 o0 h)
  | false => exact brF h fun h => (
   bd h fun v1 h1 h =>
   z.s [(6, [(8, oR (d127 v1))])] 7 (o1 (c127 h1)) <|
   br h (fun h2 h =>
    z.r [(7, [(1, oT)])] 4 (o1 (Le.tt h2)) h) fun h2 h =>
   z.r [(7, [(1, oF)])] 5 (o1 (Le.ff h2)) h)
theorem c61 {N} {x0 r} (h : L_flow_Of N x0 = some r) : Con Tryz.prog 61 [.str x0] [] (d61 r) [] :=
 ci ok mix Tryz.f61 fun z =>
 bd h fun v1 h0 h =>
 z.s [(1, [(1, oR (d125 v1))])] 7 (o1 (c125 h0)) <|
 br h (fun h1 h =>
  z.r [(2, [(2, oT)])] 4 (o1 (Le.tt h1)) h) fun h1 h =>
 bd h fun v2 h2 h =>
 z.s [(2, [(2, oF)])] 3 (o1 (Le.ff h1)) <|
 br h (fun h3 h =>
  z.j [(4, [(2, oR (d126 v2)), (4, oT)])] 1 [2, 3, 5, 22] [(116, 116), (124, 124), (140, 140)] (o2 (c126 h2) (Le.tt h3)) (g61_1 z h)) fun h3 h =>
 z.j [(4, [(2, oR (d126 v2)), (4, oF)])] 1 [2, 3, 5, 22] [(116, 116), (124, 124), (140, 140)] (o2 (c126 h2) (Le.ff h3)) (g61_1 z h)
def L_event_Of (N : Nat) (x0 : Int) : Option (Int) :=
 bif (x0 == 1) then
  some 2
 else
  bif (x0 == 2) then
   some 3
  else
   some 4
def d63 (r : Int) : D := iI r
theorem c63 {N} {x0 r} (h : L_event_Of N x0 = some r) : Con Tryz.prog 63 [iI x0] [] (d63 r) [] :=
 ci ok mix Tryz.f63 fun z =>
 br h (fun h0 h =>
  z.r [(2, [(1, oT)])] 11 (o1 (Le.tt h0)) h) fun h0 h =>
 z.s [(2, [(1, oF)])] 10 (o1 (Le.ff h0)) <|
 br h (fun h1 h =>
  z.r [(4, [(1, oT)])] 4 (o1 (Le.tt h1)) h) fun h1 h =>
 z.r [(4, [(1, oF)])] 6 (o1 (Le.ff h1)) h
def L_track_Limit (N : Nat) (x0 : Int) : Option (Int × Int) :=
 (L_track_May N x0).bind fun v1 =>
 bif (!v1) then
  some (0, 1400)
 else
  bif (x0 == 0) then
   some (40, 0)
  else
   some (6, 0)
def d214 (r : Int × Int) : D := .tup [iI r.1, iI r.2]
theorem c214 {N} {x0 r} (h : L_track_Limit N x0 = some r) : Con Tryz.prog 214 [iI x0] [] (d214 r) [] :=
 ci ok mix Tryz.f214 fun z =>
 bd h fun v1 h0 h =>
 br h (fun h1 h =>
  z.r [(1, [(1, oR (d199 v1)), (3, oT)])] 9 (o2 (c199 h0) (Le.tt h1)) h) fun h1 h =>
 z.s [(1, [(1, oR (d199 v1)), (3, oF)])] 8 (o2 (c199 h0) (Le.ff h1)) <|
 br h (fun h2 h =>
  z.r [(3, [(2, oT)])] 4 (o1 (Le.tt h2)) h) fun h2 h =>
 z.r [(3, [(2, oF)])] 6 (o1 (Le.ff h2)) h
def L_entry_Ran_1 (N : Nat) (t4 : Bool) : Option (Bool) :=
 some t4
def L_entry_Ran (N : Nat) (x0 : GEntry) (x1 : Int) : Option (Bool) :=
 (L_track_Limit N x0.Phase).bind fun v1 =>
 (L_entry_May N x0).bind fun v2 =>
 bif (!v2) then
  L_entry_Ran_1 N true
 else
  L_entry_Ran_1 N (decide (x1 ≥ (IntKind.i64.wrap (x0.Used + v1.1))))
def d180 (r : Bool) : D := .bool r
theorem g180_1 {N} {r} (z : Z Tryz.prog ty 180 Tryz.f180 (Fi [] (d180 r) [])) {t4} (h : L_entry_Ran_1 N t4 = some r) : z.G [.c 15] [(4, .bool t4)] [] :=
 z.r [] 0 o0 h
theorem c180 {N} {x0 x1 r} (h : L_entry_Ran N x0 x1 = some r) : Con Tryz.prog 180 [.agg [iI x0.Flow.Src, iI x0.Flow.Dst, iI x0.Flow.Proto, iI x0.Flow.Sport, iI x0.Flow.Dport, iI x0.To, .bool x0.Away, iI x0.Phase, iI x0.Used], iI x1] [] (d180 r) [] :=
 ci ok mix Tryz.f180 fun z =>
 bd h fun v1 h0 h =>
 bd h fun v2 h1 h =>
 z.s [(1, [(2, oR (d214 v1))])] 5 (o1 (c214 h0)) <|
 br h (fun h2 h =>
  z.j [(2, [(1, oR (d148 v2)), (3, oT)])] 1 [4] [] (o2 (c148 h1) (Le.tt h2)) (g180_1 z h)) fun h2 h =>
 z.j [(2, [(1, oR (d148 v2)), (3, oF)])] 1 [4] [] (o2 (c148 h1) (Le.ff h2)) (g180_1 z h)
def L_cache_Find_1 (N : Nat) (t0 : (List GEntry)) (b148_0 b148_1 b148_2 b148_3 b148_4 b148_5 : Int) (b148_6 : Bool) (b148_7 b148_8 t8 : Int) (t26 : Bool) : Option (GEntry × Bool) :=
 bif t26 then
  some ((GEntry.mk (GFlow.mk 0 0 0 0 0) 0 false 0 0), false)
 else
  if 0 ≤ t8 ∧ t8 < ((t0.length : Nat) : Int) then
  some ((GEntry.mk ((t0.getD t8.toNat default).Flow) ((t0.getD t8.toNat default).To) ((t0.getD t8.toNat default).Away) ((t0.getD t8.toNat default).Phase) ((t0.getD t8.toNat default).Used)), true)
  else none
def L_cache_Find (N : Nat) (x0 : (List GEntry)) (x1 : GFlow) (x2 : Int) : Option (GEntry × Bool) :=
 (L_cache_at N x0 x1).bind fun v1 =>
 bif (decide (v1 < 0)) then
  L_cache_Find_1 N x0 0 0 0 0 0 0 false 0 0 v1 true
 else
  (L_cache_May N x0).bind fun v2 =>
  bif (!v2) then
   L_cache_Find_1 N x0 0 0 0 0 0 0 false 0 0 v1 true
  else
   if 0 ≤ v1 ∧ v1 < ((x0.length : Nat) : Int) then
   (L_entry_Ran N (GEntry.mk ((x0.getD v1.toNat default).Flow) ((x0.getD v1.toNat default).To) ((x0.getD v1.toNat default).Away) ((x0.getD v1.toNat default).Phase) ((x0.getD v1.toNat default).Used)) x2).bind fun v3 =>
   L_cache_Find_1 N x0 0 0 0 0 0 0 false 0 0 v1 v3
   else none
def d129 (r : GEntry × Bool) : D := .tup [.agg [iI r.1.Flow.Src, iI r.1.Flow.Dst, iI r.1.Flow.Proto, iI r.1.Flow.Sport, iI r.1.Flow.Dport, iI r.1.To, .bool r.1.Away, iI r.1.Phase, iI r.1.Used], .bool r.2]
theorem g129_1 {N} (gx0 : Bool) {r} (z : Z Tryz.prog ty 129 Tryz.f129 (Fi [] (d129 r) [])) {t0 b148_0 b148_1 b148_2 b148_3 b148_4 b148_5 b148_6 b148_7 b148_8 t8 t26} (h : L_cache_Find_1 N t0 b148_0 b148_1 b148_2 b148_3 b148_4 b148_5 b148_6 b148_7 b148_8 t8 t26 = some r) : z.G [.c 27, .c 15] [(0, sS gx0 eEntry t0), (6, .ptr 148 0), (8, iI t8), (26, .bool t26)] [qB 148 [iI b148_0, iI b148_1, iI b148_2, iI b148_3, iI b148_4, iI b148_5, .bool b148_6, iI b148_7, iI b148_8]] :=
 by
  cases t26 with
  | true => exact brT h fun h => (
   z.r [] 3 o0 h)
  | false => exact brF h fun h => (
   ck h fun h1 h =>
   z.r [(4, [(2, oC (.ip gx0 [iI (((t0.getD t8.toNat default).Flow).Src), iI (((t0.getD t8.toNat default).Flow).Dst), iI (((t0.getD t8.toNat default).Flow).Proto), iI (((t0.getD t8.toNat default).Flow).Sport), iI (((t0.getD t8.toNat default).Flow).Dport), iI ((t0.getD t8.toNat default).To), .bool ((t0.getD t8.toNat default).Away), iI ((t0.getD t8.toNat default).Phase), iI ((t0.getD t8.toNat default).Used)]))])] 4 (o2 h1 (Le.iptl (g := gx0) (eL_at (xs := t0) eEntry_len (ixl h1)))) h)
theorem c129 {N} (gx0 : Bool) {x0 x1 x2 r} (h : L_cache_Find N x0 x1 x2 = some r) : Con Tryz.prog 129 [sS gx0 eEntry x0, .agg [iI x1.Src, iI x1.Dst, iI x1.Proto, iI x1.Sport, iI x1.Dport], iI x2] [] (d129 r) [] :=
 ci ok mix Tryz.f129 fun z =>
 bd h fun v1 h0 h =>
 z.s [(1, [(2, oR (d149 v1))])] 6 (o1 (c149 gx0 h0)) <|
 br h (fun h1 h =>
  z.j [(2, [(2, oT)])] 1 [0, 6, 8, 26] [(148, 148)] (o1 (Le.tt h1)) (g129_1 gx0 z h)) fun h1 h =>
 bd h fun v2 h2 h =>
 br h (fun h3 h =>
  z.j [(2, [(2, oF), (4, oR (d87 v2)), (7, oT)])] 1 [0, 6, 8, 26] [(148, 148)] (o3 (Le.ff h1) (c87 gx0 h2) (Le.tt h3)) (g129_1 gx0 z h)) fun h3 h =>
 ck h fun h4 h =>
 bd h fun v3 h5 h =>
 z.j [(2, [(2, oF), (4, oR (d87 v2)), (7, oF), (10, oC (.ip gx0 [iI (((x0.getD v1.toNat default).Flow).Src), iI (((x0.getD v1.toNat default).Flow).Dst), iI (((x0.getD v1.toNat default).Flow).Proto), iI (((x0.getD v1.toNat default).Flow).Sport), iI (((x0.getD v1.toNat default).Flow).Dport), iI ((x0.getD v1.toNat default).To), .bool ((x0.getD v1.toNat default).Away), iI ((x0.getD v1.toNat default).Phase), iI ((x0.getD v1.toNat default).Used)])), (13, oR (d180 v3))])] 1 [0, 6, 8, 26] [(148, 148)] (o5 (Le.ff h1) (c87 gx0 h2) (Le.ff h3) h4 (o2 (Le.iptl (g := gx0) (eL_at (xs := x0) eEntry_len (ixl h4))) (c180 h5))) (g129_1 gx0 z h)
def L_conf_Site_1 (N : Nat) (t0 : GConfig) (t1 b132_0 : Int) (b132_1 : Bool) (b132_2 : Int) (t16 : Bool) : Option (GSite × Bool) :=
 bif t16 then
  some ((GSite.mk 0 false 0 ([])), false)
 else
  if 0 ≤ t1 ∧ t1 < ((t0.Sites.length : Nat) : Int) then
  some ((t0.Sites.getD t1.toNat default), true)
  else none
def L_conf_Site (N : Nat) (x0 : GConfig) (x1 : Int) : Option (GSite × Bool) :=
 bif (decide (x1 < 0)) then
  L_conf_Site_1 N x0 x1 0 false 0 true
 else
  L_conf_Site_1 N x0 x1 0 false 0 (decide (x1 ≥ (x0.Sites.length : Int)))
def d109 (r : GSite × Bool) : D := .tup [.agg [iI r.1.Weight, .bool r.1.Drain, iI r.1.Cap, sS true eBack r.1.Backs], .bool r.2]
theorem g109_1 {N} (gx0 : Bool) {r} (z : Z Tryz.prog ty 109 Tryz.f109 (Fi [] (d109 r) [])) {t0 t1 b132_0 b132_1 b132_2 t16} (h : L_conf_Site_1 N t0 t1 b132_0 b132_1 b132_2 t16 = some r) : z.G [.c 13, .c 7] [(0, .ip gx0 [iI t0.Version, sS true (eSite true) t0.Sites]), (1, iI t1), (4, .ptr 132 0), (16, .bool t16)] [qB 132 [iI b132_0, .bool b132_1, iI b132_2, .nils]] :=
 by
  cases t16 with
  | true => exact brT h fun h => (
   z.rl [] 3 (.tup [.agg [iI 0, .bool false, iI 0, .nils], .bool false]) o0 h (Le.tup ((.cons (Le.agg ((.cons (Le.of rfl) (.cons (Le.of rfl) (.cons (Le.of rfl) (.cons (Le.nils (g := true)) .nil)))))) (.cons (Le.of rfl) .nil)))))
  | false => exact brF h fun h => (
   ck h fun h1 h =>
   z.r [(3, [(5, oC (.ip true [iI ((t0.Sites.getD t1.toNat default).Weight), .bool ((t0.Sites.getD t1.toNat default).Drain), iI ((t0.Sites.getD t1.toNat default).Cap), sS true eBack ((t0.Sites.getD t1.toNat default).Backs)]))])] 4 (o2 h1 (Le.iptl (g := true) (eL_at (xs := t0.Sites) (eSite_len true) (ixl h1)))) h)
theorem c109 {N} (gx0 : Bool) {x0 x1 r} (h : L_conf_Site N x0 x1 = some r) : Con Tryz.prog 109 [.ip gx0 [iI x0.Version, sS true (eSite true) x0.Sites], iI x1] [] (d109 r) [] :=
 ci ok mix Tryz.f109 fun z =>
 br h (fun h0 h =>
  z.j [(1, [(2, oT)])] 5 [0, 1, 4, 16] [(132, 132)] (o1 (Le.tt h0)) (g109_1 gx0 z h)) fun h0 h =>
 z.j [(1, [(2, oF)])] 5 [0, 1, 4, 16] [(132, 132)] (o1 (Le.ff h0)) (g109_1 gx0 z h)
def L_conf_Has_1 (N : Nat) (t6 : Bool) : Option (Bool) :=
 some t6
def L_conf_Has (N : Nat) (x0 : GConfig) (x1 x2 : Int) : Option (Bool) :=
 (L_conf_Site N x0 x1).bind fun v1 =>
 (L_conf_May N x0).bind fun v2 =>
 bif v2 then
  bif v1.2 then
   bif (x2 == (-1)) then
    L_conf_Has_1 N true
   else
    bif (decide (x2 ≥ 0)) then
     L_conf_Has_1 N (decide (x2 < (v1.1.Backs.length : Int)))
    else
     L_conf_Has_1 N false
  else
   L_conf_Has_1 N false
 else
  L_conf_Has_1 N false
def d130 (r : Bool) : D := .bool r
theorem g130_1 {N} {r} (z : Z Tryz.prog ty 130 Tryz.f130 (Fi [] (d130 r) [])) {t6} (h : L_conf_Has_1 N t6 = some r) : z.G [.c 15] [(6, .bool t6)] [] :=
 z.r [] 0 o0 h
theorem c130 {N} {x0 x1 x2 r} (h : L_conf_Has N x0 x1 x2 = some r) : Con Tryz.prog 130 [.agg [iI x0.Version, sS true (eSite true) x0.Sites], iI x1, iI x2] [] (d130 r) [] :=
 ci ok mix Tryz.f130 fun z =>
 bd h fun v1 h0 h =>
 bd h fun v2 h1 h =>
 z.s [(1, [(1, oR (d109 v1))])] 5 (o1 (c109 false h0)) <|
 br h (fun h2 h =>
  br h (fun h3 h =>
   br h (fun h4 h =>
    z.j [(2, [(1, oR (d85 v2)), (2, oT), (5, oT), (8, oT)])] 1 [6] [] (o4 (c85 true h1) (Le.tt h2) (Le.tt h3) (Le.tt h4)) (g130_1 z h)) fun h4 h =>
   br h (fun h5 h =>
    z.j [(2, [(1, oR (d85 v2)), (2, oT), (5, oT), (8, oF), (11, oT)])] 1 [6] [] (o5 (c85 true h1) (Le.tt h2) (Le.tt h3) (Le.ff h4) (o1 (Le.tt h5))) (g130_1 z h)) fun h5 h =>
   z.j [(2, [(1, oR (d85 v2)), (2, oT), (5, oT), (8, oF), (11, oF)])] 1 [6] [] (o5 (c85 true h1) (Le.tt h2) (Le.tt h3) (Le.ff h4) (o1 (Le.ff h5))) (g130_1 z h)) fun h3 h =>
  z.j [(2, [(1, oR (d85 v2)), (2, oT), (5, oF)])] 1 [6] [] (o3 (c85 true h1) (Le.tt h2) (Le.ff h3)) (g130_1 z h)) fun h2 h =>
 z.j [(2, [(1, oR (d85 v2)), (2, oF)])] 1 [6] [] (o2 (c85 true h1) (Le.ff h2)) (g130_1 z h)
def L_site_node_holds_1 (N : Nat) (t6 : Bool) : Option (Bool) :=
 some t6
def L_site_node_holds_2 (N : Nat) (t6 : Bool) : Option (Bool) :=
 some t6
def L_site_node_holds (N : Nat) (x0 : Gsite_node) (x1 : GEntry) (x2 : Bool) : Option (Bool) :=
 bif x1.Away then
  bif (!x2) then
   (L_conf_Has N x0.Node.Config x1.To (-1)).bind fun v1 =>
   L_site_node_holds_1 N v1
  else
   L_site_node_holds_1 N false
 else
  (L_conf_Has N x0.Node.Config x0.Node.Id x1.To).bind fun v1 =>
  bif v1 then
   if 0 ≤ x1.To ∧ x1.To < ((x0.Node.Health.length : Nat) : Int) then
   L_site_node_holds_2 N ((x0.Node.Health.getD x1.To.toNat default).Up)
   else none
  else
   L_site_node_holds_2 N false
def d207 (r : Bool) : D := .bool r
theorem g207_1 {N} (gx0 gx1 : Bool) {r} (z : Z Tryz.prog ty 207 Tryz.f207 (Fi [] (d207 r) [])) {t6} (h : L_site_node_holds_1 N t6 = some r) : z.G [.c 53, .c 7] [(6, .bool t6)] [] :=
 z.r [] 0 o0 h
theorem g207_2 {N} (gx0 gx1 : Bool) {r} (z : Z Tryz.prog ty 207 Tryz.f207 (Fi [] (d207 r) [])) {t6} (h : L_site_node_holds_2 N t6 = some r) : z.G [.c 15] [(6, .bool t6)] [] :=
 z.r [] 0 o0 h
theorem c207 {N} (gx0 gx1 : Bool) {x0 x1 x2 r} (h : L_site_node_holds N x0 x1 x2 = some r) : Con Tryz.prog 207 [.ip gx0 [iI x0.Node.Id, iI x0.Node.Config.Version, sS true (eSite true) x0.Node.Config.Sites, sS true eHealth x0.Node.Health, sS true eSeen x0.Node.Seen, sS true eEntry x0.Node.Flows, iI x0.Node.Serial, iI x0.Teller.Role, iI x0.Teller.Site, iI x0.Teller.Node, iI x0.now_], .ip gx1 [iI x1.Flow.Src, iI x1.Flow.Dst, iI x1.Flow.Proto, iI x1.Flow.Sport, iI x1.Flow.Dport, iI x1.To, .bool x1.Away, iI x1.Phase, iI x1.Used], .bool x2] [] (d207 r) [] :=
 ci ok mix Tryz.f207 fun z =>
 br h (fun h0 h =>
  z.s [(1, [(3, oT)])] 7 (o2 (List.cons_ne_nil _ _ : ([.bool x1.Away, iI x1.Phase, iI x1.Used] : List D) ≠ []) (Le.tt h0)) <|
  br h (fun h1 h =>
   bd h fun v1 h2 h =>
   z.j [(2, [(2, oT), (12, oR (d130 v1))])] 1 [6] [] (o2 (Le.tt h1) (c130 h2)) (g207_1 gx0 gx1 z h)) fun h1 h =>
  z.j [(2, [(2, oF)])] 1 [6] [] (o1 (Le.ff h1)) (g207_1 gx0 gx1 z h)) fun h0 h =>
 bd h fun v1 h1 h =>
 z.s [(1, [(3, oF)])] 8 (o2 (List.cons_ne_nil _ _ : ([.bool x1.Away, iI x1.Phase, iI x1.Used] : List D) ≠ []) (Le.ff h0)) <|
 br h (fun h2 h =>
  ck h fun h3 h =>
  z.j [(3, [(14, oR (d130 v1)), (15, oT), (25, oC (.ip true [.bool ((x0.Node.Health.getD x1.To.toNat default).Up), iI ((x0.Node.Health.getD x1.To.toNat default).Count)]))])] 1 [6] [] (o4 (c130 h1) (Le.tt h2) h3 (Le.iptl (g := true) (eL_at (xs := x0.Node.Health) eHealth_len (ixl h3)))) (g207_2 gx0 gx1 z h)) fun h2 h =>
 z.j [(3, [(14, oR (d130 v1)), (15, oF)])] 1 [6] [] (o2 (c130 h1) (Le.ff h2)) (g207_2 gx0 gx1 z h)
def d113v1 (r : Bool) : D := .bool r
theorem g113v1_1 {N} (gx0 : Bool) {r} (z : Z Tryz.prog ty 113 Tryz.f113 (Fi [] (d113v1 r) [])) {t2} (h : L_spare_May_1 N t2 = some r) : z.G [.c 7] [(2, .bool t2)] [] :=
 z.r [] 0 o0 h
theorem c113v1 {N} (gx0 : Bool) {x0 r} (h : L_spare_May N x0 = some r) : Con Tryz.prog 113 [.ip gx0 [iI x0.Id, iI x0.Config.Version, sS true (eSite true) x0.Config.Sites, sS true eHealth x0.Health, sS true eSeen x0.Seen, sS true eEntry x0.Flows, iI x0.Serial]] [] (d113v1 r) [] :=
 ci ok mix Tryz.f113 fun z =>
 bd h fun v1 h0 h =>
 br h (fun h1 h =>
  bd h fun v2 h2 h =>
  br h (fun h3 h =>
   bd h fun v3 h4 h =>
   br h (fun h5 h =>
    bd h fun v4 h6 h =>
    br h (fun h7 h =>
     bd h fun v5 h8 h =>
     z.j [(1, [(4, oR (d85 v1)), (5, oT), (10, oR (d84 v2)), (12, oT), (17, oR (d86 v3)), (19, oT), (24, oR (d169 v4)), (26, oT), (31, oR (d87 v5))])] 4 [2] [] (o5 (c85 true h0) (Le.tt h1) (c84 h2) (Le.tt h3) (o5 (c86 true h4) (Le.tt h5) (c169 true h6) (Le.tt h7) (o1 (c87 true h8)))) (g113v1_1 gx0 z h)) fun h7 h =>
    z.j [(1, [(4, oR (d85 v1)), (5, oT), (10, oR (d84 v2)), (12, oT), (17, oR (d86 v3)), (19, oT), (24, oR (d169 v4)), (26, oF)])] 4 [2] [] (o5 (c85 true h0) (Le.tt h1) (c84 h2) (Le.tt h3) (o4 (c86 true h4) (Le.tt h5) (c169 true h6) (Le.ff h7))) (g113v1_1 gx0 z h)) fun h5 h =>
   z.j [(1, [(4, oR (d85 v1)), (5, oT), (10, oR (d84 v2)), (12, oT), (17, oR (d86 v3)), (19, oF)])] 4 [2] [] (o5 (c85 true h0) (Le.tt h1) (c84 h2) (Le.tt h3) (o2 (c86 true h4) (Le.ff h5))) (g113v1_1 gx0 z h)) fun h3 h =>
  z.j [(1, [(4, oR (d85 v1)), (5, oT), (10, oR (d84 v2)), (12, oF)])] 4 [2] [] (o4 (c85 true h0) (Le.tt h1) (c84 h2) (Le.ff h3)) (g113v1_1 gx0 z h)) fun h1 h =>
 z.j [(1, [(4, oR (d85 v1)), (5, oF)])] 4 [2] [] (o2 (c85 true h0) (Le.ff h1)) (g113v1_1 gx0 z h)
def L_cand_add_1 (N : Nat) (b0 : (List GCandidate)) (t1 t2 : Int) (t20 : Bool) : Option ((List GCandidate) × (List GCandidate) × Bool) :=
 bif t20 then
  some (b0, b0, true)
 else
  if growOk 16 (b0.length + 1) then
  some ((b0 ++ [(GCandidate.mk t1 t2)]), [], false)
  else none
def L_cand_add (N : Nat) (x0 : (List GCandidate)) (x1 x2 : Int) (x3 : Bool) (x4 : GHealth) : Option ((List GCandidate) × (List GCandidate) × Bool) :=
 bif (!x4.Up) then
  L_cand_add_1 N x0 x1 x2 true
 else
  bif x3 then
   L_cand_add_1 N x0 x1 x2 true
  else
   L_cand_add_1 N x0 x1 x2 (decide (x2 ≤ 0))
def d181_0 (r : (List GCandidate) × (List GCandidate) × Bool) : D := rR 0 r.2.1
def h181_0 (r : (List GCandidate) × (List GCandidate) × Bool) : List (Nat × Option Blk) := [pB 0 2 (eL eCandidate r.2.1)]
def d181_1 (r : (List GCandidate) × (List GCandidate) × Bool) : D := rR 1000 r.1
def h181_1 (r : (List GCandidate) × (List GCandidate) × Bool) : List (Nat × Option Blk) := [(0, none), pB 1000 2 (eL eCandidate r.1)]
theorem g181_1 {N} {r C0} (z : Z Tryz.prog ty 181 Tryz.f181 (Fi2 [(0, ⟨true, 2, C0⟩)] (d181_0 r) (h181_0 r) (d181_1 r) (h181_1 r) r.2.2)) {b0 t1 t2 t20} (h : L_cand_add_1 N b0 t1 t2 t20 = some r) : z.G [.c 13, .c 7] [(0, rR 0 b0), (1, iI t1), (2, iI t2), (20, .bool t20)] [pB 0 2 (eL eCandidate b0)] :=
 by
  cases t20 with
  | true => exact brT h fun h => (
   show z.X _ from z.rb1 (d := d181_0) (dh := h181_0) (u := d181_1) (uh := h181_1) (r := r) (t := fun r => r.2.2) [] 3 [] (rR 0 b0) o0 h (Le.of (by kernel_rfl)))
  | false => exact brF h fun h => (
   ck h fun h1 h =>
   show z.X _ from z.rb2 (d := d181_0) (dh := h181_0) (u := d181_1) (uh := h181_1) (r := r) (t := fun r => r.2.2) [(3, [(5, { cv := some (.ref 316 0 (b0 ++ [(GCandidate.mk t1 t2)]).length (b0 ++ [(GCandidate.mk t1 t2)]).length), cb := [(316, eL eCandidate (b0 ++ [(GCandidate.mk t1 t2)]))] })])] 4 [(1000, 316)] (rR 316 (b0 ++ [(GCandidate.mk t1 t2)])) (o5 (by decide : 1 * 2 ≤ 2) (ap_len (xs := b0) eCandidate_len) h1 (Le.apr (b := 316) (by first | rfl | (simp only [List.length_append, List.length_take, List.length_drop]; omega) | simp : (b0 ++ [(GCandidate.mk t1 t2)]).length = b0.length + 1)) (o1 (ap_one (xs := b0) eCandidate_len (y := (GCandidate.mk t1 t2)) (cs := [iI t1, iI t2]) rfl))) h (Le.of (by kernel_rfl)))
theorem g181_0 {N} {r C0} (z : Z Tryz.prog ty 181 Tryz.f181 (Fi2 [(0, ⟨true, 2, C0⟩)] (d181_0 r) (h181_0 r) (d181_1 r) (h181_1 r) r.2.2)) {x0 x1 x2 x3 x4} (h : L_cand_add N x0 x1 x2 x3 x4 = some r) : z.G [.c 1] [(0, rR 0 x0), (1, iI x1), (2, iI x2), (3, .bool x3), (4, .agg [.bool x4.Up, iI x4.Count])] [pB 0 2 (eL eCandidate x0)] :=
 br h (fun h0 h =>
  z.j [(1, [(3, oT)])] 5 [0, 1, 2, 20] [(0, 0)] (o1 (Le.tt h0)) (g181_1 z h)) fun h0 h =>
 br h (fun h1 h =>
  z.j [(1, [(3, oF), (6, oT)])] 5 [0, 1, 2, 20] [(0, 0)] (o2 (Le.ff h0) (Le.tt h1)) (g181_1 z h)) fun h1 h =>
 z.j [(1, [(3, oF), (6, oF)])] 5 [0, 1, 2, 20] [(0, 0)] (o2 (Le.ff h0) (Le.ff h1)) (g181_1 z h)
theorem c181_0 {N} {x0 x1 x2 x3 x4 r} (h : L_cand_add N x0 x1 x2 x3 x4 = some r) (ht : r.2.2 = true) : Con Tryz.prog 181 [rR 0 x0, iI x1, iI x2, .bool x3, .agg [.bool x4.Up, iI x4.Count]] [(0, ⟨true, 2, (eL eCandidate x0)⟩)] (d181_0 r) (h181_0 r) := ci1 ok mix Tryz.f181 ht fun z => g181_0 z h
theorem c181_1 {N} {x0 x1 x2 x3 x4 r} (h : L_cand_add N x0 x1 x2 x3 x4 = some r) (ht : r.2.2 = false) : Con Tryz.prog 181 [rR 0 x0, iI x1, iI x2, .bool x3, .agg [.bool x4.Up, iI x4.Count]] [(0, ⟨true, 2, (eL eCandidate x0)⟩)] (d181_1 r) (h181_1 r) := ci2 ok mix Tryz.f181 ht fun z => g181_0 z h
def L_cand_Backs_2 (N : Nat) : Nat → (List GHealth) → (List GCandidate) → (List GBack) → Int → Int → Option ((List GCandidate) × Int)
  | 0, _, _, _, _, _ => none
  | fuel + 1, t2, b180, t31, t32, t33 =>
  bif (decide (t33 < t32)) then
   if 0 ≤ t33 ∧ t33 < ((t31.length : Nat) : Int) then
   if 0 ≤ t33 ∧ t33 < ((t2.length : Nat) : Int) then
   (L_cand_add N b180 t33 ((t31.getD t33.toNat default).Weight) ((t31.getD t33.toNat default).Drain) (t2.getD t33.toNat default)).bind fun v1 =>
   bif v1.2.2 then
    if v1.2.1.length = b180.length then
    L_cand_Backs_2 N fuel t2 v1.2.1 t31 t32 (IntKind.i64.wrap (t33 + 1))
    else none
   else
    L_cand_Backs_2 N fuel t2 v1.1 t31 t32 (IntKind.i64.wrap (t33 + 1))
   else none
   else none
  else
   some (b180, 0)
def L_cand_Backs_1 (N : Nat) (t2 : (List GHealth)) (b164_0 : Int) (b164_1 : Bool) (b164_2 : Int) (b164_3 : (List GBack)) (t29 : Bool) : Option ((List GCandidate) × Int) :=
 bif t29 then
  some ([], 1300)
 else
  L_cand_Backs_2 N N t2 ([]) b164_3 (b164_3.length : Int) 0
def L_cand_Backs (N : Nat) (x0 : GConfig) (x1 : Int) (x2 : (List GHealth)) : Option ((List GCandidate) × Int) :=
 (L_conf_Site N x0 x1).bind fun v1 =>
 (L_conf_May N x0).bind fun v2 =>
 bif (!v2) then
  L_cand_Backs_1 N x2 v1.1.Weight v1.1.Drain v1.1.Cap v1.1.Backs true
 else
  (L_health_All N x2 4).bind fun v3 =>
  bif (!v3) then
   L_cand_Backs_1 N x2 v1.1.Weight v1.1.Drain v1.1.Cap v1.1.Backs true
  else
   L_cand_Backs_1 N x2 v1.1.Weight v1.1.Drain v1.1.Cap v1.1.Backs (!v1.2)
def d209 (r : (List GCandidate) × Int) : D := .tup [sS true eCandidate r.1, iI r.2]
theorem g209_2 {N} (gx2 : Bool) {r} (z : Z Tryz.prog ty 209 Tryz.f209 (Fi [] (d209 r) [])) (fuel) : ∀ {t2 b180 t31 t32 t33}, L_cand_Backs_2 N fuel t2 b180 t31 t32 t33 = some r → z.G [.c 303, .l 303, .b 0, .c 63] [(2, sS gx2 eHealth t2), (10, rR 180 b180), (31, sS true eBack t31), (32, iI t32), (33, iI t33)] [pB 180 2 (eL eCandidate b180)] := by
 induction fuel with
 | zero => intro t2 b180 t31 t32 t33 h; cases h
 | succ fuel ih =>
  intro t2 b180 t31 t32 t33 h
  exact
   br h (fun h0 h =>
    ck h fun h1 h =>
    ck h fun h2 h =>
    bd h fun v1 h3 h =>
    z.s [(6, [(0, oT)]), (7, [(1, oC (.ip true [iI ((t31.getD t33.toNat default).Weight), .bool ((t31.getD t33.toNat default).Drain)]))])] 9 (o3 (Le.tt h0) h1 (Le.iptl (g := true) (eL_at (xs := t31) eBack_len (ixl h1)))) <|
    br h (fun h4 h =>
     ck h fun h5 h =>
     z.j [(8, [(8, oC (.ip gx2 [.bool ((t2.getD t33.toNat default).Up), iI ((t2.getD t33.toNat default).Count)])), (10, { ρ := [180], r := d181_0 v1, H := h181_0 v1 })])] 4 [2, 10, 31, 32, 33] [(180, 180)] (o3 h2 (Le.iptl (g := gx2) (eL_at (xs := t2) eHealth_len (ixl h2))) (c181_0 h3 h4)) (ih h)) fun h4 h =>
    z.j [(8, [(8, oC (.ip gx2 [.bool ((t2.getD t33.toNat default).Up), iI ((t2.getD t33.toNat default).Count)])), (10, { ρ := [180], r := d181_1 v1, H := h181_1 v1 })])] 4 [2, 10, 31, 32, 33] [(484, 180)] (o3 h2 (Le.iptl (g := gx2) (eL_at (xs := t2) eHealth_len (ixl h2))) (c181_1 h3 h4)) (ih h)) fun h0 h =>
   z.r [(6, [(0, oF)]), (10, [(1, { frz := true })])] 7 (o1 (Le.ff h0)) h
theorem g209_1 {N} (gx2 : Bool) {r} (z : Z Tryz.prog ty 209 Tryz.f209 (Fi [] (d209 r) [])) {t2 b164_0 b164_1 b164_2 b164_3 t29} (h : L_cand_Backs_1 N t2 b164_0 b164_1 b164_2 b164_3 t29 = some r) : z.G [.c 27, .c 15] [(2, sS gx2 eHealth t2), (8, .ptr 164 0), (29, .bool t29)] [qB 164 [iI b164_0, .bool b164_1, iI b164_2, sS true eBack b164_3]] :=
 by
  cases t29 with
  | true => exact brT h fun h => (
   z.rl [] 3 (.tup [.nils, iI 1300]) o0 h (Le.tup ((.cons (Le.nils (g := true)) (.cons (Le.of rfl) .nil)))))
  | false => exact brF h fun h => (
   z.j [(4, [(0, { own := some (2) })])] 9 [2, 10, 31, 32, 33] [(180, 180)] o0 (g209_2 gx2 z N h))
theorem c209 {N} (gx2 : Bool) {x0 x1 x2 r} (h : L_cand_Backs N x0 x1 x2 = some r) : Con Tryz.prog 209 [.agg [iI x0.Version, sS true (eSite true) x0.Sites], iI x1, sS gx2 eHealth x2] [] (d209 r) [] :=
 ci ok mix Tryz.f209 fun z =>
 bd h fun v1 h0 h =>
 bd h fun v2 h1 h =>
 z.s [(1, [(1, oR (d109 v1))])] 6 (o1 (c109 false h0)) <|
 br h (fun h2 h =>
  z.j [(2, [(1, oR (d85 v2)), (3, oT)])] 1 [2, 8, 29] [(164, 164)] (o2 (c85 true h1) (Le.tt h2)) (g209_1 gx2 z h)) fun h2 h =>
 bd h fun v3 h3 h =>
 br h (fun h4 h =>
  z.j [(2, [(1, oR (d85 v2)), (3, oF), (5, oR (d86 v3)), (8, oT)])] 1 [2, 8, 29] [(164, 164)] (o4 (c85 true h1) (Le.ff h2) (c86 gx2 h3) (Le.tt h4)) (g209_1 gx2 z h)) fun h4 h =>
 z.j [(2, [(1, oR (d85 v2)), (3, oF), (5, oR (d86 v3)), (8, oF)])] 1 [2, 8, 29] [(164, 164)] (o4 (c85 true h1) (Le.ff h2) (c86 gx2 h3) (Le.ff h4)) (g209_1 gx2 z h)
def L_spare_Load_2 (N : Nat) (r1 : Int → (List GEntry) → Int → Int → Option (Int)) (t3 : Int) (t9 : (List GEntry)) (t10 t11 : Int) : Option (Int) :=
 r1 t3 t9 t10 (IntKind.i64.wrap (t11 + 1))
def L_spare_Load_1 (N : Nat) : Nat → Int → (List GEntry) → Int → Int → Option (Int)
  | 0, _, _, _, _ => none
  | fuel + 1, t3, t9, t10, t11 =>
  bif (decide (t11 < t10)) then
   if 0 ≤ t11 ∧ t11 < ((t9.length : Nat) : Int) then
   bif (!((t9.getD t11.toNat default).Away)) then
    L_spare_Load_2 N (L_spare_Load_1 N fuel) (IntKind.i64.wrap (t3 + 1)) t9 t10 t11
   else
    L_spare_Load_2 N (L_spare_Load_1 N fuel) t3 t9 t10 t11
   else none
  else
   some t3
def L_spare_Load (N : Nat) (x0 : GNode) : Option (Int) :=
 L_spare_Load_1 N N 0 x0.Flows (x0.Flows.length : Int) 0
def d110 (r : Int) : D := iI r
theorem g110_2 {N} (gx0 : Bool) {r} (z : Z Tryz.prog ty 110 Tryz.f110 (Fi [] (d110 r) [])) {r1 : Int → (List GEntry) → Int → Int → Option (Int)} (hr1 : ∀ {t3 t9 t10 t11}, r1 t3 t9 t10 t11 = some r → z.G [.c 75, .l 75, .b 0, .c 15] [(3, iI t3), (9, sS true eEntry t9), (10, iI t10), (11, iI t11)] []) {t3 t9 t10 t11} (h : L_spare_Load_2 N r1 t3 t9 t10 t11 = some r) : z.G [.b 1, .c 971, .l 75, .b 0, .c 15] [(3, iI t3), (9, sS true eEntry t9), (10, iI t10), (11, iI t11)] [] :=
 z.j [] 3 [3, 9, 10, 11] [] o0 (hr1 h)
theorem g110_1 {N} (gx0 : Bool) {r} (z : Z Tryz.prog ty 110 Tryz.f110 (Fi [] (d110 r) [])) (fuel) : ∀ {t3 t9 t10 t11}, L_spare_Load_1 N fuel t3 t9 t10 t11 = some r → z.G [.c 75, .l 75, .b 0, .c 15] [(3, iI t3), (9, sS true eEntry t9), (10, iI t10), (11, iI t11)] [] := by
 induction fuel with
 | zero => intro t3 t9 t10 t11 h; cases h
 | succ fuel ih =>
  intro t3 t9 t10 t11 h
  exact
   br h (fun h0 h =>
    ck h fun h1 h =>
    z.s [(3, [(0, oT)]), (4, [(0, oC (.ip true [iI (((t9.getD t11.toNat default).Flow).Src), iI (((t9.getD t11.toNat default).Flow).Dst), iI (((t9.getD t11.toNat default).Flow).Proto), iI (((t9.getD t11.toNat default).Flow).Sport), iI (((t9.getD t11.toNat default).Flow).Dport), iI ((t9.getD t11.toNat default).To), .bool ((t9.getD t11.toNat default).Away), iI ((t9.getD t11.toNat default).Phase), iI ((t9.getD t11.toNat default).Used)]))])] 10 (o3 (Le.tt h0) h1 (Le.iptl (g := true) (eL_at (xs := t9) eEntry_len (ixl h1)))) <|
    br h (fun h2 h =>
     z.j [(5, [(2, oT)])] 3 [3, 9, 10, 11] [] (o1 (Le.tt h2)) (g110_2 gx0 z @ih h)) fun h2 h =>
    z.j [(5, [(2, oF)])] 3 [3, 9, 10, 11] [] (o1 (Le.ff h2)) (g110_2 gx0 z @ih h)) fun h0 h =>
   z.r [(3, [(0, oF)])] 7 (o1 (Le.ff h0)) h
theorem c110 {N} (gx0 : Bool) {x0 r} (h : L_spare_Load N x0 = some r) : Con Tryz.prog 110 [.ip gx0 [iI x0.Id, iI x0.Config.Version, sS true (eSite true) x0.Config.Sites, sS true eHealth x0.Health, sS true eSeen x0.Seen, sS true eEntry x0.Flows, iI x0.Serial]] [] (d110 r) [] :=
 ci ok mix Tryz.f110 fun z =>
 z.j [] 9 [3, 9, 10, 11] [] o0 (g110_1 gx0 z N h)
def L_spare_Full_1 (N : Nat) (t2 : Bool) (t3 : Int) : Option (Bool × Int) :=
 some (t2, t3)
def L_spare_Full (N : Nat) (x0 : GNode) : Option (Bool × Int) :=
 (L_spare_May N x0).bind fun v1 =>
 bif (!v1) then
  some (false, 1700)
 else
  (L_conf_Site N x0.Config x0.Id).bind fun v2 =>
  (L_cand_Backs N x0.Config x0.Id x0.Health).bind fun v3 =>
  bif (!v2.2) then
   L_spare_Full_1 N true 0
  else
   bif v2.1.Drain then
    L_spare_Full_1 N true 0
   else
    bif ((v3.1.length : Int) == 0) then
     L_spare_Full_1 N true 0
    else
     (L_spare_Load N x0).bind fun v4 =>
     L_spare_Full_1 N (decide (v4 ≥ v2.1.Cap)) 0
def d224 (r : Bool × Int) : D := .tup [.bool r.1, iI r.2]
theorem g224_1 {N} {r} (z : Z Tryz.prog ty 224 Tryz.f224 (Fi [] (d224 r) [])) {t2 t3} (h : L_spare_Full_1 N t2 t3 = some r) : z.G [.c 63] [(2, .bool t2), (3, iI t3)] [] :=
 z.r [] 0 o0 h
theorem c224 {N} {x0 r} (h : L_spare_Full N x0 = some r) : Con Tryz.prog 224 [.agg [iI x0.Id, iI x0.Config.Version, sS true (eSite true) x0.Config.Sites, sS true eHealth x0.Health, sS true eSeen x0.Seen, sS true eEntry x0.Flows, iI x0.Serial]] [] (d224 r) [] :=
 ci ok mix Tryz.f224 fun z =>
 bd h fun v1 h0 h =>
 br h (fun h1 h =>
  z.r [(1, [(0, oR (d113v1 v1)), (1, oT)])] 8 (o2 (c113v1 false h0) (Le.tt h1)) h) fun h1 h =>
 bd h fun v2 h2 h =>
 bd h fun v3 h3 h =>
 z.s [(1, [(0, oR (d113v1 v1)), (1, oF)]), (3, [(3, oR (d109 v2))]), (4, [(6, oR (d209 v3))])] 12 (o4 (c113v1 false h0) (Le.ff h1) ((c109 false h2).le ((.cons (Le.ipt (g := false) (cs := [iI x0.Config.Version, sS true (eSite true) x0.Config.Sites]) (ds := [sS true eHealth x0.Health, sS true eSeen x0.Seen, sS true eEntry x0.Flows, iI x0.Serial])) (.cons (Le.rfl) .nil)))) (c209 true h3)) <|
 br h (fun h4 h =>
  z.j [(5, [(2, oT)])] 1 [2, 3] [] (o1 (Le.tt h4)) (g224_1 z h)) fun h4 h =>
 br h (fun h5 h =>
  z.j [(5, [(2, oF), (6, oT)])] 1 [2, 3] [] (o2 (Le.ff h4) (Le.tt h5)) (g224_1 z h)) fun h5 h =>
 br h (fun h6 h =>
  z.j [(5, [(2, oF), (6, oF), (11, oT)])] 1 [2, 3] [] (o3 (Le.ff h4) (Le.ff h5) (Le.tt h6)) (g224_1 z h)) fun h6 h =>
 bd h fun v4 h7 h =>
 z.j [(5, [(2, oF), (6, oF), (11, oF), (12, oR (d110 v4))])] 1 [2, 3] [] (o4 (Le.ff h4) (Le.ff h5) (Le.ff h6) (c110 false h7)) (g224_1 z h)
def L_view_Spare_2 (N : Nat) (b172_0 b172_1 b172_2 b172_3 b172_4 : Int) (t42 : Bool) : Option (Int × Bool × Int) :=
 bif t42 then
  some (0, false, 0)
 else
  via ((if decide (0 > (IntKind.i64.wrap (b172_3 - b172_2))) then 0 else (IntKind.i64.wrap (b172_3 - b172_2))) : Int) fun v1 =>
  some (v1, true, 0)
def L_view_Spare_1 (N : Nat) (t0 : (List GSeen)) (t1 t2 : Int) (t23 : Bool) : Option (Int × Bool × Int) :=
 bif t23 then
  some (0, false, 1200)
 else
  if 0 ≤ t1 ∧ t1 < ((t0.length : Nat) : Int) then
  via ((IntKind.i64.wrap (t2 - (t0.getD t1.toNat default).At)) : Int) fun v1 =>
  bif ((t0.getD t1.toNat default).At == (-1)) then
   L_view_Spare_2 N (((t0.getD t1.toNat default).Report).Site) (((t0.getD t1.toNat default).Report).Serial) (((t0.getD t1.toNat default).Report).Load) (((t0.getD t1.toNat default).Report).Cap) ((t0.getD t1.toNat default).At) true
  else
   bif (decide (v1 < 0)) then
    L_view_Spare_2 N (((t0.getD t1.toNat default).Report).Site) (((t0.getD t1.toNat default).Report).Serial) (((t0.getD t1.toNat default).Report).Load) (((t0.getD t1.toNat default).Report).Cap) ((t0.getD t1.toNat default).At) true
   else
    L_view_Spare_2 N (((t0.getD t1.toNat default).Report).Site) (((t0.getD t1.toNat default).Report).Serial) (((t0.getD t1.toNat default).Report).Load) (((t0.getD t1.toNat default).Report).Cap) ((t0.getD t1.toNat default).At) (decide (v1 ≥ 10))
  else none
def L_view_Spare (N : Nat) (x0 : (List GSeen)) (x1 x2 : Int) : Option (Int × Bool × Int) :=
 (L_view_May N x0).bind fun v1 =>
 bif (!v1) then
  L_view_Spare_1 N x0 x1 x2 true
 else
  (L_conf_Time N x2).bind fun v2 =>
  bif (!v2) then
   L_view_Spare_1 N x0 x1 x2 true
  else
   (L_report_Site N x1).bind fun v3 =>
   L_view_Spare_1 N x0 x1 x2 (!v3)
def d232 (r : Int × Bool × Int) : D := .tup [iI r.1, .bool r.2.1, iI r.2.2]
theorem g232_2 {N} (gx0 : Bool) {r} (z : Z Tryz.prog ty 232 Tryz.f232 (Fi [] (d232 r) [])) {b172_0 b172_1 b172_2 b172_3 b172_4 t42} (h : L_view_Spare_2 N b172_0 b172_1 b172_2 b172_3 b172_4 t42 = some r) : z.G [.c 119, .c 31] [(9, .ptr 172 0), (42, .bool t42)] [qB 172 [iI b172_0, iI b172_1, iI b172_2, iI b172_3, iI b172_4]] :=
 by
  cases t42 with
  | true => exact brT h fun h => (
   z.r [] 3 o0 h)
  | false => exact brF h fun h => (
   vi h fun v1 h1 h =>
   z.r [(7, [(7, oC (.int .i64 v1))])] 4 (o1 (Le.int (k := .i64) h1)) h)
theorem g232_1 {N} (gx0 : Bool) {r} (z : Z Tryz.prog ty 232 Tryz.f232 (Fi [] (d232 r) [])) {t0 t1 t2 t23} (h : L_view_Spare_1 N t0 t1 t2 t23 = some r) : z.G [.c 13, .c 7] [(0, sS gx0 eSeen t0), (1, iI t1), (2, iI t2), (23, .bool t23)] [] :=
 by
  cases t23 with
  | true => exact brT h fun h => (
   z.r [] 3 o0 h)
  | false => exact brF h fun h => (
   ck h fun h1 h =>
   vi h fun v1 h2 h =>
   z.s [(3, [(2, oC (.ip gx0 [iI (((t0.getD t1.toNat default).Report).Site), iI (((t0.getD t1.toNat default).Report).Serial), iI (((t0.getD t1.toNat default).Report).Load), iI (((t0.getD t1.toNat default).Report).Cap), iI ((t0.getD t1.toNat default).At)]))]), (4, [(3, oC (.int .i64 v1))])] 8 (o3 h1 (Le.iptl (g := gx0) (eL_at (xs := t0) eSeen_len (ixl h1))) (Le.int (k := .i64) h2)) <|
   br h (fun h3 h =>
    z.j [(5, [(3, oT)])] 1 [9, 42] [(172, 172)] (o1 (Le.tt h3)) (g232_2 gx0 z h)) fun h3 h =>
   br h (fun h4 h =>
    z.j [(5, [(3, oF), (7, oT)])] 1 [9, 42] [(172, 172)] (o2 (Le.ff h3) (Le.tt h4)) (g232_2 gx0 z h)) fun h4 h =>
   z.j [(5, [(3, oF), (7, oF)])] 1 [9, 42] [(172, 172)] (o2 (Le.ff h3) (Le.ff h4)) (g232_2 gx0 z h))
theorem c232 {N} (gx0 : Bool) {x0 x1 x2 r} (h : L_view_Spare N x0 x1 x2 = some r) : Con Tryz.prog 232 [sS gx0 eSeen x0, iI x1, iI x2] [] (d232 r) [] :=
 ci ok mix Tryz.f232 fun z =>
 bd h fun v1 h0 h =>
 br h (fun h1 h =>
  z.j [(1, [(1, oR (d169 v1)), (3, oT)])] 5 [0, 1, 2, 23] [] (o2 (c169 gx0 h0) (Le.tt h1)) (g232_1 gx0 z h)) fun h1 h =>
 bd h fun v2 h2 h =>
 br h (fun h3 h =>
  z.j [(1, [(1, oR (d169 v1)), (3, oF), (5, oR (d59 v2)), (8, oT)])] 5 [0, 1, 2, 23] [] (o4 (c169 gx0 h0) (Le.ff h1) (c59 h2) (Le.tt h3)) (g232_1 gx0 z h)) fun h3 h =>
 bd h fun v3 h4 h =>
 z.j [(1, [(1, oR (d169 v1)), (3, oF), (5, oR (d59 v2)), (8, oF), (10, oR (d84 v3))])] 5 [0, 1, 2, 23] [] (o5 (c169 gx0 h0) (Le.ff h1) (c59 h2) (Le.ff h3) (o1 (c84 h4))) (g232_1 gx0 z h)
def L_spare_Targets_4 (N : Nat) (r2 : Int → Int → Int → (List GSite) → (List GHealth) → (List GSeen) → (List GEntry) → Int → (List GCandidate) → (List GSite) → Int → Int → Option ((List GCandidate) × Int)) (t1 b116_0 b116_1 : Int) (b116_2 : (List GSite)) (b116_3 : (List GHealth)) (b116_4 : (List GSeen)) (b116_5 : (List GEntry)) (b116_6 : Int) (b612 : (List GCandidate)) (t21 : (List GSite)) (t22 t23 : Int) : Option ((List GCandidate) × Int) :=
 r2 t1 b116_0 b116_1 b116_2 b116_3 b116_4 b116_5 b116_6 b612 t21 t22 (IntKind.i64.wrap (t23 + 1))
def L_spare_Targets_3 (N : Nat) (r2 : Int → Int → Int → (List GSite) → (List GHealth) → (List GSeen) → (List GEntry) → Int → (List GCandidate) → (List GSite) → Int → Int → Option ((List GCandidate) × Int)) (t1 b116_0 b116_1 : Int) (b116_2 : (List GSite)) (b116_3 : (List GHealth)) (b116_4 : (List GSeen)) (b116_5 : (List GEntry)) (b116_6 : Int) (b148 : (List GCandidate)) (t7 t9 : Int) (t21 : (List GSite)) (t22 t23 : Int) (t57 : Bool) : Option ((List GCandidate) × Int) :=
 bif t57 then
  if growOk 16 (b148.length + 1) then
  L_spare_Targets_4 N r2 t1 b116_0 b116_1 b116_2 b116_3 b116_4 b116_5 b116_6 (b148 ++ [(GCandidate.mk t7 (if decide (16 < t9) then 16 else t9))]) t21 t22 t23
  else none
 else
  L_spare_Targets_4 N r2 t1 b116_0 b116_1 b116_2 b116_3 b116_4 b116_5 b116_6 b148 t21 t22 t23
def L_spare_Targets_2 (N : Nat) : Nat → Int → Int → Int → (List GSite) → (List GHealth) → (List GSeen) → (List GEntry) → Int → (List GCandidate) → (List GSite) → Int → Int → Option ((List GCandidate) × Int)
  | 0, _, _, _, _, _, _, _, _, _, _, _, _ => none
  | fuel + 1, t1, b116_0, b116_1, b116_2, b116_3, b116_4, b116_5, b116_6, b148, t21, t22, t23 =>
  bif (decide (t23 < t22)) then
   if 0 ≤ t23 ∧ t23 < ((t21.length : Nat) : Int) then
   (L_view_Spare N b116_4 t23 t1).bind fun v1 =>
   bif (t23 != b116_0) then
    bif (!((t21.getD t23.toNat default).Drain)) then
     bif (decide ((t21.getD t23.toNat default).Weight > 0)) then
      bif v1.2.1 then
       L_spare_Targets_3 N (L_spare_Targets_2 N fuel) t1 b116_0 b116_1 b116_2 b116_3 b116_4 b116_5 b116_6 b148 t23 v1.1 t21 t22 t23 (decide (v1.1 > 0))
      else
       L_spare_Targets_3 N (L_spare_Targets_2 N fuel) t1 b116_0 b116_1 b116_2 b116_3 b116_4 b116_5 b116_6 b148 t23 v1.1 t21 t22 t23 false
     else
      L_spare_Targets_3 N (L_spare_Targets_2 N fuel) t1 b116_0 b116_1 b116_2 b116_3 b116_4 b116_5 b116_6 b148 t23 v1.1 t21 t22 t23 false
    else
     L_spare_Targets_3 N (L_spare_Targets_2 N fuel) t1 b116_0 b116_1 b116_2 b116_3 b116_4 b116_5 b116_6 b148 t23 v1.1 t21 t22 t23 false
   else
    L_spare_Targets_3 N (L_spare_Targets_2 N fuel) t1 b116_0 b116_1 b116_2 b116_3 b116_4 b116_5 b116_6 b148 t23 v1.1 t21 t22 t23 false
   else none
  else
   some (b148, 0)
def L_spare_Targets_1 (N : Nat) (t1 b116_0 b116_1 : Int) (b116_2 : (List GSite)) (b116_3 : (List GHealth)) (b116_4 : (List GSeen)) (b116_5 : (List GEntry)) (b116_6 : Int) (t18 : Bool) : Option ((List GCandidate) × Int) :=
 bif t18 then
  some ([], 1700)
 else
  L_spare_Targets_2 N N t1 b116_0 b116_1 b116_2 b116_3 b116_4 b116_5 b116_6 ([]) b116_2 (b116_2.length : Int) 0
def L_spare_Targets (N : Nat) (x0 : GNode) (x1 : Int) : Option ((List GCandidate) × Int) :=
 (L_spare_May N x0).bind fun v1 =>
 bif (!v1) then
  L_spare_Targets_1 N x1 x0.Id x0.Config.Version x0.Config.Sites x0.Health x0.Seen x0.Flows x0.Serial true
 else
  (L_conf_Time N x1).bind fun v2 =>
  L_spare_Targets_1 N x1 x0.Id x0.Config.Version x0.Config.Sites x0.Health x0.Seen x0.Flows x0.Serial (!v2)
def d225 (r : (List GCandidate) × Int) : D := .tup [sS true eCandidate r.1, iI r.2]
theorem g225_4 {N} (gx0 : Bool) {r} (z : Z Tryz.prog ty 225 Tryz.f225 (Fi [] (d225 r) [])) {r2 : Int → Int → Int → (List GSite) → (List GHealth) → (List GSeen) → (List GEntry) → Int → (List GCandidate) → (List GSite) → Int → Int → Option ((List GCandidate) × Int)} (hr2 : ∀ {t1 b116_0 b116_1 b116_2 b116_3 b116_4 b116_5 b116_6 b148 t21 t22 t23}, r2 t1 b116_0 b116_1 b116_2 b116_3 b116_4 b116_5 b116_6 b148 t21 t22 t23 = some r → z.G [.c 151, .l 151, .b 0, .c 31] [(1, iI t1), (2, .ptr 116 0), (6, rR 148 b148), (21, sS gx0 (eSite gx0) t21), (22, iI t22), (23, iI t23)] [qB 116 [iI b116_0, iI b116_1, sS gx0 (eSite gx0) b116_2, sS gx0 eHealth b116_3, sS gx0 eSeen b116_4, sS gx0 eEntry b116_5, iI b116_6], pB 148 2 (eL eCandidate b148)]) {t1 b116_0 b116_1 b116_2 b116_3 b116_4 b116_5 b116_6 b612 t21 t22 t23} (h : L_spare_Targets_4 N r2 t1 b116_0 b116_1 b116_2 b116_3 b116_4 b116_5 b116_6 b612 t21 t22 t23 = some r) : z.G [.b 1, .c 1943, .l 151, .b 0, .c 31] [(1, iI t1), (2, .ptr 116 0), (6, rR 612 b612), (21, sS gx0 (eSite gx0) t21), (22, iI t22), (23, iI t23)] [qB 116 [iI b116_0, iI b116_1, sS gx0 (eSite gx0) b116_2, sS gx0 eHealth b116_3, sS gx0 eSeen b116_4, sS gx0 eEntry b116_5, iI b116_6], pB 612 2 (eL eCandidate b612)] :=
 z.j [] 3 [1, 2, 6, 21, 22, 23] [(116, 116), (612, 148)] o0 (hr2 h)
theorem g225_3 {N} (gx0 : Bool) {r} (z : Z Tryz.prog ty 225 Tryz.f225 (Fi [] (d225 r) [])) {r2 : Int → Int → Int → (List GSite) → (List GHealth) → (List GSeen) → (List GEntry) → Int → (List GCandidate) → (List GSite) → Int → Int → Option ((List GCandidate) × Int)} (hr2 : ∀ {t1 b116_0 b116_1 b116_2 b116_3 b116_4 b116_5 b116_6 b148 t21 t22 t23}, r2 t1 b116_0 b116_1 b116_2 b116_3 b116_4 b116_5 b116_6 b148 t21 t22 t23 = some r → z.G [.c 151, .l 151, .b 0, .c 31] [(1, iI t1), (2, .ptr 116 0), (6, rR 148 b148), (21, sS gx0 (eSite gx0) t21), (22, iI t22), (23, iI t23)] [qB 116 [iI b116_0, iI b116_1, sS gx0 (eSite gx0) b116_2, sS gx0 eHealth b116_3, sS gx0 eSeen b116_4, sS gx0 eEntry b116_5, iI b116_6], pB 148 2 (eL eCandidate b148)]) {t1 b116_0 b116_1 b116_2 b116_3 b116_4 b116_5 b116_6 b148 t7 t9 t21 t22 t23 t57} (h : L_spare_Targets_3 N r2 t1 b116_0 b116_1 b116_2 b116_3 b116_4 b116_5 b116_6 b148 t7 t9 t21 t22 t23 t57 = some r) : z.G [.c 31127, .b 1, .c 1943, .l 151, .b 0, .c 31] [(1, iI t1), (2, .ptr 116 0), (6, rR 148 b148), (7, iI t7), (9, iI t9), (21, sS gx0 (eSite gx0) t21), (22, iI t22), (23, iI t23), (57, .bool t57)] [qB 116 [iI b116_0, iI b116_1, sS gx0 (eSite gx0) b116_2, sS gx0 eHealth b116_3, sS gx0 eSeen b116_4, sS gx0 eEntry b116_5, iI b116_6], pB 148 2 (eL eCandidate b148)] :=
 by
  cases t57 with
  | true => exact brT h fun h => (
   ck h fun h1 h =>
   z.j [(9, [(6, { cv := some (.ref 612 0 (b148 ++ [(GCandidate.mk t7 (if decide (16 < t9) then 16 else t9))]).length (b148 ++ [(GCandidate.mk t7 (if decide (16 < t9) then 16 else t9))]).length), cb := [(612, eL eCandidate (b148 ++ [(GCandidate.mk t7 (if decide (16 < t9) then 16 else t9))]))] })])] 2 [1, 2, 6, 21, 22, 23] [(116, 116), (612, 612)] (o5 (by decide : 1 * 2 ≤ 2) (ap_len (xs := b148) eCandidate_len) h1 (Le.apr (b := 612) (by first | rfl | (simp only [List.length_append, List.length_take, List.length_drop]; omega) | simp : (b148 ++ [(GCandidate.mk t7 (if decide (16 < t9) then 16 else t9))]).length = b148.length + 1)) (o1 (ap_one (xs := b148) eCandidate_len (y := (GCandidate.mk t7 (if decide (16 < t9) then 16 else t9))) (cs := [iI t7, iI (if decide (16 < t9) then 16 else t9)]) rfl))) (g225_4 gx0 z @hr2 h))
  | false => exact brF h fun h => (
   z.j [] 2 [1, 2, 6, 21, 22, 23] [(116, 116), (148, 612)] o0 (g225_4 gx0 z @hr2 h))
theorem g225_2 {N} (gx0 : Bool) {r} (z : Z Tryz.prog ty 225 Tryz.f225 (Fi [] (d225 r) [])) (fuel) : ∀ {t1 b116_0 b116_1 b116_2 b116_3 b116_4 b116_5 b116_6 b148 t21 t22 t23}, L_spare_Targets_2 N fuel t1 b116_0 b116_1 b116_2 b116_3 b116_4 b116_5 b116_6 b148 t21 t22 t23 = some r → z.G [.c 151, .l 151, .b 0, .c 31] [(1, iI t1), (2, .ptr 116 0), (6, rR 148 b148), (21, sS gx0 (eSite gx0) t21), (22, iI t22), (23, iI t23)] [qB 116 [iI b116_0, iI b116_1, sS gx0 (eSite gx0) b116_2, sS gx0 eHealth b116_3, sS gx0 eSeen b116_4, sS gx0 eEntry b116_5, iI b116_6], pB 148 2 (eL eCandidate b148)] := by
 induction fuel with
 | zero => intro t1 b116_0 b116_1 b116_2 b116_3 b116_4 b116_5 b116_6 b148 t21 t22 t23 h; cases h
 | succ fuel ih =>
  intro t1 b116_0 b116_1 b116_2 b116_3 b116_4 b116_5 b116_6 b148 t21 t22 t23 h
  exact
   br h (fun h0 h =>
    ck h fun h1 h =>
    bd h fun v1 h2 h =>
    z.s [(5, [(0, oT)]), (6, [(1, oC (.ip gx0 [iI ((t21.getD t23.toNat default).Weight), .bool ((t21.getD t23.toNat default).Drain), iI ((t21.getD t23.toNat default).Cap), sS gx0 eBack ((t21.getD t23.toNat default).Backs)]))]), (7, [(4, oR (d232 v1))])] 12 (o4 (Le.tt h0) h1 (Le.iptl (g := gx0) (eL_at (xs := t21) (eSite_len gx0) (ixl h1))) (c232 gx0 h2)) <|
    br h (fun h3 h =>
     br h (fun h4 h =>
      br h (fun h5 h =>
       br h (fun h6 h =>
        z.j [(8, [(4, oT), (9, oT), (14, oT), (17, oT)])] 1 [1, 2, 6, 7, 9, 21, 22, 23, 57] [(116, 116), (148, 148)] (o4 (Le.tt h3) (Le.tt h4) (Le.tt h5) (Le.tt h6)) (g225_3 gx0 z @ih h)) fun h6 h =>
       z.j [(8, [(4, oT), (9, oT), (14, oT), (17, oF)])] 1 [1, 2, 6, 7, 9, 21, 22, 23, 57] [(116, 116), (148, 148)] (o4 (Le.tt h3) (Le.tt h4) (Le.tt h5) (Le.ff h6)) (g225_3 gx0 z @ih h)) fun h5 h =>
      z.j [(8, [(4, oT), (9, oT), (14, oF)])] 1 [1, 2, 6, 7, 9, 21, 22, 23, 57] [(116, 116), (148, 148)] (o3 (Le.tt h3) (Le.tt h4) (Le.ff h5)) (g225_3 gx0 z @ih h)) fun h4 h =>
     z.j [(8, [(4, oT), (9, oF)])] 1 [1, 2, 6, 7, 9, 21, 22, 23, 57] [(116, 116), (148, 148)] (o2 (Le.tt h3) (Le.ff h4)) (g225_3 gx0 z @ih h)) fun h3 h =>
    z.j [(8, [(4, oF)])] 1 [1, 2, 6, 7, 9, 21, 22, 23, 57] [(116, 116), (148, 148)] (o1 (Le.ff h3)) (g225_3 gx0 z @ih h)) fun h0 h =>
   z.r [(5, [(0, oF)]), (11, [(1, { frz := true })])] 7 (o1 (Le.ff h0)) h
theorem g225_1 {N} (gx0 : Bool) {r} (z : Z Tryz.prog ty 225 Tryz.f225 (Fi [] (d225 r) [])) {t1 b116_0 b116_1 b116_2 b116_3 b116_4 b116_5 b116_6 t18} (h : L_spare_Targets_1 N t1 b116_0 b116_1 b116_2 b116_3 b116_4 b116_5 b116_6 t18 = some r) : z.G [.c 13, .c 7] [(1, iI t1), (2, .ptr 116 0), (18, .bool t18)] [qB 116 [iI b116_0, iI b116_1, sS gx0 (eSite gx0) b116_2, sS gx0 eHealth b116_3, sS gx0 eSeen b116_4, sS gx0 eEntry b116_5, iI b116_6]] :=
 by
  cases t18 with
  | true => exact brT h fun h => (
   z.rl [] 3 (.tup [.nils, iI 1700]) o0 h (Le.tup ((.cons (Le.nils (g := true)) (.cons (Le.of rfl) .nil)))))
  | false => exact brF h fun h => (
   z.j [(3, [(0, { own := some (2) })])] 9 [1, 2, 6, 21, 22, 23] [(116, 116), (148, 148)] o0 (g225_2 gx0 z N h))
theorem c225 {N} (gx0 : Bool) {x0 x1 r} (h : L_spare_Targets N x0 x1 = some r) : Con Tryz.prog 225 [.agg [iI x0.Id, iI x0.Config.Version, sS gx0 (eSite gx0) x0.Config.Sites, sS gx0 eHealth x0.Health, sS gx0 eSeen x0.Seen, sS gx0 eEntry x0.Flows, iI x0.Serial], iI x1] [] (d225 r) [] :=
 ci ok mix Tryz.f225 fun z =>
 bd h fun v1 h0 h =>
 br h (fun h1 h =>
  z.j [(1, [(0, oR (d113 v1)), (2, oT)])] 5 [1, 2, 18] [(116, 116)] (o2 ((c113 false h0).le ((.cons (Le.ipl ((.cons (Le.rfl) (.cons (Le.rfl) (.cons (Le.loo (g := gx0) (xs := x0.Config.Sites) (n := x0.Config.Sites.length) (c := x0.Config.Sites.length) (lo_Site gx0)) (.cons (Le.lnd (g := gx0) (cs := (eL eHealth x0.Health)) (n := x0.Health.length) (c := x0.Health.length)) (.cons (Le.lnd (g := gx0) (cs := (eL eSeen x0.Seen)) (n := x0.Seen.length) (c := x0.Seen.length)) (.cons (Le.lnd (g := gx0) (cs := (eL eEntry x0.Flows)) (n := x0.Flows.length) (c := x0.Flows.length)) (.cons (Le.rfl) .nil))))))))) .nil))) (Le.tt h1)) (g225_1 gx0 z h)) fun h1 h =>
 bd h fun v2 h2 h =>
 z.j [(1, [(0, oR (d113 v1)), (2, oF), (4, oR (d59 v2))])] 5 [1, 2, 18] [(116, 116)] (o3 ((c113 false h0).le ((.cons (Le.ipl ((.cons (Le.rfl) (.cons (Le.rfl) (.cons (Le.loo (g := gx0) (xs := x0.Config.Sites) (n := x0.Config.Sites.length) (c := x0.Config.Sites.length) (lo_Site gx0)) (.cons (Le.lnd (g := gx0) (cs := (eL eHealth x0.Health)) (n := x0.Health.length) (c := x0.Health.length)) (.cons (Le.lnd (g := gx0) (cs := (eL eSeen x0.Seen)) (n := x0.Seen.length) (c := x0.Seen.length)) (.cons (Le.lnd (g := gx0) (cs := (eL eEntry x0.Flows)) (n := x0.Flows.length) (c := x0.Flows.length)) (.cons (Le.rfl) .nil))))))))) .nil))) (Le.ff h1) (c59 h2)) (g225_1 gx0 z h)
def L_hash_mix (N : Nat) (x0 x1 : Int) : Option (Int) :=
 via ((bXor .u32 (IntKind.u32.wrap (x0 + 2654435769)) x1) : Int) fun v1 =>
 via ((IntKind.u32.wrap ((bXor .u32 v1 (v1.fdiv (2 ^ 16))) * 2246822507)) : Int) fun v2 =>
 via ((IntKind.u32.wrap ((bXor .u32 v2 (v2.fdiv (2 ^ 13))) * 3266489909)) : Int) fun v3 =>
 some (bXor .u32 v3 (v3.fdiv (2 ^ 16)))
def d215 (r : Int) : D := .int .u32 r
theorem c215 {N} {x0 x1 r} (h : L_hash_mix N x0 x1 = some r) : Con Tryz.prog 215 [.int .u32 x0, .int .u32 x1] [] (d215 r) [] :=
 ci ok mix Tryz.f215 fun z =>
 vi h fun v1 h0 h =>
 vi h fun v2 h1 h =>
 vi h fun v3 h2 h =>
 z.r [(1, [(3, oC (.int .u32 v1))]), (2, [(4, oC (.int .u32 v2))]), (3, [(4, oC (.int .u32 v3))])] 10 (o5 (Le.int (k := .u32) h0) (by decide : (0:Int) ≤ 16) (Le.int (k := .u32) h1) (by decide : (0:Int) ≤ 13) (o2 (Le.int (k := .u32) h2) (by decide : (0:Int) ≤ 16))) h
def L_hash_Flow_2 (N : Nat) : Nat → Int → (List Int) → Int → Int → Option (Int × Int)
  | 0, _, _, _, _ => none
  | fuel + 1, t6, b348, t32, t33 =>
  bif (decide (t33 < t32)) then
   if 0 ≤ t33 ∧ t33 < ((b348.length : Nat) : Int) then
   via ((IntKind.u32.wrap (b348.getD t33.toNat default)) : Int) fun v1 =>
   (L_hash_mix N t6 v1).bind fun v2 =>
   L_hash_Flow_2 N fuel v2 b348 t32 (IntKind.i64.wrap (t33 + 1))
   else none
  else
   some ((IntKind.i64.wrap t6), 0)
def L_hash_Flow_1 (N : Nat) (t0 b124_0 b124_1 b124_2 b124_3 b124_4 : Int) (t16 : Bool) : Option (Int × Int) :=
 bif t16 then
  some (0, 800)
 else
  via ((bOr .i64 (IntKind.i64.wrap (b124_3 * 2 ^ 16)) b124_4) : Int) fun v1 =>
  L_hash_Flow_2 N N (IntKind.u32.wrap t0) ([b124_0, b124_1, b124_2, v1]) 4 0
def L_hash_Flow (N : Nat) (x0 : Int) (x1 : GFlow) : Option (Int × Int) :=
 (L_ip_In N x0 32).bind fun v1 =>
 bif (!v1) then
  L_hash_Flow_1 N x0 x1.Src x1.Dst x1.Proto x1.Sport x1.Dport true
 else
  (L_flow_May N x1).bind fun v2 =>
  L_hash_Flow_1 N x0 x1.Src x1.Dst x1.Proto x1.Sport x1.Dport (!v2)
def d182 (r : Int × Int) : D := .tup [iI r.1, iI r.2]
theorem g182_2 {N} {r} (z : Z Tryz.prog ty 182 Tryz.f182 (Fi [] (d182 r) [])) (fuel) : ∀ {t6 b348 t32 t33}, L_hash_Flow_2 N fuel t6 b348 t32 t33 = some r → z.G [.c 151, .l 151, .b 0, .c 31] [(6, .int .u32 t6), (31, rR 348 b348), (32, iI t32), (33, iI t33)] [pB 348 1 (eL (eInt .i64) b348)] := by
 induction fuel with
 | zero => intro t6 b348 t32 t33 h; cases h
 | succ fuel ih =>
  intro t6 b348 t32 t33 h
  exact
   br h (fun h0 h =>
    ck h fun h1 h =>
    vi h fun v1 h2 h =>
    bd h fun v2 h3 h =>
    z.j [(5, [(0, oT)]), (6, [(0, oC (.ptr 348 (t33.toNat * 1 + 0))), (1, oC (iI (b348.getD t33.toNat default)))]), (7, [(2, oC (.int .u32 v1)), (3, oR (d215 v2))])] 13 [6, 31, 32, 33] [(348, 348)] (o5 (Le.tt h0) h1 (Le.pt (b := 348) (k := t33.toNat * 1)) (ld_ne (xs := b348) (eInt_len .i64) (ixl h1) (o := 0) (by decide)) (o3 (Le.of (ld_hd (xs := b348) (eInt_len .i64) (ixl h1) (o := 0) (by decide))) (Le.int (k := .u32) h2) (c215 h3))) (ih h)) fun h0 h =>
   z.r [(5, [(0, oF)])] 7 (o1 (Le.ff h0)) h
theorem g182_1 {N} {r} (z : Z Tryz.prog ty 182 Tryz.f182 (Fi [] (d182 r) [])) {t0 b124_0 b124_1 b124_2 b124_3 b124_4 t16} (h : L_hash_Flow_1 N t0 b124_0 b124_1 b124_2 b124_3 b124_4 t16 = some r) : z.G [.c 13, .c 7] [(0, iI t0), (3, .ptr 124 0), (16, .bool t16)] [qB 124 [iI b124_0, iI b124_1, iI b124_2, iI b124_3, iI b124_4]] :=
 by
  cases t16 with
  | true => exact brT h fun h => (
   z.r [] 3 o0 h)
  | false => exact brF h fun h => (
   vi h fun v1 h1 h =>
   z.j [(4, [(11, oC (.int .i64 v1))])] 9 [6, 31, 32, 33] [(348, 348)] (o2 (by decide : (0:Int) ≤ 16) (Le.int (k := .i64) h1)) (g182_2 z N h))
theorem c182 {N} {x0 x1 r} (h : L_hash_Flow N x0 x1 = some r) : Con Tryz.prog 182 [iI x0, .agg [iI x1.Src, iI x1.Dst, iI x1.Proto, iI x1.Sport, iI x1.Dport]] [] (d182 r) [] :=
 ci ok mix Tryz.f182 fun z =>
 bd h fun v1 h0 h =>
 br h (fun h1 h =>
  z.j [(1, [(1, oR (d198 v1)), (3, oT)])] 5 [0, 3, 16] [(124, 124)] (o2 (c198 h0) (Le.tt h1)) (g182_1 z h)) fun h1 h =>
 bd h fun v2 h2 h =>
 z.j [(1, [(1, oR (d198 v1)), (3, oF), (5, oR (d197 v2))])] 5 [0, 3, 16] [(124, 124)] (o3 (c198 h0) (Le.ff h1) (c197 h2)) (g182_1 z h)
def L_maglev_Weight_1 (N : Nat) (t2 : Bool) : Option (Bool) :=
 some t2
def L_maglev_Weight (N : Nat) (x0 : Int) : Option (Bool) :=
 bif (decide (x0 ≥ 1)) then
  L_maglev_Weight_1 N (decide (x0 ≤ 16))
 else
  L_maglev_Weight_1 N false
def d233 (r : Bool) : D := .bool r
theorem g233_1 {N} {r} (z : Z Tryz.prog ty 233 Tryz.f233 (Fi [] (d233 r) [])) {t2} (h : L_maglev_Weight_1 N t2 = some r) : z.G [.c 7] [(2, .bool t2)] [] :=
 z.r [] 0 o0 h
theorem c233 {N} {x0 r} (h : L_maglev_Weight N x0 = some r) : Con Tryz.prog 233 [iI x0] [] (d233 r) [] :=
 ci ok mix Tryz.f233 fun z =>
 br h (fun h0 h =>
  z.j [(1, [(2, oT)])] 4 [2] [] (o1 (Le.tt h0)) (g233_1 z h)) fun h0 h =>
 z.j [(1, [(2, oF)])] 4 [2] [] (o1 (Le.ff h0)) (g233_1 z h)
end Go.Proofs.YtmhlgpdoedbedaaGreat.Lf
