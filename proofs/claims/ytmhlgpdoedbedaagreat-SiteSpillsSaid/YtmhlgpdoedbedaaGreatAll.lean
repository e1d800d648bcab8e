/- What functions compute, and that they do. -/
import Derived.Test.YtmhlgpdoedbedaaGreatAll1
namespace Go.Proofs.YtmhlgpdoedbedaaGreat.Lf
set_option linter.unusedVariables false
set_option linter.unusedSimpArgs false
set_option maxRecDepth 20000
open Go Go.RowKit Go.Proofs Go.Proofs.YtmhlgpdoedbedaaGreat.Sv
/-! ### wharfage/edge.pinned -/
/-! ### wharfage/edge.Take -/
/-! ### wharfage/conf.Copy -/
def d76v1 (r : GConfig) : D := .agg [iI r.Version, rR 1000 r.Sites]
def h76v1 (r : GConfig) : List (Nat × Option Blk) := [pB 1000 4 (eL (eSite true) r.Sites)]
theorem g76v1_1 {N} (gx0 : Bool) {r} (z : Z Tryz.prog ty 76 Tryz.f76 (Fi [] (d76v1 r) (h76v1 r))) (fuel) : ∀ {b108_0 b108_1 b116_0 b124 t7 t8 t9}, L_conf_Copy_1 N fuel b108_0 b108_1 b116_0 b124 t7 t8 t9 = some r → z.G [.c 75, .l 75, .b 0, .c 15] [(1, .ptr 108 0), (2, .ptr 116 0), (3, rR 124 b124), (7, sS gx0 (eSite gx0) t7), (8, iI t8), (9, iI t9)] [qB 108 [iI b108_0, sS gx0 (eSite gx0) b108_1], qB 116 [iI b116_0, .nils], pB 124 4 (eL (eSite true) b124)] := by
 induction fuel with
 | zero => intro b108_0 b108_1 b116_0 b124 t7 t8 t9 h; cases h
 | succ fuel ih =>
  intro b108_0 b108_1 b116_0 b124 t7 t8 t9 h
  exact
   br h (fun h0 h =>
    ck h fun h1 h =>
    ck h fun h2 h =>
    ck h fun h3 h =>
    z.j [(3, [(0, oT)]), (4, [(0, oC (.ip gx0 [iI ((t7.getD t9.toNat default).Weight), .bool ((t7.getD t9.toNat default).Drain), iI ((t7.getD t9.toNat default).Cap), sS gx0 eBack ((t7.getD t9.toNat default).Backs)]))]), (5, [(2, { cb := [(220, (eL eBack ((t7.getD t9.toNat default).Backs)))] })]), (6, [(1, { frz := true }), (3, { cv := some (.ref 260 0 (b124 ++ [(t7.getD t9.toNat default)]).length (b124 ++ [(t7.getD t9.toNat default)]).length), cb := [(260, eL (eSite true) (b124 ++ [(t7.getD t9.toNat default)]))] })])] 15 [1, 2, 3, 7, 8, 9] [(108, 108), (116, 116), (260, 124)] (o5 (Le.tt h0) h1 (Le.iptl (g := gx0) (eL_at (xs := t7) (eSite_len gx0) (ixl h1))) (Or.inr (eL_frees (fun _ => rfl) _) : gx0 = true ∨ frees (eL eBack ((t7.getD t9.toNat default).Backs)) = true) (o5 (ap_len (xs := (t7.getD t9.toNat default).Backs) eBack_len) h2 (eL_all (e := eBack) eBack_len ((t7.getD t9.toNat default).Backs)) (by decide : 1 * 4 ≤ 4) (o4 (ap_len (xs := b124) (eSite_len true)) h3 (Le.apr (b := 260) (by first | rfl | (simp only [List.length_append, List.length_take, List.length_drop]; omega) | simp : (b124 ++ [(t7.getD t9.toNat default)]).length = b124.length + 1)) (ap_one (xs := b124) (eSite_len true) (y := (t7.getD t9.toNat default)) (cs := [iI ((t7.getD t9.toNat default).Weight), .bool ((t7.getD t9.toNat default).Drain), iI ((t7.getD t9.toNat default).Cap), sS true eBack ((t7.getD t9.toNat default).Backs)]) rfl)))) (ih h)) fun h0 h =>
   z.rb [(3, [(0, oF)]), (9, [(0, { own := some (0) })])] 9 [(1000, 124)] (.agg [iI b108_0, rR 124 b124]) (o1 (Le.ff h0)) h (Le.of (by kernel_rfl))
theorem c76v1 {N} (gx0 : Bool) {x0 r} (h : L_conf_Copy N x0 = some r) : Con Tryz.prog 76 [.agg [iI x0.Version, sS gx0 (eSite gx0) x0.Sites]] [] (d76v1 r) (h76v1 r) :=
 ci ok mix Tryz.f76 fun z =>
 z.j [(1, [(0, { own := some (4) })])] 9 [1, 2, 3, 7, 8, 9] [(108, 108), (116, 116), (124, 124)] o0 (g76v1_1 gx0 z N h)
/-! ### wharfage/edge.Copy -/
/-! ### wharfage/edge.Copy -/
def d60v3 (r : GEdge) : D := .agg [iI r.Id, iI r.Config.Version, rR 1000 r.Config.Sites, rR 1001 r.Health, sS true eEntry r.Flows]
def h60v3 (r : GEdge) : List (Nat × Option Blk) := [pB 1000 4 (eL (eSite true) r.Config.Sites), pB 1001 2 (eL eHealth r.Health)]
theorem c60v3 {N} (gx0 : Bool) {x0 r} (h : L_edge_Copy N x0 = some r) : Con Tryz.prog 60 [.agg [iI x0.Id, iI x0.Config.Version, sS gx0 (eSite gx0) x0.Config.Sites, sS gx0 eHealth x0.Health, sS gx0 eEntry x0.Flows]] [] (d60v3 r) (h60v3 r) :=
 ci ok mix Tryz.f60 fun z =>
 bd h fun v1 h0 h =>
 bd h fun v2 h1 h =>
 bd h fun v3 h2 h =>
 z.rb [(1, [(2, { r := d76v1 v1, H := h76v1 v1 }), (5, { r := d123c7 v2, H := h123c7 v2 }), (8, oR (d124c3 v3))])] 6 [(1000, 140), (1001, 164)] (.agg [iI x0.Id, iI v1.Version, rR 140 v1.Sites, rR 164 v2, sS true eEntry v3]) (o3 (c76v1 gx0 h0) (c123c7 gx0 h1) (c124c3 gx0 h2)) h (Le.of (by kernel_rfl))
/-! ### wharfage/conf.Site -/
def d109v1 (r : GSite × Bool) : D := .tup [.agg [iI r.1.Weight, .bool r.1.Drain, iI r.1.Cap, sS true eBack r.1.Backs], .bool r.2]
theorem g109v1_1 {N} (gx0 : Bool) {r} (z : Z Tryz.prog ty 109 Tryz.f109 (Fi [] (d109v1 r) [])) {t0 t1 b132_0 b132_1 b132_2 t16} (h : L_conf_Site_1 N t0 t1 b132_0 b132_1 b132_2 t16 = some r) : z.G [.c 13, .c 7] [(0, .ip gx0 [iI t0.Version, sS gx0 (eSite true) t0.Sites]), (1, iI t1), (4, .ptr 132 0), (16, .bool t16)] [qB 132 [iI b132_0, .bool b132_1, iI b132_2, .nils]] :=
 by
  cases t16 with
  | true => exact brT h fun h => (
   z.rl [] 3 (.tup [.agg [iI 0, .bool false, iI 0, .nils], .bool false]) o0 h (Le.tup ((.cons (Le.agg ((.cons (Le.of rfl) (.cons (Le.of rfl) (.cons (Le.of rfl) (.cons (Le.nils (g := true)) .nil)))))) (.cons (Le.of rfl) .nil)))))
  | false => exact brF h fun h => (
   ck h fun h1 h =>
   z.r [(3, [(5, oC (.ip gx0 [iI ((t0.Sites.getD t1.toNat default).Weight), .bool ((t0.Sites.getD t1.toNat default).Drain), iI ((t0.Sites.getD t1.toNat default).Cap), sS true eBack ((t0.Sites.getD t1.toNat default).Backs)]))])] 4 (o2 h1 (Le.iptl (g := gx0) (eL_at (xs := t0.Sites) (eSite_len true) (ixl h1)))) h)
theorem c109v1 {N} (gx0 : Bool) {x0 x1 r} (h : L_conf_Site N x0 x1 = some r) : Con Tryz.prog 109 [.ip gx0 [iI x0.Version, sS gx0 (eSite true) x0.Sites], iI x1] [] (d109v1 r) [] :=
 ci ok mix Tryz.f109 fun z =>
 br h (fun h0 h =>
  z.j [(1, [(2, oT)])] 5 [0, 1, 4, 16] [(132, 132)] (o1 (Le.tt h0)) (g109v1_1 gx0 z h)) fun h0 h =>
 z.j [(1, [(2, oF)])] 5 [0, 1, 4, 16] [(132, 132)] (o1 (Le.ff h0)) (g109v1_1 gx0 z h)
/-! ### wharfage/conf.Has -/
def d130v1 (r : Bool) : D := .bool r
theorem g130v1_1 {N} (gx0 : Bool) {r} (z : Z Tryz.prog ty 130 Tryz.f130 (Fi [] (d130v1 r) [])) {t6} (h : L_conf_Has_1 N t6 = some r) : z.G [.c 15] [(6, .bool t6)] [] :=
 z.r [] 0 o0 h
theorem c130v1 {N} (gx0 : Bool) {x0 x1 x2 r} (h : L_conf_Has N x0 x1 x2 = some r) : Con Tryz.prog 130 [.agg [iI x0.Version, sS gx0 (eSite true) x0.Sites], iI x1, iI x2] [] (d130v1 r) [] :=
 ci ok mix Tryz.f130 fun z =>
 bd h fun v1 h0 h =>
 bd h fun v2 h1 h =>
 z.s [(1, [(1, oR (d109v1 v1))])] 5 (o1 ((c109v1 false h0).le ((.cons (Le.ipl ((.cons (Le.rfl) (.cons (Le.lnd (g := gx0) (cs := (eL (eSite true) x0.Sites)) (n := x0.Sites.length) (c := x0.Sites.length)) .nil)))) (.cons (Le.rfl) .nil))))) <|
 br h (fun h2 h =>
  br h (fun h3 h =>
   br h (fun h4 h =>
    z.j [(2, [(1, oR (d85 v2)), (2, oT), (5, oT), (8, oT)])] 1 [6] [] (o4 ((c85 false h1).le ((.cons (Le.agg ((.cons (Le.rfl) (.cons (Le.loo (g := gx0) (xs := x0.Sites) (n := x0.Sites.length) (c := x0.Sites.length) (lo_Site true)) .nil)))) .nil))) (Le.tt h2) (Le.tt h3) (Le.tt h4)) (g130v1_1 gx0 z h)) fun h4 h =>
   br h (fun h5 h =>
    z.j [(2, [(1, oR (d85 v2)), (2, oT), (5, oT), (8, oF), (11, oT)])] 1 [6] [] (o5 ((c85 false h1).le ((.cons (Le.agg ((.cons (Le.rfl) (.cons (Le.loo (g := gx0) (xs := x0.Sites) (n := x0.Sites.length) (c := x0.Sites.length) (lo_Site true)) .nil)))) .nil))) (Le.tt h2) (Le.tt h3) (Le.ff h4) (o1 (Le.tt h5))) (g130v1_1 gx0 z h)) fun h5 h =>
   z.j [(2, [(1, oR (d85 v2)), (2, oT), (5, oT), (8, oF), (11, oF)])] 1 [6] [] (o5 ((c85 false h1).le ((.cons (Le.agg ((.cons (Le.rfl) (.cons (Le.loo (g := gx0) (xs := x0.Sites) (n := x0.Sites.length) (c := x0.Sites.length) (lo_Site true)) .nil)))) .nil))) (Le.tt h2) (Le.tt h3) (Le.ff h4) (o1 (Le.ff h5))) (g130v1_1 gx0 z h)) fun h3 h =>
  z.j [(2, [(1, oR (d85 v2)), (2, oT), (5, oF)])] 1 [6] [] (o3 ((c85 false h1).le ((.cons (Le.agg ((.cons (Le.rfl) (.cons (Le.loo (g := gx0) (xs := x0.Sites) (n := x0.Sites.length) (c := x0.Sites.length) (lo_Site true)) .nil)))) .nil))) (Le.tt h2) (Le.ff h3)) (g130v1_1 gx0 z h)) fun h2 h =>
 z.j [(2, [(1, oR (d85 v2)), (2, oF)])] 1 [6] [] (o2 ((c85 false h1).le ((.cons (Le.agg ((.cons (Le.rfl) (.cons (Le.loo (g := gx0) (xs := x0.Sites) (n := x0.Sites.length) (c := x0.Sites.length) (lo_Site true)) .nil)))) .nil))) (Le.ff h2)) (g130v1_1 gx0 z h)
/-! ### wharfage/edge.pinned -/
def d64v2 (r : GEntry × Bool) : D := .tup [.agg [iI r.1.Flow.Src, iI r.1.Flow.Dst, iI r.1.Flow.Proto, iI r.1.Flow.Sport, iI r.1.Flow.Dport, iI r.1.To, .bool r.1.Away, iI r.1.Phase, iI r.1.Used], .bool r.2]
theorem g64v2_1 {N} (gx0 : Bool) {r} (z : Z Tryz.prog ty 64 Tryz.f64 (Fi [] (d64v2 r) [])) {t0 b140_0 b140_1 b140_2 b140_3 b140_4 b148_0 b148_1 b148_2 b148_3 b148_4 b148_5 b148_6 b148_7 b148_8 b164_0 b164_1 b164_2 b164_3 b164_4 b164_5 b164_6 b164_7 b164_8 t44} (h : L_edge_pinned_1 N t0 b140_0 b140_1 b140_2 b140_3 b140_4 b148_0 b148_1 b148_2 b148_3 b148_4 b148_5 b148_6 b148_7 b148_8 b164_0 b164_1 b164_2 b164_3 b164_4 b164_5 b164_6 b164_7 b164_8 t44 = some r) : z.G [.c 27, .c 15] [(0, .ip gx0 [iI t0.Id, iI t0.Config.Version, sS gx0 (eSite true) t0.Config.Sites, sS gx0 eHealth t0.Health, sS true eEntry t0.Flows]), (5, .ptr 140 0), (6, .ptr 148 0), (8, .ptr 164 0), (44, .bool t44)] [qB 140 [iI b140_0, iI b140_1, iI b140_2, iI b140_3, iI b140_4], qB 148 [iI b148_0, iI b148_1, iI b148_2, iI b148_3, iI b148_4, iI b148_5, .bool b148_6, iI b148_7, iI b148_8], qB 164 [iI b164_0, iI b164_1, iI b164_2, iI b164_3, iI b164_4, iI b164_5, .bool b164_6, iI b164_7, iI b164_8]] :=
 by
  cases t44 with
  | true => exact brT h fun h => (
   z.r [] 3 o0 h)
  | false => exact brF h fun h => (
   bd h fun v1 h1 h =>
   bd h fun v2 h2 h =>
   z.r [(4, [(8, oR (d131 v1))]), (5, [(2, oR (d132 v2))])] 8 (o2 ((c131 false gx0 h1).le ((.cons (Le.agg ((.cons (Le.rfl) (.cons (Le.loo (g := gx0) (xs := t0.Config.Sites) (n := t0.Config.Sites.length) (c := t0.Config.Sites.length) (lo_Site true)) .nil)))) (.cons (Le.rfl) .nil)))) (c132 true h2)) h)
theorem c64v2 {N} (gx0 : Bool) {x0 x1 x2 r} (h : L_edge_pinned N x0 x1 x2 = some r) : Con Tryz.prog 64 [.ip gx0 [iI x0.Id, iI x0.Config.Version, sS gx0 (eSite true) x0.Config.Sites, sS gx0 eHealth x0.Health, sS true eEntry x0.Flows], iI x1, .agg [iI x2.Src, iI x2.Dst, iI x2.Proto, iI x2.Sport, iI x2.Dport]] [] (d64v2 r) [] :=
 ci ok mix Tryz.f64 fun z =>
 bd h fun v1 h0 h =>
 z.s [(1, [(6, oR (d129 v1))])] 6 (o1 (c129 true h0)) <|
 br h (fun h1 h =>
  bd h fun v2 h2 h =>
  br h (fun h3 h =>
   ck h fun h4 h =>
   z.j [(2, [(1, oT), (8, oR (d130v1 v2)), (10, oT), (17, oC (.ip gx0 [.bool ((x0.Health.getD v1.1.To.toNat default).Up), iI ((x0.Health.getD v1.1.To.toNat default).Count)]))])] 1 [0, 5, 6, 8, 44] [(140, 140), (148, 148), (164, 164)] (o5 (Le.tt h1) (c130v1 gx0 h2) (Le.tt h3) h4 (o1 (Le.iptl (g := gx0) (eL_at (xs := x0.Health) eHealth_len (ixl h4))))) (g64v2_1 gx0 z h)) fun h3 h =>
  z.j [(2, [(1, oT), (8, oR (d130v1 v2)), (10, oF)])] 1 [0, 5, 6, 8, 44] [(140, 140), (148, 148), (164, 164)] (o3 (Le.tt h1) (c130v1 gx0 h2) (Le.ff h3)) (g64v2_1 gx0 z h)) fun h1 h =>
 z.j [(2, [(1, oF)])] 1 [0, 5, 6, 8, 44] [(140, 140), (148, 148), (164, 164)] (o1 (Le.ff h1)) (g64v2_1 gx0 z h)
/-! ### wharfage/edge.Take -/
def d19v2 (r : GEdge × GOut × Int) : D := .tup [.agg [iI r.1.Id, iI r.1.Config.Version, rR 1000 r.1.Config.Sites, rR 1001 r.1.Health, sS true eEntry r.1.Flows], .agg [sS true eStr r.2.1.Sent, sS true eEvent r.2.1.Events], iI r.2.2]
def h19v2 (r : GEdge × GOut × Int) : List (Nat × Option Blk) := [pB 1000 4 (eL (eSite true) r.1.Config.Sites), pB 1001 2 (eL eHealth r.1.Health)]
theorem g19v2_1 {N} (gx0 : Bool) {r} (z : Z Tryz.prog ty 19 Tryz.f19 (Fi [] (d19v2 r) (h19v2 r))) {t1 t2 b124_0 b124_1 b124_2 b124_3 b124_4 b148_0 b148_1 t24} (h : L_edge_Take_1 N t1 t2 b124_0 b124_1 b124_2 b124_3 b124_4 b148_0 b148_1 t24 = some r) : z.G [.c 13, .c 7] [(1, iI t1), (2, .str t2), (3, .ptr 124 0), (6, .ptr 148 0), (7, .ptr 156 0), (24, .bool t24)] [qB 124 [iI b124_0, iI b124_1, sS gx0 (eSite gx0) b124_2, sS gx0 eHealth b124_3, sS gx0 eEntry b124_4], qB 148 [iI b148_0, iI b148_1, .nils, .nils, .nils], qB 156 [.nils, .nils]] :=
 by
  cases t24 with
  | true => exact brT h fun h => (
   z.rb [(2, [(0, { own := some (2004) })])] 3 [(1000, 300), (1001, 301)] (.tup [.agg [iI 0, iI 0, .ref 300 0 0 0, .ref 301 0 0 0, .nils], .agg [.nils, .nils], iI 1900]) o0 h (Le.ofEq (Le.tup ((.cons (Le.agg ((.cons (Le.of rfl) (.cons (Le.of rfl) (.cons (Le.of rfl) (.cons (Le.of rfl) (.cons (Le.nils (g := true)) .nil))))))) (.cons (Le.agg ((.cons (Le.nils (g := true)) (.cons (Le.nils (g := true)) .nil)))) (.cons (Le.of rfl) .nil))))) (by kernel_rfl)))
  | false => exact brF h fun h => (
   bd h fun v1 h1 h =>
   bd h fun v2 h2 h =>
   z.s [(3, [(1, { r := d60v3 v1, H := h60v3 v1 })]), (5, [(1, oR (d61 v2))])] 10 (o2 (c60v3 gx0 h1) (c61 h2)) <|
   br h (fun h3 h =>
    bd h fun v3 h4 h =>
    bd h fun v4 h5 h =>
    z.rb [(6, [(1, oT)]), (7, [(3, oR (d63 v3)), (5, oR (d62 v4))])] 4 [(1000, 324), (1001, 325)] (.tup [.agg [iI v1.Id, iI v1.Config.Version, rR 324 v1.Config.Sites, rR 325 v1.Health, sS true eEntry v1.Flows], .agg [sS true eStr v4.Sent, sS true eEvent v4.Events], iI 0]) (o3 (Le.tt h3) (c63 h4) (c62 h5)) h (Le.of (by kernel_rfl))) fun h3 h =>
   bd h fun v3 h4 h =>
   z.s [(6, [(1, oF)]), (8, [(2, oR (d64v2 v3))])] 7 (o2 (Le.ff h3) (c64v2 false h4)) <|
   br h (fun h5 h =>
    bd h fun v4 h6 h =>
    z.rb [(9, [(1, oT)]), (10, [(3, oR (d62 v4))])] 4 [(1000, 324), (1001, 325)] (.tup [.agg [iI v1.Id, iI v1.Config.Version, rR 324 v1.Config.Sites, rR 325 v1.Health, sS true eEntry v1.Flows], .agg [sS true eStr v4.Sent, sS true eEvent v4.Events], iI 0]) (o2 (Le.tt h5) (c62 h6)) h (Le.of (by kernel_rfl))) fun h5 h =>
   bd h fun v4 h6 h =>
   bd h fun v5 h7 h =>
   bd h fun v6 h8 h =>
   z.rb [(9, [(1, oF)]), (12, [(2, oR (d65 v4))]), (13, [(2, oR (d65 v5))]), (15, [(8, oR (d66 v6))])] 15 [(1000, 324), (1001, 325)] (.tup [.agg [iI v1.Id, iI v1.Config.Version, rR 324 v1.Config.Sites, rR 325 v1.Health, sS true eEntry v6.1], .agg [sS true eStr v6.2.Sent, sS true eEvent v6.2.Events], iI 0]) (o4 (Le.ff h5) (c65 h6) (c65 h7) (c66 h8)) h (Le.of (by kernel_rfl)))
theorem c19v2 {N} (gx0 : Bool) {x0 x1 x2 r} (h : L_edge_Take N x0 x1 x2 = some r) : Con Tryz.prog 19 [.agg [iI x0.Id, iI x0.Config.Version, sS gx0 (eSite gx0) x0.Config.Sites, sS gx0 eHealth x0.Health, sS gx0 eEntry x0.Flows], iI x1, .str x2] [] (d19v2 r) (h19v2 r) :=
 ci ok mix Tryz.f19 fun z =>
 bd h fun v1 h0 h =>
 br h (fun h1 h =>
  z.j [(1, [(1, oR (d26 v1)), (3, oT)])] 5 [1, 2, 3, 6, 7, 24] [(124, 124), (148, 148), (156, 156)] (o2 (c26 gx0 h0) (Le.tt h1)) (g19v2_1 gx0 z h)) fun h1 h =>
 bd h fun v2 h2 h =>
 z.j [(1, [(1, oR (d26 v1)), (3, oF), (5, oR (d59 v2))])] 5 [1, 2, 3, 6, 7, 24] [(124, 124), (148, 148), (156, 156)] (o3 (c26 gx0 h0) (Le.ff h1) (c59 h2)) (g19v2_1 gx0 z h)
/-! ### wharfage/wharfagelaw19.EdgeMoves -/
def L_law19_EdgeMoves_5 (N : Nat) (t4 : Bool) : Option (Bool) :=
  some t4
def L_law19_EdgeMoves_4 (N : Nat) (t7 : ByteArray) (t10 b196_0 b196_1 : Int) (b700 : (List GSite)) (b701 : (List GHealth)) (b196_4 : (List GEntry)) : Option (Bool) :=
  (L_edge_Take N (GEdge.mk b196_0 (GConfig.mk b196_1 b700) b701 b196_4) 3 t7).bind fun v1 =>
  (L_law0_Num N v1.2.2).bind fun v2 =>
  bif (v2 == 0) then
    bif ((v1.1.Flows.length : Int) == 1) then
      if 0 ≤ (0 : Int) ∧ (0 : Int) < ((v1.1.Flows.length : Nat) : Int) then
      L_law19_EdgeMoves_5 N ((v1.1.Flows.getD (Int.toNat 0) default).To == (IntKind.i64.wrap ((1 : Int) - t10)))
      else none
    else
      L_law19_EdgeMoves_5 N false
  else
    L_law19_EdgeMoves_5 N false
def L_law19_EdgeMoves_3 (N : Nat) (t1 : Bool) (t7 : ByteArray) (t10 b196_0 b196_1 : Int) (b700 : (List GSite)) (b701 : (List GHealth)) (b196_4 : (List GEntry)) (t116 : Bool) : Option (Bool) :=
  bif t116 then
    some false
  else
    if 0 ≤ t10 ∧ t10 < ((b701.length : Nat) : Int) then
    bif t1 then
      if 0 ≤ t10 ∧ t10 < ((b700.length : Nat) : Int) then
      L_law19_EdgeMoves_4 N t7 t10 b196_0 b196_1 (b700.set t10.toNat (GSite.mk 16 ((b700.getD t10.toNat default).Drain) ((b700.getD t10.toNat default).Cap) ((b700.getD t10.toNat default).Backs))) (b701.set t10.toNat (GHealth.mk true 0)) b196_4
      else none
    else
      L_law19_EdgeMoves_4 N t7 t10 b196_0 b196_1 b700 (b701.set t10.toNat (GHealth.mk true 0)) b196_4
    else none
def L_law19_EdgeMoves_2 (N : Nat) (t1 : Bool) (b140_0 b140_1 : Int) (b140_2 : (List GSite)) (b140_3 : (List GHealth)) (b140_4 : (List GEntry)) (t7 : ByteArray) (t10 : Int) (t64 : Bool) : Option (Bool) :=
  bif t64 then
    some false
  else
    (L_law0_CopyEdge N (GEdge.mk b140_0 (GConfig.mk b140_1 b140_2) b140_3 b140_4)).bind fun v1 =>
    if 0 ≤ t10 ∧ t10 < ((v1.Health.length : Nat) : Int) then
    (L_edge_Take N (GEdge.mk v1.Id v1.Config (v1.Health.set t10.toNat (GHealth.mk false 0)) v1.Flows) 2 t7).bind fun v2 =>
    (L_law0_Num N v2.2.2).bind fun v3 =>
    bif (v3 != 0) then
      L_law19_EdgeMoves_3 N t1 t7 t10 v2.1.Id v2.1.Config.Version v2.1.Config.Sites v2.1.Health v2.1.Flows true
    else
      bif ((v2.1.Flows.length : Int) != 1) then
        L_law19_EdgeMoves_3 N t1 t7 t10 v2.1.Id v2.1.Config.Version v2.1.Config.Sites v2.1.Health v2.1.Flows true
      else
        bif ((v2.2.1.Sent.length : Int) != 1) then
          L_law19_EdgeMoves_3 N t1 t7 t10 v2.1.Id v2.1.Config.Version v2.1.Config.Sites v2.1.Health v2.1.Flows true
        else
          if 0 ≤ (0 : Int) ∧ (0 : Int) < ((v2.1.Flows.length : Nat) : Int) then
          bif ((v2.1.Flows.getD (Int.toNat 0) default).To != (IntKind.i64.wrap ((1 : Int) - t10))) then
            L_law19_EdgeMoves_3 N t1 t7 t10 v2.1.Id v2.1.Config.Version v2.1.Config.Sites v2.1.Health v2.1.Flows true
          else
            bif ((v2.1.Health.length : Int) != 3) then
              L_law19_EdgeMoves_3 N t1 t7 t10 v2.1.Id v2.1.Config.Version v2.1.Config.Sites v2.1.Health v2.1.Flows true
            else
              L_law19_EdgeMoves_3 N t1 t7 t10 v2.1.Id v2.1.Config.Version v2.1.Config.Sites v2.1.Health v2.1.Flows ((v2.1.Config.Sites.length : Int) != 2)
          else none
    else none
def L_law19_EdgeMoves_1 (N : Nat) (t1 : Bool) (b140_0 b140_1 : Int) (b140_2 : (List GSite)) (b140_3 : (List GHealth)) (b140_4 : (List GEntry)) (t7 : ByteArray) (t53 : Bool) : Option (Bool) :=
  bif t53 then
    some false
  else
    if 0 ≤ (0 : Int) ∧ (0 : Int) < ((b140_4.length : Nat) : Int) then
    bif (decide ((b140_4.getD (Int.toNat 0) default).To < 0)) then
      L_law19_EdgeMoves_2 N t1 b140_0 b140_1 b140_2 b140_3 b140_4 t7 ((b140_4.getD (Int.toNat 0) default).To) true
    else
      L_law19_EdgeMoves_2 N t1 b140_0 b140_1 b140_2 b140_3 b140_4 t7 ((b140_4.getD (Int.toNat 0) default).To) (decide ((b140_4.getD (Int.toNat 0) default).To > 1))
    else none
def L_law19_EdgeMoves (N : Nat) (x0 : Int) (x1 : Bool) : Option (Bool) :=
  (L_law19_awake N).bind fun v1 =>
  bif (!v1) then
    some false
  else
    (L_law19_given N).bind fun v2 =>
    (L_edge_New N 0 v2).bind fun v3 =>
    (L_law19_said N x0 2 (ByteArray.mk #[109])).bind fun v4 =>
    (L_edge_Take N v3.1 1 v4).bind fun v5 =>
    (L_law0_Num N v3.2).bind fun v6 =>
    bif (v6 != 0) then
      L_law19_EdgeMoves_1 N x1 v5.1.Id v5.1.Config.Version v5.1.Config.Sites v5.1.Health v5.1.Flows v4 true
    else
      (L_law0_Num N v5.2.2).bind fun v7 =>
      bif (v7 != 0) then
        L_law19_EdgeMoves_1 N x1 v5.1.Id v5.1.Config.Version v5.1.Config.Sites v5.1.Health v5.1.Flows v4 true
      else
        bif ((v5.1.Flows.length : Int) != 1) then
          L_law19_EdgeMoves_1 N x1 v5.1.Id v5.1.Config.Version v5.1.Config.Sites v5.1.Health v5.1.Flows v4 true
        else
          L_law19_EdgeMoves_1 N x1 v5.1.Id v5.1.Config.Version v5.1.Config.Sites v5.1.Health v5.1.Flows v4 ((v5.1.Health.length : Int) != 3)
def d7 (r : Bool) : D := .bool r
theorem g7_5 {N} {r} (z : Z Tryz.prog ty 7 Tryz.f7 (Fi [] (d7 r) [])) {t4} (h : L_law19_EdgeMoves_5 N t4 = some r) : z.G [.c 131071] [(4, .bool t4)] [] :=
 z.r [] 0 o0 h
theorem g7_4 {N} {r} (z : Z Tryz.prog ty 7 Tryz.f7 (Fi [] (d7 r) [])) {t7 t10 b196_0 b196_1 b700 b701 b196_4} (h : L_law19_EdgeMoves_4 N t7 t10 b196_0 b196_1 b700 b701 b196_4 = some r) : z.G [.c 32767] [(7, .str t7), (10, iI t10), (12, .ptr 196 0)] [qB 196 [iI b196_0, iI b196_1, rR 700 b700, rR 701 b701, sS true eEntry b196_4], pB 700 4 (eL (eSite true) b700), pB 701 2 (eL eHealth b701)] :=
 bd h fun v1 h0 h =>
 bd h fun v2 h1 h =>
 z.s [(19, [(2, oR (d19 v1))])] 3 (o1 ((c19 false h0).le ((.cons (Le.agg ((.cons (Le.rfl) (.cons (Le.rfl) (.cons (Le.loo (g := false) (xs := b700) (n := b700.length) (c := b700.length) (lo_Site true)) (.cons (Le.rfl) (.cons (Le.lnd (g := true) (cs := (eL eEntry b196_4)) (n := b196_4.length) (c := b196_4.length)) .nil))))))) (.cons (Le.rfl) (.cons (Le.rfl) .nil)))))) <|
 br h (fun h2 h =>
  br h (fun h3 h =>
   ck h fun h4 h =>
   z.j [(20, [(1, oR (d25 v2)), (3, oT), (9, oT), (12, oC (.ip true [iI (((v1.1.Flows.getD (Int.toNat 0) default).Flow).Src), iI (((v1.1.Flows.getD (Int.toNat 0) default).Flow).Dst), iI (((v1.1.Flows.getD (Int.toNat 0) default).Flow).Proto), iI (((v1.1.Flows.getD (Int.toNat 0) default).Flow).Sport), iI (((v1.1.Flows.getD (Int.toNat 0) default).Flow).Dport), iI ((v1.1.Flows.getD (Int.toNat 0) default).To), .bool ((v1.1.Flows.getD (Int.toNat 0) default).Away), iI ((v1.1.Flows.getD (Int.toNat 0) default).Phase), iI ((v1.1.Flows.getD (Int.toNat 0) default).Used)]))])] 1 [4] [] (o5 (c25 h1) (Le.tt h2) (Le.tt h3) h4 (o1 (Le.iptl (g := true) (eL_at (xs := v1.1.Flows) eEntry_len (ixl h4))))) (g7_5 z h)) fun h3 h =>
  z.j [(20, [(1, oR (d25 v2)), (3, oT), (9, oF)])] 1 [4] [] (o3 (c25 h1) (Le.tt h2) (Le.ff h3)) (g7_5 z h)) fun h2 h =>
 z.j [(20, [(1, oR (d25 v2)), (3, oF)])] 1 [4] [] (o2 (c25 h1) (Le.ff h2)) (g7_5 z h)
theorem g7_3 {N} {r} (z : Z Tryz.prog ty 7 Tryz.f7 (Fi [] (d7 r) [])) {t1 t7 t10 b196_0 b196_1 b700 b701 b196_4 t116} (h : L_law19_EdgeMoves_3 N t1 t7 t10 b196_0 b196_1 b700 b701 b196_4 t116 = some r) : z.G [.c 14335, .c 8191] [(1, .bool t1), (7, .str t7), (10, iI t10), (12, .ptr 196 0), (116, .bool t116)] [qB 196 [iI b196_0, iI b196_1, rR 700 b700, rR 701 b701, sS true eEntry b196_4], pB 700 4 (eL (eSite true) b700), pB 701 2 (eL eHealth b701)] :=
 by
  cases t116 with
  | true => exact brT h fun h => (
   z.r [] 3 o0 h)
  | false => exact brF h fun h => (
   ck h fun h1 h =>
   z.s [(16, [(4, oC (.ptr 701 (t10.toNat * 2 + 0))), (5, { cb := [(701, eL eHealth (b701.set t10.toNat (GHealth.mk true 0)))] })])] 6 (o4 h1 (Le.pt (b := 701) (k := t10.toNat * 2)) (st_need (xs := b701) eHealth_len (ixl h1) (o := 0) (k := 2) (vs := [.bool true, iI 0]) (p := true) (by decide) rfl rfl) (st_set (xs := b701) eHealth_len (ixl h1) (o := 0) (vs := [.bool true, iI 0]) (y := (GHealth.mk true 0)) (Nat.le_of_ble_eq_true rfl) rfl)) <|
   br h (fun h2 h =>
    ck h fun h3 h =>
    z.jH [(17, [(0, oT)]), (18, [(4, oC (.ptr 700 (t10.toNat * 4 + 0))), (6, { cb := [(700, eL (eSite true) (b700.set t10.toNat (GSite.mk 16 ((b700.getD t10.toNat default).Drain) ((b700.getD t10.toNat default).Cap) ((b700.getD t10.toNat default).Backs))))] })])] 3 [7, 10, 12] [(196, 196), (700, 700), (701, 701)] (o5 (Le.tt h2) h3 (Le.pt (b := 700) (k := t10.toNat * 4)) (st_need (xs := b700) (eSite_len true) (ixl h3) (o := 0) (k := 1) (vs := [iI 16]) (p := true) (by decide) rfl rfl) (o1 (st_set (xs := b700) (eSite_len true) (ixl h3) (o := 0) (vs := [iI 16]) (y := (GSite.mk 16 ((b700.getD t10.toNat default).Drain) ((b700.getD t10.toNat default).Cap) ((b700.getD t10.toNat default).Backs))) (Nat.le_of_ble_eq_true rfl) rfl))) (.cons (Le.rfl) (.cons (Le.rfl) (.cons (Le.rfl) .nil))) (.cons ((.cons (Le.rfl) (.cons (Le.rfl) (.cons (Le.rfs (b := 700) (by first | rfl | omega | (simp only [List.length_append, List.length_take, List.length_drop]; omega) | simp : b700.length = (b700.set t10.toNat (GSite.mk 16 ((b700.getD t10.toNat default).Drain) ((b700.getD t10.toNat default).Cap) ((b700.getD t10.toNat default).Backs))).length) (by first | rfl | omega | (simp only [List.length_append, List.length_take, List.length_drop]; omega) | simp : b700.length = (b700.set t10.toNat (GSite.mk 16 ((b700.getD t10.toNat default).Drain) ((b700.getD t10.toNat default).Cap) ((b700.getD t10.toNat default).Backs))).length)) (.cons (Le.rfs (b := 701) (by first | rfl | omega | (simp only [List.length_append, List.length_take, List.length_drop]; omega) | simp : b701.length = (b701.set t10.toNat (GHealth.mk true 0)).length) (by first | rfl | omega | (simp only [List.length_append, List.length_take, List.length_drop]; omega) | simp : b701.length = (b701.set t10.toNat (GHealth.mk true 0)).length)) (.cons (Le.rfl) .nil)))))) (.same (.same .nil))) (g7_4 z h)) fun h2 h =>
   z.jH [(17, [(0, oF)])] 3 [7, 10, 12] [(196, 196), (700, 700), (701, 701)] (o1 (Le.ff h2)) (.cons (Le.rfl) (.cons (Le.rfl) (.cons (Le.rfl) .nil))) (.cons ((.cons (Le.rfl) (.cons (Le.rfl) (.cons (Le.rfl) (.cons (Le.rfs (b := 701) (by first | rfl | omega | (simp only [List.length_append, List.length_take, List.length_drop]; omega) | simp : b701.length = (b701.set t10.toNat (GHealth.mk true 0)).length) (by first | rfl | omega | (simp only [List.length_append, List.length_take, List.length_drop]; omega) | simp : b701.length = (b701.set t10.toNat (GHealth.mk true 0)).length)) (.cons (Le.rfl) .nil)))))) (.same (.same .nil))) (g7_4 z h))
theorem g7_2 {N} {r} (z : Z Tryz.prog ty 7 Tryz.f7 (Fi [] (d7 r) [])) {t1 b140_0 b140_1 b140_2 b140_3 b140_4 t7 t10 t64} (h : L_law19_EdgeMoves_2 N t1 b140_0 b140_1 b140_2 b140_3 b140_4 t7 t10 t64 = some r) : z.G [.c 895, .c 511] [(1, .bool t1), (5, .ptr 140 0), (7, .str t7), (10, iI t10), (64, .bool t64)] [qB 140 [iI b140_0, iI b140_1, sS true (eSite true) b140_2, sS true eHealth b140_3, sS true eEntry b140_4]] :=
 by
  cases t64 with
  | true => exact brT h fun h => (
   z.r [] 3 o0 h)
  | false => exact brF h fun h => (
   bd h fun v1 h1 h =>
   ck h fun h2 h =>
   bd h fun v2 h3 h =>
   bd h fun v3 h4 h =>
   z.s [(11, [(1, { r := d18v1 v1, H := h18v1 v1 })]), (12, [(4, oC (.ptr 628 (t10.toNat * 2 + 0))), (5, { cb := [(628, eL eHealth (v1.Health.set t10.toNat (GHealth.mk false 0)))] })]), (13, [(2, { r := d19v2 v2, H := h19v2 v2 })])] 10 (o5 (c18v1 true h1) h2 (Le.pt (b := 628) (k := t10.toNat * 2)) (st_need (xs := v1.Health) eHealth_len (ixl h2) (o := 0) (k := 2) (vs := [.bool false, iI 0]) (p := true) (by decide) rfl rfl) (o2 (st_set (xs := v1.Health) eHealth_len (ixl h2) (o := 0) (vs := [.bool false, iI 0]) (y := (GHealth.mk false 0)) (Nat.le_of_ble_eq_true rfl) rfl) ((c19v2 false h3).le ((.cons (Le.agg ((.cons (Le.rfl) (.cons (Le.rfl) (.cons (Le.loo (g := true) (xs := v1.Config.Sites) (n := v1.Config.Sites.length) (c := v1.Config.Sites.length) (lo_Site true)) (.cons (Le.sln (g := false) (cs := (eL eHealth (v1.Health.set t10.toNat (GHealth.mk false 0)))) (n := v1.Health.length) (c := v1.Health.length) (k := (v1.Health.set t10.toNat (GHealth.mk false 0)).length) (by first | rfl | omega | simp) (by first | rfl | omega | simp)) (.cons (Le.rfl) .nil))))))) (.cons (Le.rfl) (.cons (Le.rfl) .nil))))))) <|
   br h (fun h5 h =>
    z.j [(14, [(1, oR (d25 v3)), (3, oT)])] 1 [1, 7, 10, 12, 116] [(196, 196), (700, 700), (701, 701)] (o2 (c25 h4) (Le.tt h5)) (g7_3 z h)) fun h5 h =>
   br h (fun h6 h =>
    z.j [(14, [(1, oR (d25 v3)), (3, oF), (9, oT)])] 1 [1, 7, 10, 12, 116] [(196, 196), (700, 700), (701, 701)] (o3 (c25 h4) (Le.ff h5) (Le.tt h6)) (g7_3 z h)) fun h6 h =>
   br h (fun h7 h =>
    z.j [(14, [(1, oR (d25 v3)), (3, oF), (9, oF), (15, oT)])] 1 [1, 7, 10, 12, 116] [(196, 196), (700, 700), (701, 701)] (o4 (c25 h4) (Le.ff h5) (Le.ff h6) (Le.tt h7)) (g7_3 z h)) fun h7 h =>
   ck h fun h8 h =>
   br h (fun h9 h =>
    z.j [(14, [(1, oR (d25 v3)), (3, oF), (9, oF), (15, oF), (18, oC (.ip true [iI (((v2.1.Flows.getD (Int.toNat 0) default).Flow).Src), iI (((v2.1.Flows.getD (Int.toNat 0) default).Flow).Dst), iI (((v2.1.Flows.getD (Int.toNat 0) default).Flow).Proto), iI (((v2.1.Flows.getD (Int.toNat 0) default).Flow).Sport), iI (((v2.1.Flows.getD (Int.toNat 0) default).Flow).Dport), iI ((v2.1.Flows.getD (Int.toNat 0) default).To), .bool ((v2.1.Flows.getD (Int.toNat 0) default).Away), iI ((v2.1.Flows.getD (Int.toNat 0) default).Phase), iI ((v2.1.Flows.getD (Int.toNat 0) default).Used)])), (25, oT)])] 1 [1, 7, 10, 12, 116] [(196, 196), (700, 700), (701, 701)] (o5 (c25 h4) (Le.ff h5) (Le.ff h6) (Le.ff h7) (o3 h8 (Le.iptl (g := true) (eL_at (xs := v2.1.Flows) eEntry_len (ixl h8))) (Le.tt h9))) (g7_3 z h)) fun h9 h =>
   br h (fun h10 h =>
    z.j [(14, [(1, oR (d25 v3)), (3, oF), (9, oF), (15, oF), (18, oC (.ip true [iI (((v2.1.Flows.getD (Int.toNat 0) default).Flow).Src), iI (((v2.1.Flows.getD (Int.toNat 0) default).Flow).Dst), iI (((v2.1.Flows.getD (Int.toNat 0) default).Flow).Proto), iI (((v2.1.Flows.getD (Int.toNat 0) default).Flow).Sport), iI (((v2.1.Flows.getD (Int.toNat 0) default).Flow).Dport), iI ((v2.1.Flows.getD (Int.toNat 0) default).To), .bool ((v2.1.Flows.getD (Int.toNat 0) default).Away), iI ((v2.1.Flows.getD (Int.toNat 0) default).Phase), iI ((v2.1.Flows.getD (Int.toNat 0) default).Used)])), (25, oF), (31, oT)])] 1 [1, 7, 10, 12, 116] [(196, 196), (700, 700), (701, 701)] (o5 (c25 h4) (Le.ff h5) (Le.ff h6) (Le.ff h7) (o4 h8 (Le.iptl (g := true) (eL_at (xs := v2.1.Flows) eEntry_len (ixl h8))) (Le.ff h9) (Le.tt h10))) (g7_3 z h)) fun h10 h =>
   z.j [(14, [(1, oR (d25 v3)), (3, oF), (9, oF), (15, oF), (18, oC (.ip true [iI (((v2.1.Flows.getD (Int.toNat 0) default).Flow).Src), iI (((v2.1.Flows.getD (Int.toNat 0) default).Flow).Dst), iI (((v2.1.Flows.getD (Int.toNat 0) default).Flow).Proto), iI (((v2.1.Flows.getD (Int.toNat 0) default).Flow).Sport), iI (((v2.1.Flows.getD (Int.toNat 0) default).Flow).Dport), iI ((v2.1.Flows.getD (Int.toNat 0) default).To), .bool ((v2.1.Flows.getD (Int.toNat 0) default).Away), iI ((v2.1.Flows.getD (Int.toNat 0) default).Phase), iI ((v2.1.Flows.getD (Int.toNat 0) default).Used)])), (25, oF), (31, oF)])] 1 [1, 7, 10, 12, 116] [(196, 196), (700, 700), (701, 701)] (o5 (c25 h4) (Le.ff h5) (Le.ff h6) (Le.ff h7) (o4 h8 (Le.iptl (g := true) (eL_at (xs := v2.1.Flows) eEntry_len (ixl h8))) (Le.ff h9) (Le.ff h10))) (g7_3 z h))
theorem g7_1 {N} {r} (z : Z Tryz.prog ty 7 Tryz.f7 (Fi [] (d7 r) [])) {t1 b140_0 b140_1 b140_2 b140_3 b140_4 t7 t53} (h : L_law19_EdgeMoves_1 N t1 b140_0 b140_1 b140_2 b140_3 b140_4 t7 t53 = some r) : z.G [.c 223, .c 127] [(1, .bool t1), (5, .ptr 140 0), (7, .str t7), (53, .bool t53)] [qB 140 [iI b140_0, iI b140_1, sS true (eSite true) b140_2, sS true eHealth b140_3, sS true eEntry b140_4]] :=
 by
  cases t53 with
  | true => exact brT h fun h => (
   z.r [] 3 o0 h)
  | false => exact brF h fun h => (
   ck h fun h1 h =>
   z.s [(8, [(2, oC (.ip true [iI (((b140_4.getD (Int.toNat 0) default).Flow).Src), iI (((b140_4.getD (Int.toNat 0) default).Flow).Dst), iI (((b140_4.getD (Int.toNat 0) default).Flow).Proto), iI (((b140_4.getD (Int.toNat 0) default).Flow).Sport), iI (((b140_4.getD (Int.toNat 0) default).Flow).Dport), iI ((b140_4.getD (Int.toNat 0) default).To), .bool ((b140_4.getD (Int.toNat 0) default).Away), iI ((b140_4.getD (Int.toNat 0) default).Phase), iI ((b140_4.getD (Int.toNat 0) default).Used)]))])] 6 (o2 h1 (Le.iptl (g := true) (eL_at (xs := b140_4) eEntry_len (ixl h1)))) <|
   br h (fun h2 h =>
    z.j [(9, [(2, oT)])] 1 [1, 5, 7, 10, 64] [(140, 140)] (o1 (Le.tt h2)) (g7_2 z h)) fun h2 h =>
   z.j [(9, [(2, oF)])] 1 [1, 5, 7, 10, 64] [(140, 140)] (o1 (Le.ff h2)) (g7_2 z h))
theorem c7 {N} {x0 x1 r} (h : L_law19_EdgeMoves N x0 x1 = some r) : Con Tryz.prog 7 [iI x0, .bool x1] [] (d7 r) [] :=
 ci ok mix Tryz.f7 fun z =>
 bd h fun v1 h0 h =>
 br h (fun h1 h =>
  z.r [(1, [(0, oR (d30 v1)), (1, oT)])] 8 (o2 (c30 h0) (Le.tt h1)) h) fun h1 h =>
 bd h fun v2 h2 h =>
 bd h fun v3 h3 h =>
 bd h fun v4 h4 h =>
 bd h fun v5 h5 h =>
 bd h fun v6 h6 h =>
 z.s [(1, [(0, oR (d30 v1)), (1, oF)]), (3, [(0, oR (d34 v2)), (1, oR (d21 v3))]), (4, [(1, oR (d35 v4))]), (5, [(2, oR (d19 v5))])] 15 (o5 (c30 h0) (Le.ff h1) (c34 h2) (c21 true h3) (o2 (c35 h4) (c19 true h5))) <|
 br h (fun h7 h =>
  z.j [(6, [(1, oR (d25 v6)), (3, oT)])] 1 [1, 5, 7, 53] [(140, 140)] (o2 (c25 h6) (Le.tt h7)) (g7_1 z h)) fun h7 h =>
 bd h fun v7 h8 h =>
 br h (fun h9 h =>
  z.j [(6, [(1, oR (d25 v6)), (3, oF), (5, oR (d25 v7)), (8, oT)])] 1 [1, 5, 7, 53] [(140, 140)] (o4 (c25 h6) (Le.ff h7) (c25 h8) (Le.tt h9)) (g7_1 z h)) fun h9 h =>
 br h (fun h10 h =>
  z.j [(6, [(1, oR (d25 v6)), (3, oF), (5, oR (d25 v7)), (8, oF), (14, oT)])] 1 [1, 5, 7, 53] [(140, 140)] (o5 (c25 h6) (Le.ff h7) (c25 h8) (Le.ff h9) (o1 (Le.tt h10))) (g7_1 z h)) fun h10 h =>
 z.j [(6, [(1, oR (d25 v6)), (3, oF), (5, oR (d25 v7)), (8, oF), (14, oF)])] 1 [1, 5, 7, 53] [(140, 140)] (o5 (c25 h6) (Le.ff h7) (c25 h8) (Le.ff h9) (o1 (Le.ff h10))) (g7_1 z h)
/-! ### wharfage/wharfagelaw19.EdgeRow -/
def L_law19_EdgeRow_5 (N : Nat) (r1 : (List Int) → Int → Int → (List GSite) → (List GHealth) → (List GEntry) → (List Int) → Int → Option (Bool)) (r4 : (List Int) → Int → Int → (List GSite) → (List GHealth) → (List GEntry) → (List Int) → Int → Int → Int → Int → (List GSite) → (List GHealth) → (List GEntry) → (List ByteArray) → (List GEvent) → (List Int) → Int → Option (Bool)) (t0 : (List Int)) (b124_0 b124_1 : Int) (b124_2 : (List GSite)) (b124_3 : (List GHealth)) (b124_4 : (List GEntry)) (b140 : (List Int)) (t6 t7 b164_0 b164_1 : Int) (b164_2 : (List GSite)) (b164_3 : (List GHealth)) (b164_4 : (List GEntry)) (b172_0 : (List ByteArray)) (b172_1 : (List GEvent)) (b724 : (List Int)) (t12 : Int) : Option (Bool) :=
  r4 t0 b124_0 b124_1 b124_2 b124_3 b124_4 b140 t6 t7 b164_0 b164_1 b164_2 b164_3 b164_4 b172_0 b172_1 b724 (IntKind.i64.wrap (t12 + 1))
def L_law19_EdgeRow_8 (N : Nat) (r1 : (List Int) → Int → Int → (List GSite) → (List GHealth) → (List GEntry) → (List Int) → Int → Option (Bool)) : Nat → (List Int) → Int → Int → (List GSite) → (List GHealth) → (List GEntry) → (List Int) → Int → Int → Option (Bool)
  | 0, _, _, _, _, _, _, _, _, _ => none
  | fuel + 1, t0, b124_0, b124_1, b124_2, b124_3, b124_4, b1004, t6, t13 =>
    bif (decide (t13 < (b1004.length : Int))) then
      if 0 ≤ t13 ∧ t13 < ((b124_4.length : Nat) : Int) then
      if 0 ≤ t13 ∧ t13 < ((b1004.length : Nat) : Int) then
      bif (((b124_4.getD t13.toNat default).Flow).Src != (b1004.getD t13.toNat default)) then
        some false
      else
        L_law19_EdgeRow_8 N r1 fuel t0 b124_0 b124_1 b124_2 b124_3 b124_4 b1004 t6 (IntKind.i64.wrap (t13 + 1))
      else none
      else none
    else
      r1 t0 b124_0 b124_1 b124_2 b124_3 b124_4 b1004 (IntKind.i64.wrap (t6 + 1))
def L_law19_EdgeRow_7 (N : Nat) (r1 : (List Int) → Int → Int → (List GSite) → (List GHealth) → (List GEntry) → (List Int) → Int → Option (Bool)) (t0 : (List Int)) (b124_0 b124_1 : Int) (b124_2 : (List GSite)) (b124_3 : (List GHealth)) (b124_4 : (List GEntry)) (t6 b164_0 b164_1 : Int) (b164_2 : (List GSite)) (b164_3 : (List GHealth)) (b164_4 : (List GEntry)) (b1004 : (List Int)) : Option (Bool) :=
  bif ((b164_4.length : Int) != (b1004.length : Int)) then
    some false
  else
    L_law19_EdgeRow_8 N r1 N t0 b164_0 b164_1 b164_2 b164_3 b164_4 b1004 t6 0
def L_law19_EdgeRow_6 (N : Nat) (r1 : (List Int) → Int → Int → (List GSite) → (List GHealth) → (List GEntry) → (List Int) → Int → Option (Bool)) (t0 : (List Int)) (b124_0 b124_1 : Int) (b124_2 : (List GSite)) (b124_3 : (List GHealth)) (b124_4 : (List GEntry)) (t6 b164_0 b164_1 : Int) (b164_2 : (List GSite)) (b164_3 : (List GHealth)) (b164_4 : (List GEntry)) (b756 : (List Int)) (t109 : Bool) : Option (Bool) :=
  bif t109 then
    some false
  else
    if 0 ≤ ((b756.length : Nat) : Int) ∧ ((b756.length : Nat) : Int) ≤ ((b756.length : Nat) : Int) ∧ 0 ≤ (1 : Int) ∧ (1 : Int) ≤ ((b756.length : Nat) : Int) ∧ b756.length ≤ b756.length then
    if (Int.toNat (1 : Int)) + (Int.toNat (((b756.length : Nat) : Int) - (1 : Int))) ≤ b756.length then
    if growOk 8 (0 + (Int.toNat (((b756.length : Nat) : Int) - (1 : Int)))) then
    L_law19_EdgeRow_7 N r1 t0 b124_0 b124_1 b124_2 b124_3 b124_4 t6 b164_0 b164_1 b164_2 b164_3 b164_4 ([] ++ ((b756.drop (Int.toNat (1 : Int))).take (Int.toNat (((b756.length : Nat) : Int) - (1 : Int)))))
    else none
    else none
    else none
def L_law19_EdgeRow_4 (N : Nat) (r1 : (List Int) → Int → Int → (List GSite) → (List GHealth) → (List GEntry) → (List Int) → Int → Option (Bool)) : Nat → (List Int) → Int → Int → (List GSite) → (List GHealth) → (List GEntry) → (List Int) → Int → Int → Int → Int → (List GSite) → (List GHealth) → (List GEntry) → (List ByteArray) → (List GEvent) → (List Int) → Int → Option (Bool)
  | 0, _, _, _, _, _, _, _, _, _, _, _, _, _, _, _, _, _, _ => none
  | fuel + 1, t0, b124_0, b124_1, b124_2, b124_3, b124_4, b140, t6, t7, b164_0, b164_1, b164_2, b164_3, b164_4, b172_0, b172_1, b188, t12 =>
    bif (decide (t12 < (b140.length : Int))) then
      if 0 ≤ t12 ∧ t12 < ((b140.length : Nat) : Int) then
      bif ((b140.getD t12.toNat default) != t7) then
        if 0 ≤ t12 ∧ t12 < ((b140.length : Nat) : Int) then
        if growOk 8 (b188.length + 1) then
        L_law19_EdgeRow_5 N r1 (L_law19_EdgeRow_4 N r1 fuel) t0 b124_0 b124_1 b124_2 b124_3 b124_4 b140 t6 t7 b164_0 b164_1 b164_2 b164_3 b164_4 b172_0 b172_1 (b188 ++ [(b140.getD t12.toNat default)]) t12
        else none
        else none
      else
        L_law19_EdgeRow_5 N r1 (L_law19_EdgeRow_4 N r1 fuel) t0 b124_0 b124_1 b124_2 b124_3 b124_4 b140 t6 t7 b164_0 b164_1 b164_2 b164_3 b164_4 b172_0 b172_1 b188 t12
      else none
    else
      if growOk 8 (b188.length + 1) then
      bif (decide (((b188 ++ [t7]).length : Int) > 8)) then
        bif ((b172_1.length : Int) != 2) then
          L_law19_EdgeRow_6 N r1 t0 b124_0 b124_1 b124_2 b124_3 b124_4 t6 b164_0 b164_1 b164_2 b164_3 b164_4 (b188 ++ [t7]) true
        else
          if 0 ≤ (0 : Int) ∧ (0 : Int) < ((b172_1.length : Nat) : Int) then
          bif ((b172_1.getD (Int.toNat 0) default).Kind != 11) then
            L_law19_EdgeRow_6 N r1 t0 b124_0 b124_1 b124_2 b124_3 b124_4 t6 b164_0 b164_1 b164_2 b164_3 b164_4 (b188 ++ [t7]) true
          else
            if 0 ≤ (0 : Int) ∧ (0 : Int) < ((b172_1.length : Nat) : Int) then
            via (((b172_1.getD (Int.toNat 0) default).Flow).Src : Int) fun v1 =>
            if 0 ≤ (0 : Int) ∧ (0 : Int) < (((b188 ++ [t7]).length : Nat) : Int) then
            L_law19_EdgeRow_6 N r1 t0 b124_0 b124_1 b124_2 b124_3 b124_4 t6 b164_0 b164_1 b164_2 b164_3 b164_4 (b188 ++ [t7]) (v1 != ((b188 ++ [t7]).getD (Int.toNat 0) default))
            else none
            else none
          else none
      else
        bif ((b172_1.length : Int) != 1) then
          some false
        else
          L_law19_EdgeRow_7 N r1 t0 b124_0 b124_1 b124_2 b124_3 b124_4 t6 b164_0 b164_1 b164_2 b164_3 b164_4 (b188 ++ [t7])
      else none
def L_law19_EdgeRow_3 (N : Nat) (r1 : (List Int) → Int → Int → (List GSite) → (List GHealth) → (List GEntry) → (List Int) → Int → Option (Bool)) (t0 : (List Int)) (b124_0 b124_1 : Int) (b124_2 : (List GSite)) (b124_3 : (List GHealth)) (b124_4 : (List GEntry)) (b140 : (List Int)) (t6 t7 b164_0 b164_1 : Int) (b164_2 : (List GSite)) (b164_3 : (List GHealth)) (b164_4 : (List GEntry)) (b172_0 : (List ByteArray)) (b172_1 : (List GEvent)) (t59 : Bool) : Option (Bool) :=
  bif t59 then
    some false
  else
    L_law19_EdgeRow_4 N r1 N t0 b124_0 b124_1 b124_2 b124_3 b124_4 b140 t6 t7 b164_0 b164_1 b164_2 b164_3 b164_4 b172_0 b172_1 ([]) 0
def L_law19_EdgeRow_2 (N : Nat) (r1 : (List Int) → Int → Int → (List GSite) → (List GHealth) → (List GEntry) → (List Int) → Int → Option (Bool)) (t0 : (List Int)) (b124_0 b124_1 : Int) (b124_2 : (List GSite)) (b124_3 : (List GHealth)) (b124_4 : (List GEntry)) (b140 : (List Int)) (t6 : Int) (t31 : Bool) : Option (Bool) :=
  bif t31 then
    if 0 ≤ t6 ∧ t6 < ((t0.length : Nat) : Int) then
    via ((IntKind.u64.wrap (t0.getD t6.toNat default)) : Int) fun v1 =>
    (L_law19_said N (IntKind.i64.wrap (v1.tmod 11)) 16 (ByteArray.mk #[114])).bind fun v2 =>
    (L_edge_Take N (GEdge.mk b124_0 (GConfig.mk b124_1 b124_2) b124_3 b124_4) (bAnd .i64 t6 3) v2).bind fun v3 =>
    (L_law0_Num N v3.2.2).bind fun v4 =>
    bif (v4 != 0) then
      L_law19_EdgeRow_3 N r1 t0 b124_0 b124_1 b124_2 b124_3 b124_4 b140 t6 (IntKind.i64.wrap (v1.tmod 11)) v3.1.Id v3.1.Config.Version v3.1.Config.Sites v3.1.Health v3.1.Flows v3.2.1.Sent v3.2.1.Events true
    else
      L_law19_EdgeRow_3 N r1 t0 b124_0 b124_1 b124_2 b124_3 b124_4 b140 t6 (IntKind.i64.wrap (v1.tmod 11)) v3.1.Id v3.1.Config.Version v3.1.Config.Sites v3.1.Health v3.1.Flows v3.2.1.Sent v3.2.1.Events ((v3.2.1.Sent.length : Int) != 1)
    else none
  else
    some true
def L_law19_EdgeRow_1 (N : Nat) : Nat → (List Int) → Int → Int → (List GSite) → (List GHealth) → (List GEntry) → (List Int) → Int → Option (Bool)
  | 0, _, _, _, _, _, _, _, _ => none
  | fuel + 1, t0, b124_0, b124_1, b124_2, b124_3, b124_4, b140, t6 =>
    bif (decide (t6 < (t0.length : Int))) then
      L_law19_EdgeRow_2 N (L_law19_EdgeRow_1 N fuel) t0 b124_0 b124_1 b124_2 b124_3 b124_4 b140 t6 (decide (t6 < 30))
    else
      L_law19_EdgeRow_2 N (L_law19_EdgeRow_1 N fuel) t0 b124_0 b124_1 b124_2 b124_3 b124_4 b140 t6 false
def L_law19_EdgeRow (N : Nat) (x0 : (List Int)) : Option (Bool) :=
  (L_law19_awake N).bind fun v1 =>
  bif (!v1) then
    some false
  else
    (L_law19_given N).bind fun v2 =>
    (L_edge_New N 0 v2).bind fun v3 =>
    (L_law0_Num N v3.2).bind fun v4 =>
    bif (v4 != 0) then
      some false
    else
      L_law19_EdgeRow_1 N N x0 v3.1.Id v3.1.Config.Version v3.1.Config.Sites v3.1.Health v3.1.Flows ([]) 0
def d6 (r : Bool) : D := .bool r
theorem g6_5 {N} (gx0 : Bool) {r} (z : Z Tryz.prog ty 6 Tryz.f6 (Fi [] (d6 r) [])) {r1 : (List Int) → Int → Int → (List GSite) → (List GHealth) → (List GEntry) → (List Int) → Int → Option (Bool)} {r4 : (List Int) → Int → Int → (List GSite) → (List GHealth) → (List GEntry) → (List Int) → Int → Int → Int → Int → (List GSite) → (List GHealth) → (List GEntry) → (List ByteArray) → (List GEvent) → (List Int) → Int → Option (Bool)} (hr1 : ∀ {t0 b124_0 b124_1 b124_2 b124_3 b124_4 b140 t6}, r1 t0 b124_0 b124_1 b124_2 b124_3 b124_4 b140 t6 = some r → z.G [.c 607, .l 607, .b 0, .c 127] [(0, sS gx0 (eInt .i64) t0), (3, .ptr 124 0), (5, rR 140 b140), (6, iI t6)] [qB 124 [iI b124_0, iI b124_1, sS true (eSite true) b124_2, sS true eHealth b124_3, sS true eEntry b124_4], pB 140 1 (eL (eInt .i64) b140)]) (hr4 : ∀ {t0 b124_0 b124_1 b124_2 b124_3 b124_4 b140 t6 t7 b164_0 b164_1 b164_2 b164_3 b164_4 b172_0 b172_1 b188 t12}, r4 t0 b124_0 b124_1 b124_2 b124_3 b124_4 b140 t6 t7 b164_0 b164_1 b164_2 b164_3 b164_4 b172_0 b172_1 b188 t12 = some r → z.G [.c 1241695, .l 1241695, .b 2, .c 258655, .b 1, .c 3679, .l 607, .b 0, .c 127] [(0, sS gx0 (eInt .i64) t0), (3, .ptr 124 0), (5, rR 140 b140), (6, iI t6), (7, iI t7), (8, .ptr 164 0), (9, .ptr 172 0), (11, rR 188 b188), (12, iI t12)] [qB 124 [iI b124_0, iI b124_1, sS true (eSite true) b124_2, sS true eHealth b124_3, sS true eEntry b124_4], pB 140 1 (eL (eInt .i64) b140), qB 164 [iI b164_0, iI b164_1, sS true (eSite true) b164_2, sS true eHealth b164_3, sS true eEntry b164_4], qB 172 [sS true eStr b172_0, sS true eEvent b172_1], pB 188 1 (eL (eInt .i64) b188)]) {t0 b124_0 b124_1 b124_2 b124_3 b124_4 b140 t6 t7 b164_0 b164_1 b164_2 b164_3 b164_4 b172_0 b172_1 b724 t12} (h : L_law19_EdgeRow_5 N r1 r4 t0 b124_0 b124_1 b124_2 b124_3 b124_4 b140 t6 t7 b164_0 b164_1 b164_2 b164_3 b164_4 b172_0 b172_1 b724 t12 = some r) : z.G [.b 3, .c 7533151, .l 1241695, .b 2, .c 258655, .b 1, .c 3679, .l 607, .b 0, .c 127] [(0, sS gx0 (eInt .i64) t0), (3, .ptr 124 0), (5, rR 140 b140), (6, iI t6), (7, iI t7), (8, .ptr 164 0), (9, .ptr 172 0), (11, rR 724 b724), (12, iI t12)] [qB 124 [iI b124_0, iI b124_1, sS true (eSite true) b124_2, sS true eHealth b124_3, sS true eEntry b124_4], pB 140 1 (eL (eInt .i64) b140), qB 164 [iI b164_0, iI b164_1, sS true (eSite true) b164_2, sS true eHealth b164_3, sS true eEntry b164_4], qB 172 [sS true eStr b172_0, sS true eEvent b172_1], pB 724 1 (eL (eInt .i64) b724)] :=
 z.j [] 3 [0, 3, 5, 6, 7, 8, 9, 11, 12] [(124, 124), (140, 140), (164, 164), (172, 172), (724, 188)] o0 (hr4 h)
theorem g6_8 {N} (gx0 : Bool) {r} (z : Z Tryz.prog ty 6 Tryz.f6 (Fi [] (d6 r) [])) {r1 : (List Int) → Int → Int → (List GSite) → (List GHealth) → (List GEntry) → (List Int) → Int → Option (Bool)} (hr1 : ∀ {t0 b124_0 b124_1 b124_2 b124_3 b124_4 b140 t6}, r1 t0 b124_0 b124_1 b124_2 b124_3 b124_4 b140 t6 = some r → z.G [.c 607, .l 607, .b 0, .c 127] [(0, sS gx0 (eInt .i64) t0), (3, .ptr 124 0), (5, rR 140 b140), (6, iI t6)] [qB 124 [iI b124_0, iI b124_1, sS true (eSite true) b124_2, sS true eHealth b124_3, sS true eEntry b124_4], pB 140 1 (eL (eInt .i64) b140)]) (fuel) : ∀ {t0 b124_0 b124_1 b124_2 b124_3 b124_4 b1004 t6 t13}, L_law19_EdgeRow_8 N r1 fuel t0 b124_0 b124_1 b124_2 b124_3 b124_4 b1004 t6 t13 = some r → z.G [.c 41939551, .l 41939551, .b 4, .b 1, .c 3679, .l 607, .b 0, .c 127] [(0, sS gx0 (eInt .i64) t0), (3, .ptr 124 0), (5, rR 1004 b1004), (6, iI t6), (13, iI t13)] [qB 124 [iI b124_0, iI b124_1, sS true (eSite true) b124_2, sS true eHealth b124_3, sS true eEntry b124_4], pB 1004 1 (eL (eInt .i64) b1004)] := by
 induction fuel with
 | zero => intro t0 b124_0 b124_1 b124_2 b124_3 b124_4 b1004 t6 t13 h; cases h
 | succ fuel ih =>
  intro t0 b124_0 b124_1 b124_2 b124_3 b124_4 b1004 t6 t13 h
  exact
   br h (fun h0 h =>
    ck h fun h1 h =>
    ck h fun h2 h =>
    z.s [(32, [(3, oT)])] 8 (o1 (Le.tt h0)) <|
    br h (fun h3 h =>
     z.r [(34, [(3, oC (.ip true [iI (((b124_4.getD t13.toNat default).Flow).Src), iI (((b124_4.getD t13.toNat default).Flow).Dst), iI (((b124_4.getD t13.toNat default).Flow).Proto), iI (((b124_4.getD t13.toNat default).Flow).Sport), iI (((b124_4.getD t13.toNat default).Flow).Dport), iI ((b124_4.getD t13.toNat default).To), .bool ((b124_4.getD t13.toNat default).Away), iI ((b124_4.getD t13.toNat default).Phase), iI ((b124_4.getD t13.toNat default).Used)])), (9, oC (.ptr 1004 (t13.toNat * 1 + 0))), (10, oC (iI (b1004.getD t13.toNat default))), (11, oT)])] 4 (o5 h1 (Le.iptl (g := true) (eL_at (xs := b124_4) eEntry_len (ixl h1))) h2 (Le.pt (b := 1004) (k := t13.toNat * 1)) (o3 (ld_ne (xs := b1004) (eInt_len .i64) (ixl h2) (o := 0) (by decide)) (Le.of (ld_hd (xs := b1004) (eInt_len .i64) (ixl h2) (o := 0) (by decide))) (Le.tt h3))) h) fun h3 h =>
    z.j [(34, [(3, oC (.ip true [iI (((b124_4.getD t13.toNat default).Flow).Src), iI (((b124_4.getD t13.toNat default).Flow).Dst), iI (((b124_4.getD t13.toNat default).Flow).Proto), iI (((b124_4.getD t13.toNat default).Flow).Sport), iI (((b124_4.getD t13.toNat default).Flow).Dport), iI ((b124_4.getD t13.toNat default).To), .bool ((b124_4.getD t13.toNat default).Away), iI ((b124_4.getD t13.toNat default).Phase), iI ((b124_4.getD t13.toNat default).Used)])), (9, oC (.ptr 1004 (t13.toNat * 1 + 0))), (10, oC (iI (b1004.getD t13.toNat default))), (11, oF)])] 6 [0, 3, 5, 6, 13] [(124, 124), (1004, 1004)] (o5 h1 (Le.iptl (g := true) (eL_at (xs := b124_4) eEntry_len (ixl h1))) h2 (Le.pt (b := 1004) (k := t13.toNat * 1)) (o3 (ld_ne (xs := b1004) (eInt_len .i64) (ixl h2) (o := 0) (by decide)) (Le.of (ld_hd (xs := b1004) (eInt_len .i64) (ixl h2) (o := 0) (by decide))) (Le.ff h3))) (ih h)) fun h0 h =>
   z.j [(32, [(3, oF)])] 8 [0, 3, 5, 6] [(124, 124), (1004, 140)] (o1 (Le.ff h0)) (hr1 h)
theorem g6_7 {N} (gx0 : Bool) {r} (z : Z Tryz.prog ty 6 Tryz.f6 (Fi [] (d6 r) [])) {r1 : (List Int) → Int → Int → (List GSite) → (List GHealth) → (List GEntry) → (List Int) → Int → Option (Bool)} (hr1 : ∀ {t0 b124_0 b124_1 b124_2 b124_3 b124_4 b140 t6}, r1 t0 b124_0 b124_1 b124_2 b124_3 b124_4 b140 t6 = some r → z.G [.c 607, .l 607, .b 0, .c 127] [(0, sS gx0 (eInt .i64) t0), (3, .ptr 124 0), (5, rR 140 b140), (6, iI t6)] [qB 124 [iI b124_0, iI b124_1, sS true (eSite true) b124_2, sS true eHealth b124_3, sS true eEntry b124_4], pB 140 1 (eL (eInt .i64) b140)]) {t0 b124_0 b124_1 b124_2 b124_3 b124_4 t6 b164_0 b164_1 b164_2 b164_3 b164_4 b1004} (h : L_law19_EdgeRow_7 N r1 t0 b124_0 b124_1 b124_2 b124_3 b124_4 t6 b164_0 b164_1 b164_2 b164_3 b164_4 b1004 = some r) : z.G [.c 1045087, .b 1, .c 3679, .l 607, .b 0, .c 127] [(0, sS gx0 (eInt .i64) t0), (3, .ptr 124 0), (6, iI t6), (8, .ptr 164 0), (11, rR 1004 b1004)] [qB 124 [iI b124_0, iI b124_1, sS true (eSite true) b124_2, sS true eHealth b124_3, sS true eEntry b124_4], qB 164 [iI b164_0, iI b164_1, sS true (eSite true) b164_2, sS true eHealth b164_3, sS true eEntry b164_4], pB 1004 1 (eL (eInt .i64) b1004)] :=
 br h (fun h0 h =>
  z.r [(29, [(5, oT)])] 10 (o1 (Le.tt h0)) h) fun h0 h =>
 z.j [(29, [(5, oF)])] 13 [0, 3, 5, 6, 13] [(124, 124), (1004, 1004)] (o1 (Le.ff h0)) (g6_8 gx0 z @hr1 N h)
theorem g6_6 {N} (gx0 : Bool) {r} (z : Z Tryz.prog ty 6 Tryz.f6 (Fi [] (d6 r) [])) {r1 : (List Int) → Int → Int → (List GSite) → (List GHealth) → (List GEntry) → (List Int) → Int → Option (Bool)} (hr1 : ∀ {t0 b124_0 b124_1 b124_2 b124_3 b124_4 b140 t6}, r1 t0 b124_0 b124_1 b124_2 b124_3 b124_4 b140 t6 = some r → z.G [.c 607, .l 607, .b 0, .c 127] [(0, sS gx0 (eInt .i64) t0), (3, .ptr 124 0), (5, rR 140 b140), (6, iI t6)] [qB 124 [iI b124_0, iI b124_1, sS true (eSite true) b124_2, sS true eHealth b124_3, sS true eEntry b124_4], pB 140 1 (eL (eInt .i64) b140)]) {t0 b124_0 b124_1 b124_2 b124_3 b124_4 t6 b164_0 b164_1 b164_2 b164_3 b164_4 b756 t109} (h : L_law19_EdgeRow_6 N r1 t0 b124_0 b124_1 b124_2 b124_3 b124_4 t6 b164_0 b164_1 b164_2 b164_3 b164_4 b756 t109 = some r) : z.G [.c 13365855, .c 7074399, .c 1045087, .b 1, .c 3679, .l 607, .b 0, .c 127] [(0, sS gx0 (eInt .i64) t0), (3, .ptr 124 0), (6, iI t6), (8, .ptr 164 0), (11, rR 756 b756), (109, .bool t109)] [qB 124 [iI b124_0, iI b124_1, sS true (eSite true) b124_2, sS true eHealth b124_3, sS true eEntry b124_4], qB 164 [iI b164_0, iI b164_1, sS true (eSite true) b164_2, sS true eHealth b164_3, sS true eEntry b164_4], pB 756 1 (eL (eInt .i64) b756)] :=
 by
  cases t109 with
  | true => exact brT h fun h => (
   z.r [] 3 o0 h)
  | false => exact brF h fun h => (
   ck h fun h1 h =>
   ck h fun h2 h =>
   ck h fun h3 h =>
   z.j [(24, [(3, { cv := some (.ref 1004 0 ([] ++ ((b756.drop (Int.toNat (1 : Int))).take (Int.toNat (((b756.length : Nat) : Int) - (1 : Int))))).length ([] ++ ((b756.drop (Int.toNat (1 : Int))).take (Int.toNat (((b756.length : Nat) : Int) - (1 : Int))))).length), cb := [(1004, eL (eInt .i64) ([] ++ ((b756.drop (Int.toNat (1 : Int))).take (Int.toNat (((b756.length : Nat) : Int) - (1 : Int))))))] })])] 3 [0, 3, 6, 8, 11] [(124, 124), (164, 164), (1004, 1004)] (o5 h1 (ap_cutlen (xs := b756) (eInt_len .i64) (by simp : (0 + (Int.toNat (1 : Int)) * 1) = (Int.toNat (1 : Int)) * 1) h2) (ap_len (xs := []) (eInt_len .i64)) h3 (o2 (Le.apr (b := 1004) (by first | rfl | (simp only [List.length_append, List.length_take, List.length_drop]; omega) | simp : ([] ++ ((b756.drop (Int.toNat (1 : Int))).take (Int.toNat (((b756.length : Nat) : Int) - (1 : Int))))).length = 0 + (Int.toNat (((b756.length : Nat) : Int) - (1 : Int))))) (ap_cutall (xs := b756) (ys := []) (lo := (Int.toNat (1 : Int))) (n := (Int.toNat (((b756.length : Nat) : Int) - (1 : Int)))) (eInt_len .i64) (by simp : (0 + (Int.toNat (1 : Int)) * 1) = (Int.toNat (1 : Int)) * 1)))) (g6_7 gx0 z @hr1 h))
theorem g6_4 {N} (gx0 : Bool) {r} (z : Z Tryz.prog ty 6 Tryz.f6 (Fi [] (d6 r) [])) {r1 : (List Int) → Int → Int → (List GSite) → (List GHealth) → (List GEntry) → (List Int) → Int → Option (Bool)} (hr1 : ∀ {t0 b124_0 b124_1 b124_2 b124_3 b124_4 b140 t6}, r1 t0 b124_0 b124_1 b124_2 b124_3 b124_4 b140 t6 = some r → z.G [.c 607, .l 607, .b 0, .c 127] [(0, sS gx0 (eInt .i64) t0), (3, .ptr 124 0), (5, rR 140 b140), (6, iI t6)] [qB 124 [iI b124_0, iI b124_1, sS true (eSite true) b124_2, sS true eHealth b124_3, sS true eEntry b124_4], pB 140 1 (eL (eInt .i64) b140)]) (fuel) : ∀ {t0 b124_0 b124_1 b124_2 b124_3 b124_4 b140 t6 t7 b164_0 b164_1 b164_2 b164_3 b164_4 b172_0 b172_1 b188 t12}, L_law19_EdgeRow_4 N r1 fuel t0 b124_0 b124_1 b124_2 b124_3 b124_4 b140 t6 t7 b164_0 b164_1 b164_2 b164_3 b164_4 b172_0 b172_1 b188 t12 = some r → z.G [.c 1241695, .l 1241695, .b 2, .c 258655, .b 1, .c 3679, .l 607, .b 0, .c 127] [(0, sS gx0 (eInt .i64) t0), (3, .ptr 124 0), (5, rR 140 b140), (6, iI t6), (7, iI t7), (8, .ptr 164 0), (9, .ptr 172 0), (11, rR 188 b188), (12, iI t12)] [qB 124 [iI b124_0, iI b124_1, sS true (eSite true) b124_2, sS true eHealth b124_3, sS true eEntry b124_4], pB 140 1 (eL (eInt .i64) b140), qB 164 [iI b164_0, iI b164_1, sS true (eSite true) b164_2, sS true eHealth b164_3, sS true eEntry b164_4], qB 172 [sS true eStr b172_0, sS true eEvent b172_1], pB 188 1 (eL (eInt .i64) b188)] := by
 induction fuel with
 | zero => intro t0 b124_0 b124_1 b124_2 b124_3 b124_4 b140 t6 t7 b164_0 b164_1 b164_2 b164_3 b164_4 b172_0 b172_1 b188 t12 h; cases h
 | succ fuel ih =>
  intro t0 b124_0 b124_1 b124_2 b124_3 b124_4 b140 t6 t7 b164_0 b164_1 b164_2 b164_3 b164_4 b172_0 b172_1 b188 t12 h
  exact
   br h (fun h0 h =>
    ck h fun h1 h =>
    z.s [(16, [(3, oT)])] 8 (o1 (Le.tt h0)) <|
    br h (fun h2 h =>
     ck h fun h3 h =>
     ck h fun h4 h =>
     z.j [(18, [(2, oC (.ptr 140 (t12.toNat * 1 + 0))), (3, oC (iI (b140.getD t12.toNat default))), (5, oT)]), (19, [(3, oC (.ptr 140 (t12.toNat * 1 + 0))), (4, oC (iI (b140.getD t12.toNat default))), (6, { cv := some (.ref 724 0 (b188 ++ [(b140.getD t12.toNat default)]).length (b188 ++ [(b140.getD t12.toNat default)]).length), cb := [(724, eL (eInt .i64) (b188 ++ [(b140.getD t12.toNat default)]))] })])] 3 [0, 3, 5, 6, 7, 8, 9, 11, 12] [(124, 124), (140, 140), (164, 164), (172, 172), (724, 724)] (o5 h1 (Le.pt (b := 140) (k := t12.toNat * 1)) (ld_ne (xs := b140) (eInt_len .i64) (ixl h1) (o := 0) (by decide)) (Le.of (ld_hd (xs := b140) (eInt_len .i64) (ixl h1) (o := 0) (by decide))) (o5 (Le.tt h2) h3 (Le.pt (b := 140) (k := t12.toNat * 1)) (ld_ne (xs := b140) (eInt_len .i64) (ixl h3) (o := 0) (by decide)) (o5 (Le.of (ld_hd (xs := b140) (eInt_len .i64) (ixl h3) (o := 0) (by decide))) (by decide : 1 * 1 ≤ 1) (ap_len (xs := b188) (eInt_len .i64)) h4 (o2 (Le.apr (b := 724) (by first | rfl | (simp only [List.length_append, List.length_take, List.length_drop]; omega) | simp : (b188 ++ [(b140.getD t12.toNat default)]).length = b188.length + 1)) (ap_one (xs := b188) (eInt_len .i64) (y := (b140.getD t12.toNat default)) (cs := [iI (b140.getD t12.toNat default)]) rfl))))) (g6_5 gx0 z @hr1 @ih h)) fun h2 h =>
    z.j [(18, [(2, oC (.ptr 140 (t12.toNat * 1 + 0))), (3, oC (iI (b140.getD t12.toNat default))), (5, oF)])] 3 [0, 3, 5, 6, 7, 8, 9, 11, 12] [(124, 124), (140, 140), (164, 164), (172, 172), (188, 724)] (o5 h1 (Le.pt (b := 140) (k := t12.toNat * 1)) (ld_ne (xs := b140) (eInt_len .i64) (ixl h1) (o := 0) (by decide)) (Le.of (ld_hd (xs := b140) (eInt_len .i64) (ixl h1) (o := 0) (by decide))) (o1 (Le.ff h2))) (g6_5 gx0 z @hr1 @ih h)) fun h0 h =>
   ck h fun h1 h =>
   z.s [(16, [(3, oF)]), (20, [(3, { cv := some (.ref 756 0 (b188 ++ [t7]).length (b188 ++ [t7]).length), cb := [(756, eL (eInt .i64) (b188 ++ [t7]))] })])] 9 (o5 (Le.ff h0) (by decide : 1 * 1 ≤ 1) (ap_len (xs := b188) (eInt_len .i64)) h1 (o2 (Le.apr (b := 756) (by first | rfl | (simp only [List.length_append, List.length_take, List.length_drop]; omega) | simp : (b188 ++ [t7]).length = b188.length + 1)) (ap_one (xs := b188) (eInt_len .i64) (y := t7) (cs := [iI t7]) rfl))) <|
   br h (fun h2 h =>
    z.s [(21, [(2, oT)])] 4 (o1 (Le.tt h2)) <|
    br h (fun h3 h =>
     z.j [(22, [(4, oT)])] 1 [0, 3, 6, 8, 11, 109] [(124, 124), (164, 164), (756, 756)] (o1 (Le.tt h3)) (g6_6 gx0 z @hr1 h)) fun h3 h =>
    ck h fun h4 h =>
    br h (fun h5 h =>
     z.j [(22, [(4, oF), (7, oC (.ip true [iI ((b172_1.getD (Int.toNat 0) default).Kind), iI ((b172_1.getD (Int.toNat 0) default).Role), iI ((b172_1.getD (Int.toNat 0) default).Site), iI ((b172_1.getD (Int.toNat 0) default).Node), iI ((b172_1.getD (Int.toNat 0) default).To), iI (((b172_1.getD (Int.toNat 0) default).Flow).Src), iI (((b172_1.getD (Int.toNat 0) default).Flow).Dst), iI (((b172_1.getD (Int.toNat 0) default).Flow).Proto), iI (((b172_1.getD (Int.toNat 0) default).Flow).Sport), iI (((b172_1.getD (Int.toNat 0) default).Flow).Dport)])), (12, oT)])] 1 [0, 3, 6, 8, 11, 109] [(124, 124), (164, 164), (756, 756)] (o4 (Le.ff h3) h4 (Le.iptl (g := true) (eL_at (xs := b172_1) eEvent_len (ixl h4))) (Le.tt h5)) (g6_6 gx0 z @hr1 h)) fun h5 h =>
    ck h fun h6 h =>
    vi h fun v1 h7 h =>
    ck h fun h8 h =>
    z.j [(22, [(4, oF), (7, oC (.ip true [iI ((b172_1.getD (Int.toNat 0) default).Kind), iI ((b172_1.getD (Int.toNat 0) default).Role), iI ((b172_1.getD (Int.toNat 0) default).Site), iI ((b172_1.getD (Int.toNat 0) default).Node), iI ((b172_1.getD (Int.toNat 0) default).To), iI (((b172_1.getD (Int.toNat 0) default).Flow).Src), iI (((b172_1.getD (Int.toNat 0) default).Flow).Dst), iI (((b172_1.getD (Int.toNat 0) default).Flow).Proto), iI (((b172_1.getD (Int.toNat 0) default).Flow).Sport), iI (((b172_1.getD (Int.toNat 0) default).Flow).Dport)])), (12, oF), (15, oC (.ip true [iI ((b172_1.getD (Int.toNat 0) default).Kind), iI ((b172_1.getD (Int.toNat 0) default).Role), iI ((b172_1.getD (Int.toNat 0) default).Site), iI ((b172_1.getD (Int.toNat 0) default).Node), iI ((b172_1.getD (Int.toNat 0) default).To), iI (((b172_1.getD (Int.toNat 0) default).Flow).Src), iI (((b172_1.getD (Int.toNat 0) default).Flow).Dst), iI (((b172_1.getD (Int.toNat 0) default).Flow).Proto), iI (((b172_1.getD (Int.toNat 0) default).Flow).Sport), iI (((b172_1.getD (Int.toNat 0) default).Flow).Dport)])), (18, oC (.int .i64 v1)), (20, oC (.ptr 756 ((Int.toNat 0) * 1 + 0))), (21, oC (iI ((b188 ++ [t7]).getD (Int.toNat 0) default)))])] 1 [0, 3, 6, 8, 11, 109] [(124, 124), (164, 164), (756, 756)] (o5 (Le.ff h3) h4 (Le.iptl (g := true) (eL_at (xs := b172_1) eEvent_len (ixl h4))) (Le.ff h5) (o5 h6 (Le.iptl (g := true) (eL_at (xs := b172_1) eEvent_len (ixl h6))) (List.cons_ne_nil _ _ : ([iI (((b172_1.getD (Int.toNat 0) default).Flow).Src), iI (((b172_1.getD (Int.toNat 0) default).Flow).Dst), iI (((b172_1.getD (Int.toNat 0) default).Flow).Proto), iI (((b172_1.getD (Int.toNat 0) default).Flow).Sport), iI (((b172_1.getD (Int.toNat 0) default).Flow).Dport)] : List D) ≠ []) (Le.int (k := .i64) h7) (o4 h8 (Le.pt (b := 756) (k := (Int.toNat 0) * 1)) (ld_ne (xs := (b188 ++ [t7])) (eInt_len .i64) (ixl h8) (o := 0) (by decide)) (Le.of (ld_hd (xs := (b188 ++ [t7])) (eInt_len .i64) (ixl h8) (o := 0) (by decide)))))) (g6_6 gx0 z @hr1 h)) fun h2 h =>
   z.s [(21, [(2, oF)])] 3 (o1 (Le.ff h2)) <|
   br h (fun h3 h =>
    z.r [(25, [(3, oT)])] 4 (o1 (Le.tt h3)) h) fun h3 h =>
   z.j [(25, [(3, oF)])] 3 [0, 3, 6, 8, 11] [(124, 124), (164, 164), (756, 1004)] (o1 (Le.ff h3)) (g6_7 gx0 z @hr1 h)
theorem g6_3 {N} (gx0 : Bool) {r} (z : Z Tryz.prog ty 6 Tryz.f6 (Fi [] (d6 r) [])) {r1 : (List Int) → Int → Int → (List GSite) → (List GHealth) → (List GEntry) → (List Int) → Int → Option (Bool)} (hr1 : ∀ {t0 b124_0 b124_1 b124_2 b124_3 b124_4 b140 t6}, r1 t0 b124_0 b124_1 b124_2 b124_3 b124_4 b140 t6 = some r → z.G [.c 607, .l 607, .b 0, .c 127] [(0, sS gx0 (eInt .i64) t0), (3, .ptr 124 0), (5, rR 140 b140), (6, iI t6)] [qB 124 [iI b124_0, iI b124_1, sS true (eSite true) b124_2, sS true eHealth b124_3, sS true eEntry b124_4], pB 140 1 (eL (eInt .i64) b140)]) {t0 b124_0 b124_1 b124_2 b124_3 b124_4 b140 t6 t7 b164_0 b164_1 b164_2 b164_3 b164_4 b172_0 b172_1 t59} (h : L_law19_EdgeRow_3 N r1 t0 b124_0 b124_1 b124_2 b124_3 b124_4 b140 t6 t7 b164_0 b164_1 b164_2 b164_3 b164_4 b172_0 b172_1 t59 = some r) : z.G [.c 111199, .c 62047, .b 1, .c 3679, .l 607, .b 0, .c 127] [(0, sS gx0 (eInt .i64) t0), (3, .ptr 124 0), (5, rR 140 b140), (6, iI t6), (7, iI t7), (8, .ptr 164 0), (9, .ptr 172 0), (59, .bool t59)] [qB 124 [iI b124_0, iI b124_1, sS true (eSite true) b124_2, sS true eHealth b124_3, sS true eEntry b124_4], pB 140 1 (eL (eInt .i64) b140), qB 164 [iI b164_0, iI b164_1, sS true (eSite true) b164_2, sS true eHealth b164_3, sS true eEntry b164_4], qB 172 [sS true eStr b172_0, sS true eEvent b172_1]] :=
 by
  cases t59 with
  | true => exact brT h fun h => (
   z.r [] 3 o0 h)
  | false => exact brF h fun h => (
   z.j [(14, [(0, { own := some (1) })])] 9 [0, 3, 5, 6, 7, 8, 9, 11, 12] [(124, 124), (140, 140), (164, 164), (172, 172), (188, 188)] o0 (g6_4 gx0 z @hr1 N h))
theorem g6_2 {N} (gx0 : Bool) {r} (z : Z Tryz.prog ty 6 Tryz.f6 (Fi [] (d6 r) [])) {r1 : (List Int) → Int → Int → (List GSite) → (List GHealth) → (List GEntry) → (List Int) → Int → Option (Bool)} (hr1 : ∀ {t0 b124_0 b124_1 b124_2 b124_3 b124_4 b140 t6}, r1 t0 b124_0 b124_1 b124_2 b124_3 b124_4 b140 t6 = some r → z.G [.c 607, .l 607, .b 0, .c 127] [(0, sS gx0 (eInt .i64) t0), (3, .ptr 124 0), (5, rR 140 b140), (6, iI t6)] [qB 124 [iI b124_0, iI b124_1, sS true (eSite true) b124_2, sS true eHealth b124_3, sS true eEntry b124_4], pB 140 1 (eL (eInt .i64) b140)]) {t0 b124_0 b124_1 b124_2 b124_3 b124_4 b140 t6 t31} (h : L_law19_EdgeRow_2 N r1 t0 b124_0 b124_1 b124_2 b124_3 b124_4 b140 t6 t31 = some r) : z.G [.c 3167, .c 1631, .l 607, .b 0, .c 127] [(0, sS gx0 (eInt .i64) t0), (3, .ptr 124 0), (5, rR 140 b140), (6, iI t6), (31, .bool t31)] [qB 124 [iI b124_0, iI b124_1, sS true (eSite true) b124_2, sS true eHealth b124_3, sS true eEntry b124_4], pB 140 1 (eL (eInt .i64) b140)] :=
 by
  cases t31 with
  | true => exact brT h fun h => (
   ck h fun h1 h =>
   vi h fun v1 h2 h =>
   bd h fun v2 h3 h =>
   bd h fun v3 h4 h =>
   bd h fun v4 h5 h =>
   z.s [(10, [(2, oC (.ip gx0 [iI (t0.getD t6.toNat default)])), (4, oC (.int .u64 v1))]), (11, [(4, oR (d35 v2)), (5, oR (d19 v3))])] 10 (o5 h1 (Le.iptl (g := gx0) (eL_at (xs := t0) (eInt_len .i64) (ixl h1))) (Le.int (k := .u64) h2) (by decide : (11:Int) ≠ 0) (o2 (c35 h3) (c19 true h4))) <|
   br h (fun h6 h =>
    z.j [(12, [(1, oR (d25 v4)), (3, oT)])] 1 [0, 3, 5, 6, 7, 8, 9, 59] [(124, 124), (140, 140), (164, 164), (172, 172)] (o2 (c25 h5) (Le.tt h6)) (g6_3 gx0 z @hr1 h)) fun h6 h =>
   z.j [(12, [(1, oR (d25 v4)), (3, oF)])] 1 [0, 3, 5, 6, 7, 8, 9, 59] [(124, 124), (140, 140), (164, 164), (172, 172)] (o2 (c25 h5) (Le.ff h6)) (g6_3 gx0 z @hr1 h))
  | false => exact brF h fun h => (
   z.r [] 4 o0 h)
theorem g6_1 {N} (gx0 : Bool) {r} (z : Z Tryz.prog ty 6 Tryz.f6 (Fi [] (d6 r) [])) (fuel) : ∀ {t0 b124_0 b124_1 b124_2 b124_3 b124_4 b140 t6}, L_law19_EdgeRow_1 N fuel t0 b124_0 b124_1 b124_2 b124_3 b124_4 b140 t6 = some r → z.G [.c 607, .l 607, .b 0, .c 127] [(0, sS gx0 (eInt .i64) t0), (3, .ptr 124 0), (5, rR 140 b140), (6, iI t6)] [qB 124 [iI b124_0, iI b124_1, sS true (eSite true) b124_2, sS true eHealth b124_3, sS true eEntry b124_4], pB 140 1 (eL (eInt .i64) b140)] := by
 induction fuel with
 | zero => intro t0 b124_0 b124_1 b124_2 b124_3 b124_4 b140 t6 h; cases h
 | succ fuel ih =>
  intro t0 b124_0 b124_1 b124_2 b124_3 b124_4 b140 t6 h
  exact
   br h (fun h0 h =>
    z.j [(8, [(4, oT)])] 3 [0, 3, 5, 6, 31] [(124, 124), (140, 140)] (o1 (Le.tt h0)) (g6_2 gx0 z @ih h)) fun h0 h =>
   z.j [(8, [(4, oF)])] 3 [0, 3, 5, 6, 31] [(124, 124), (140, 140)] (o1 (Le.ff h0)) (g6_2 gx0 z @ih h)
theorem c6 {N} (gx0 : Bool) {x0 r} (h : L_law19_EdgeRow N x0 = some r) : Con Tryz.prog 6 [sS gx0 (eInt .i64) x0] [] (d6 r) [] :=
 ci ok mix Tryz.f6 fun z =>
 bd h fun v1 h0 h =>
 br h (fun h1 h =>
  z.r [(1, [(0, oR (d30 v1)), (1, oT)])] 8 (o2 (c30 h0) (Le.tt h1)) h) fun h1 h =>
 bd h fun v2 h2 h =>
 bd h fun v3 h3 h =>
 bd h fun v4 h4 h =>
 z.s [(1, [(0, oR (d30 v1)), (1, oF)]), (3, [(0, oR (d34 v2)), (1, oR (d21 v3))])] 11 (o4 (c30 h0) (Le.ff h1) (c34 h2) (c21 true h3)) <|
 br h (fun h5 h =>
  z.r [(4, [(1, oR (d25 v4)), (2, oT)])] 4 (o2 (c25 h4) (Le.tt h5)) h) fun h5 h =>
 z.j [(4, [(1, oR (d25 v4)), (2, oF)]), (6, [(0, { own := some (1) })])] 10 [0, 3, 5, 6] [(124, 124), (140, 140)] (o2 (c25 h4) (Le.ff h5)) (g6_1 gx0 z N h)
/-! ### wharfage/wharfageref1.GetSeg -/
def L_ref1_GetSeg_4 (N : Nat) (b164_0 b164_1 b164_2 b164_3 b164_4 b164_5 : Int) (b164_6 : ByteArray) (b180_0 b180_1 b180_2 b180_3 b180_4 b180_5 : Int) (b180_6 : ByteArray) (t100 : Bool) : Option (GSeg × Int) :=
  bif t100 then
    some ((GSeg.mk 0 0 0 0 0 0 ByteArray.empty), 300)
  else
    some ((GSeg.mk b180_0 b180_1 b180_2 b180_3 b180_4 b180_5 b180_6), 0)
def L_ref1_GetSeg_3 (N : Nat) (b164_0 b164_1 b164_2 b164_3 b164_4 b164_5 : Int) (b164_6 : ByteArray) (b180_0 b180_1 b180_2 b180_3 b180_4 b180_5 : Int) (b180_6 : ByteArray) (t11 : Bool) : Option (GSeg × Int) :=
  bif (!t11) then
    L_ref1_GetSeg_4 N b164_0 b164_1 b164_2 b164_3 b164_4 b164_5 b164_6 b180_0 b180_1 b180_2 b180_3 b180_4 b180_5 b180_6 true
  else
    (L_ref1_SegMay N (GSeg.mk b180_0 b180_1 b180_2 b180_3 b180_4 b180_5 b180_6)).bind fun v1 =>
    L_ref1_GetSeg_4 N b164_0 b164_1 b164_2 b164_3 b164_4 b164_5 b164_6 b180_0 b180_1 b180_2 b180_3 b180_4 b180_5 b180_6 (!v1)
def L_ref1_GetSeg_2 (N : Nat) (t0 : Int) (t1 : ByteArray) (t2 t3 b164_0 b164_1 b164_2 b164_3 b164_4 b164_5 : Int) (b164_6 : ByteArray) (b180_0 b180_1 b180_2 b180_3 b180_4 b180_5 : Int) (b180_6 : ByteArray) (t11 t34 : Bool) : Option (GSeg × Int) :=
  bif t34 then
    if 0 ≤ (8 : Int) ∧ (8 : Int) ≤ (t1.size : Int) ∧ 0 ≤ (4 : Int) ∧ (4 : Int) ≤ (8 : Int) then
    (L_ref1_Of N (t1.extract 4 8)).bind fun v1 =>
    if 0 ≤ (12 : Int) ∧ (12 : Int) ≤ (t1.size : Int) ∧ 0 ≤ (8 : Int) ∧ (8 : Int) ≤ (12 : Int) then
    (L_ref1_Of N (t1.extract 8 12)).bind fun v2 =>
    if 0 ≤ (13 : Int) ∧ (13 : Int) < (t1.size : Int) then
    if 0 ≤ (t1.size : Int) ∧ (t1.size : Int) ≤ (t1.size : Int) ∧ 0 ≤ (20 : Int) ∧ (20 : Int) ≤ (t1.size : Int) then
    if 0 ≤ (12 : Int) ∧ (12 : Int) < (t1.size : Int) then
    bif ((bt t1 12) == 80) then
      (L_ref1_pseudo N t0 t1 t2 t3).bind fun v3 =>
      L_ref1_GetSeg_3 N b164_0 b164_1 b164_2 b164_3 b164_4 b164_5 b164_6 b180_0 b180_1 b180_2 v1 v2 (IntKind.i64.wrap (bt t1 13)) (t1.extract 20 t1.size) (v3 == 65535)
    else
      L_ref1_GetSeg_3 N b164_0 b164_1 b164_2 b164_3 b164_4 b164_5 b164_6 b180_0 b180_1 b180_2 v1 v2 (IntKind.i64.wrap (bt t1 13)) (t1.extract 20 t1.size) false
    else none
    else none
    else none
    else none
    else none
  else
    bif (t0 == 17) then
      if 0 ≤ (t1.size : Int) ∧ (t1.size : Int) ≤ (t1.size : Int) ∧ 0 ≤ (8 : Int) ∧ (8 : Int) ≤ (t1.size : Int) then
      if 0 ≤ (6 : Int) ∧ (6 : Int) ≤ (t1.size : Int) ∧ 0 ≤ (4 : Int) ∧ (4 : Int) ≤ (6 : Int) then
      (L_ref1_Of N (t1.extract 4 6)).bind fun v1 =>
      bif (v1 == (t1.size : Int)) then
        if 0 ≤ (8 : Int) ∧ (8 : Int) ≤ (t1.size : Int) ∧ 0 ≤ (6 : Int) ∧ (6 : Int) ≤ (8 : Int) then
        (L_ref1_Of N (t1.extract 6 8)).bind fun v2 =>
        bif (v2 == 0) then
          L_ref1_GetSeg_3 N b164_0 b164_1 b164_2 b164_3 b164_4 b164_5 b164_6 b180_0 b180_1 b180_2 b180_3 b180_4 b180_5 (t1.extract 8 t1.size) true
        else
          (L_ref1_pseudo N t0 t1 t2 t3).bind fun v3 =>
          L_ref1_GetSeg_3 N b164_0 b164_1 b164_2 b164_3 b164_4 b164_5 b164_6 b180_0 b180_1 b180_2 b180_3 b180_4 b180_5 (t1.extract 8 t1.size) (v3 == 65535)
        else none
      else
        L_ref1_GetSeg_3 N b164_0 b164_1 b164_2 b164_3 b164_4 b164_5 b164_6 b180_0 b180_1 b180_2 b180_3 b180_4 b180_5 (t1.extract 8 t1.size) false
      else none
      else none
    else
      L_ref1_GetSeg_3 N b164_0 b164_1 b164_2 b164_3 b164_4 b164_5 b164_6 b180_0 b180_1 b180_2 b180_3 b180_4 b180_5 b180_6 t11
def L_ref1_GetSeg_1 (N : Nat) (t0 : Int) (t1 : ByteArray) (t2 t3 b164_0 b164_1 b164_2 b164_3 b164_4 b164_5 : Int) (b164_6 : ByteArray) (t24 : Bool) : Option (GSeg × Int) :=
  bif t24 then
    some ((GSeg.mk 0 0 0 0 0 0 ByteArray.empty), 300)
  else
    if 0 ≤ (2 : Int) ∧ (2 : Int) ≤ (t1.size : Int) ∧ 0 ≤ (0 : Int) ∧ (0 : Int) ≤ (2 : Int) then
    (L_ref1_Of N (t1.extract 0 2)).bind fun v1 =>
    if 0 ≤ (4 : Int) ∧ (4 : Int) ≤ (t1.size : Int) ∧ 0 ≤ (2 : Int) ∧ (2 : Int) ≤ (4 : Int) then
    (L_ref1_Of N (t1.extract 2 4)).bind fun v2 =>
    bif (t0 == 6) then
      L_ref1_GetSeg_2 N t0 t1 t2 t3 b164_0 b164_1 b164_2 b164_3 b164_4 b164_5 b164_6 t0 v1 v2 0 0 0 ByteArray.empty false (decide ((t1.size : Int) ≥ 20))
    else
      L_ref1_GetSeg_2 N t0 t1 t2 t3 b164_0 b164_1 b164_2 b164_3 b164_4 b164_5 b164_6 t0 v1 v2 0 0 0 ByteArray.empty false false
    else none
    else none
def L_ref1_GetSeg (N : Nat) (x0 : Int) (x1 : ByteArray) (x2 x3 : Int) : Option (GSeg × Int) :=
  (L_ref1_within N x2 32).bind fun v1 =>
  bif (!v1) then
    L_ref1_GetSeg_1 N x0 x1 x2 x3 0 0 0 0 0 0 ByteArray.empty true
  else
    (L_ref1_within N x3 32).bind fun v2 =>
    bif (!v2) then
      L_ref1_GetSeg_1 N x0 x1 x2 x3 0 0 0 0 0 0 ByteArray.empty true
    else
      L_ref1_GetSeg_1 N x0 x1 x2 x3 0 0 0 0 0 0 ByteArray.empty (decide ((x1.size : Int) < 8))
def d97 (r : GSeg × Int) : D := .tup [.agg [iI r.1.Proto, iI r.1.Sport, iI r.1.Dport, iI r.1.Seq, iI r.1.Ack, iI r.1.Flags, .str r.1.Body], iI r.2]
theorem g97_4 {N} {r} (z : Z Tryz.prog ty 97 Tryz.f97 (Fi [] (d97 r) [])) {b164_0 b164_1 b164_2 b164_3 b164_4 b164_5 b164_6 b180_0 b180_1 b180_2 b180_3 b180_4 b180_5 b180_6 t100} (h : L_ref1_GetSeg_4 N b164_0 b164_1 b164_2 b164_3 b164_4 b164_5 b164_6 b180_0 b180_1 b180_2 b180_3 b180_4 b180_5 b180_6 t100 = some r) : z.G [.c 223, .c 127] [(8, .ptr 164 0), (10, .ptr 180 0), (100, .bool t100)] [qB 164 [iI b164_0, iI b164_1, iI b164_2, iI b164_3, iI b164_4, iI b164_5, .str b164_6], qB 180 [iI b180_0, iI b180_1, iI b180_2, iI b180_3, iI b180_4, iI b180_5, .str b180_6]] :=
 by
  cases t100 with
  | true => exact brT h fun h => (
   z.r [] 3 o0 h)
  | false => exact brF h fun h => (
   z.r [] 4 o0 h)
theorem g97_3 {N} {r} (z : Z Tryz.prog ty 97 Tryz.f97 (Fi [] (d97 r) [])) {b164_0 b164_1 b164_2 b164_3 b164_4 b164_5 b164_6 b180_0 b180_1 b180_2 b180_3 b180_4 b180_5 b180_6 t11} (h : L_ref1_GetSeg_3 N b164_0 b164_1 b164_2 b164_3 b164_4 b164_5 b164_6 b180_0 b180_1 b180_2 b180_3 b180_4 b180_5 b180_6 t11 = some r) : z.G [.b 0, .c 63] [(8, .ptr 164 0), (10, .ptr 180 0), (11, .bool t11)] [qB 164 [iI b164_0, iI b164_1, iI b164_2, iI b164_3, iI b164_4, iI b164_5, .str b164_6], qB 180 [iI b180_0, iI b180_1, iI b180_2, iI b180_3, iI b180_4, iI b180_5, .str b180_6]] :=
 br h (fun h0 h =>
  z.j [(14, [(2, oT)])] 4 [8, 10, 100] [(164, 164), (180, 180)] (o1 (Le.tt h0)) (g97_4 z h)) fun h0 h =>
 bd h fun v1 h1 h =>
 z.j [(14, [(2, oF), (4, oR (d155 v1))])] 4 [8, 10, 100] [(164, 164), (180, 180)] (o2 (Le.ff h0) (c155 h1)) (g97_4 z h)
theorem g97_2 {N} {r} (z : Z Tryz.prog ty 97 Tryz.f97 (Fi [] (d97 r) [])) {t0 t1 t2 t3 b164_0 b164_1 b164_2 b164_3 b164_4 b164_5 b164_6 b180_0 b180_1 b180_2 b180_3 b180_4 b180_5 b180_6 t11 t34} (h : L_ref1_GetSeg_2 N t0 t1 t2 t3 b164_0 b164_1 b164_2 b164_3 b164_4 b164_5 b164_6 b180_0 b180_1 b180_2 b180_3 b180_4 b180_5 b180_6 t11 t34 = some r) : z.G [.c 207, .b 0, .c 63] [(0, iI t0), (1, .str t1), (2, iI t2), (3, iI t3), (8, .ptr 164 0), (10, .ptr 180 0), (11, .bool t11), (34, .bool t34)] [qB 164 [iI b164_0, iI b164_1, iI b164_2, iI b164_3, iI b164_4, iI b164_5, .str b164_6], qB 180 [iI b180_0, iI b180_1, iI b180_2, iI b180_3, iI b180_4, iI b180_5, .str b180_6]] :=
 by
  cases t34 with
  | true => exact brT h fun h => (
   ck h fun h1 h =>
   bd h fun v1 h2 h =>
   ck h fun h3 h =>
   bd h fun v2 h4 h =>
   ck h fun h5 h =>
   ck h fun h6 h =>
   ck h fun h7 h =>
   z.s [(6, [(2, oR (d153 v1))]), (7, [(2, oR (d153 v2))])] 9 (o5 h1 (c153 h2) h3 (c153 h4) (o2 h5 h6)) <|
   br h (fun h8 h =>
    bd h fun v3 h9 h =>
    z.j [(10, [(3, oT), (8, oR (d154 v3))])] 1 [8, 10, 11] [(164, 164), (180, 180)] (o3 h7 (Le.tt h8) (c154 h9)) (g97_3 z h)) fun h8 h =>
   z.j [(10, [(3, oF)])] 1 [8, 10, 11] [(164, 164), (180, 180)] (o2 h7 (Le.ff h8)) (g97_3 z h))
  | false => exact brF h fun h => (
   br h (fun h1 h =>
    ck h fun h2 h =>
    ck h fun h3 h =>
    bd h fun v1 h4 h =>
    z.s [(11, [(2, oT)])] 6 (o2 (Le.tt h1) h2) <|
    br h (fun h5 h =>
     ck h fun h6 h =>
     bd h fun v2 h7 h =>
     br h (fun h8 h =>
      z.j [(13, [(2, oR (d153 v1)), (6, oT), (9, oR (d153 v2)), (11, oT)])] 1 [8, 10, 11] [(164, 164), (180, 180)] (o5 h3 (c153 h4) (Le.tt h5) h6 (o2 (c153 h7) (Le.tt h8))) (g97_3 z h)) fun h8 h =>
     bd h fun v3 h9 h =>
     z.j [(13, [(2, oR (d153 v1)), (6, oT), (9, oR (d153 v2)), (11, oF), (16, oR (d154 v3))])] 1 [8, 10, 11] [(164, 164), (180, 180)] (o5 h3 (c153 h4) (Le.tt h5) h6 (o3 (c153 h7) (Le.ff h8) (c154 h9))) (g97_3 z h)) fun h5 h =>
    z.j [(13, [(2, oR (d153 v1)), (6, oF)])] 1 [8, 10, 11] [(164, 164), (180, 180)] (o3 h3 (c153 h4) (Le.ff h5)) (g97_3 z h)) fun h1 h =>
   z.j [(11, [(2, oF)])] 5 [8, 10, 11] [(164, 164), (180, 180)] (o1 (Le.ff h1)) (g97_3 z h))
theorem g97_1 {N} {r} (z : Z Tryz.prog ty 97 Tryz.f97 (Fi [] (d97 r) [])) {t0 t1 t2 t3 b164_0 b164_1 b164_2 b164_3 b164_4 b164_5 b164_6 t24} (h : L_ref1_GetSeg_1 N t0 t1 t2 t3 b164_0 b164_1 b164_2 b164_3 b164_4 b164_5 b164_6 t24 = some r) : z.G [.c 13, .c 7] [(0, iI t0), (1, .str t1), (2, iI t2), (3, iI t3), (8, .ptr 164 0), (24, .bool t24)] [qB 164 [iI b164_0, iI b164_1, iI b164_2, iI b164_3, iI b164_4, iI b164_5, .str b164_6]] :=
 by
  cases t24 with
  | true => exact brT h fun h => (
   z.r [] 3 o0 h)
  | false => exact brF h fun h => (
   ck h fun h1 h =>
   bd h fun v1 h2 h =>
   ck h fun h3 h =>
   bd h fun v2 h4 h =>
   z.s [(3, [(3, oR (d153 v1)), (6, oR (d153 v2))])] 9 (o4 h1 (c153 h2) h3 (c153 h4)) <|
   br h (fun h5 h =>
    z.j [(5, [(2, oT)])] 1 [0, 1, 2, 3, 8, 10, 11, 34] [(164, 164), (180, 180)] (o1 (Le.tt h5)) (g97_2 z h)) fun h5 h =>
   z.j [(5, [(2, oF)])] 1 [0, 1, 2, 3, 8, 10, 11, 34] [(164, 164), (180, 180)] (o1 (Le.ff h5)) (g97_2 z h))
theorem c97 {N} {x0 x1 x2 x3 r} (h : L_ref1_GetSeg N x0 x1 x2 x3 = some r) : Con Tryz.prog 97 [iI x0, .str x1, iI x2, iI x3] [] (d97 r) [] :=
 ci ok mix Tryz.f97 fun z =>
 bd h fun v1 h0 h =>
 br h (fun h1 h =>
  z.j [(1, [(1, oR (d137 v1)), (3, oT)])] 5 [0, 1, 2, 3, 8, 24] [(164, 164)] (o2 (c137 h0) (Le.tt h1)) (g97_1 z h)) fun h1 h =>
 bd h fun v2 h2 h =>
 br h (fun h3 h =>
  z.j [(1, [(1, oR (d137 v1)), (3, oF), (5, oR (d137 v2)), (8, oT)])] 5 [0, 1, 2, 3, 8, 24] [(164, 164)] (o4 (c137 h0) (Le.ff h1) (c137 h2) (Le.tt h3)) (g97_1 z h)) fun h3 h =>
 z.j [(1, [(1, oR (d137 v1)), (3, oF), (5, oR (d137 v2)), (8, oF)])] 5 [0, 1, 2, 3, 8, 24] [(164, 164)] (o4 (c137 h0) (Le.ff h1) (c137 h2) (Le.ff h3)) (g97_1 z h)
/-! ### wharfage/wharfageref1.FlowOf -/
def L_ref1_FlowOf_1 (N : Nat) (b116_0 b116_1 b116_2 b116_3 b116_4 b124_0 b124_1 b124_2 b124_3 b124_4 b124_5 : Int) (b124_6 : ByteArray) (b140_0 b140_1 b140_2 b140_3 b140_4 : Int) (b140_5 : ByteArray) (t33 : Bool) : Option (GFlow × GSeg × Int) :=
  bif t33 then
    some ((GFlow.mk 0 0 0 0 0), (GSeg.mk 0 0 0 0 0 0 ByteArray.empty), 3)
  else
    (L_ref1_GetSeg N b140_2 b140_5 b140_0 b140_1).bind fun v1 =>
    bif (v1.2 != 0) then
      some ((GFlow.mk 0 0 0 0 0), (GSeg.mk 0 0 0 0 0 0 ByteArray.empty), 1)
    else
      some ((GFlow.mk b140_0 b140_1 b140_2 v1.1.Sport v1.1.Dport), v1.1, 0)
def L_ref1_FlowOf (N : Nat) (x0 : ByteArray) : Option (GFlow × GSeg × Int) :=
  (L_ref1_GetIp N x0).bind fun v1 =>
  bif (v1.2.1 != 0) then
    some ((GFlow.mk 0 0 0 0 0), (GSeg.mk 0 0 0 0 0 0 ByteArray.empty), v1.2.1)
  else
    bif (v1.1.Proto != 6) then
      bif (v1.1.Proto != 17) then
        L_ref1_FlowOf_1 N 0 0 0 0 0 0 0 0 0 0 0 ByteArray.empty v1.1.Src v1.1.Dst v1.1.Proto v1.1.Ttl v1.1.Id v1.1.Body true
      else
        L_ref1_FlowOf_1 N 0 0 0 0 0 0 0 0 0 0 0 ByteArray.empty v1.1.Src v1.1.Dst v1.1.Proto v1.1.Ttl v1.1.Id v1.1.Body (v1.1.Dst != 167772161)
    else
      L_ref1_FlowOf_1 N 0 0 0 0 0 0 0 0 0 0 0 ByteArray.empty v1.1.Src v1.1.Dst v1.1.Proto v1.1.Ttl v1.1.Id v1.1.Body (v1.1.Dst != 167772161)
def d31 (r : GFlow × GSeg × Int) : D := .tup [.agg [iI r.1.Src, iI r.1.Dst, iI r.1.Proto, iI r.1.Sport, iI r.1.Dport], .agg [iI r.2.1.Proto, iI r.2.1.Sport, iI r.2.1.Dport, iI r.2.1.Seq, iI r.2.1.Ack, iI r.2.1.Flags, .str r.2.1.Body], iI r.2.2]
theorem g31_1 {N} {r} (z : Z Tryz.prog ty 31 Tryz.f31 (Fi [] (d31 r) [])) {b116_0 b116_1 b116_2 b116_3 b116_4 b124_0 b124_1 b124_2 b124_3 b124_4 b124_5 b124_6 b140_0 b140_1 b140_2 b140_3 b140_4 b140_5 t33} (h : L_ref1_FlowOf_1 N b116_0 b116_1 b116_2 b116_3 b116_4 b124_0 b124_1 b124_2 b124_3 b124_4 b124_5 b124_6 b140_0 b140_1 b140_2 b140_3 b140_4 b140_5 t33 = some r) : z.G [.c 55, .c 31] [(2, .ptr 116 0), (3, .ptr 124 0), (5, .ptr 140 0), (33, .bool t33)] [qB 116 [iI b116_0, iI b116_1, iI b116_2, iI b116_3, iI b116_4], qB 124 [iI b124_0, iI b124_1, iI b124_2, iI b124_3, iI b124_4, iI b124_5, .str b124_6], qB 140 [iI b140_0, iI b140_1, iI b140_2, iI b140_3, iI b140_4, .str b140_5]] :=
 by
  cases t33 with
  | true => exact brT h fun h => (
   z.r [] 3 o0 h)
  | false => exact brF h fun h => (
   bd h fun v1 h1 h =>
   z.s [(6, [(8, oR (d97 v1))])] 6 (o1 (c97 h1)) <|
   br h (fun h2 h =>
    z.r [(7, [(1, oT)])] 4 (o1 (Le.tt h2)) h) fun h2 h =>
   z.r [(7, [(1, oF)])] 5 (o1 (Le.ff h2)) h)
theorem c31 {N} {x0 r} (h : L_ref1_FlowOf N x0 = some r) : Con Tryz.prog 31 [.str x0] [] (d31 r) [] :=
 ci ok mix Tryz.f31 fun z =>
 bd h fun v1 h0 h =>
 z.s [(1, [(1, oR (d96 v1))])] 6 (o1 (c96 h0)) <|
 br h (fun h1 h =>
  z.r [(2, [(1, oT)])] 4 (o1 (Le.tt h1)) h) fun h1 h =>
 z.s [(2, [(1, oF)])] 5 (o1 (Le.ff h1)) <|
 br h (fun h2 h =>
  br h (fun h3 h =>
   z.j [(4, [(3, oT), (8, oT)])] 1 [2, 3, 5, 33] [(116, 116), (124, 124), (140, 140)] (o2 (Le.tt h2) (Le.tt h3)) (g31_1 z h)) fun h3 h =>
  z.j [(4, [(3, oT), (8, oF)])] 1 [2, 3, 5, 33] [(116, 116), (124, 124), (140, 140)] (o2 (Le.tt h2) (Le.ff h3)) (g31_1 z h)) fun h2 h =>
 z.j [(4, [(3, oF)])] 1 [2, 3, 5, 33] [(116, 116), (124, 124), (140, 140)] (o1 (Le.ff h2)) (g31_1 z h)
/-! ### wharfage/wharfageref10.phaseMay -/
def L_ref10_phaseMay_1 (N : Nat) (t2 : Bool) : Option (Bool) :=
  some t2
def L_ref10_phaseMay (N : Nat) (x0 : Int) : Option (Bool) :=
  bif (decide (x0 ≥ 0)) then
    L_ref10_phaseMay_1 N (decide (x0 ≤ 2))
  else
    L_ref10_phaseMay_1 N false
def d202 (r : Bool) : D := .bool r
theorem g202_1 {N} {r} (z : Z Tryz.prog ty 202 Tryz.f202 (Fi [] (d202 r) [])) {t2} (h : L_ref10_phaseMay_1 N t2 = some r) : z.G [.c 7] [(2, .bool t2)] [] :=
 z.r [] 0 o0 h
theorem c202 {N} {x0 r} (h : L_ref10_phaseMay N x0 = some r) : Con Tryz.prog 202 [iI x0] [] (d202 r) [] :=
 ci ok mix Tryz.f202 fun z =>
 br h (fun h0 h =>
  z.j [(1, [(2, oT)])] 4 [2] [] (o1 (Le.tt h0)) (g202_1 z h)) fun h0 h =>
 z.j [(1, [(2, oF)])] 4 [2] [] (o1 (Le.ff h0)) (g202_1 z h)
/-! ### wharfage/wharfageref10.nowMay -/
def L_ref10_nowMay_1 (N : Nat) (t2 : Bool) : Option (Bool) :=
  some t2
def L_ref10_nowMay (N : Nat) (x0 : Int) : Option (Bool) :=
  bif (decide (x0 ≥ 0)) then
    L_ref10_nowMay_1 N (decide (x0 ≤ 1048576))
  else
    L_ref10_nowMay_1 N false
def d191 (r : Bool) : D := .bool r
theorem g191_1 {N} {r} (z : Z Tryz.prog ty 191 Tryz.f191 (Fi [] (d191 r) [])) {t2} (h : L_ref10_nowMay_1 N t2 = some r) : z.G [.c 7] [(2, .bool t2)] [] :=
 z.r [] 0 o0 h
theorem c191 {N} {x0 r} (h : L_ref10_nowMay N x0 = some r) : Con Tryz.prog 191 [iI x0] [] (d191 r) [] :=
 ci ok mix Tryz.f191 fun z =>
 br h (fun h0 h =>
  z.j [(1, [(2, oT)])] 4 [2] [] (o1 (Le.tt h0)) (g191_1 z h)) fun h0 h =>
 z.j [(1, [(2, oF)])] 4 [2] [] (o1 (Le.ff h0)) (g191_1 z h)
/-! ### wharfage/wharfageref10.EntryMay -/
def L_ref10_EntryMay_1 (N : Nat) (t2 : Bool) : Option (Bool) :=
  some t2
def L_ref10_EntryMay (N : Nat) (x0 : GEntry) : Option (Bool) :=
  (L_ref1_FlowMay N x0.Flow).bind fun v1 =>
  bif v1 then
    bif (decide (x0.To ≥ 0)) then
      bif (decide (x0.To ≤ 255)) then
        (L_ref10_phaseMay N x0.Phase).bind fun v2 =>
        bif v2 then
          (L_ref10_nowMay N x0.Used).bind fun v3 =>
          L_ref10_EntryMay_1 N v3
        else
          L_ref10_EntryMay_1 N false
      else
        L_ref10_EntryMay_1 N false
    else
      L_ref10_EntryMay_1 N false
  else
    L_ref10_EntryMay_1 N false
def d151 (r : Bool) : D := .bool r
theorem g151_1 {N} {r} (z : Z Tryz.prog ty 151 Tryz.f151 (Fi [] (d151 r) [])) {t2} (h : L_ref10_EntryMay_1 N t2 = some r) : z.G [.c 7] [(2, .bool t2)] [] :=
 z.r [] 0 o0 h
theorem c151 {N} {x0 r} (h : L_ref10_EntryMay N x0 = some r) : Con Tryz.prog 151 [.agg [iI x0.Flow.Src, iI x0.Flow.Dst, iI x0.Flow.Proto, iI x0.Flow.Sport, iI x0.Flow.Dport, iI x0.To, .bool x0.Away, iI x0.Phase, iI x0.Used]] [] (d151 r) [] :=
 ci ok mix Tryz.f151 fun z =>
 bd h fun v1 h0 h =>
 br h (fun h1 h =>
  br h (fun h2 h =>
   br h (fun h3 h =>
    bd h fun v2 h4 h =>
    br h (fun h5 h =>
     bd h fun v3 h6 h =>
     z.j [(1, [(2, oR (d138 v1)), (3, oT), (8, oT), (13, oT), (16, oR (d202 v2)), (18, oT), (21, oR (d191 v3))])] 4 [2] [] (o5 (c138 h0) (Le.tt h1) (Le.tt h2) (Le.tt h3) (o3 (c202 h4) (Le.tt h5) (c191 h6))) (g151_1 z h)) fun h5 h =>
    z.j [(1, [(2, oR (d138 v1)), (3, oT), (8, oT), (13, oT), (16, oR (d202 v2)), (18, oF)])] 4 [2] [] (o5 (c138 h0) (Le.tt h1) (Le.tt h2) (Le.tt h3) (o2 (c202 h4) (Le.ff h5))) (g151_1 z h)) fun h3 h =>
   z.j [(1, [(2, oR (d138 v1)), (3, oT), (8, oT), (13, oF)])] 4 [2] [] (o4 (c138 h0) (Le.tt h1) (Le.tt h2) (Le.ff h3)) (g151_1 z h)) fun h2 h =>
  z.j [(1, [(2, oR (d138 v1)), (3, oT), (8, oF)])] 4 [2] [] (o3 (c138 h0) (Le.tt h1) (Le.ff h2)) (g151_1 z h)) fun h1 h =>
 z.j [(1, [(2, oR (d138 v1)), (3, oF)])] 4 [2] [] (o2 (c138 h0) (Le.ff h1)) (g151_1 z h)
/-! ### wharfage/wharfageref10.CacheMay -/
def L_ref10_CacheMay_2 (N : Nat) (r1 : (List GEntry) → Int → Option (Bool)) : Nat → (List GEntry) → Int → Int → Option (Bool)
  | 0, _, _, _ => none
  | fuel + 1, t0, t3, t4 =>
    bif (decide (t4 < t3)) then
      if 0 ≤ t4 ∧ t4 < ((t0.length : Nat) : Int) then
      if 0 ≤ t3 ∧ t3 < ((t0.length : Nat) : Int) then
      bif ((((t0.getD t4.toNat default).Flow).Src == ((t0.getD t3.toNat default).Flow).Src) && ((((t0.getD t4.toNat default).Flow).Dst == ((t0.getD t3.toNat default).Flow).Dst) && ((((t0.getD t4.toNat default).Flow).Proto == ((t0.getD t3.toNat default).Flow).Proto) && ((((t0.getD t4.toNat default).Flow).Sport == ((t0.getD t3.toNat default).Flow).Sport) && ((((t0.getD t4.toNat default).Flow).Dport == ((t0.getD t3.toNat default).Flow).Dport) && true))))) then
        some false
      else
        L_ref10_CacheMay_2 N r1 fuel t0 t3 (IntKind.i64.wrap (t4 + 1))
      else none
      else none
    else
      r1 t0 (IntKind.i64.wrap (t3 + 1))
def L_ref10_CacheMay_1 (N : Nat) : Nat → (List GEntry) → Int → Option (Bool)
  | 0, _, _ => none
  | fuel + 1, t0, t3 =>
    bif (decide (t3 < (t0.length : Int))) then
      if 0 ≤ t3 ∧ t3 < ((t0.length : Nat) : Int) then
      (L_ref10_EntryMay N (GEntry.mk ((t0.getD t3.toNat default).Flow) ((t0.getD t3.toNat default).To) ((t0.getD t3.toNat default).Away) ((t0.getD t3.toNat default).Phase) ((t0.getD t3.toNat default).Used))).bind fun v1 =>
      bif (!v1) then
        some false
      else
        L_ref10_CacheMay_2 N (L_ref10_CacheMay_1 N fuel) N t0 t3 0
      else none
    else
      some (decide ((t0.length : Int) ≤ 8))
def L_ref10_CacheMay (N : Nat) (x0 : (List GEntry)) : Option (Bool) :=
  L_ref10_CacheMay_1 N N x0 0
def d90 (r : Bool) : D := .bool r
theorem g90_2 {N} (gx0 : Bool) {r} (z : Z Tryz.prog ty 90 Tryz.f90 (Fi [] (d90 r) [])) {r1 : (List GEntry) → Int → Option (Bool)} (hr1 : ∀ {t0 t3}, r1 t0 t3 = some r → z.G [.c 37, .l 37, .b 0, .c 7] [(0, sS gx0 eEntry t0), (3, iI t3)] []) (fuel) : ∀ {t0 t3 t4}, L_ref10_CacheMay_2 N r1 fuel t0 t3 t4 = some r → z.G [.c 4901, .l 4901, .b 2, .b 1, .c 229, .l 37, .b 0, .c 7] [(0, sS gx0 eEntry t0), (3, iI t3), (4, iI t4)] [] := by
 induction fuel with
 | zero => intro t0 t3 t4 h; cases h
 | succ fuel ih =>
  intro t0 t3 t4 h
  exact
   br h (fun h0 h =>
    ck h fun h1 h =>
    ck h fun h2 h =>
    z.s [(7, [(2, oT)])] 8 (o1 (Le.tt h0)) <|
    br h (fun h3 h =>
     z.r [(9, [(2, oC (.ip gx0 [iI (((t0.getD t4.toNat default).Flow).Src), iI (((t0.getD t4.toNat default).Flow).Dst), iI (((t0.getD t4.toNat default).Flow).Proto), iI (((t0.getD t4.toNat default).Flow).Sport), iI (((t0.getD t4.toNat default).Flow).Dport), iI ((t0.getD t4.toNat default).To), .bool ((t0.getD t4.toNat default).Away), iI ((t0.getD t4.toNat default).Phase), iI ((t0.getD t4.toNat default).Used)])), (7, oC (.ip gx0 [iI (((t0.getD t3.toNat default).Flow).Src), iI (((t0.getD t3.toNat default).Flow).Dst), iI (((t0.getD t3.toNat default).Flow).Proto), iI (((t0.getD t3.toNat default).Flow).Sport), iI (((t0.getD t3.toNat default).Flow).Dport), iI ((t0.getD t3.toNat default).To), .bool ((t0.getD t3.toNat default).Away), iI ((t0.getD t3.toNat default).Phase), iI ((t0.getD t3.toNat default).Used)])), (10, oT)])] 4 (o5 h1 (Le.iptl (g := gx0) (eL_at (xs := t0) eEntry_len (ixl h1))) h2 (Le.iptl (g := gx0) (eL_at (xs := t0) eEntry_len (ixl h2))) (o1 (Le.tt h3))) h) fun h3 h =>
    z.j [(9, [(2, oC (.ip gx0 [iI (((t0.getD t4.toNat default).Flow).Src), iI (((t0.getD t4.toNat default).Flow).Dst), iI (((t0.getD t4.toNat default).Flow).Proto), iI (((t0.getD t4.toNat default).Flow).Sport), iI (((t0.getD t4.toNat default).Flow).Dport), iI ((t0.getD t4.toNat default).To), .bool ((t0.getD t4.toNat default).Away), iI ((t0.getD t4.toNat default).Phase), iI ((t0.getD t4.toNat default).Used)])), (7, oC (.ip gx0 [iI (((t0.getD t3.toNat default).Flow).Src), iI (((t0.getD t3.toNat default).Flow).Dst), iI (((t0.getD t3.toNat default).Flow).Proto), iI (((t0.getD t3.toNat default).Flow).Sport), iI (((t0.getD t3.toNat default).Flow).Dport), iI ((t0.getD t3.toNat default).To), .bool ((t0.getD t3.toNat default).Away), iI ((t0.getD t3.toNat default).Phase), iI ((t0.getD t3.toNat default).Used)])), (10, oF)])] 6 [0, 3, 4] [] (o5 h1 (Le.iptl (g := gx0) (eL_at (xs := t0) eEntry_len (ixl h1))) h2 (Le.iptl (g := gx0) (eL_at (xs := t0) eEntry_len (ixl h2))) (o1 (Le.ff h3))) (ih h)) fun h0 h =>
   z.j [(7, [(2, oF)])] 8 [0, 3] [] (o1 (Le.ff h0)) (hr1 h)
theorem g90_1 {N} (gx0 : Bool) {r} (z : Z Tryz.prog ty 90 Tryz.f90 (Fi [] (d90 r) [])) (fuel) : ∀ {t0 t3}, L_ref10_CacheMay_1 N fuel t0 t3 = some r → z.G [.c 37, .l 37, .b 0, .c 7] [(0, sS gx0 eEntry t0), (3, iI t3)] [] := by
 induction fuel with
 | zero => intro t0 t3 h; cases h
 | succ fuel ih =>
  intro t0 t3 h
  exact
   br h (fun h0 h =>
    ck h fun h1 h =>
    bd h fun v1 h2 h =>
    z.s [(2, [(3, oT)])] 9 (o1 (Le.tt h0)) <|
    br h (fun h3 h =>
     z.r [(4, [(2, oC (.ip gx0 [iI (((t0.getD t3.toNat default).Flow).Src), iI (((t0.getD t3.toNat default).Flow).Dst), iI (((t0.getD t3.toNat default).Flow).Proto), iI (((t0.getD t3.toNat default).Flow).Sport), iI (((t0.getD t3.toNat default).Flow).Dport), iI ((t0.getD t3.toNat default).To), .bool ((t0.getD t3.toNat default).Away), iI ((t0.getD t3.toNat default).Phase), iI ((t0.getD t3.toNat default).Used)])), (4, oR (d151 v1)), (5, oT)])] 4 (o4 h1 (Le.iptl (g := gx0) (eL_at (xs := t0) eEntry_len (ixl h1))) (c151 h2) (Le.tt h3)) h) fun h3 h =>
    z.j [(4, [(2, oC (.ip gx0 [iI (((t0.getD t3.toNat default).Flow).Src), iI (((t0.getD t3.toNat default).Flow).Dst), iI (((t0.getD t3.toNat default).Flow).Proto), iI (((t0.getD t3.toNat default).Flow).Sport), iI (((t0.getD t3.toNat default).Flow).Dport), iI ((t0.getD t3.toNat default).To), .bool ((t0.getD t3.toNat default).Away), iI ((t0.getD t3.toNat default).Phase), iI ((t0.getD t3.toNat default).Used)])), (4, oR (d151 v1)), (5, oF)])] 7 [0, 3, 4] [] (o4 h1 (Le.iptl (g := gx0) (eL_at (xs := t0) eEntry_len (ixl h1))) (c151 h2) (Le.ff h3)) (g90_2 gx0 z @ih N h)) fun h0 h =>
   z.r [(2, [(3, oF)])] 7 (o1 (Le.ff h0)) h
theorem c90 {N} (gx0 : Bool) {x0 r} (h : L_ref10_CacheMay N x0 = some r) : Con Tryz.prog 90 [sS gx0 eEntry x0] [] (d90 r) [] :=
 ci ok mix Tryz.f90 fun z =>
 z.j [] 7 [0, 3] [] o0 (g90_1 gx0 z N h)
/-! ### wharfage/wharfageref10.Limit -/
def L_ref10_Limit (N : Nat) (x0 : Int) : Option (Int × Int) :=
  (L_ref10_phaseMay N x0).bind fun v1 =>
  bif (!v1) then
    some (0, 1400)
  else
    bif (x0 == 0) then
      some (40, 0)
    else
      some (6, 0)
def d156 (r : Int × Int) : D := .tup [iI r.1, iI r.2]
theorem c156 {N} {x0 r} (h : L_ref10_Limit N x0 = some r) : Con Tryz.prog 156 [iI x0] [] (d156 r) [] :=
 ci ok mix Tryz.f156 fun z =>
 bd h fun v1 h0 h =>
 br h (fun h1 h =>
  z.r [(1, [(1, oR (d202 v1)), (2, oT)])] 8 (o2 (c202 h0) (Le.tt h1)) h) fun h1 h =>
 z.s [(1, [(1, oR (d202 v1)), (2, oF)])] 9 (o2 (c202 h0) (Le.ff h1)) <|
 br h (fun h2 h =>
  z.r [(3, [(1, oT)])] 4 (o1 (Le.tt h2)) h) fun h2 h =>
 z.r [(3, [(1, oF)])] 5 (o1 (Le.ff h2)) h
/-! ### wharfage/wharfageref10.Ran -/
def L_ref10_Ran_1 (N : Nat) (t4 : Bool) : Option (Bool) :=
  some t4
def L_ref10_Ran (N : Nat) (x0 : GEntry) (x1 : Int) : Option (Bool) :=
  (L_ref10_EntryMay N x0).bind fun v1 =>
  bif (!v1) then
    some true
  else
    (L_ref10_Limit N x0.Phase).bind fun v2 =>
    bif (decide (x1 ≥ 0)) then
      L_ref10_Ran_1 N (decide ((IntKind.i64.wrap (x1 - x0.Used)) ≥ v2.1))
    else
      L_ref10_Ran_1 N false
def d98 (r : Bool) : D := .bool r
theorem g98_1 {N} {r} (z : Z Tryz.prog ty 98 Tryz.f98 (Fi [] (d98 r) [])) {t4} (h : L_ref10_Ran_1 N t4 = some r) : z.G [.c 31] [(4, .bool t4)] [] :=
 z.r [] 0 o0 h
theorem c98 {N} {x0 x1 r} (h : L_ref10_Ran N x0 x1 = some r) : Con Tryz.prog 98 [.agg [iI x0.Flow.Src, iI x0.Flow.Dst, iI x0.Flow.Proto, iI x0.Flow.Sport, iI x0.Flow.Dport, iI x0.To, .bool x0.Away, iI x0.Phase, iI x0.Used], iI x1] [] (d98 r) [] :=
 ci ok mix Tryz.f98 fun z =>
 bd h fun v1 h0 h =>
 br h (fun h1 h =>
  z.r [(1, [(1, oR (d151 v1)), (2, oT)])] 8 (o2 (c151 h0) (Le.tt h1)) h) fun h1 h =>
 bd h fun v2 h2 h =>
 z.s [(1, [(1, oR (d151 v1)), (2, oF)]), (3, [(2, oR (d156 v2))])] 10 (o3 (c151 h0) (Le.ff h1) (c156 h2)) <|
 br h (fun h3 h =>
  z.j [(4, [(2, oT)])] 1 [4] [] (o1 (Le.tt h3)) (g98_1 z h)) fun h3 h =>
 z.j [(4, [(2, oF)])] 1 [4] [] (o1 (Le.ff h3)) (g98_1 z h)
/-! ### wharfage/wharfageref10.FindEntry -/
def L_ref10_FindEntry_3 (N : Nat) (r1 : (List GEntry) → Int → Int → Int → Int → Int → Int → Int → Int → Int → Int → Int → Int → Bool → Int → Int → Int → Option (GEntry × Bool)) (t0 : (List GEntry)) (t2 b132_0 b132_1 b132_2 b132_3 b132_4 b148_0 b148_1 b148_2 b148_3 b148_4 b148_5 : Int) (b148_6 : Bool) (b148_7 b148_8 t8 : Int) (t34 : Bool) : Option (GEntry × Bool) :=
  bif t34 then
    if 0 ≤ t8 ∧ t8 < ((t0.length : Nat) : Int) then
    some ((GEntry.mk ((t0.getD t8.toNat default).Flow) ((t0.getD t8.toNat default).To) ((t0.getD t8.toNat default).Away) ((t0.getD t8.toNat default).Phase) ((t0.getD t8.toNat default).Used)), true)
    else none
  else
    r1 t0 t2 b132_0 b132_1 b132_2 b132_3 b132_4 b148_0 b148_1 b148_2 b148_3 b148_4 b148_5 b148_6 b148_7 b148_8 (IntKind.i64.wrap (t8 + 1))
def L_ref10_FindEntry_2 (N : Nat) (r1 : (List GEntry) → Int → Int → Int → Int → Int → Int → Int → Int → Int → Int → Int → Int → Bool → Int → Int → Int → Option (GEntry × Bool)) (t0 : (List GEntry)) (t2 b132_0 b132_1 b132_2 b132_3 b132_4 b148_0 b148_1 b148_2 b148_3 b148_4 b148_5 : Int) (b148_6 : Bool) (b148_7 b148_8 t8 : Int) (t16 : Bool) : Option (GEntry × Bool) :=
  bif t16 then
    if 0 ≤ t8 ∧ t8 < ((t0.length : Nat) : Int) then
    via (((((t0.getD t8.toNat default).Flow).Src == b132_0) && ((((t0.getD t8.toNat default).Flow).Dst == b132_1) && ((((t0.getD t8.toNat default).Flow).Proto == b132_2) && ((((t0.getD t8.toNat default).Flow).Sport == b132_3) && ((((t0.getD t8.toNat default).Flow).Dport == b132_4) && true))))) : Bool) fun v1 =>
    bif v1 then
      if 0 ≤ t8 ∧ t8 < ((t0.length : Nat) : Int) then
      (L_ref10_Ran N (GEntry.mk ((t0.getD t8.toNat default).Flow) ((t0.getD t8.toNat default).To) ((t0.getD t8.toNat default).Away) ((t0.getD t8.toNat default).Phase) ((t0.getD t8.toNat default).Used)) t2).bind fun v2 =>
      L_ref10_FindEntry_3 N r1 t0 t2 b132_0 b132_1 b132_2 b132_3 b132_4 b148_0 b148_1 b148_2 b148_3 b148_4 b148_5 b148_6 b148_7 b148_8 t8 (!v2)
      else none
    else
      L_ref10_FindEntry_3 N r1 t0 t2 b132_0 b132_1 b132_2 b132_3 b132_4 b148_0 b148_1 b148_2 b148_3 b148_4 b148_5 b148_6 b148_7 b148_8 t8 false
    else none
  else
    some ((GEntry.mk (GFlow.mk 0 0 0 0 0) 0 false 0 0), false)
def L_ref10_FindEntry_1 (N : Nat) : Nat → (List GEntry) → Int → Int → Int → Int → Int → Int → Int → Int → Int → Int → Int → Int → Bool → Int → Int → Int → Option (GEntry × Bool)
  | 0, _, _, _, _, _, _, _, _, _, _, _, _, _, _, _, _, _ => none
  | fuel + 1, t0, t2, b132_0, b132_1, b132_2, b132_3, b132_4, b148_0, b148_1, b148_2, b148_3, b148_4, b148_5, b148_6, b148_7, b148_8, t8 =>
    bif (decide (t8 < (t0.length : Int))) then
      (L_ref10_CacheMay N t0).bind fun v1 =>
      L_ref10_FindEntry_2 N (L_ref10_FindEntry_1 N fuel) t0 t2 b132_0 b132_1 b132_2 b132_3 b132_4 b148_0 b148_1 b148_2 b148_3 b148_4 b148_5 b148_6 b148_7 b148_8 t8 v1
    else
      L_ref10_FindEntry_2 N (L_ref10_FindEntry_1 N fuel) t0 t2 b132_0 b132_1 b132_2 b132_3 b132_4 b148_0 b148_1 b148_2 b148_3 b148_4 b148_5 b148_6 b148_7 b148_8 t8 false
def L_ref10_FindEntry (N : Nat) (x0 : (List GEntry)) (x1 : GFlow) (x2 : Int) : Option (GEntry × Bool) :=
  L_ref10_FindEntry_1 N N x0 x2 x1.Src x1.Dst x1.Proto x1.Sport x1.Dport 0 0 0 0 0 0 false 0 0 0
def d32 (r : GEntry × Bool) : D := .tup [.agg [iI r.1.Flow.Src, iI r.1.Flow.Dst, iI r.1.Flow.Proto, iI r.1.Flow.Sport, iI r.1.Flow.Dport, iI r.1.To, .bool r.1.Away, iI r.1.Phase, iI r.1.Used], .bool r.2]
theorem g32_3 {N} (gx0 : Bool) {r} (z : Z Tryz.prog ty 32 Tryz.f32 (Fi [] (d32 r) [])) {r1 : (List GEntry) → Int → Int → Int → Int → Int → Int → Int → Int → Int → Int → Int → Int → Bool → Int → Int → Int → Option (GEntry × Bool)} (hr1 : ∀ {t0 t2 b132_0 b132_1 b132_2 b132_3 b132_4 b148_0 b148_1 b148_2 b148_3 b148_4 b148_5 b148_6 b148_7 b148_8 t8}, r1 t0 t2 b132_0 b132_1 b132_2 b132_3 b132_4 b148_0 b148_1 b148_2 b148_3 b148_4 b148_5 b148_6 b148_7 b148_8 t8 = some r → z.G [.c 37, .l 37, .b 0, .c 7] [(0, sS gx0 eEntry t0), (2, iI t2), (4, .ptr 132 0), (6, .ptr 148 0), (8, iI t8)] [qB 132 [iI b132_0, iI b132_1, iI b132_2, iI b132_3, iI b132_4], qB 148 [iI b148_0, iI b148_1, iI b148_2, iI b148_3, iI b148_4, iI b148_5, .bool b148_6, iI b148_7, iI b148_8]]) {t0 t2 b132_0 b132_1 b132_2 b132_3 b132_4 b148_0 b148_1 b148_2 b148_3 b148_4 b148_5 b148_6 b148_7 b148_8 t8 t34} (h : L_ref10_FindEntry_3 N r1 t0 t2 b132_0 b132_1 b132_2 b132_3 b132_4 b148_0 b148_1 b148_2 b148_3 b148_4 b148_5 b148_6 b148_7 b148_8 t8 t34 = some r) : z.G [.c 805, .b 1, .c 229, .l 37, .b 0, .c 7] [(0, sS gx0 eEntry t0), (2, iI t2), (4, .ptr 132 0), (6, .ptr 148 0), (8, iI t8), (34, .bool t34)] [qB 132 [iI b132_0, iI b132_1, iI b132_2, iI b132_3, iI b132_4], qB 148 [iI b148_0, iI b148_1, iI b148_2, iI b148_3, iI b148_4, iI b148_5, .bool b148_6, iI b148_7, iI b148_8]] :=
 by
  cases t34 with
  | true => exact brT h fun h => (
   ck h fun h1 h =>
   z.r [(5, [(2, oC (.ip gx0 [iI (((t0.getD t8.toNat default).Flow).Src), iI (((t0.getD t8.toNat default).Flow).Dst), iI (((t0.getD t8.toNat default).Flow).Proto), iI (((t0.getD t8.toNat default).Flow).Sport), iI (((t0.getD t8.toNat default).Flow).Dport), iI ((t0.getD t8.toNat default).To), .bool ((t0.getD t8.toNat default).Away), iI ((t0.getD t8.toNat default).Phase), iI ((t0.getD t8.toNat default).Used)]))])] 3 (o2 h1 (Le.iptl (g := gx0) (eL_at (xs := t0) eEntry_len (ixl h1)))) h)
  | false => exact brF h fun h => (
   z.j [] 5 [0, 2, 4, 6, 8] [(132, 132), (148, 148)] o0 (hr1 h))
theorem g32_2 {N} (gx0 : Bool) {r} (z : Z Tryz.prog ty 32 Tryz.f32 (Fi [] (d32 r) [])) {r1 : (List GEntry) → Int → Int → Int → Int → Int → Int → Int → Int → Int → Int → Int → Int → Bool → Int → Int → Int → Option (GEntry × Bool)} (hr1 : ∀ {t0 t2 b132_0 b132_1 b132_2 b132_3 b132_4 b148_0 b148_1 b148_2 b148_3 b148_4 b148_5 b148_6 b148_7 b148_8 t8}, r1 t0 t2 b132_0 b132_1 b132_2 b132_3 b132_4 b148_0 b148_1 b148_2 b148_3 b148_4 b148_5 b148_6 b148_7 b148_8 t8 = some r → z.G [.c 37, .l 37, .b 0, .c 7] [(0, sS gx0 eEntry t0), (2, iI t2), (4, .ptr 132 0), (6, .ptr 148 0), (8, iI t8)] [qB 132 [iI b132_0, iI b132_1, iI b132_2, iI b132_3, iI b132_4], qB 148 [iI b148_0, iI b148_1, iI b148_2, iI b148_3, iI b148_4, iI b148_5, .bool b148_6, iI b148_7, iI b148_8]]) {t0 t2 b132_0 b132_1 b132_2 b132_3 b132_4 b148_0 b148_1 b148_2 b148_3 b148_4 b148_5 b148_6 b148_7 b148_8 t8 t16} (h : L_ref10_FindEntry_2 N r1 t0 t2 b132_0 b132_1 b132_2 b132_3 b132_4 b148_0 b148_1 b148_2 b148_3 b148_4 b148_5 b148_6 b148_7 b148_8 t8 t16 = some r) : z.G [.c 197, .c 101, .l 37, .b 0, .c 7] [(0, sS gx0 eEntry t0), (2, iI t2), (4, .ptr 132 0), (6, .ptr 148 0), (8, iI t8), (16, .bool t16)] [qB 132 [iI b132_0, iI b132_1, iI b132_2, iI b132_3, iI b132_4], qB 148 [iI b148_0, iI b148_1, iI b148_2, iI b148_3, iI b148_4, iI b148_5, .bool b148_6, iI b148_7, iI b148_8]] :=
 by
  cases t16 with
  | true => exact brT h fun h => (
   ck h fun h1 h =>
   vi h fun v1 h2 h =>
   br h (fun h3 h =>
    ck h fun h4 h =>
    bd h fun v2 h5 h =>
    z.j [(4, [(2, oC (.ip gx0 [iI (((t0.getD t8.toNat default).Flow).Src), iI (((t0.getD t8.toNat default).Flow).Dst), iI (((t0.getD t8.toNat default).Flow).Proto), iI (((t0.getD t8.toNat default).Flow).Sport), iI (((t0.getD t8.toNat default).Flow).Dport), iI ((t0.getD t8.toNat default).To), .bool ((t0.getD t8.toNat default).Away), iI ((t0.getD t8.toNat default).Phase), iI ((t0.getD t8.toNat default).Used)])), (6, oC (.bool v1)), (7, oT), (10, oC (.ip gx0 [iI (((t0.getD t8.toNat default).Flow).Src), iI (((t0.getD t8.toNat default).Flow).Dst), iI (((t0.getD t8.toNat default).Flow).Proto), iI (((t0.getD t8.toNat default).Flow).Sport), iI (((t0.getD t8.toNat default).Flow).Dport), iI ((t0.getD t8.toNat default).To), .bool ((t0.getD t8.toNat default).Away), iI ((t0.getD t8.toNat default).Phase), iI ((t0.getD t8.toNat default).Used)])), (13, oR (d98 v2))])] 6 [0, 2, 4, 6, 8, 34] [(132, 132), (148, 148)] (o5 h1 (Le.iptl (g := gx0) (eL_at (xs := t0) eEntry_len (ixl h1))) (Le.boo h2) (Le.tt h3) (o3 h4 (Le.iptl (g := gx0) (eL_at (xs := t0) eEntry_len (ixl h4))) (c98 h5))) (g32_3 gx0 z @hr1 h)) fun h3 h =>
   z.j [(4, [(2, oC (.ip gx0 [iI (((t0.getD t8.toNat default).Flow).Src), iI (((t0.getD t8.toNat default).Flow).Dst), iI (((t0.getD t8.toNat default).Flow).Proto), iI (((t0.getD t8.toNat default).Flow).Sport), iI (((t0.getD t8.toNat default).Flow).Dport), iI ((t0.getD t8.toNat default).To), .bool ((t0.getD t8.toNat default).Away), iI ((t0.getD t8.toNat default).Phase), iI ((t0.getD t8.toNat default).Used)])), (6, oC (.bool v1)), (7, oF)])] 6 [0, 2, 4, 6, 8, 34] [(132, 132), (148, 148)] (o4 h1 (Le.iptl (g := gx0) (eL_at (xs := t0) eEntry_len (ixl h1))) (Le.boo h2) (Le.ff h3)) (g32_3 gx0 z @hr1 h))
  | false => exact brF h fun h => (
   z.r [] 4 o0 h)
theorem g32_1 {N} (gx0 : Bool) {r} (z : Z Tryz.prog ty 32 Tryz.f32 (Fi [] (d32 r) [])) (fuel) : ∀ {t0 t2 b132_0 b132_1 b132_2 b132_3 b132_4 b148_0 b148_1 b148_2 b148_3 b148_4 b148_5 b148_6 b148_7 b148_8 t8}, L_ref10_FindEntry_1 N fuel t0 t2 b132_0 b132_1 b132_2 b132_3 b132_4 b148_0 b148_1 b148_2 b148_3 b148_4 b148_5 b148_6 b148_7 b148_8 t8 = some r → z.G [.c 37, .l 37, .b 0, .c 7] [(0, sS gx0 eEntry t0), (2, iI t2), (4, .ptr 132 0), (6, .ptr 148 0), (8, iI t8)] [qB 132 [iI b132_0, iI b132_1, iI b132_2, iI b132_3, iI b132_4], qB 148 [iI b148_0, iI b148_1, iI b148_2, iI b148_3, iI b148_4, iI b148_5, .bool b148_6, iI b148_7, iI b148_8]] := by
 induction fuel with
 | zero => intro t0 t2 b132_0 b132_1 b132_2 b132_3 b132_4 b148_0 b148_1 b148_2 b148_3 b148_4 b148_5 b148_6 b148_7 b148_8 t8 h; cases h
 | succ fuel ih =>
  intro t0 t2 b132_0 b132_1 b132_2 b132_3 b132_4 b148_0 b148_1 b148_2 b148_3 b148_4 b148_5 b148_6 b148_7 b148_8 t8 h
  exact
   br h (fun h0 h =>
    bd h fun v1 h1 h =>
    z.j [(2, [(4, oT), (6, oR (d90 v1))])] 3 [0, 2, 4, 6, 8, 16] [(132, 132), (148, 148)] (o2 (Le.tt h0) (c90 gx0 h1)) (g32_2 gx0 z @ih h)) fun h0 h =>
   z.j [(2, [(4, oF)])] 3 [0, 2, 4, 6, 8, 16] [(132, 132), (148, 148)] (o1 (Le.ff h0)) (g32_2 gx0 z @ih h)
theorem c32 {N} (gx0 : Bool) {x0 x1 x2 r} (h : L_ref10_FindEntry N x0 x1 x2 = some r) : Con Tryz.prog 32 [sS gx0 eEntry x0, .agg [iI x1.Src, iI x1.Dst, iI x1.Proto, iI x1.Sport, iI x1.Dport], iI x2] [] (d32 r) [] :=
 ci ok mix Tryz.f32 fun z =>
 z.j [] 7 [0, 2, 4, 6, 8] [(132, 132), (148, 148)] o0 (g32_1 gx0 z N h)
/-! ### wharfage/wharfagelaw19.EdgeStays -/
def L_law19_EdgeStays_2 (N : Nat) (t6 : Bool) : Option (Bool) :=
  some t6
def L_law19_EdgeStays_6 (N : Nat) (t6 : Bool) : Option (Bool) :=
  some t6
def L_law19_EdgeStays_5 (N : Nat) (b124_0 b124_1 : Int) (b124_2 : (List GSite)) (b124_3 : (List GHealth)) (b124_4 : (List GEntry)) (b204_0 b204_1 b204_2 b204_3 b204_4 b204_5 : Int) (b204_6 : Bool) (b204_7 b204_8 t17 : Int) (t18 : Bool) : Option (Bool) :=
  bif t18 then
    bif (t17 == b204_5) then
      L_law19_EdgeStays_6 N true
    else
      bif (!t18) then
        if 0 ≤ t17 ∧ t17 < ((b124_2.length : Nat) : Int) then
        bif (!((b124_2.getD t17.toNat default).Drain)) then
          if 0 ≤ t17 ∧ t17 < ((b124_2.length : Nat) : Int) then
          L_law19_EdgeStays_6 N (decide ((b124_2.getD t17.toNat default).Weight > 0))
          else none
        else
          L_law19_EdgeStays_6 N false
        else none
      else
        L_law19_EdgeStays_6 N false
  else
    bif (!t18) then
      if 0 ≤ t17 ∧ t17 < ((b124_2.length : Nat) : Int) then
      bif (!((b124_2.getD t17.toNat default).Drain)) then
        if 0 ≤ t17 ∧ t17 < ((b124_2.length : Nat) : Int) then
        L_law19_EdgeStays_6 N (decide ((b124_2.getD t17.toNat default).Weight > 0))
        else none
      else
        L_law19_EdgeStays_6 N false
      else none
    else
      L_law19_EdgeStays_6 N false
def L_law19_EdgeStays_4 (N : Nat) (b124_0 b124_1 : Int) (b124_2 : (List GSite)) (b124_3 : (List GHealth)) (b124_4 : (List GEntry)) (b204_0 b204_1 b204_2 b204_3 b204_4 b204_5 : Int) (b204_6 : Bool) (b204_7 b204_8 : Int) (t14 : Bool) (t17 : Int) (t131 : Bool) : Option (Bool) :=
  bif t131 then
    some false
  else
    bif t14 then
      bif (decide (b204_5 < (b124_2.length : Int))) then
        bif (decide (b204_5 < (b124_3.length : Int))) then
          if 0 ≤ b204_5 ∧ b204_5 < ((b124_3.length : Nat) : Int) then
          L_law19_EdgeStays_5 N b124_0 b124_1 b124_2 b124_3 b124_4 b204_0 b204_1 b204_2 b204_3 b204_4 b204_5 b204_6 b204_7 b204_8 t17 ((b124_3.getD b204_5.toNat default).Up)
          else none
        else
          L_law19_EdgeStays_5 N b124_0 b124_1 b124_2 b124_3 b124_4 b204_0 b204_1 b204_2 b204_3 b204_4 b204_5 b204_6 b204_7 b204_8 t17 false
      else
        L_law19_EdgeStays_5 N b124_0 b124_1 b124_2 b124_3 b124_4 b204_0 b204_1 b204_2 b204_3 b204_4 b204_5 b204_6 b204_7 b204_8 t17 false
    else
      L_law19_EdgeStays_5 N b124_0 b124_1 b124_2 b124_3 b124_4 b204_0 b204_1 b204_2 b204_3 b204_4 b204_5 b204_6 b204_7 b204_8 t17 false
def L_law19_EdgeStays_3 (N : Nat) (b124_0 b124_1 : Int) (b124_2 : (List GSite)) (b124_3 : (List GHealth)) (b124_4 : (List GEntry)) (b204_0 b204_1 b204_2 b204_3 b204_4 b204_5 : Int) (b204_6 : Bool) (b204_7 b204_8 : Int) (t14 : Bool) (b220_0 b220_1 b220_2 b220_3 b220_4 : Int) (b220_5 : ByteArray) (t102 : Bool) : Option (Bool) :=
  bif t102 then
    some false
  else
    bif (decide ((IntKind.i64.wrap (b220_1 - 167903232)) < 0)) then
      L_law19_EdgeStays_4 N b124_0 b124_1 b124_2 b124_3 b124_4 b204_0 b204_1 b204_2 b204_3 b204_4 b204_5 b204_6 b204_7 b204_8 t14 (IntKind.i64.wrap (b220_1 - 167903232)) true
    else
      bif (decide ((IntKind.i64.wrap (b220_1 - 167903232)) ≥ (b124_2.length : Int))) then
        L_law19_EdgeStays_4 N b124_0 b124_1 b124_2 b124_3 b124_4 b204_0 b204_1 b204_2 b204_3 b204_4 b204_5 b204_6 b204_7 b204_8 t14 (IntKind.i64.wrap (b220_1 - 167903232)) true
      else
        bif (decide ((IntKind.i64.wrap (b220_1 - 167903232)) ≥ (b124_3.length : Int))) then
          L_law19_EdgeStays_4 N b124_0 b124_1 b124_2 b124_3 b124_4 b204_0 b204_1 b204_2 b204_3 b204_4 b204_5 b204_6 b204_7 b204_8 t14 (IntKind.i64.wrap (b220_1 - 167903232)) true
        else
          if 0 ≤ (IntKind.i64.wrap (b220_1 - 167903232)) ∧ (IntKind.i64.wrap (b220_1 - 167903232)) < ((b124_3.length : Nat) : Int) then
          L_law19_EdgeStays_4 N b124_0 b124_1 b124_2 b124_3 b124_4 b204_0 b204_1 b204_2 b204_3 b204_4 b204_5 b204_6 b204_7 b204_8 t14 (IntKind.i64.wrap (b220_1 - 167903232)) (!((b124_3.getD (IntKind.i64.wrap (b220_1 - 167903232)).toNat default).Up))
          else none
def L_law19_EdgeStays_1 (N : Nat) (t1 : Int) (t2 : ByteArray) (b124_0 b124_1 : Int) (b124_2 : (List GSite)) (b124_3 : (List GHealth)) (b124_4 : (List GEntry)) (b164_0 : (List ByteArray)) (b164_1 : (List GEvent)) (t9 b180_0 b180_1 b180_2 b180_3 b180_4 : Int) (t41 : Bool) : Option (Bool) :=
  bif t41 then
    (L_law0_Num N t9).bind fun v1 =>
    bif (v1 == 0) then
      bif ((b164_0.length : Int) == 0) then
        L_law19_EdgeStays_2 N true
      else
        L_law19_EdgeStays_2 N ((b164_1.length : Int) == 0)
    else
      L_law19_EdgeStays_2 N ((b164_1.length : Int) == 0)
  else
    (L_ref10_FindEntry N b124_4 (GFlow.mk b180_0 b180_1 b180_2 b180_3 b180_4) t1).bind fun v1 =>
    bif ((b164_0.length : Int) == 0) then
      some ((b164_1.length : Int) == 1)
    else
      if 0 ≤ (0 : Int) ∧ (0 : Int) < ((b164_0.length : Nat) : Int) then
      (L_ref1_Pop N (b164_0.getD (Int.toNat 0) default)).bind fun v2 =>
      bif (v2.2 != 0) then
        L_law19_EdgeStays_3 N b124_0 b124_1 b124_2 b124_3 b124_4 v1.1.Flow.Src v1.1.Flow.Dst v1.1.Flow.Proto v1.1.Flow.Sport v1.1.Flow.Dport v1.1.To v1.1.Away v1.1.Phase v1.1.Used v1.2 v2.1.Src v2.1.Dst v2.1.Tier v2.1.Marker v2.1.Origin v2.1.Body true
      else
        bif ((b164_0.length : Int) != 1) then
          L_law19_EdgeStays_3 N b124_0 b124_1 b124_2 b124_3 b124_4 v1.1.Flow.Src v1.1.Flow.Dst v1.1.Flow.Proto v1.1.Flow.Sport v1.1.Flow.Dport v1.1.To v1.1.Away v1.1.Phase v1.1.Used v1.2 v2.1.Src v2.1.Dst v2.1.Tier v2.1.Marker v2.1.Origin v2.1.Body true
        else
          via ((IntKind.i64.wrap ((167837696 : Int) + b124_0)) : Int) fun v3 =>
          bif (v2.1.Src != v3) then
            L_law19_EdgeStays_3 N b124_0 b124_1 b124_2 b124_3 b124_4 v1.1.Flow.Src v1.1.Flow.Dst v1.1.Flow.Proto v1.1.Flow.Sport v1.1.Flow.Dport v1.1.To v1.1.Away v1.1.Phase v1.1.Used v1.2 v2.1.Src v2.1.Dst v2.1.Tier v2.1.Marker v2.1.Origin v2.1.Body true
          else
            L_law19_EdgeStays_3 N b124_0 b124_1 b124_2 b124_3 b124_4 v1.1.Flow.Src v1.1.Flow.Dst v1.1.Flow.Proto v1.1.Flow.Sport v1.1.Flow.Dport v1.1.To v1.1.Away v1.1.Phase v1.1.Used v1.2 v2.1.Src v2.1.Dst v2.1.Tier v2.1.Marker v2.1.Origin v2.1.Body (!(v2.1.Body.toList == t2.toList))
      else none
def L_law19_EdgeStays (N : Nat) (x0 : GEdge) (x1 : Int) (x2 : ByteArray) : Option (Bool) :=
  (L_law19_awake N).bind fun v1 =>
  bif (!v1) then
    some false
  else
    (L_edge_Take N x0 x1 x2).bind fun v2 =>
    (L_ref1_FlowOf N x2).bind fun v3 =>
    (L_law0_Num N v2.2.2).bind fun v4 =>
    bif (v4 != 0) then
      L_law19_EdgeStays_1 N x1 x2 x0.Id x0.Config.Version x0.Config.Sites x0.Health x0.Flows v2.2.1.Sent v2.2.1.Events v2.2.2 v3.1.Src v3.1.Dst v3.1.Proto v3.1.Sport v3.1.Dport true
    else
      L_law19_EdgeStays_1 N x1 x2 x0.Id x0.Config.Version x0.Config.Sites x0.Health x0.Flows v2.2.1.Sent v2.2.1.Events v2.2.2 v3.1.Src v3.1.Dst v3.1.Proto v3.1.Sport v3.1.Dport (v3.2.2 != 0)
def d4 (r : Bool) : D := .bool r
theorem g4_2 {N} (gx0 : Bool) {r} (z : Z Tryz.prog ty 4 Tryz.f4 (Fi [] (d4 r) [])) {t6} (h : L_law19_EdgeStays_2 N t6 = some r) : z.G [.c 431, .c 63] [(6, .bool t6)] [] :=
 z.r [] 0 o0 h
theorem g4_6 {N} (gx0 : Bool) {r} (z : Z Tryz.prog ty 4 Tryz.f4 (Fi [] (d4 r) [])) {t6} (h : L_law19_EdgeStays_6 N t6 = some r) : z.G [.c 16383] [(6, .bool t6)] [] :=
 z.r [] 0 o0 h
theorem g4_5 {N} (gx0 : Bool) {r} (z : Z Tryz.prog ty 4 Tryz.f4 (Fi [] (d4 r) [])) {b124_0 b124_1 b124_2 b124_3 b124_4 b204_0 b204_1 b204_2 b204_3 b204_4 b204_5 b204_6 b204_7 b204_8 t17 t18} (h : L_law19_EdgeStays_5 N b124_0 b124_1 b124_2 b124_3 b124_4 b204_0 b204_1 b204_2 b204_3 b204_4 b204_5 b204_6 b204_7 b204_8 t17 t18 = some r) : z.G [.c 8191] [(3, .ptr 124 0), (13, .ptr 204 0), (17, iI t17), (18, .bool t18)] [qB 124 [iI b124_0, iI b124_1, sS gx0 (eSite gx0) b124_2, sS gx0 eHealth b124_3, sS gx0 eEntry b124_4], qB 204 [iI b204_0, iI b204_1, iI b204_2, iI b204_3, iI b204_4, iI b204_5, .bool b204_6, iI b204_7, iI b204_8]] :=
 br h (fun h0 h =>
  br h (fun h1 h =>
   z.j [(17, [(1, oT), (7, oT)])] 2 [6] [] (o2 (Le.tt h0) (Le.tt h1)) (g4_6 gx0 z h)) fun h1 h =>
  br h (fun h2 h =>
   ck h fun h3 h =>
   br h (fun h4 h =>
    ck h fun h5 h =>
    z.j [(17, [(1, oT), (7, oF), (10, oT), (15, oC (.ip gx0 [iI ((b124_2.getD t17.toNat default).Weight), .bool ((b124_2.getD t17.toNat default).Drain), iI ((b124_2.getD t17.toNat default).Cap), sS gx0 eBack ((b124_2.getD t17.toNat default).Backs)])), (20, oT), (25, oC (.ip gx0 [iI ((b124_2.getD t17.toNat default).Weight), .bool ((b124_2.getD t17.toNat default).Drain), iI ((b124_2.getD t17.toNat default).Cap), sS gx0 eBack ((b124_2.getD t17.toNat default).Backs)]))])] 2 [6] [] (o5 (Le.tt h0) (Le.ff h1) (Le.tt h2) h3 (o4 (Le.iptl (g := gx0) (eL_at (xs := b124_2) (eSite_len gx0) (ixl h3))) (Le.tt h4) h5 (Le.iptl (g := gx0) (eL_at (xs := b124_2) (eSite_len gx0) (ixl h5))))) (g4_6 gx0 z h)) fun h4 h =>
   z.j [(17, [(1, oT), (7, oF), (10, oT), (15, oC (.ip gx0 [iI ((b124_2.getD t17.toNat default).Weight), .bool ((b124_2.getD t17.toNat default).Drain), iI ((b124_2.getD t17.toNat default).Cap), sS gx0 eBack ((b124_2.getD t17.toNat default).Backs)])), (20, oF)])] 2 [6] [] (o5 (Le.tt h0) (Le.ff h1) (Le.tt h2) h3 (o2 (Le.iptl (g := gx0) (eL_at (xs := b124_2) (eSite_len gx0) (ixl h3))) (Le.ff h4))) (g4_6 gx0 z h)) fun h2 h =>
  z.j [(17, [(1, oT), (7, oF), (10, oF)])] 2 [6] [] (o3 (Le.tt h0) (Le.ff h1) (Le.ff h2)) (g4_6 gx0 z h)) fun h0 h =>
 br h (fun h1 h =>
  ck h fun h2 h =>
  br h (fun h3 h =>
   ck h fun h4 h =>
   z.j [(17, [(1, oF), (10, oT), (15, oC (.ip gx0 [iI ((b124_2.getD t17.toNat default).Weight), .bool ((b124_2.getD t17.toNat default).Drain), iI ((b124_2.getD t17.toNat default).Cap), sS gx0 eBack ((b124_2.getD t17.toNat default).Backs)])), (20, oT), (25, oC (.ip gx0 [iI ((b124_2.getD t17.toNat default).Weight), .bool ((b124_2.getD t17.toNat default).Drain), iI ((b124_2.getD t17.toNat default).Cap), sS gx0 eBack ((b124_2.getD t17.toNat default).Backs)]))])] 2 [6] [] (o5 (Le.ff h0) (Le.tt h1) h2 (Le.iptl (g := gx0) (eL_at (xs := b124_2) (eSite_len gx0) (ixl h2))) (o3 (Le.tt h3) h4 (Le.iptl (g := gx0) (eL_at (xs := b124_2) (eSite_len gx0) (ixl h4))))) (g4_6 gx0 z h)) fun h3 h =>
  z.j [(17, [(1, oF), (10, oT), (15, oC (.ip gx0 [iI ((b124_2.getD t17.toNat default).Weight), .bool ((b124_2.getD t17.toNat default).Drain), iI ((b124_2.getD t17.toNat default).Cap), sS gx0 eBack ((b124_2.getD t17.toNat default).Backs)])), (20, oF)])] 2 [6] [] (o5 (Le.ff h0) (Le.tt h1) h2 (Le.iptl (g := gx0) (eL_at (xs := b124_2) (eSite_len gx0) (ixl h2))) (o1 (Le.ff h3))) (g4_6 gx0 z h)) fun h1 h =>
 z.j [(17, [(1, oF), (10, oF)])] 2 [6] [] (o2 (Le.ff h0) (Le.ff h1)) (g4_6 gx0 z h)
theorem g4_4 {N} (gx0 : Bool) {r} (z : Z Tryz.prog ty 4 Tryz.f4 (Fi [] (d4 r) [])) {b124_0 b124_1 b124_2 b124_3 b124_4 b204_0 b204_1 b204_2 b204_3 b204_4 b204_5 b204_6 b204_7 b204_8 t14 t17 t131} (h : L_law19_EdgeStays_4 N b124_0 b124_1 b124_2 b124_3 b124_4 b204_0 b204_1 b204_2 b204_3 b204_4 b204_5 b204_6 b204_7 b204_8 t14 t17 t131 = some r) : z.G [.c 7167, .c 4095] [(3, .ptr 124 0), (13, .ptr 204 0), (14, .bool t14), (17, iI t17), (131, .bool t131)] [qB 124 [iI b124_0, iI b124_1, sS gx0 (eSite gx0) b124_2, sS gx0 eHealth b124_3, sS gx0 eEntry b124_4], qB 204 [iI b204_0, iI b204_1, iI b204_2, iI b204_3, iI b204_4, iI b204_5, .bool b204_6, iI b204_7, iI b204_8]] :=
 by
  cases t131 with
  | true => exact brT h fun h => (
   z.r [] 3 o0 h)
  | false => exact brF h fun h => (
   br h (fun h1 h =>
    br h (fun h2 h =>
     br h (fun h3 h =>
      ck h fun h4 h =>
      z.j [(16, [(1, oT), (10, oT), (18, oT), (23, oC (.ip gx0 [.bool ((b124_3.getD b204_5.toNat default).Up), iI ((b124_3.getD b204_5.toNat default).Count)]))])] 4 [3, 13, 17, 18] [(124, 124), (204, 204)] (o5 (Le.tt h1) (Le.tt h2) (Le.tt h3) h4 (o1 (Le.iptl (g := gx0) (eL_at (xs := b124_3) eHealth_len (ixl h4))))) (g4_5 gx0 z h)) fun h3 h =>
     z.j [(16, [(1, oT), (10, oT), (18, oF)])] 4 [3, 13, 17, 18] [(124, 124), (204, 204)] (o3 (Le.tt h1) (Le.tt h2) (Le.ff h3)) (g4_5 gx0 z h)) fun h2 h =>
    z.j [(16, [(1, oT), (10, oF)])] 4 [3, 13, 17, 18] [(124, 124), (204, 204)] (o2 (Le.tt h1) (Le.ff h2)) (g4_5 gx0 z h)) fun h1 h =>
   z.j [(16, [(1, oF)])] 4 [3, 13, 17, 18] [(124, 124), (204, 204)] (o1 (Le.ff h1)) (g4_5 gx0 z h))
theorem g4_3 {N} (gx0 : Bool) {r} (z : Z Tryz.prog ty 4 Tryz.f4 (Fi [] (d4 r) [])) {b124_0 b124_1 b124_2 b124_3 b124_4 b204_0 b204_1 b204_2 b204_3 b204_4 b204_5 b204_6 b204_7 b204_8 t14 b220_0 b220_1 b220_2 b220_3 b220_4 b220_5 t102} (h : L_law19_EdgeStays_3 N b124_0 b124_1 b124_2 b124_3 b124_4 b204_0 b204_1 b204_2 b204_3 b204_4 b204_5 b204_6 b204_7 b204_8 t14 b220_0 b220_1 b220_2 b220_3 b220_4 b220_5 t102 = some r) : z.G [.c 1791, .c 1023] [(3, .ptr 124 0), (13, .ptr 204 0), (14, .bool t14), (15, .ptr 220 0), (102, .bool t102)] [qB 124 [iI b124_0, iI b124_1, sS gx0 (eSite gx0) b124_2, sS gx0 eHealth b124_3, sS gx0 eEntry b124_4], qB 204 [iI b204_0, iI b204_1, iI b204_2, iI b204_3, iI b204_4, iI b204_5, .bool b204_6, iI b204_7, iI b204_8], qB 220 [iI b220_0, iI b220_1, iI b220_2, iI b220_3, iI b220_4, .str b220_5]] :=
 by
  cases t102 with
  | true => exact brT h fun h => (
   z.r [] 3 o0 h)
  | false => exact brF h fun h => (
   br h (fun h1 h =>
    z.j [(14, [(2, oT)])] 7 [3, 13, 14, 17, 131] [(124, 124), (204, 204)] (o1 (Le.tt h1)) (g4_4 gx0 z h)) fun h1 h =>
   br h (fun h2 h =>
    z.j [(14, [(2, oF), (10, oT)])] 7 [3, 13, 14, 17, 131] [(124, 124), (204, 204)] (o2 (Le.ff h1) (Le.tt h2)) (g4_4 gx0 z h)) fun h2 h =>
   br h (fun h3 h =>
    z.j [(14, [(2, oF), (10, oF), (17, oT)])] 7 [3, 13, 14, 17, 131] [(124, 124), (204, 204)] (o3 (Le.ff h1) (Le.ff h2) (Le.tt h3)) (g4_4 gx0 z h)) fun h3 h =>
   ck h fun h4 h =>
   z.j [(14, [(2, oF), (10, oF), (17, oF), (21, oC (.ip gx0 [.bool ((b124_3.getD (IntKind.i64.wrap (b220_1 - 167903232)).toNat default).Up), iI ((b124_3.getD (IntKind.i64.wrap (b220_1 - 167903232)).toNat default).Count)]))])] 7 [3, 13, 14, 17, 131] [(124, 124), (204, 204)] (o5 (Le.ff h1) (Le.ff h2) (Le.ff h3) h4 (o1 (Le.iptl (g := gx0) (eL_at (xs := b124_3) eHealth_len (ixl h4))))) (g4_4 gx0 z h))
theorem g4_1 {N} (gx0 : Bool) {r} (z : Z Tryz.prog ty 4 Tryz.f4 (Fi [] (d4 r) [])) {t1 t2 b124_0 b124_1 b124_2 b124_3 b124_4 b164_0 b164_1 t9 b180_0 b180_1 b180_2 b180_3 b180_4 t41} (h : L_law19_EdgeStays_1 N t1 t2 b124_0 b124_1 b124_2 b124_3 b124_4 b164_0 b164_1 t9 b180_0 b180_1 b180_2 b180_3 b180_4 t41 = some r) : z.G [.c 111, .c 63] [(1, iI t1), (2, .str t2), (3, .ptr 124 0), (8, .ptr 164 0), (9, iI t9), (10, .ptr 180 0), (41, .bool t41)] [qB 124 [iI b124_0, iI b124_1, sS gx0 (eSite gx0) b124_2, sS gx0 eHealth b124_3, sS gx0 eEntry b124_4], qB 164 [sS true eStr b164_0, sS true eEvent b164_1], qB 180 [iI b180_0, iI b180_1, iI b180_2, iI b180_3, iI b180_4]] :=
 by
  cases t41 with
  | true => exact brT h fun h => (
   bd h fun v1 h1 h =>
   br h (fun h2 h =>
    br h (fun h3 h =>
     z.j [(6, [(1, oR (d25 v1)), (3, oT), (9, oT)])] 3 [6] [] (o3 (c25 h1) (Le.tt h2) (Le.tt h3)) (g4_2 gx0 z h)) fun h3 h =>
    z.j [(6, [(1, oR (d25 v1)), (3, oT), (9, oF)])] 3 [6] [] (o3 (c25 h1) (Le.tt h2) (Le.ff h3)) (g4_2 gx0 z h)) fun h2 h =>
   z.j [(6, [(1, oR (d25 v1)), (3, oF)])] 3 [6] [] (o2 (c25 h1) (Le.ff h2)) (g4_2 gx0 z h))
  | false => exact brF h fun h => (
   bd h fun v1 h1 h =>
   z.s [(7, [(4, oR (d32 v1))])] 6 (o1 (c32 gx0 h1)) <|
   br h (fun h2 h =>
    z.r [(8, [(3, oT)])] 4 (o1 (Le.tt h2)) h) fun h2 h =>
   ck h fun h3 h =>
   bd h fun v2 h4 h =>
   z.s [(8, [(3, oF)]), (10, [(2, oC (.ip true [.str (b164_0.getD (Int.toNat 0) default)])), (4, oR (d33 v2))])] 7 (o4 (Le.ff h2) h3 (Le.iptl (g := true) (eL_at (xs := b164_0) eStr_len (ixl h3))) (c33 h4)) <|
   br h (fun h5 h =>
    z.j [(11, [(2, oT)])] 1 [3, 13, 14, 15, 102] [(124, 124), (204, 204), (220, 220)] (o1 (Le.tt h5)) (g4_3 gx0 z h)) fun h5 h =>
   br h (fun h6 h =>
    z.j [(11, [(2, oF), (8, oT)])] 1 [3, 13, 14, 15, 102] [(124, 124), (204, 204), (220, 220)] (o2 (Le.ff h5) (Le.tt h6)) (g4_3 gx0 z h)) fun h6 h =>
   vi h fun v3 h7 h =>
   br h (fun h8 h =>
    z.j [(11, [(2, oF), (8, oF), (13, oC (.int .i64 v3)), (16, oT)])] 1 [3, 13, 14, 15, 102] [(124, 124), (204, 204), (220, 220)] (o4 (Le.ff h5) (Le.ff h6) (Le.int (k := .i64) h7) (Le.tt h8)) (g4_3 gx0 z h)) fun h8 h =>
   z.j [(11, [(2, oF), (8, oF), (13, oC (.int .i64 v3)), (16, oF)])] 1 [3, 13, 14, 15, 102] [(124, 124), (204, 204), (220, 220)] (o4 (Le.ff h5) (Le.ff h6) (Le.int (k := .i64) h7) (Le.ff h8)) (g4_3 gx0 z h))
theorem c4 {N} (gx0 : Bool) {x0 x1 x2 r} (h : L_law19_EdgeStays N x0 x1 x2 = some r) : Con Tryz.prog 4 [.agg [iI x0.Id, iI x0.Config.Version, sS gx0 (eSite gx0) x0.Config.Sites, sS gx0 eHealth x0.Health, sS gx0 eEntry x0.Flows], iI x1, .str x2] [] (d4 r) [] :=
 ci ok mix Tryz.f4 fun z =>
 bd h fun v1 h0 h =>
 br h (fun h1 h =>
  z.r [(1, [(0, oR (d30 v1)), (1, oT)])] 8 (o2 (c30 h0) (Le.tt h1)) h) fun h1 h =>
 bd h fun v2 h2 h =>
 bd h fun v3 h3 h =>
 bd h fun v4 h4 h =>
 z.s [(1, [(0, oR (d30 v1)), (1, oF)]), (3, [(3, oR (d19 v2))]), (4, [(1, oR (d31 v3))])] 13 (o4 (c30 h0) (Le.ff h1) (c19 gx0 h2) (c31 h3)) <|
 br h (fun h5 h =>
  z.j [(5, [(1, oR (d25 v4)), (3, oT)])] 1 [1, 2, 3, 8, 9, 10, 41] [(124, 124), (164, 164), (180, 180)] (o2 (c25 h4) (Le.tt h5)) (g4_1 gx0 z h)) fun h5 h =>
 z.j [(5, [(1, oR (d25 v4)), (3, oF)])] 1 [1, 2, 3, 8, 9, 10, 41] [(124, 124), (164, 164), (180, 180)] (o2 (c25 h4) (Le.ff h5)) (g4_1 gx0 z h)
/-! ### wharfage/wharfagelaw20.SiteInside -/
/-! ### wharfage/wharfagelaw20.SiteAgain -/
/-! ### wharfage/wharfagelaw0.CopyNode -/
/-! ### wharfage/wharfagelaw0.CopyNode -/
/-! ### wharfage/spare.Load -/
/-! ### wharfage/site.Report -/
/-! ### wharfage/wharfagelaw0.SameSeens -/
/-! ### wharfage/wharfagelaw0.SameNode -/
/-! ### wharfage/wharfagelaw20.SiteForms -/
/-! ### wharfage/wharfagelaw20.SiteMarkers -/
end Go.Proofs.YtmhlgpdoedbedaaGreat.Lf
