import Derived.Test.YtmhlgpdoedbedaaGreatAll1
set_option linter.unusedVariables false
set_option linter.unusedSimpArgs false
namespace Go.Proofs.YtmhlgpdoedbedaaGreat.Lf
set_option maxRecDepth 20000
open Go Go.RowKit Go.Proofs Go.Proofs.YtmhlgpdoedbedaaGreat.Sv
def L_law19_awake_2 (N : Nat) (t0 : Bool) : Option (Bool) :=
 some t0
def L_law19_awake_1 (N : Nat) (b108_0 b108_1 : Int) (b108_2 : (List GSite)) (b108_3 : (List GHealth)) (b108_4 : (List GEntry)) (t2 t4 : Int) (t5 : ByteArray) (b148_0 b148_1 : Int) (b148_2 : (List GSite)) (b148_3 : (List GHealth)) (b148_4 : (List GEntry)) (b156_0 : (List ByteArray)) (b156_1 : (List GEvent)) (t8 b172_0 b172_1 : Int) (b172_2 : (List GSite)) (b172_3 : (List GHealth)) (b172_4 : (List GEntry)) (b180_0 : (List ByteArray)) (b180_1 : (List GEvent)) (t11 : Int) (b204_0 : (List ByteArray)) (b204_1 : (List GEvent)) (t14 t17 : Int) (t80 : Bool) : Option (Bool) :=
 bif t80 then
  some false
 else
  if 0 ≤ (0 : Int) ∧ (0 : Int) < ((b156_0.length : Nat) : Int) then
  (L_ref1_Pop N (b156_0.getD (Int.toNat 0) default)).bind fun v1 =>
  (L_law0_Num N t2).bind fun v2 =>
  bif (v2 == 0) then
   (L_law0_Num N t4).bind fun v3 =>
   bif (v3 == 1900) then
    (L_law0_Num N t8).bind fun v4 =>
    bif (v4 == 0) then
     bif (v1.2 == 0) then
      bif (v1.1.Body.toList == t5.toList) then
       bif (v1.1.Tier == 1) then
        if 0 ≤ (0 : Int) ∧ (0 : Int) < ((b156_1.length : Nat) : Int) then
        bif ((b156_1.getD (Int.toNat 0) default).Kind == 0) then
         if 0 ≤ (0 : Int) ∧ (0 : Int) < ((b156_1.length : Nat) : Int) then
         if 0 ≤ (0 : Int) ∧ (0 : Int) < ((b148_4.length : Nat) : Int) then
         bif ((b156_1.getD (Int.toNat 0) default).To == (b148_4.getD (Int.toNat 0) default).To) then
          (L_law0_Num N t11).bind fun v5 =>
          bif (v5 == 0) then
           (L_law0_SameEdge N (GEdge.mk b148_0 (GConfig.mk b148_1 b148_2) b148_3 b148_4) (GEdge.mk b172_0 (GConfig.mk b172_1 b172_2) b172_3 b172_4)).bind fun v6 =>
           bif v6 then
            (L_law0_SameEvents N b180_1 ([(GEvent.mk 2 0 0 1 0 (GFlow.mk 0 0 0 0 0))])).bind fun v7 =>
            bif v7 then
             (L_law0_Num N t14).bind fun v8 =>
             bif (v8 == 0) then
              if 0 ≤ (0 : Int) ∧ (0 : Int) < ((b204_1.length : Nat) : Int) then
              bif ((b204_1.getD (Int.toNat 0) default).Kind == 5) then
               (L_law0_Num N t17).bind fun v9 =>
               bif (v9 == 1900) then
                (L_edge_May N (GEdge.mk b108_0 (GConfig.mk b108_1 b108_2) b108_3 b108_4)).bind fun v10 =>
                L_law19_awake_2 N v10
               else
                L_law19_awake_2 N false
              else
               L_law19_awake_2 N false
              else none
             else
              L_law19_awake_2 N false
            else
             L_law19_awake_2 N false
           else
            L_law19_awake_2 N false
          else
           L_law19_awake_2 N false
         else
          L_law19_awake_2 N false
         else none
         else none
        else
         L_law19_awake_2 N false
        else none
       else
        L_law19_awake_2 N false
      else
       L_law19_awake_2 N false
     else
      L_law19_awake_2 N false
    else
     L_law19_awake_2 N false
   else
    L_law19_awake_2 N false
  else
   L_law19_awake_2 N false
  else none
def L_law19_awake (N : Nat) : Option (Bool) :=
 (L_law19_given N).bind fun v1 =>
 (L_edge_New N 1 v1).bind fun v2 =>
 (L_law19_given N).bind fun v3 =>
 (L_edge_New N 2 v3).bind fun v4 =>
 (L_law19_said N 9 2 (ByteArray.mk #[120])).bind fun v5 =>
 (L_edge_Take N v2.1 5 v5).bind fun v6 =>
 (L_edge_Take N v6.1 5 (ByteArray.mk #[106, 117, 110, 107])).bind fun v7 =>
 (L_ref10_News N 3).bind fun v8 =>
 (L_edge_Take N (GEdge.mk 1 (GConfig.mk 0 ([])) v8 ([])) 5 v5).bind fun v9 =>
 (L_edge_Take N v2.1 (-1) v5).bind fun v10 =>
 bif ((v6.1.Flows.length : Int) != 1) then
  L_law19_awake_1 N v2.1.Id v2.1.Config.Version v2.1.Config.Sites v2.1.Health v2.1.Flows v2.2 v4.2 v5 v6.1.Id v6.1.Config.Version v6.1.Config.Sites v6.1.Health v6.1.Flows v6.2.1.Sent v6.2.1.Events v6.2.2 v7.1.Id v7.1.Config.Version v7.1.Config.Sites v7.1.Health v7.1.Flows v7.2.1.Sent v7.2.1.Events v7.2.2 v9.2.1.Sent v9.2.1.Events v9.2.2 v10.2.2 true
 else
  bif ((v6.2.1.Sent.length : Int) != 1) then
   L_law19_awake_1 N v2.1.Id v2.1.Config.Version v2.1.Config.Sites v2.1.Health v2.1.Flows v2.2 v4.2 v5 v6.1.Id v6.1.Config.Version v6.1.Config.Sites v6.1.Health v6.1.Flows v6.2.1.Sent v6.2.1.Events v6.2.2 v7.1.Id v7.1.Config.Version v7.1.Config.Sites v7.1.Health v7.1.Flows v7.2.1.Sent v7.2.1.Events v7.2.2 v9.2.1.Sent v9.2.1.Events v9.2.2 v10.2.2 true
  else
   bif ((v6.2.1.Events.length : Int) != 1) then
    L_law19_awake_1 N v2.1.Id v2.1.Config.Version v2.1.Config.Sites v2.1.Health v2.1.Flows v2.2 v4.2 v5 v6.1.Id v6.1.Config.Version v6.1.Config.Sites v6.1.Health v6.1.Flows v6.2.1.Sent v6.2.1.Events v6.2.2 v7.1.Id v7.1.Config.Version v7.1.Config.Sites v7.1.Health v7.1.Flows v7.2.1.Sent v7.2.1.Events v7.2.2 v9.2.1.Sent v9.2.1.Events v9.2.2 v10.2.2 true
   else
    L_law19_awake_1 N v2.1.Id v2.1.Config.Version v2.1.Config.Sites v2.1.Health v2.1.Flows v2.2 v4.2 v5 v6.1.Id v6.1.Config.Version v6.1.Config.Sites v6.1.Health v6.1.Flows v6.2.1.Sent v6.2.1.Events v6.2.2 v7.1.Id v7.1.Config.Version v7.1.Config.Sites v7.1.Health v7.1.Flows v7.2.1.Sent v7.2.1.Events v7.2.2 v9.2.1.Sent v9.2.1.Events v9.2.2 v10.2.2 ((v9.2.1.Events.length : Int) != 1)
def d30 (r : Bool) : D := .bool r
theorem g30_2 {N} {r} (z : Z Tryz.prog ty 30 Tryz.f30 (Fi [] (d30 r) [])) {t0} (h : L_law19_awake_2 N t0 = some r) : z.G [.c 4095] [(0, .bool t0)] [] :=
 z.r [] 0 o0 h
theorem g30_1 {N} {r} (z : Z Tryz.prog ty 30 Tryz.f30 (Fi [] (d30 r) [])) {b108_0 b108_1 b108_2 b108_3 b108_4 t2 t4 t5 b148_0 b148_1 b148_2 b148_3 b148_4 b156_0 b156_1 t8 b172_0 b172_1 b172_2 b172_3 b172_4 b180_0 b180_1 t11 b204_0 b204_1 t14 t17 t80} (h : L_law19_awake_1 N b108_0 b108_1 b108_2 b108_3 b108_4 t2 t4 t5 b148_0 b148_1 b148_2 b148_3 b148_4 b156_0 b156_1 t8 b172_0 b172_1 b172_2 b172_3 b172_4 b180_0 b180_1 t11 b204_0 b204_1 t14 t17 t80 = some r) : z.G [.c 1791, .c 1023] [(1, .ptr 108 0), (2, iI t2), (4, iI t4), (5, .str t5), (6, .ptr 148 0), (7, .ptr 156 0), (8, iI t8), (9, .ptr 172 0), (10, .ptr 180 0), (11, iI t11), (13, .ptr 204 0), (14, iI t14), (17, iI t17), (80, .bool t80)] [qB 108 [iI b108_0, iI b108_1, sS true (eSite true) b108_2, sS true eHealth b108_3, sS true eEntry b108_4], qB 148 [iI b148_0, iI b148_1, sS true (eSite true) b148_2, sS true eHealth b148_3, sS true eEntry b148_4], qB 156 [sS true eStr b156_0, sS true eEvent b156_1], qB 172 [iI b172_0, iI b172_1, sS true (eSite true) b172_2, sS true eHealth b172_3, sS true eEntry b172_4], qB 180 [sS true eStr b180_0, sS true eEvent b180_1], qB 204 [sS true eStr b204_0, sS true eEvent b204_1]] :=
 by
  cases t80 with
  | true => exact brT h fun h => (
   z.r [] 3 o0 h)
  | false => exact brF h fun h => (
   ck h fun h1 h =>
   bd h fun v1 h2 h =>
   bd h fun v2 h3 h =>
   z.s [(10, [(2, oC (.ip true [.str (b156_0.getD (Int.toNat 0) default)])), (4, oR (d33 v1))])] 5 (o3 h1 (Le.iptl (g := true) (eL_at (xs := b156_0) eStr_len (ixl h1))) (c33 h2)) <|
   br h (fun h4 h =>
    bd h fun v3 h5 h =>
    br h (fun h6 h =>
     bd h fun v4 h7 h =>
     br h (fun h8 h =>
      br h (fun h9 h =>
       br h (fun h10 h =>
        br h (fun h11 h =>
         ck h fun h12 h =>
         br h (fun h13 h =>
          ck h fun h14 h =>
          ck h fun h15 h =>
          br h (fun h16 h =>
           bd h fun v5 h17 h =>
           br h (fun h18 h =>
            bd h fun v6 h19 h =>
            br h (fun h20 h =>
             bd h fun v7 h21 h =>
             br h (fun h22 h =>
              bd h fun v8 h23 h =>
              br h (fun h24 h =>
               ck h fun h25 h =>
               br h (fun h26 h =>
                bd h fun v9 h27 h =>
                br h (fun h28 h =>
                 bd h fun v10 h29 h =>
                 z.j [(11, [(1, oR (d25 v2)), (3, oT), (5, oR (d25 v3)), (8, oT), (10, oR (d25 v4)), (13, oT), (17, oT), (23, oT), (28, oT), (31, oC (.ip true [iI ((b156_1.getD (Int.toNat 0) default).Kind), iI ((b156_1.getD (Int.toNat 0) default).Role), iI ((b156_1.getD (Int.toNat 0) default).Site), iI ((b156_1.getD (Int.toNat 0) default).Node), iI ((b156_1.getD (Int.toNat 0) default).To), iI (((b156_1.getD (Int.toNat 0) default).Flow).Src), iI (((b156_1.getD (Int.toNat 0) default).Flow).Dst), iI (((b156_1.getD (Int.toNat 0) default).Flow).Proto), iI (((b156_1.getD (Int.toNat 0) default).Flow).Sport), iI (((b156_1.getD (Int.toNat 0) default).Flow).Dport)])), (36, oT), (39, oC (.ip true [iI ((b156_1.getD (Int.toNat 0) default).Kind), iI ((b156_1.getD (Int.toNat 0) default).Role), iI ((b156_1.getD (Int.toNat 0) default).Site), iI ((b156_1.getD (Int.toNat 0) default).Node), iI ((b156_1.getD (Int.toNat 0) default).To), iI (((b156_1.getD (Int.toNat 0) default).Flow).Src), iI (((b156_1.getD (Int.toNat 0) default).Flow).Dst), iI (((b156_1.getD (Int.toNat 0) default).Flow).Proto), iI (((b156_1.getD (Int.toNat 0) default).Flow).Sport), iI (((b156_1.getD (Int.toNat 0) default).Flow).Dport)])), (44, oC (.ip true [iI (((b148_4.getD (Int.toNat 0) default).Flow).Src), iI (((b148_4.getD (Int.toNat 0) default).Flow).Dst), iI (((b148_4.getD (Int.toNat 0) default).Flow).Proto), iI (((b148_4.getD (Int.toNat 0) default).Flow).Sport), iI (((b148_4.getD (Int.toNat 0) default).Flow).Dport), iI ((b148_4.getD (Int.toNat 0) default).To), .bool ((b148_4.getD (Int.toNat 0) default).Away), iI ((b148_4.getD (Int.toNat 0) default).Phase), iI ((b148_4.getD (Int.toNat 0) default).Used)])), (49, oT), (51, oR (d25 v5)), (54, oT), (57, oR (d23 v6)), (59, oT), (64, oR (d83 v7)), (66, oT), (68, oR (d25 v8)), (71, oT), (74, oC (.ip true [iI ((b204_1.getD (Int.toNat 0) default).Kind), iI ((b204_1.getD (Int.toNat 0) default).Role), iI ((b204_1.getD (Int.toNat 0) default).Site), iI ((b204_1.getD (Int.toNat 0) default).Node), iI ((b204_1.getD (Int.toNat 0) default).To), iI (((b204_1.getD (Int.toNat 0) default).Flow).Src), iI (((b204_1.getD (Int.toNat 0) default).Flow).Dst), iI (((b204_1.getD (Int.toNat 0) default).Flow).Proto), iI (((b204_1.getD (Int.toNat 0) default).Flow).Sport), iI (((b204_1.getD (Int.toNat 0) default).Flow).Dport)])), (79, oT), (81, oR (d25 v9)), (84, oT), (86, oR (d26 v10))])] 1 [0] [] (o5 (c25 h3) (Le.tt h4) (c25 h5) (Le.tt h6) (o5 (c25 h7) (Le.tt h8) (Le.tt h9) (Le.tt h10) (o5 (Le.tt h11) h12 (Le.iptl (g := true) (eL_at (xs := b156_1) eEvent_len (ixl h12))) (Le.tt h13) (o5 h14 (Le.iptl (g := true) (eL_at (xs := b156_1) eEvent_len (ixl h14))) h15 (Le.iptl (g := true) (eL_at (xs := b148_4) eEntry_len (ixl h15))) (o5 (Le.tt h16) (c25 h17) (Le.tt h18) (c23 true true h19) (o5 (Le.tt h20) (c83 true false h21) (Le.tt h22) (c25 h23) (o5 (Le.tt h24) h25 (Le.iptl (g := true) (eL_at (xs := b204_1) eEvent_len (ixl h25))) (Le.tt h26) (o3 (c25 h27) (Le.tt h28) (c26 true h29))))))))) (g30_2 z h)) fun h28 h =>
                z.j [(11, [(1, oR (d25 v2)), (3, oT), (5, oR (d25 v3)), (8, oT), (10, oR (d25 v4)), (13, oT), (17, oT), (23, oT), (28, oT), (31, oC (.ip true [iI ((b156_1.getD (Int.toNat 0) default).Kind), iI ((b156_1.getD (Int.toNat 0) default).Role), iI ((b156_1.getD (Int.toNat 0) default).Site), iI ((b156_1.getD (Int.toNat 0) default).Node), iI ((b156_1.getD (Int.toNat 0) default).To), iI (((b156_1.getD (Int.toNat 0) default).Flow).Src), iI (((b156_1.getD (Int.toNat 0) default).Flow).Dst), iI (((b156_1.getD (Int.toNat 0) default).Flow).Proto), iI (((b156_1.getD (Int.toNat 0) default).Flow).Sport), iI (((b156_1.getD (Int.toNat 0) default).Flow).Dport)])), (36, oT), (39, oC (.ip true [iI ((b156_1.getD (Int.toNat 0) default).Kind), iI ((b156_1.getD (Int.toNat 0) default).Role), iI ((b156_1.getD (Int.toNat 0) default).Site), iI ((b156_1.getD (Int.toNat 0) default).Node), iI ((b156_1.getD (Int.toNat 0) default).To), iI (((b156_1.getD (Int.toNat 0) default).Flow).Src), iI (((b156_1.getD (Int.toNat 0) default).Flow).Dst), iI (((b156_1.getD (Int.toNat 0) default).Flow).Proto), iI (((b156_1.getD (Int.toNat 0) default).Flow).Sport), iI (((b156_1.getD (Int.toNat 0) default).Flow).Dport)])), (44, oC (.ip true [iI (((b148_4.getD (Int.toNat 0) default).Flow).Src), iI (((b148_4.getD (Int.toNat 0) default).Flow).Dst), iI (((b148_4.getD (Int.toNat 0) default).Flow).Proto), iI (((b148_4.getD (Int.toNat 0) default).Flow).Sport), iI (((b148_4.getD (Int.toNat 0) default).Flow).Dport), iI ((b148_4.getD (Int.toNat 0) default).To), .bool ((b148_4.getD (Int.toNat 0) default).Away), iI ((b148_4.getD (Int.toNat 0) default).Phase), iI ((b148_4.getD (Int.toNat 0) default).Used)])), (49, oT), (51, oR (d25 v5)), (54, oT), (57, oR (d23 v6)), (59, oT), (64, oR (d83 v7)), (66, oT), (68, oR (d25 v8)), (71, oT), (74, oC (.ip true [iI ((b204_1.getD (Int.toNat 0) default).Kind), iI ((b204_1.getD (Int.toNat 0) default).Role), iI ((b204_1.getD (Int.toNat 0) default).Site), iI ((b204_1.getD (Int.toNat 0) default).Node), iI ((b204_1.getD (Int.toNat 0) default).To), iI (((b204_1.getD (Int.toNat 0) default).Flow).Src), iI (((b204_1.getD (Int.toNat 0) default).Flow).Dst), iI (((b204_1.getD (Int.toNat 0) default).Flow).Proto), iI (((b204_1.getD (Int.toNat 0) default).Flow).Sport), iI (((b204_1.getD (Int.toNat 0) default).Flow).Dport)])), (79, oT), (81, oR (d25 v9)), (84, oF)])] 1 [0] [] (o5 (c25 h3) (Le.tt h4) (c25 h5) (Le.tt h6) (o5 (c25 h7) (Le.tt h8) (Le.tt h9) (Le.tt h10) (o5 (Le.tt h11) h12 (Le.iptl (g := true) (eL_at (xs := b156_1) eEvent_len (ixl h12))) (Le.tt h13) (o5 h14 (Le.iptl (g := true) (eL_at (xs := b156_1) eEvent_len (ixl h14))) h15 (Le.iptl (g := true) (eL_at (xs := b148_4) eEntry_len (ixl h15))) (o5 (Le.tt h16) (c25 h17) (Le.tt h18) (c23 true true h19) (o5 (Le.tt h20) (c83 true false h21) (Le.tt h22) (c25 h23) (o5 (Le.tt h24) h25 (Le.iptl (g := true) (eL_at (xs := b204_1) eEvent_len (ixl h25))) (Le.tt h26) (o2 (c25 h27) (Le.ff h28))))))))) (g30_2 z h)) fun h26 h =>
               z.j [(11, [(1, oR (d25 v2)), (3, oT), (5, oR (d25 v3)), (8, oT), (10, oR (d25 v4)), (13, oT), (17, oT), (23, oT), (28, oT), (31, oC (.ip true [iI ((b156_1.getD (Int.toNat 0) default).Kind), iI ((b156_1.getD (Int.toNat 0) default).Role), iI ((b156_1.getD (Int.toNat 0) default).Site), iI ((b156_1.getD (Int.toNat 0) default).Node), iI ((b156_1.getD (Int.toNat 0) default).To), iI (((b156_1.getD (Int.toNat 0) default).Flow).Src), iI (((b156_1.getD (Int.toNat 0) default).Flow).Dst), iI (((b156_1.getD (Int.toNat 0) default).Flow).Proto), iI (((b156_1.getD (Int.toNat 0) default).Flow).Sport), iI (((b156_1.getD (Int.toNat 0) default).Flow).Dport)])), (36, oT), (39, oC (.ip true [iI ((b156_1.getD (Int.toNat 0) default).Kind), iI ((b156_1.getD (Int.toNat 0) default).Role), iI ((b156_1.getD (Int.toNat 0) default).Site), iI ((b156_1.getD (Int.toNat 0) default).Node), iI ((b156_1.getD (Int.toNat 0) default).To), iI (((b156_1.getD (Int.toNat 0) default).Flow).Src), iI (((b156_1.getD (Int.toNat 0) default).Flow).Dst), iI (((b156_1.getD (Int.toNat 0) default).Flow).Proto), iI (((b156_1.getD (Int.toNat 0) default).Flow).Sport), iI (((b156_1.getD (Int.toNat 0) default).Flow).Dport)])), (44, oC (.ip true [iI (((b148_4.getD (Int.toNat 0) default).Flow).Src), iI (((b148_4.getD (Int.toNat 0) default).Flow).Dst), iI (((b148_4.getD (Int.toNat 0) default).Flow).Proto), iI (((b148_4.getD (Int.toNat 0) default).Flow).Sport), iI (((b148_4.getD (Int.toNat 0) default).Flow).Dport), iI ((b148_4.getD (Int.toNat 0) default).To), .bool ((b148_4.getD (Int.toNat 0) default).Away), iI ((b148_4.getD (Int.toNat 0) default).Phase), iI ((b148_4.getD (Int.toNat 0) default).Used)])), (49, oT), (51, oR (d25 v5)), (54, oT), (57, oR (d23 v6)), (59, oT), (64, oR (d83 v7)), (66, oT), (68, oR (d25 v8)), (71, oT), (74, oC (.ip true [iI ((b204_1.getD (Int.toNat 0) default).Kind), iI ((b204_1.getD (Int.toNat 0) default).Role), iI ((b204_1.getD (Int.toNat 0) default).Site), iI ((b204_1.getD (Int.toNat 0) default).Node), iI ((b204_1.getD (Int.toNat 0) default).To), iI (((b204_1.getD (Int.toNat 0) default).Flow).Src), iI (((b204_1.getD (Int.toNat 0) default).Flow).Dst), iI (((b204_1.getD (Int.toNat 0) default).Flow).Proto), iI (((b204_1.getD (Int.toNat 0) default).Flow).Sport), iI (((b204_1.getD (Int.toNat 0) default).Flow).Dport)])), (79, oF)])] 1 [0] [] (o5 (c25 h3) (Le.tt h4) (c25 h5) (Le.tt h6) (o5 (c25 h7) (Le.tt h8) (Le.tt h9) (Le.tt h10) (o5 (Le.tt h11) h12 (Le.iptl (g := true) (eL_at (xs := b156_1) eEvent_len (ixl h12))) (Le.tt h13) (o5 h14 (Le.iptl (g := true) (eL_at (xs := b156_1) eEvent_len (ixl h14))) h15 (Le.iptl (g := true) (eL_at (xs := b148_4) eEntry_len (ixl h15))) (o5 (Le.tt h16) (c25 h17) (Le.tt h18) (c23 true true h19) (o5 (Le.tt h20) (c83 true false h21) (Le.tt h22) (c25 h23) (o4 (Le.tt h24) h25 (Le.iptl (g := true) (eL_at (xs := b204_1) eEvent_len (ixl h25))) (Le.ff h26)))))))) (g30_2 z h)) fun h24 h =>
              z.j [(11, [(1, oR (d25 v2)), (3, oT), (5, oR (d25 v3)), (8, oT), (10, oR (d25 v4)), (13, oT), (17, oT), (23, oT), (28, oT), (31, oC (.ip true [iI ((b156_1.getD (Int.toNat 0) default).Kind), iI ((b156_1.getD (Int.toNat 0) default).Role), iI ((b156_1.getD (Int.toNat 0) default).Site), iI ((b156_1.getD (Int.toNat 0) default).Node), iI ((b156_1.getD (Int.toNat 0) default).To), iI (((b156_1.getD (Int.toNat 0) default).Flow).Src), iI (((b156_1.getD (Int.toNat 0) default).Flow).Dst), iI (((b156_1.getD (Int.toNat 0) default).Flow).Proto), iI (((b156_1.getD (Int.toNat 0) default).Flow).Sport), iI (((b156_1.getD (Int.toNat 0) default).Flow).Dport)])), (36, oT), (39, oC (.ip true [iI ((b156_1.getD (Int.toNat 0) default).Kind), iI ((b156_1.getD (Int.toNat 0) default).Role), iI ((b156_1.getD (Int.toNat 0) default).Site), iI ((b156_1.getD (Int.toNat 0) default).Node), iI ((b156_1.getD (Int.toNat 0) default).To), iI (((b156_1.getD (Int.toNat 0) default).Flow).Src), iI (((b156_1.getD (Int.toNat 0) default).Flow).Dst), iI (((b156_1.getD (Int.toNat 0) default).Flow).Proto), iI (((b156_1.getD (Int.toNat 0) default).Flow).Sport), iI (((b156_1.getD (Int.toNat 0) default).Flow).Dport)])), (44, oC (.ip true [iI (((b148_4.getD (Int.toNat 0) default).Flow).Src), iI (((b148_4.getD (Int.toNat 0) default).Flow).Dst), iI (((b148_4.getD (Int.toNat 0) default).Flow).Proto), iI (((b148_4.getD (Int.toNat 0) default).Flow).Sport), iI (((b148_4.getD (Int.toNat 0) default).Flow).Dport), iI ((b148_4.getD (Int.toNat 0) default).To), .bool ((b148_4.getD (Int.toNat 0) default).Away), iI ((b148_4.getD (Int.toNat 0) default).Phase), iI ((b148_4.getD (Int.toNat 0) default).Used)])), (49, oT), (51, oR (d25 v5)), (54, oT), (57, oR (d23 v6)), (59, oT), (64, oR (d83 v7)), (66, oT), (68, oR (d25 v8)), (71, oF)])] 1 [0] [] (o5 (c25 h3) (Le.tt h4) (c25 h5) (Le.tt h6) (o5 (c25 h7) (Le.tt h8) (Le.tt h9) (Le.tt h10) (o5 (Le.tt h11) h12 (Le.iptl (g := true) (eL_at (xs := b156_1) eEvent_len (ixl h12))) (Le.tt h13) (o5 h14 (Le.iptl (g := true) (eL_at (xs := b156_1) eEvent_len (ixl h14))) h15 (Le.iptl (g := true) (eL_at (xs := b148_4) eEntry_len (ixl h15))) (o5 (Le.tt h16) (c25 h17) (Le.tt h18) (c23 true true h19) (o5 (Le.tt h20) (c83 true false h21) (Le.tt h22) (c25 h23) (o1 (Le.ff h24)))))))) (g30_2 z h)) fun h22 h =>
             z.j [(11, [(1, oR (d25 v2)), (3, oT), (5, oR (d25 v3)), (8, oT), (10, oR (d25 v4)), (13, oT), (17, oT), (23, oT), (28, oT), (31, oC (.ip true [iI ((b156_1.getD (Int.toNat 0) default).Kind), iI ((b156_1.getD (Int.toNat 0) default).Role), iI ((b156_1.getD (Int.toNat 0) default).Site), iI ((b156_1.getD (Int.toNat 0) default).Node), iI ((b156_1.getD (Int.toNat 0) default).To), iI (((b156_1.getD (Int.toNat 0) default).Flow).Src), iI (((b156_1.getD (Int.toNat 0) default).Flow).Dst), iI (((b156_1.getD (Int.toNat 0) default).Flow).Proto), iI (((b156_1.getD (Int.toNat 0) default).Flow).Sport), iI (((b156_1.getD (Int.toNat 0) default).Flow).Dport)])), (36, oT), (39, oC (.ip true [iI ((b156_1.getD (Int.toNat 0) default).Kind), iI ((b156_1.getD (Int.toNat 0) default).Role), iI ((b156_1.getD (Int.toNat 0) default).Site), iI ((b156_1.getD (Int.toNat 0) default).Node), iI ((b156_1.getD (Int.toNat 0) default).To), iI (((b156_1.getD (Int.toNat 0) default).Flow).Src), iI (((b156_1.getD (Int.toNat 0) default).Flow).Dst), iI (((b156_1.getD (Int.toNat 0) default).Flow).Proto), iI (((b156_1.getD (Int.toNat 0) default).Flow).Sport), iI (((b156_1.getD (Int.toNat 0) default).Flow).Dport)])), (44, oC (.ip true [iI (((b148_4.getD (Int.toNat 0) default).Flow).Src), iI (((b148_4.getD (Int.toNat 0) default).Flow).Dst), iI (((b148_4.getD (Int.toNat 0) default).Flow).Proto), iI (((b148_4.getD (Int.toNat 0) default).Flow).Sport), iI (((b148_4.getD (Int.toNat 0) default).Flow).Dport), iI ((b148_4.getD (Int.toNat 0) default).To), .bool ((b148_4.getD (Int.toNat 0) default).Away), iI ((b148_4.getD (Int.toNat 0) default).Phase), iI ((b148_4.getD (Int.toNat 0) default).Used)])), (49, oT), (51, oR (d25 v5)), (54, oT), (57, oR (d23 v6)), (59, oT), (64, oR (d83 v7)), (66, oF)])] 1 [0] [] (o5 (c25 h3) (Le.tt h4) (c25 h5) (Le.tt h6) (o5 (c25 h7) (Le.tt h8) (Le.tt h9) (Le.tt h10) (o5 (Le.tt h11) h12 (Le.iptl (g := true) (eL_at (xs := b156_1) eEvent_len (ixl h12))) (Le.tt h13) (o5 h14 (Le.iptl (g := true) (eL_at (xs := b156_1) eEvent_len (ixl h14))) h15 (Le.iptl (g := true) (eL_at (xs := b148_4) eEntry_len (ixl h15))) (o5 (Le.tt h16) (c25 h17) (Le.tt h18) (c23 true true h19) (o3 (Le.tt h20) (c83 true false h21) (Le.ff h22))))))) (g30_2 z h)) fun h20 h =>
            z.j [(11, [(1, oR (d25 v2)), (3, oT), (5, oR (d25 v3)), (8, oT), (10, oR (d25 v4)), (13, oT), (17, oT), (23, oT), (28, oT), (31, oC (.ip true [iI ((b156_1.getD (Int.toNat 0) default).Kind), iI ((b156_1.getD (Int.toNat 0) default).Role), iI ((b156_1.getD (Int.toNat 0) default).Site), iI ((b156_1.getD (Int.toNat 0) default).Node), iI ((b156_1.getD (Int.toNat 0) default).To), iI (((b156_1.getD (Int.toNat 0) default).Flow).Src), iI (((b156_1.getD (Int.toNat 0) default).Flow).Dst), iI (((b156_1.getD (Int.toNat 0) default).Flow).Proto), iI (((b156_1.getD (Int.toNat 0) default).Flow).Sport), iI (((b156_1.getD (Int.toNat 0) default).Flow).Dport)])), (36, oT), (39, oC (.ip true [iI ((b156_1.getD (Int.toNat 0) default).Kind), iI ((b156_1.getD (Int.toNat 0) default).Role), iI ((b156_1.getD (Int.toNat 0) default).Site), iI ((b156_1.getD (Int.toNat 0) default).Node), iI ((b156_1.getD (Int.toNat 0) default).To), iI (((b156_1.getD (Int.toNat 0) default).Flow).Src), iI (((b156_1.getD (Int.toNat 0) default).Flow).Dst), iI (((b156_1.getD (Int.toNat 0) default).Flow).Proto), iI (((b156_1.getD (Int.toNat 0) default).Flow).Sport), iI (((b156_1.getD (Int.toNat 0) default).Flow).Dport)])), (44, oC (.ip true [iI (((b148_4.getD (Int.toNat 0) default).Flow).Src), iI (((b148_4.getD (Int.toNat 0) default).Flow).Dst), iI (((b148_4.getD (Int.toNat 0) default).Flow).Proto), iI (((b148_4.getD (Int.toNat 0) default).Flow).Sport), iI (((b148_4.getD (Int.toNat 0) default).Flow).Dport), iI ((b148_4.getD (Int.toNat 0) default).To), .bool ((b148_4.getD (Int.toNat 0) default).Away), iI ((b148_4.getD (Int.toNat 0) default).Phase), iI ((b148_4.getD (Int.toNat 0) default).Used)])), (49, oT), (51, oR (d25 v5)), (54, oT), (57, oR (d23 v6)), (59, oF)])] 1 [0] [] (o5 (c25 h3) (Le.tt h4) (c25 h5) (Le.tt h6) (o5 (c25 h7) (Le.tt h8) (Le.tt h9) (Le.tt h10) (o5 (Le.tt h11) h12 (Le.iptl (g := true) (eL_at (xs := b156_1) eEvent_len (ixl h12))) (Le.tt h13) (o5 h14 (Le.iptl (g := true) (eL_at (xs := b156_1) eEvent_len (ixl h14))) h15 (Le.iptl (g := true) (eL_at (xs := b148_4) eEntry_len (ixl h15))) (o5 (Le.tt h16) (c25 h17) (Le.tt h18) (c23 true true h19) (o1 (Le.ff h20))))))) (g30_2 z h)) fun h18 h =>
           z.j [(11, [(1, oR (d25 v2)), (3, oT), (5, oR (d25 v3)), (8, oT), (10, oR (d25 v4)), (13, oT), (17, oT), (23, oT), (28, oT), (31, oC (.ip true [iI ((b156_1.getD (Int.toNat 0) default).Kind), iI ((b156_1.getD (Int.toNat 0) default).Role), iI ((b156_1.getD (Int.toNat 0) default).Site), iI ((b156_1.getD (Int.toNat 0) default).Node), iI ((b156_1.getD (Int.toNat 0) default).To), iI (((b156_1.getD (Int.toNat 0) default).Flow).Src), iI (((b156_1.getD (Int.toNat 0) default).Flow).Dst), iI (((b156_1.getD (Int.toNat 0) default).Flow).Proto), iI (((b156_1.getD (Int.toNat 0) default).Flow).Sport), iI (((b156_1.getD (Int.toNat 0) default).Flow).Dport)])), (36, oT), (39, oC (.ip true [iI ((b156_1.getD (Int.toNat 0) default).Kind), iI ((b156_1.getD (Int.toNat 0) default).Role), iI ((b156_1.getD (Int.toNat 0) default).Site), iI ((b156_1.getD (Int.toNat 0) default).Node), iI ((b156_1.getD (Int.toNat 0) default).To), iI (((b156_1.getD (Int.toNat 0) default).Flow).Src), iI (((b156_1.getD (Int.toNat 0) default).Flow).Dst), iI (((b156_1.getD (Int.toNat 0) default).Flow).Proto), iI (((b156_1.getD (Int.toNat 0) default).Flow).Sport), iI (((b156_1.getD (Int.toNat 0) default).Flow).Dport)])), (44, oC (.ip true [iI (((b148_4.getD (Int.toNat 0) default).Flow).Src), iI (((b148_4.getD (Int.toNat 0) default).Flow).Dst), iI (((b148_4.getD (Int.toNat 0) default).Flow).Proto), iI (((b148_4.getD (Int.toNat 0) default).Flow).Sport), iI (((b148_4.getD (Int.toNat 0) default).Flow).Dport), iI ((b148_4.getD (Int.toNat 0) default).To), .bool ((b148_4.getD (Int.toNat 0) default).Away), iI ((b148_4.getD (Int.toNat 0) default).Phase), iI ((b148_4.getD (Int.toNat 0) default).Used)])), (49, oT), (51, oR (d25 v5)), (54, oF)])] 1 [0] [] (o5 (c25 h3) (Le.tt h4) (c25 h5) (Le.tt h6) (o5 (c25 h7) (Le.tt h8) (Le.tt h9) (Le.tt h10) (o5 (Le.tt h11) h12 (Le.iptl (g := true) (eL_at (xs := b156_1) eEvent_len (ixl h12))) (Le.tt h13) (o5 h14 (Le.iptl (g := true) (eL_at (xs := b156_1) eEvent_len (ixl h14))) h15 (Le.iptl (g := true) (eL_at (xs := b148_4) eEntry_len (ixl h15))) (o3 (Le.tt h16) (c25 h17) (Le.ff h18)))))) (g30_2 z h)) fun h16 h =>
          z.j [(11, [(1, oR (d25 v2)), (3, oT), (5, oR (d25 v3)), (8, oT), (10, oR (d25 v4)), (13, oT), (17, oT), (23, oT), (28, oT), (31, oC (.ip true [iI ((b156_1.getD (Int.toNat 0) default).Kind), iI ((b156_1.getD (Int.toNat 0) default).Role), iI ((b156_1.getD (Int.toNat 0) default).Site), iI ((b156_1.getD (Int.toNat 0) default).Node), iI ((b156_1.getD (Int.toNat 0) default).To), iI (((b156_1.getD (Int.toNat 0) default).Flow).Src), iI (((b156_1.getD (Int.toNat 0) default).Flow).Dst), iI (((b156_1.getD (Int.toNat 0) default).Flow).Proto), iI (((b156_1.getD (Int.toNat 0) default).Flow).Sport), iI (((b156_1.getD (Int.toNat 0) default).Flow).Dport)])), (36, oT), (39, oC (.ip true [iI ((b156_1.getD (Int.toNat 0) default).Kind), iI ((b156_1.getD (Int.toNat 0) default).Role), iI ((b156_1.getD (Int.toNat 0) default).Site), iI ((b156_1.getD (Int.toNat 0) default).Node), iI ((b156_1.getD (Int.toNat 0) default).To), iI (((b156_1.getD (Int.toNat 0) default).Flow).Src), iI (((b156_1.getD (Int.toNat 0) default).Flow).Dst), iI (((b156_1.getD (Int.toNat 0) default).Flow).Proto), iI (((b156_1.getD (Int.toNat 0) default).Flow).Sport), iI (((b156_1.getD (Int.toNat 0) default).Flow).Dport)])), (44, oC (.ip true [iI (((b148_4.getD (Int.toNat 0) default).Flow).Src), iI (((b148_4.getD (Int.toNat 0) default).Flow).Dst), iI (((b148_4.getD (Int.toNat 0) default).Flow).Proto), iI (((b148_4.getD (Int.toNat 0) default).Flow).Sport), iI (((b148_4.getD (Int.toNat 0) default).Flow).Dport), iI ((b148_4.getD (Int.toNat 0) default).To), .bool ((b148_4.getD (Int.toNat 0) default).Away), iI ((b148_4.getD (Int.toNat 0) default).Phase), iI ((b148_4.getD (Int.toNat 0) default).Used)])), (49, oF)])] 1 [0] [] (o5 (c25 h3) (Le.tt h4) (c25 h5) (Le.tt h6) (o5 (c25 h7) (Le.tt h8) (Le.tt h9) (Le.tt h10) (o5 (Le.tt h11) h12 (Le.iptl (g := true) (eL_at (xs := b156_1) eEvent_len (ixl h12))) (Le.tt h13) (o5 h14 (Le.iptl (g := true) (eL_at (xs := b156_1) eEvent_len (ixl h14))) h15 (Le.iptl (g := true) (eL_at (xs := b148_4) eEntry_len (ixl h15))) (o1 (Le.ff h16)))))) (g30_2 z h)) fun h13 h =>
         z.j [(11, [(1, oR (d25 v2)), (3, oT), (5, oR (d25 v3)), (8, oT), (10, oR (d25 v4)), (13, oT), (17, oT), (23, oT), (28, oT), (31, oC (.ip true [iI ((b156_1.getD (Int.toNat 0) default).Kind), iI ((b156_1.getD (Int.toNat 0) default).Role), iI ((b156_1.getD (Int.toNat 0) default).Site), iI ((b156_1.getD (Int.toNat 0) default).Node), iI ((b156_1.getD (Int.toNat 0) default).To), iI (((b156_1.getD (Int.toNat 0) default).Flow).Src), iI (((b156_1.getD (Int.toNat 0) default).Flow).Dst), iI (((b156_1.getD (Int.toNat 0) default).Flow).Proto), iI (((b156_1.getD (Int.toNat 0) default).Flow).Sport), iI (((b156_1.getD (Int.toNat 0) default).Flow).Dport)])), (36, oF)])] 1 [0] [] (o5 (c25 h3) (Le.tt h4) (c25 h5) (Le.tt h6) (o5 (c25 h7) (Le.tt h8) (Le.tt h9) (Le.tt h10) (o4 (Le.tt h11) h12 (Le.iptl (g := true) (eL_at (xs := b156_1) eEvent_len (ixl h12))) (Le.ff h13)))) (g30_2 z h)) fun h11 h =>
        z.j [(11, [(1, oR (d25 v2)), (3, oT), (5, oR (d25 v3)), (8, oT), (10, oR (d25 v4)), (13, oT), (17, oT), (23, oT), (28, oF)])] 1 [0] [] (o5 (c25 h3) (Le.tt h4) (c25 h5) (Le.tt h6) (o5 (c25 h7) (Le.tt h8) (Le.tt h9) (Le.tt h10) (o1 (Le.ff h11)))) (g30_2 z h)) fun h10 h =>
       z.j [(11, [(1, oR (d25 v2)), (3, oT), (5, oR (d25 v3)), (8, oT), (10, oR (d25 v4)), (13, oT), (17, oT), (23, oF)])] 1 [0] [] (o5 (c25 h3) (Le.tt h4) (c25 h5) (Le.tt h6) (o4 (c25 h7) (Le.tt h8) (Le.tt h9) (Le.ff h10))) (g30_2 z h)) fun h9 h =>
      z.j [(11, [(1, oR (d25 v2)), (3, oT), (5, oR (d25 v3)), (8, oT), (10, oR (d25 v4)), (13, oT), (17, oF)])] 1 [0] [] (o5 (c25 h3) (Le.tt h4) (c25 h5) (Le.tt h6) (o3 (c25 h7) (Le.tt h8) (Le.ff h9))) (g30_2 z h)) fun h8 h =>
     z.j [(11, [(1, oR (d25 v2)), (3, oT), (5, oR (d25 v3)), (8, oT), (10, oR (d25 v4)), (13, oF)])] 1 [0] [] (o5 (c25 h3) (Le.tt h4) (c25 h5) (Le.tt h6) (o2 (c25 h7) (Le.ff h8))) (g30_2 z h)) fun h6 h =>
    z.j [(11, [(1, oR (d25 v2)), (3, oT), (5, oR (d25 v3)), (8, oF)])] 1 [0] [] (o4 (c25 h3) (Le.tt h4) (c25 h5) (Le.ff h6)) (g30_2 z h)) fun h4 h =>
   z.j [(11, [(1, oR (d25 v2)), (3, oF)])] 1 [0] [] (o2 (c25 h3) (Le.ff h4)) (g30_2 z h))
theorem c30 {N} {r} (h : L_law19_awake N = some r) : Con Tryz.prog 30 [] [] (d30 r) [] :=
 ci ok mix Tryz.f30 fun z =>
 bd h fun v1 h0 h =>
 bd h fun v2 h1 h =>
 bd h fun v3 h2 h =>
 bd h fun v4 h3 h =>
 bd h fun v5 h4 h =>
 bd h fun v6 h5 h =>
 bd h fun v7 h6 h =>
 bd h fun v8 h7 h =>
 bd h fun v9 h8 h =>
 bd h fun v10 h9 h =>
 z.s [(1, [(0, oR (d34 v1)), (1, oR (d21 v2))]), (2, [(0, oR (d34 v3)), (1, oR (d21 v4))]), (3, [(0, oR (d35 v5))]), (4, [(2, oR (d19 v6))]), (5, [(1, oR (d19 v7))]), (6, [(0, oR (d80 v8)), (3, oR (d19 v9))]), (7, [(2, oR (d19 v10))])] 18 (o5 (c34 h0) (c21 true h1) (c34 h2) (c21 true h3) (o5 (c35 h4) (c19 true h5) (c19 true h6) (c80 h7) (o2 ((c19 true h8).le ((.cons (Le.agg ((.cons (Le.rfl) (.cons (Le.rfl) (.cons (Le.nils) (.cons (Le.rfl) (.cons (Le.nils) .nil))))))) (.cons (Le.rfl) (.cons (Le.rfl) .nil))))) (c19 true h9)))) <|
 br h (fun h10 h =>
  z.j [(8, [(4, oT)])] 1 [1, 2, 4, 5, 6, 7, 8, 9, 10, 11, 13, 14, 17, 80] [(108, 108), (148, 148), (156, 156), (172, 172), (180, 180), (204, 204)] (o1 (Le.tt h10)) (g30_1 z h)) fun h10 h =>
 br h (fun h11 h =>
  z.j [(8, [(4, oF), (10, oT)])] 1 [1, 2, 4, 5, 6, 7, 8, 9, 10, 11, 13, 14, 17, 80] [(108, 108), (148, 148), (156, 156), (172, 172), (180, 180), (204, 204)] (o2 (Le.ff h10) (Le.tt h11)) (g30_1 z h)) fun h11 h =>
 br h (fun h12 h =>
  z.j [(8, [(4, oF), (10, oF), (16, oT)])] 1 [1, 2, 4, 5, 6, 7, 8, 9, 10, 11, 13, 14, 17, 80] [(108, 108), (148, 148), (156, 156), (172, 172), (180, 180), (204, 204)] (o3 (Le.ff h10) (Le.ff h11) (Le.tt h12)) (g30_1 z h)) fun h12 h =>
 z.j [(8, [(4, oF), (10, oF), (16, oF)])] 1 [1, 2, 4, 5, 6, 7, 8, 9, 10, 11, 13, 14, 17, 80] [(108, 108), (148, 148), (156, 156), (172, 172), (180, 180), (204, 204)] (o3 (Le.ff h10) (Le.ff h11) (Le.ff h12)) (g30_1 z h)
def L_law0_CopyConfig_1 (N : Nat) : Nat → Int → (List GSite) → Int → Int → (List GSite) → Int → Option (GConfig)
  | 0, _, _, _, _, _, _ => none
  | fuel + 1, b108_0, b108_1, b116_0, b124_0, b164, t4 =>
  bif (decide (t4 < (b108_1.length : Int))) then
   if 0 ≤ t4 ∧ t4 < ((b108_1.length : Nat) : Int) then
   if growOk 16 (0 + ((b108_1.getD t4.toNat default).Backs).length) then
   if growOk 48 (b164.length + 1) then
   L_law0_CopyConfig_1 N fuel b108_0 b108_1 b116_0 b124_0 (b164 ++ [(GSite.mk ((b108_1.getD t4.toNat default).Weight) ((b108_1.getD t4.toNat default).Drain) ((b108_1.getD t4.toNat default).Cap) ([] ++ (b108_1.getD t4.toNat default).Backs))]) (IntKind.i64.wrap (t4 + 1))
   else none
   else none
   else none
  else
   some (GConfig.mk b124_0 b164)
def L_law0_CopyConfig (N : Nat) (x0 : GConfig) : Option (GConfig) :=
 L_law0_CopyConfig_1 N N x0.Version x0.Sites 0 x0.Version ([]) 0
def d58 (r : GConfig) : D := .agg [iI r.Version, sS true (eSite true) r.Sites]
theorem g58_1 {N} (gx0 : Bool) {r} (z : Z Tryz.prog ty 58 Tryz.f58 (Fi [] (d58 r) [])) (fuel) : ∀ {b108_0 b108_1 b116_0 b124_0 b164 t4}, L_law0_CopyConfig_1 N fuel b108_0 b108_1 b116_0 b124_0 b164 t4 = some r → z.G [.c 75, .l 75, .b 0, .c 15] [(1, .ptr 108 0), (2, .ptr 116 0), (3, .ptr 124 0), (4, iI t4)] [qB 108 [iI b108_0, sS gx0 (eSite gx0) b108_1], qB 116 [iI b116_0, .nils], qB 124 [iI b124_0, rR 164 b164], pB 164 4 (eL (eSite true) b164)] := by
 induction fuel with
 | zero => intro b108_0 b108_1 b116_0 b124_0 b164 t4 h; cases h
 | succ fuel ih =>
  intro b108_0 b108_1 b116_0 b124_0 b164 t4 h
  exact
   br h (fun h0 h =>
    ck h fun h1 h =>
    ck h fun h2 h =>
    ck h fun h3 h =>
    z.j [(3, [(4, oT)]), (5, [(3, oC (.ip gx0 [iI ((b108_1.getD t4.toNat default).Weight), .bool ((b108_1.getD t4.toNat default).Drain), iI ((b108_1.getD t4.toNat default).Cap), sS gx0 eBack ((b108_1.getD t4.toNat default).Backs)]))]), (6, [(3, { cv := some (.ref 292 0 ([] ++ (b108_1.getD t4.toNat default).Backs).length ([] ++ (b108_1.getD t4.toNat default).Backs).length), cb := [(292, eL eBack ([] ++ (b108_1.getD t4.toNat default).Backs))] })]), (7, [(2, { frz := true }), (4, { cv := some (.ref 340 0 (b164 ++ [(GSite.mk ((b108_1.getD t4.toNat default).Weight) ((b108_1.getD t4.toNat default).Drain) ((b108_1.getD t4.toNat default).Cap) ([] ++ (b108_1.getD t4.toNat default).Backs))]).length (b164 ++ [(GSite.mk ((b108_1.getD t4.toNat default).Weight) ((b108_1.getD t4.toNat default).Drain) ((b108_1.getD t4.toNat default).Cap) ([] ++ (b108_1.getD t4.toNat default).Backs))]).length), cb := [(340, eL (eSite true) (b164 ++ [(GSite.mk ((b108_1.getD t4.toNat default).Weight) ((b108_1.getD t4.toNat default).Drain) ((b108_1.getD t4.toNat default).Cap) ([] ++ (b108_1.getD t4.toNat default).Backs))]))] })])] 15 [1, 2, 3, 4] [(108, 108), (116, 116), (124, 124), (340, 164)] (o5 (Le.tt h0) h1 (Le.iptl (g := gx0) (eL_at (xs := b108_1) (eSite_len gx0) (ixl h1))) (Or.inr (eL_frees (fun _ => rfl) _) : gx0 = true ∨ frees (eL eBack ((b108_1.getD t4.toNat default).Backs)) = true) (o5 (ap_len (xs := (b108_1.getD t4.toNat default).Backs) eBack_len) (ap_len (xs := []) eBack_len) h2 (Le.apr (b := 292) (by first | rfl | (simp only [List.length_append, List.length_take, List.length_drop]; omega) | simp : ([] ++ (b108_1.getD t4.toNat default).Backs).length = 0 + ((b108_1.getD t4.toNat default).Backs).length)) (o5 (ap_all (xs := []) (ys := (b108_1.getD t4.toNat default).Backs) eBack_len) (by decide : 1 * 4 ≤ 4) (ap_len (xs := b164) (eSite_len true)) h3 (o2 (Le.apr (b := 340) (by first | rfl | (simp only [List.length_append, List.length_take, List.length_drop]; omega) | simp : (b164 ++ [(GSite.mk ((b108_1.getD t4.toNat default).Weight) ((b108_1.getD t4.toNat default).Drain) ((b108_1.getD t4.toNat default).Cap) ([] ++ (b108_1.getD t4.toNat default).Backs))]).length = b164.length + 1)) (ap_one (xs := b164) (eSite_len true) (y := (GSite.mk ((b108_1.getD t4.toNat default).Weight) ((b108_1.getD t4.toNat default).Drain) ((b108_1.getD t4.toNat default).Cap) ([] ++ (b108_1.getD t4.toNat default).Backs))) (cs := [iI ((b108_1.getD t4.toNat default).Weight), .bool ((b108_1.getD t4.toNat default).Drain), iI ((b108_1.getD t4.toNat default).Cap), sS true eBack ([] ++ (b108_1.getD t4.toNat default).Backs)]) rfl))))) (ih h)) fun h0 h =>
   z.r [(3, [(4, oF)]), (8, [(0, { frz := true })])] 7 (o1 (Le.ff h0)) h
theorem c58 {N} (gx0 : Bool) {x0 r} (h : L_law0_CopyConfig N x0 = some r) : Con Tryz.prog 58 [.agg [iI x0.Version, sS gx0 (eSite gx0) x0.Sites]] [] (d58 r) [] :=
 ci ok mix Tryz.f58 fun z =>
 z.j [(1, [(2, { own := some (4) })])] 9 [1, 2, 3, 4] [(108, 108), (116, 116), (124, 124), (164, 164)] o0 (g58_1 gx0 z N h)
def L_law0_CopyEdge (N : Nat) (x0 : GEdge) : Option (GEdge) :=
 (L_law0_CopyConfig N x0.Config).bind fun v1 =>
 if growOk 16 (0 + x0.Health.length) then
 if growOk 72 (0 + x0.Flows.length) then
 some (GEdge.mk x0.Id v1 ([] ++ x0.Health) ([] ++ x0.Flows))
 else none
 else none
def d18v1 (r : GEdge) : D := .agg [iI r.Id, iI r.Config.Version, sS true (eSite true) r.Config.Sites, rR 1000 r.Health, rR 1001 r.Flows]
def h18v1 (r : GEdge) : List (Nat × Option Blk) := [pB 1000 2 (eL eHealth r.Health), pB 1001 9 (eL eEntry r.Flows)]
theorem c18v1 {N} (gx0 : Bool) {x0 r} (h : L_law0_CopyEdge N x0 = some r) : Con Tryz.prog 18 [.agg [iI x0.Id, iI x0.Config.Version, sS gx0 (eSite gx0) x0.Config.Sites, sS gx0 eHealth x0.Health, sS gx0 eEntry x0.Flows]] [] (d18v1 r) (h18v1 r) :=
 ci ok mix Tryz.f18 fun z =>
 bd h fun v1 h0 h =>
 ck h fun h1 h =>
 ck h fun h2 h =>
 z.rb [(1, [(4, oR (d58 v1)), (8, { cv := some (.ref 188 0 ([] ++ x0.Health).length ([] ++ x0.Health).length), cb := [(188, eL eHealth ([] ++ x0.Health))] }), (12, { cv := some (.ref 220 0 ([] ++ x0.Flows).length ([] ++ x0.Flows).length), cb := [(220, eL eEntry ([] ++ x0.Flows))] })])] 4 [(1000, 188), (1001, 220)] (.agg [iI x0.Id, iI v1.Version, sS true (eSite true) v1.Sites, rR 188 ([] ++ x0.Health), rR 220 ([] ++ x0.Flows)]) (o5 (c58 gx0 h0) (Or.inr (eL_frees (fun _ => rfl) _) : gx0 = true ∨ frees (eL eHealth x0.Health) = true) (ap_len (xs := x0.Health) eHealth_len) (ap_len (xs := []) eHealth_len) (o5 h1 (Le.apr (b := 188) (by first | rfl | (simp only [List.length_append, List.length_take, List.length_drop]; omega) | simp : ([] ++ x0.Health).length = 0 + x0.Health.length)) (ap_all (xs := []) (ys := x0.Health) eHealth_len) (Or.inr (eL_frees (fun _ => rfl) _) : gx0 = true ∨ frees (eL eEntry x0.Flows) = true) (o5 (ap_len (xs := x0.Flows) eEntry_len) (ap_len (xs := []) eEntry_len) h2 (Le.apr (b := 220) (by first | rfl | (simp only [List.length_append, List.length_take, List.length_drop]; omega) | simp : ([] ++ x0.Flows).length = 0 + x0.Flows.length)) (o1 (ap_all (xs := []) (ys := x0.Flows) eEntry_len))))) h (Le.of (by kernel_rfl))
def L_law0_SameTexts_1 (N : Nat) : Nat → (List ByteArray) → (List ByteArray) → Int → Option (Bool)
  | 0, _, _, _ => none
  | fuel + 1, t0, t1, t5 =>
  bif (decide (t5 < (t0.length : Int))) then
   if 0 ≤ t5 ∧ t5 < ((t0.length : Nat) : Int) then
   if 0 ≤ t5 ∧ t5 < ((t1.length : Nat) : Int) then
   bif (!((t0.getD t5.toNat default).toList == (t1.getD t5.toNat default).toList)) then
    some false
   else
    L_law0_SameTexts_1 N fuel t0 t1 (IntKind.i64.wrap (t5 + 1))
   else none
   else none
  else
   some true
def L_law0_SameTexts (N : Nat) (x0 x1 : (List ByteArray)) : Option (Bool) :=
 bif ((x0.length : Int) != (x1.length : Int)) then
  some false
 else
  L_law0_SameTexts_1 N N x0 x1 0
def d36 (r : Bool) : D := .bool r
theorem g36_1 {N} (gx0 gx1 : Bool) {r} (z : Z Tryz.prog ty 36 Tryz.f36 (Fi [] (d36 r) [])) (fuel) : ∀ {t0 t1 t5}, L_law0_SameTexts_1 N fuel t0 t1 t5 = some r → z.G [.c 75, .l 75, .b 0, .c 15] [(0, sS gx0 eStr t0), (1, sS gx1 eStr t1), (5, iI t5)] [] := by
 induction fuel with
 | zero => intro t0 t1 t5 h; cases h
 | succ fuel ih =>
  intro t0 t1 t5 h
  exact
   br h (fun h0 h =>
    ck h fun h1 h =>
    ck h fun h2 h =>
    z.s [(4, [(3, oT)])] 8 (o1 (Le.tt h0)) <|
    br h (fun h3 h =>
     z.r [(6, [(2, oC (.ip gx0 [.str (t0.getD t5.toNat default)])), (6, oC (.ip gx1 [.str (t1.getD t5.toNat default)])), (8, oT)])] 4 (o5 h1 (Le.iptl (g := gx0) (eL_at (xs := t0) eStr_len (ixl h1))) h2 (Le.iptl (g := gx1) (eL_at (xs := t1) eStr_len (ixl h2))) (o1 (Le.tt h3))) h) fun h3 h =>
    z.j [(6, [(2, oC (.ip gx0 [.str (t0.getD t5.toNat default)])), (6, oC (.ip gx1 [.str (t1.getD t5.toNat default)])), (8, oF)])] 6 [0, 1, 5] [] (o5 h1 (Le.iptl (g := gx0) (eL_at (xs := t0) eStr_len (ixl h1))) h2 (Le.iptl (g := gx1) (eL_at (xs := t1) eStr_len (ixl h2))) (o1 (Le.ff h3))) (ih h)) fun h0 h =>
   z.r [(4, [(3, oF)])] 7 (o1 (Le.ff h0)) h
theorem c36 {N} (gx0 gx1 : Bool) {x0 x1 r} (h : L_law0_SameTexts N x0 x1 = some r) : Con Tryz.prog 36 [sS gx0 eStr x0, sS gx1 eStr x1] [] (d36 r) [] :=
 ci ok mix Tryz.f36 fun z =>
 br h (fun h0 h =>
  z.r [(1, [(4, oT)])] 8 (o1 (Le.tt h0)) h) fun h0 h =>
 z.j [(1, [(4, oF)])] 12 [0, 1, 5] [] (o1 (Le.ff h0)) (g36_1 gx0 gx1 z N h)
def L_law0_SameOut_1 (N : Nat) (t4 : Bool) : Option (Bool) :=
 some t4
def L_law0_SameOut (N : Nat) (x0 x1 : GOut) : Option (Bool) :=
 (L_law0_SameTexts N x0.Sent x1.Sent).bind fun v1 =>
 bif v1 then
  (L_law0_SameEvents N x0.Events x1.Events).bind fun v2 =>
  L_law0_SameOut_1 N v2
 else
  L_law0_SameOut_1 N false
def d24 (r : Bool) : D := .bool r
theorem g24_1 {N} (gx0 gx1 : Bool) {r} (z : Z Tryz.prog ty 24 Tryz.f24 (Fi [] (d24 r) [])) {t4} (h : L_law0_SameOut_1 N t4 = some r) : z.G [.c 7] [(4, .bool t4)] [] :=
 z.r [] 0 o0 h
theorem c24 {N} (gx0 gx1 : Bool) {x0 x1 r} (h : L_law0_SameOut N x0 x1 = some r) : Con Tryz.prog 24 [.agg [sS gx0 eStr x0.Sent, sS gx0 eEvent x0.Events], .agg [sS gx1 eStr x1.Sent, sS gx1 eEvent x1.Events]] [] (d24 r) [] :=
 ci ok mix Tryz.f24 fun z =>
 bd h fun v1 h0 h =>
 br h (fun h1 h =>
  bd h fun v2 h2 h =>
  z.j [(1, [(4, oR (d36 v1)), (5, oT), (10, oR (d83 v2))])] 4 [4] [] (o3 (c36 gx0 gx1 h0) (Le.tt h1) (c83 gx0 gx1 h2)) (g24_1 gx0 gx1 z h)) fun h1 h =>
 z.j [(1, [(4, oR (d36 v1)), (5, oF)])] 4 [4] [] (o2 (c36 gx0 gx1 h0) (Le.ff h1)) (g24_1 gx0 gx1 z h)
def L_law19_EdgeForms_3 (N : Nat) (t4 : Bool) : Option (Bool) :=
 some t4
def L_law19_EdgeForms_2 (N : Nat) (t5 b148_0 b148_1 : Int) (b148_2 : (List GSite)) (b148_3 : (List GHealth)) (b148_4 : (List GEntry)) (b164_0 b164_1 : Int) (b164_2 : (List GSite)) (b420 : (List GHealth)) (b421 : (List GEntry)) : Option (Bool) :=
 (L_law19_said N 1 0 ByteArray.empty).bind fun v1 =>
 (L_edge_Take N (GEdge.mk b164_0 (GConfig.mk b164_1 b164_2) b420 b421) 0 v1).bind fun v2 =>
 (L_law19_said N 1 0 ByteArray.empty).bind fun v3 =>
 (L_edge_Take N (GEdge.mk b148_0 (GConfig.mk b148_1 b148_2) b148_3 b148_4) (IntKind.i64.wrap ((1048576 : Int) + t5)) v3).bind fun v4 =>
 (L_law19_given N).bind fun v5 =>
 (L_edge_New N (IntKind.i64.wrap (0 - t5)) v5).bind fun v6 =>
 (L_edge_New N 0 (GConfig.mk (IntKind.i64.wrap (0 - t5)) ([]))).bind fun v7 =>
 (L_edge_May N (GEdge.mk b164_0 (GConfig.mk b164_1 b164_2) b420 b421)).bind fun v8 =>
 bif (!v8) then
  (L_edge_May N (GEdge.mk b148_0 (GConfig.mk b148_1 b148_2) b148_3 b148_4)).bind fun v9 =>
  bif v9 then
   (L_law0_SameEdge N v2.1 (GEdge.mk 0 (GConfig.mk 0 ([])) ([]) ([]))).bind fun v10 =>
   bif v10 then
    (L_law0_SameOut N v2.2.1 (GOut.mk ([]) ([]))).bind fun v11 =>
    bif v11 then
     (L_law0_Num N v2.2.2).bind fun v12 =>
     bif (v12 == 1900) then
      (L_law0_Num N v4.2.2).bind fun v13 =>
      bif (v13 == 1900) then
       (L_law0_Num N v6.2).bind fun v14 =>
       bif (v14 == 1900) then
        (L_law0_Num N v7.2).bind fun v15 =>
        L_law19_EdgeForms_3 N (v15 == 1900)
       else
        L_law19_EdgeForms_3 N false
      else
       L_law19_EdgeForms_3 N false
     else
      L_law19_EdgeForms_3 N false
    else
     L_law19_EdgeForms_3 N false
   else
    L_law19_EdgeForms_3 N false
  else
   L_law19_EdgeForms_3 N false
 else
  L_law19_EdgeForms_3 N false
def L_law19_EdgeForms_1 (N : Nat) (t0 t5 b148_0 b148_1 : Int) (b148_2 : (List GSite)) (b148_3 : (List GHealth)) (b148_4 : (List GEntry)) (t38 : Bool) : Option (Bool) :=
 bif t38 then
  some false
 else
  (L_law0_CopyEdge N (GEdge.mk b148_0 (GConfig.mk b148_1 b148_2) b148_3 b148_4)).bind fun v1 =>
  bif (((IntKind.u64.wrap t0).tmod 8) == 0) then
   L_law19_EdgeForms_2 N t5 b148_0 b148_1 b148_2 b148_3 b148_4 (IntKind.i64.wrap (0 - t5)) v1.Config.Version v1.Config.Sites v1.Health v1.Flows
  else
   bif (((IntKind.u64.wrap t0).tmod 8) == 1) then
    L_law19_EdgeForms_2 N t5 b148_0 b148_1 b148_2 b148_3 b148_4 (IntKind.i64.wrap ((1 : Int) + t5)) v1.Config.Version v1.Config.Sites v1.Health v1.Flows
   else
    bif (((IntKind.u64.wrap t0).tmod 8) == 2) then
     L_law19_EdgeForms_2 N t5 b148_0 b148_1 b148_2 b148_3 b148_4 v1.Id (IntKind.i64.wrap (0 - t5)) v1.Config.Sites v1.Health v1.Flows
    else
     bif (((IntKind.u64.wrap t0).tmod 8) == 3) then
      if 0 ≤ (2 : Int) ∧ (2 : Int) ≤ ((v1.Health.length : Nat) : Int) ∧ 0 ≤ (0 : Int) ∧ (0 : Int) ≤ (2 : Int) ∧ v1.Health.length ≤ v1.Health.length then
      L_law19_EdgeForms_2 N t5 b148_0 b148_1 b148_2 b148_3 b148_4 v1.Id v1.Config.Version v1.Config.Sites ((v1.Health.drop 0).take (Int.toNat ((2 : Int) - (0 : Int)))) v1.Flows
      else none
     else
      bif (((IntKind.u64.wrap t0).tmod 8) == 4) then
       if 0 ≤ (1 : Int) ∧ (1 : Int) < ((v1.Health.length : Nat) : Int) then
       L_law19_EdgeForms_2 N t5 b148_0 b148_1 b148_2 b148_3 b148_4 v1.Id v1.Config.Version v1.Config.Sites (v1.Health.set (Int.toNat 1) (GHealth.mk ((v1.Health.getD (Int.toNat 1) default).Up) 3)) v1.Flows
       else none
      else
       bif (((IntKind.u64.wrap t0).tmod 8) == 5) then
        L_law19_EdgeForms_2 N t5 b148_0 b148_1 b148_2 b148_3 b148_4 v1.Id v1.Config.Version v1.Config.Sites v1.Health ([(GEntry.mk (GFlow.mk 0 167772161 17 0 0) 0 true 0 0)])
       else
        bif (((IntKind.u64.wrap t0).tmod 8) == 6) then
         L_law19_EdgeForms_2 N t5 b148_0 b148_1 b148_2 b148_3 b148_4 v1.Id v1.Config.Version v1.Config.Sites v1.Health ([(GEntry.mk (GFlow.mk 0 167772161 17 0 0) 3 false 0 0)])
        else
         L_law19_EdgeForms_2 N t5 b148_0 b148_1 b148_2 b148_3 b148_4 v1.Id v1.Config.Version v1.Config.Sites v1.Health ([(GEntry.mk (GFlow.mk 0 167772161 17 0 0) 0 false 0 0), (GEntry.mk (GFlow.mk 0 167772161 17 0 0) 0 false 0 0)])
def L_law19_EdgeForms (N : Nat) (x0 x1 : Int) : Option (Bool) :=
 (L_law19_awake N).bind fun v1 =>
 bif (!v1) then
  some false
 else
  via ((IntKind.i64.wrap ((1 : Int) + (bAnd .i64 x1 1023))) : Int) fun v2 =>
  (L_law19_given N).bind fun v3 =>
  (L_edge_New N 0 v3).bind fun v4 =>
  (L_law0_Num N v4.2).bind fun v5 =>
  bif (v5 != 0) then
   L_law19_EdgeForms_1 N x0 v2 v4.1.Id v4.1.Config.Version v4.1.Config.Sites v4.1.Health v4.1.Flows true
  else
   L_law19_EdgeForms_1 N x0 v2 v4.1.Id v4.1.Config.Version v4.1.Config.Sites v4.1.Health v4.1.Flows ((v4.1.Health.length : Int) != 3)
def d5 (r : Bool) : D := .bool r
theorem g5_3 {N} {r} (z : Z Tryz.prog ty 5 Tryz.f5 (Fi [] (d5 r) [])) {t4} (h : L_law19_EdgeForms_3 N t4 = some r) : z.G [.c 16383] [(4, .bool t4)] [] :=
 z.r [] 0 o0 h
theorem g5_2 {N} {r} (z : Z Tryz.prog ty 5 Tryz.f5 (Fi [] (d5 r) [])) {t5 b148_0 b148_1 b148_2 b148_3 b148_4 b164_0 b164_1 b164_2 b420 b421} (h : L_law19_EdgeForms_2 N t5 b148_0 b148_1 b148_2 b148_3 b148_4 b164_0 b164_1 b164_2 b420 b421 = some r) : z.G [.b 0, .c 511] [(5, iI t5), (6, .ptr 148 0), (8, .ptr 164 0)] [qB 148 [iI b148_0, iI b148_1, sS true (eSite true) b148_2, sS true eHealth b148_3, sS true eEntry b148_4], qB 164 [iI b164_0, iI b164_1, sS true (eSite true) b164_2, rR 420 b420, rR 421 b421], pB 420 2 (eL eHealth b420), pB 421 9 (eL eEntry b421)] :=
 bd h fun v1 h0 h =>
 bd h fun v2 h1 h =>
 bd h fun v3 h2 h =>
 bd h fun v4 h3 h =>
 bd h fun v5 h4 h =>
 bd h fun v6 h5 h =>
 bd h fun v7 h6 h =>
 bd h fun v8 h7 h =>
 z.s [(25, [(1, oR (d35 v1)), (2, oR (d19 v2))]), (26, [(3, oR (d35 v3)), (4, oR (d19 v4))]), (27, [(2, oR (d34 v5)), (3, oR (d21 v6))]), (28, [(3, oR (d21 v7))])] 10 (o5 (c35 h0) ((c19 false h1).le ((.cons (Le.agg ((.cons (Le.rfl) (.cons (Le.rfl) (.cons (Le.loo (g := true) (xs := b164_2) (n := b164_2.length) (c := b164_2.length) (lo_Site true)) (.cons (Le.rfl) (.cons (Le.rfl) .nil))))))) (.cons (Le.rfl) (.cons (Le.rfl) .nil))))) (c35 h2) (c19 true h3) (o3 (c34 h4) (c21 true h5) ((c21 true h6).le ((.cons (Le.rfl) (.cons (Le.agg ((.cons (Le.rfl) (.cons (Le.nils) .nil)))) .nil)))))) <|
 br h (fun h8 h =>
  bd h fun v9 h9 h =>
  br h (fun h10 h =>
   bd h fun v10 h11 h =>
   br h (fun h12 h =>
    bd h fun v11 h13 h =>
    br h (fun h14 h =>
     bd h fun v12 h15 h =>
     br h (fun h16 h =>
      bd h fun v13 h17 h =>
      br h (fun h18 h =>
       bd h fun v14 h19 h =>
       br h (fun h20 h =>
        bd h fun v15 h21 h =>
        z.j [(29, [(1, oR (d26 v8)), (3, oT), (5, oR (d26 v9)), (7, oT), (10, oR (d23 v10)), (12, oT), (15, oR (d24 v11)), (17, oT), (19, oR (d25 v12)), (22, oT), (24, oR (d25 v13)), (27, oT), (29, oR (d25 v14)), (32, oT), (34, oR (d25 v15))])] 1 [4] [] (o5 ((c26 false h7).le ((.cons (Le.agg ((.cons (Le.rfl) (.cons (Le.rfl) (.cons (Le.loo (g := true) (xs := b164_2) (n := b164_2.length) (c := b164_2.length) (lo_Site true)) (.cons (Le.rfl) (.cons (Le.rfl) .nil))))))) .nil))) (Le.tt h8) (c26 true h9) (Le.tt h10) (o5 ((c23 true true h11).le ((.cons (Le.rfl) (.cons (Le.agg ((.cons (Le.rfl) (.cons (Le.rfl) (.cons (Le.nils) (.cons (Le.nils) (.cons (Le.nils) .nil))))))) .nil)))) (Le.tt h12) ((c24 true true h13).le ((.cons (Le.rfl) (.cons (Le.agg ((.cons (Le.nils) (.cons (Le.nils) .nil)))) .nil)))) (Le.tt h14) (o5 (c25 h15) (Le.tt h16) (c25 h17) (Le.tt h18) (o3 (c25 h19) (Le.tt h20) (c25 h21))))) (g5_3 z h)) fun h20 h =>
       z.j [(29, [(1, oR (d26 v8)), (3, oT), (5, oR (d26 v9)), (7, oT), (10, oR (d23 v10)), (12, oT), (15, oR (d24 v11)), (17, oT), (19, oR (d25 v12)), (22, oT), (24, oR (d25 v13)), (27, oT), (29, oR (d25 v14)), (32, oF)])] 1 [4] [] (o5 ((c26 false h7).le ((.cons (Le.agg ((.cons (Le.rfl) (.cons (Le.rfl) (.cons (Le.loo (g := true) (xs := b164_2) (n := b164_2.length) (c := b164_2.length) (lo_Site true)) (.cons (Le.rfl) (.cons (Le.rfl) .nil))))))) .nil))) (Le.tt h8) (c26 true h9) (Le.tt h10) (o5 ((c23 true true h11).le ((.cons (Le.rfl) (.cons (Le.agg ((.cons (Le.rfl) (.cons (Le.rfl) (.cons (Le.nils) (.cons (Le.nils) (.cons (Le.nils) .nil))))))) .nil)))) (Le.tt h12) ((c24 true true h13).le ((.cons (Le.rfl) (.cons (Le.agg ((.cons (Le.nils) (.cons (Le.nils) .nil)))) .nil)))) (Le.tt h14) (o5 (c25 h15) (Le.tt h16) (c25 h17) (Le.tt h18) (o2 (c25 h19) (Le.ff h20))))) (g5_3 z h)) fun h18 h =>
      z.j [(29, [(1, oR (d26 v8)), (3, oT), (5, oR (d26 v9)), (7, oT), (10, oR (d23 v10)), (12, oT), (15, oR (d24 v11)), (17, oT), (19, oR (d25 v12)), (22, oT), (24, oR (d25 v13)), (27, oF)])] 1 [4] [] (o5 ((c26 false h7).le ((.cons (Le.agg ((.cons (Le.rfl) (.cons (Le.rfl) (.cons (Le.loo (g := true) (xs := b164_2) (n := b164_2.length) (c := b164_2.length) (lo_Site true)) (.cons (Le.rfl) (.cons (Le.rfl) .nil))))))) .nil))) (Le.tt h8) (c26 true h9) (Le.tt h10) (o5 ((c23 true true h11).le ((.cons (Le.rfl) (.cons (Le.agg ((.cons (Le.rfl) (.cons (Le.rfl) (.cons (Le.nils) (.cons (Le.nils) (.cons (Le.nils) .nil))))))) .nil)))) (Le.tt h12) ((c24 true true h13).le ((.cons (Le.rfl) (.cons (Le.agg ((.cons (Le.nils) (.cons (Le.nils) .nil)))) .nil)))) (Le.tt h14) (o4 (c25 h15) (Le.tt h16) (c25 h17) (Le.ff h18)))) (g5_3 z h)) fun h16 h =>
     z.j [(29, [(1, oR (d26 v8)), (3, oT), (5, oR (d26 v9)), (7, oT), (10, oR (d23 v10)), (12, oT), (15, oR (d24 v11)), (17, oT), (19, oR (d25 v12)), (22, oF)])] 1 [4] [] (o5 ((c26 false h7).le ((.cons (Le.agg ((.cons (Le.rfl) (.cons (Le.rfl) (.cons (Le.loo (g := true) (xs := b164_2) (n := b164_2.length) (c := b164_2.length) (lo_Site true)) (.cons (Le.rfl) (.cons (Le.rfl) .nil))))))) .nil))) (Le.tt h8) (c26 true h9) (Le.tt h10) (o5 ((c23 true true h11).le ((.cons (Le.rfl) (.cons (Le.agg ((.cons (Le.rfl) (.cons (Le.rfl) (.cons (Le.nils) (.cons (Le.nils) (.cons (Le.nils) .nil))))))) .nil)))) (Le.tt h12) ((c24 true true h13).le ((.cons (Le.rfl) (.cons (Le.agg ((.cons (Le.nils) (.cons (Le.nils) .nil)))) .nil)))) (Le.tt h14) (o2 (c25 h15) (Le.ff h16)))) (g5_3 z h)) fun h14 h =>
    z.j [(29, [(1, oR (d26 v8)), (3, oT), (5, oR (d26 v9)), (7, oT), (10, oR (d23 v10)), (12, oT), (15, oR (d24 v11)), (17, oF)])] 1 [4] [] (o5 ((c26 false h7).le ((.cons (Le.agg ((.cons (Le.rfl) (.cons (Le.rfl) (.cons (Le.loo (g := true) (xs := b164_2) (n := b164_2.length) (c := b164_2.length) (lo_Site true)) (.cons (Le.rfl) (.cons (Le.rfl) .nil))))))) .nil))) (Le.tt h8) (c26 true h9) (Le.tt h10) (o4 ((c23 true true h11).le ((.cons (Le.rfl) (.cons (Le.agg ((.cons (Le.rfl) (.cons (Le.rfl) (.cons (Le.nils) (.cons (Le.nils) (.cons (Le.nils) .nil))))))) .nil)))) (Le.tt h12) ((c24 true true h13).le ((.cons (Le.rfl) (.cons (Le.agg ((.cons (Le.nils) (.cons (Le.nils) .nil)))) .nil)))) (Le.ff h14))) (g5_3 z h)) fun h12 h =>
   z.j [(29, [(1, oR (d26 v8)), (3, oT), (5, oR (d26 v9)), (7, oT), (10, oR (d23 v10)), (12, oF)])] 1 [4] [] (o5 ((c26 false h7).le ((.cons (Le.agg ((.cons (Le.rfl) (.cons (Le.rfl) (.cons (Le.loo (g := true) (xs := b164_2) (n := b164_2.length) (c := b164_2.length) (lo_Site true)) (.cons (Le.rfl) (.cons (Le.rfl) .nil))))))) .nil))) (Le.tt h8) (c26 true h9) (Le.tt h10) (o2 ((c23 true true h11).le ((.cons (Le.rfl) (.cons (Le.agg ((.cons (Le.rfl) (.cons (Le.rfl) (.cons (Le.nils) (.cons (Le.nils) (.cons (Le.nils) .nil))))))) .nil)))) (Le.ff h12))) (g5_3 z h)) fun h10 h =>
  z.j [(29, [(1, oR (d26 v8)), (3, oT), (5, oR (d26 v9)), (7, oF)])] 1 [4] [] (o4 ((c26 false h7).le ((.cons (Le.agg ((.cons (Le.rfl) (.cons (Le.rfl) (.cons (Le.loo (g := true) (xs := b164_2) (n := b164_2.length) (c := b164_2.length) (lo_Site true)) (.cons (Le.rfl) (.cons (Le.rfl) .nil))))))) .nil))) (Le.tt h8) (c26 true h9) (Le.ff h10)) (g5_3 z h)) fun h8 h =>
 z.j [(29, [(1, oR (d26 v8)), (3, oF)])] 1 [4] [] (o2 ((c26 false h7).le ((.cons (Le.agg ((.cons (Le.rfl) (.cons (Le.rfl) (.cons (Le.loo (g := true) (xs := b164_2) (n := b164_2.length) (c := b164_2.length) (lo_Site true)) (.cons (Le.rfl) (.cons (Le.rfl) .nil))))))) .nil))) (Le.ff h8)) (g5_3 z h)
theorem g5_1 {N} {r} (z : Z Tryz.prog ty 5 Tryz.f5 (Fi [] (d5 r) [])) {t0 t5 b148_0 b148_1 b148_2 b148_3 b148_4 t38} (h : L_law19_EdgeForms_1 N t0 t5 b148_0 b148_1 b148_2 b148_3 b148_4 t38 = some r) : z.G [.c 111, .c 63] [(0, iI t0), (5, iI t5), (6, .ptr 148 0), (38, .bool t38)] [qB 148 [iI b148_0, iI b148_1, sS true (eSite true) b148_2, sS true eHealth b148_3, sS true eEntry b148_4]] :=
 by
  cases t38 with
  | true => exact brT h fun h => (
   z.r [] 3 o0 h)
  | false => exact brF h fun h => (
   bd h fun v1 h1 h =>
   z.s [(7, [(1, { r := d18v1 v1, H := h18v1 v1 })])] 11 (o2 (c18v1 true h1) (by decide : (8:Int) ≠ 0)) <|
   br h (fun h2 h =>
    z.j [(11, [(1, oT)])] 3 [5, 6, 8] [(148, 148), (164, 164), (420, 420), (421, 421)] (o1 (Le.tt h2)) (g5_2 z h)) fun h2 h =>
   z.s [(11, [(1, oF)])] 3 (o1 (Le.ff h2)) <|
   br h (fun h3 h =>
    z.j [(13, [(1, oT)])] 3 [5, 6, 8] [(148, 148), (164, 164), (420, 420), (421, 421)] (o1 (Le.tt h3)) (g5_2 z h)) fun h3 h =>
   z.s [(13, [(1, oF)])] 3 (o1 (Le.ff h3)) <|
   br h (fun h4 h =>
    z.j [(15, [(1, oT)])] 3 [5, 6, 8] [(148, 148), (164, 164), (420, 420), (421, 421)] (o1 (Le.tt h4)) (g5_2 z h)) fun h4 h =>
   z.s [(15, [(1, oF)])] 3 (o1 (Le.ff h4)) <|
   br h (fun h5 h =>
    ck h fun h6 h =>
    z.jH [(17, [(1, oT)])] 3 [5, 6, 8] [(148, 148), (164, 164), (420, 420), (421, 421)] (o2 (Le.tt h5) h6) (.cons (Le.rfl) (.cons (Le.rfl) (.cons (Le.rfl) .nil))) (.same (.cons ((.cons (Le.rfl) (.cons (Le.rfl) (.cons (Le.rfl) (.cons (Le.rfc (b := 420) (by simp only [List.length_append, List.length_take, List.length_drop]; omega : (Int.toNat ((2 : Int) - (0 : Int))) = ((v1.Health.drop 0).take (Int.toNat ((2 : Int) - (0 : Int)))).length) (by simp only [List.length_append, List.length_take, List.length_drop]; omega : ((v1.Health.drop 0).take (Int.toNat ((2 : Int) - (0 : Int)))).length ≤ (v1.Health.length - (Int.toNat (0 : Int))))) (.cons (Le.rfl) .nil)))))) (.cut ((Int.toNat ((2 : Int) - (0 : Int))) * 2) (LeH.cutE eHealth_len v1.Health (Int.toNat ((2 : Int) - (0 : Int)))) (.same .nil)))) (g5_2 z h)) fun h5 h =>
   z.s [(17, [(1, oF)])] 3 (o1 (Le.ff h5)) <|
   br h (fun h6 h =>
    ck h fun h7 h =>
    z.jH [(19, [(1, oT)]), (20, [(2, oC (.ptr 420 ((Int.toNat 1) * 2 + 0))), (4, { cb := [(420, eL eHealth (v1.Health.set (Int.toNat 1) (GHealth.mk ((v1.Health.getD (Int.toNat 1) default).Up) 3)))] })])] 3 [5, 6, 8] [(148, 148), (164, 164), (420, 420), (421, 421)] (o5 (Le.tt h6) h7 (Le.pt (b := 420) (k := (Int.toNat 1) * 2)) (st_need (xs := v1.Health) eHealth_len (ixl h7) (o := 1) (k := 1) (vs := [iI 3]) (p := true) (by decide) rfl rfl) (o1 (st_set (xs := v1.Health) eHealth_len (ixl h7) (o := 1) (vs := [iI 3]) (y := (GHealth.mk ((v1.Health.getD (Int.toNat 1) default).Up) 3)) (Nat.le_of_ble_eq_true rfl) rfl))) (.cons (Le.rfl) (.cons (Le.rfl) (.cons (Le.rfl) .nil))) (.same (.cons ((.cons (Le.rfl) (.cons (Le.rfl) (.cons (Le.rfl) (.cons (Le.rfs (b := 420) (by first | rfl | omega | (simp only [List.length_append, List.length_take, List.length_drop]; omega) | simp : v1.Health.length = (v1.Health.set (Int.toNat 1) (GHealth.mk ((v1.Health.getD (Int.toNat 1) default).Up) 3)).length) (by first | rfl | omega | (simp only [List.length_append, List.length_take, List.length_drop]; omega) | simp : v1.Health.length = (v1.Health.set (Int.toNat 1) (GHealth.mk ((v1.Health.getD (Int.toNat 1) default).Up) 3)).length)) (.cons (Le.rfl) .nil)))))) (.same (.same .nil)))) (g5_2 z h)) fun h6 h =>
   z.s [(19, [(1, oF)])] 3 (o1 (Le.ff h6)) <|
   br h (fun h7 h =>
    z.j [(21, [(1, oT)])] 3 [5, 6, 8] [(148, 148), (164, 164), (420, 420), (764, 421)] (o1 (Le.tt h7)) (g5_2 z h)) fun h7 h =>
   z.s [(21, [(1, oF)])] 3 (o1 (Le.ff h7)) <|
   br h (fun h8 h =>
    z.j [(23, [(1, oT)])] 3 [5, 6, 8] [(148, 148), (164, 164), (420, 420), (812, 421)] (o1 (Le.tt h8)) (g5_2 z h)) fun h8 h =>
   z.j [(23, [(1, oF)])] 3 [5, 6, 8] [(148, 148), (164, 164), (420, 420), (492, 421)] (o1 (Le.ff h8)) (g5_2 z h))
theorem c5 {N} {x0 x1 r} (h : L_law19_EdgeForms N x0 x1 = some r) : Con Tryz.prog 5 [iI x0, iI x1] [] (d5 r) [] :=
 ci ok mix Tryz.f5 fun z =>
 bd h fun v1 h0 h =>
 br h (fun h1 h =>
  z.r [(1, [(0, oR (d30 v1)), (1, oT)])] 8 (o2 (c30 h0) (Le.tt h1)) h) fun h1 h =>
 vi h fun v2 h2 h =>
 bd h fun v3 h3 h =>
 bd h fun v4 h4 h =>
 bd h fun v5 h5 h =>
 z.s [(1, [(0, oR (d30 v1)), (1, oF)]), (3, [(2, oC (.int .i64 v2))]), (4, [(0, oR (d34 v3)), (1, oR (d21 v4))])] 13 (o5 (c30 h0) (Le.ff h1) (Le.int (k := .i64) h2) (c34 h3) (o1 (c21 true h4))) <|
 br h (fun h6 h =>
  z.j [(5, [(1, oR (d25 v5)), (3, oT)])] 1 [0, 5, 6, 38] [(148, 148)] (o2 (c25 h5) (Le.tt h6)) (g5_1 z h)) fun h6 h =>
 z.j [(5, [(1, oR (d25 v5)), (3, oF)])] 1 [0, 5, 6, 38] [(148, 148)] (o2 (c25 h5) (Le.ff h6)) (g5_1 z h)
def d123v4 (r : (List GHealth)) : D := rR 1000 r
def h123v4 (r : (List GHealth)) : List (Nat × Option Blk) := [pB 1000 2 (eL eHealth r)]
theorem c123v4 {N} {r} (h : L_slices_Clone_api_Health_api_Health N = some r) : Con Tryz.prog 123 [.nils] [] (d123v4 r) (h123v4 r) :=
 ci ok mix Tryz.f123 fun z =>
 z.rb [(2, [(0, { own := some (2) })])] 8 [(1000, 116)] (.ref 116 0 0 0) (o1 trivial) h (Le.of (by kernel_rfl))
def d123v5 (r : (List GHealth)) : D := rR 1000 r
def h123v5 (r : (List GHealth)) : List (Nat × Option Blk) := [pB 1000 2 (eL eHealth r)]
theorem c123v5 {N} {r} (h : L_slices_Clone_api_Health_api_Health N = some r) : Con Tryz.prog 123 [.e0] [] (d123v5 r) (h123v5 r) :=
 ci ok mix Tryz.f123 fun z =>
 z.rb [] 9 [(1000, 156)] (.ref 156 0 0 0) (o3 trivial (by decide : 0 * 2 ≤ 0) (show growOk 16 (0 + 0) from ⟨by decide, by decide⟩)) h (Le.of (by kernel_rfl))
def d123v6 (r : (List GHealth)) : D := rR 1000 r
def h123v6 (r : (List GHealth)) : List (Nat × Option Blk) := [pB 1000 2 (eL eHealth r)]
theorem c123v6 {N} (gx0 : Bool) {x0 r} (h : L_slices_Clone_api_Health_api_Health_v2 N x0 = some r) : Con Tryz.prog 123 [sS gx0 eHealth x0] [] (d123v6 r) (h123v6 r) :=
 ci ok mix Tryz.f123 fun z =>
 ck h fun h0 h =>
 ck h fun h1 h =>
 z.rb [(3, [(2, { cv := some (.ref 156 0 ([] ++ x0).length ([] ++ x0).length), cb := [(156, eL eHealth ([] ++ x0))] })])] 9 [(1000, 156)] (rR 156 ([] ++ x0)) (o5 h0 (Or.inr (eL_frees (fun _ => rfl) _) : gx0 = true ∨ frees (eL eHealth x0) = true) (ap_len (xs := x0) eHealth_len) (ap_len (xs := []) eHealth_len) (o3 h1 (Le.apr (b := 156) (by first | rfl | (simp only [List.length_append, List.length_take, List.length_drop]; omega) | simp : ([] ++ x0).length = 0 + x0.length)) (ap_all (xs := []) (ys := x0) eHealth_len))) h (Le.of (by kernel_rfl))
def d123c7 (r : (List GHealth)) : D := d123v6 r
def h123c7 (r : (List GHealth)) : List (Nat × Option Blk) := h123v6 r
theorem c123c7 {N} (gx0 : Bool) {x0 : (List GHealth)} {r : (List GHealth)} (h : L_slices_Clone_api_Health_api_Health_v3 N x0 = some r) : Con Tryz.prog 123 [sS gx0 eHealth x0] [] (d123c7 r) (h123c7 r) := by
  unfold L_slices_Clone_api_Health_api_Health_v3 at h
  split at h
  · rename_i e
    obtain rfl := List.eq_nil_of_length_eq_zero e
    exact Con.nilsplit (c123v4 (N := N) h) (c123v5 (N := N) h)
  · exact c123v6 gx0 h
def d76v1 (r : GConfig) : D := .agg [iI r.Version, rR 1000 r.Sites]
def h76v1 (r : GConfig) : List (Nat × Option Blk) := [pB 1000 4 (eL (eSite true) r.Sites)]
theorem g76v1_1 {N} (gx0 : Bool) {r} (z : Z Tryz.prog ty 76 Tryz.f76 (Fi [] (d76v1 r) (h76v1 r))) (fuel) : ∀ {b108_0 b108_1 b116_0 b124 t7 t8 t9}, L_conf_Copy_1 N fuel b108_0 b108_1 b116_0 b124 t7 t8 t9 = some r → z.G [.c 75, .l 75, .b 0, .c 15] [(1, .ptr 108 0), (2, .ptr 116 0), (3, rR 124 b124), (7, sS gx0 (eSite gx0) t7), (8, iI t8), (9, iI t9)] [qB 108 [iI b108_0, sS gx0 (eSite gx0) b108_1], qB 116 [iI b116_0, .nils], pB 124 4 (eL (eSite true) b124)] := by
 induction fuel with
 | zero => intro b108_0 b108_1 b116_0 b124 t7 t8 t9 h; cases h
 | succ fuel ih =>
  intro b108_0 b108_1 b116_0 b124 t7 t8 t9 h
  exact
   br h (fun h0 h =>
    ck h fun h1 h =>
    ck h fun h2 h =>
    ck h fun h3 h =>
    z.j [(3, [(0, oT)]), (4, [(0, oC (.ip gx0 [iI ((t7.getD t9.toNat default).Weight), .bool ((t7.getD t9.toNat default).Drain), iI ((t7.getD t9.toNat default).Cap), sS gx0 eBack ((t7.getD t9.toNat default).Backs)]))]), (5, [(2, { cb := [(220, (eL eBack ((t7.getD t9.toNat default).Backs)))] })]), (6, [(1, { frz := true }), (3, { cv := some (.ref 260 0 (b124 ++ [(t7.getD t9.toNat default)]).length (b124 ++ [(t7.getD t9.toNat default)]).length), cb := [(260, eL (eSite true) (b124 ++ [(t7.getD t9.toNat default)]))] })])] 15 [1, 2, 3, 7, 8, 9] [(108, 108), (116, 116), (260, 124)] (o5 (Le.tt h0) h1 (Le.iptl (g := gx0) (eL_at (xs := t7) (eSite_len gx0) (ixl h1))) (Or.inr (eL_frees (fun _ => rfl) _) : gx0 = true ∨ frees (eL eBack ((t7.getD t9.toNat default).Backs)) = true) (o5 (ap_len (xs := (t7.getD t9.toNat default).Backs) eBack_len) h2 (eL_all (e := eBack) eBack_len ((t7.getD t9.toNat default).Backs)) (by decide : 1 * 4 ≤ 4) (o4 (ap_len (xs := b124) (eSite_len true)) h3 (Le.apr (b := 260) (by first | rfl | (simp only [List.length_append, List.length_take, List.length_drop]; omega) | simp : (b124 ++ [(t7.getD t9.toNat default)]).length = b124.length + 1)) (ap_one (xs := b124) (eSite_len true) (y := (t7.getD t9.toNat default)) (cs := [iI ((t7.getD t9.toNat default).Weight), .bool ((t7.getD t9.toNat default).Drain), iI ((t7.getD t9.toNat default).Cap), sS true eBack ((t7.getD t9.toNat default).Backs)]) rfl)))) (ih h)) fun h0 h =>
   z.rb [(3, [(0, oF)]), (9, [(0, { own := some (0) })])] 9 [(1000, 124)] (.agg [iI b108_0, rR 124 b124]) (o1 (Le.ff h0)) h (Le.of (by kernel_rfl))
theorem c76v1 {N} (gx0 : Bool) {x0 r} (h : L_conf_Copy N x0 = some r) : Con Tryz.prog 76 [.agg [iI x0.Version, sS gx0 (eSite gx0) x0.Sites]] [] (d76v1 r) (h76v1 r) :=
 ci ok mix Tryz.f76 fun z =>
 z.j [(1, [(0, { own := some (4) })])] 9 [1, 2, 3, 7, 8, 9] [(108, 108), (116, 116), (124, 124)] o0 (g76v1_1 gx0 z N h)
def d60v3 (r : GEdge) : D := .agg [iI r.Id, iI r.Config.Version, rR 1000 r.Config.Sites, rR 1001 r.Health, sS true eEntry r.Flows]
def h60v3 (r : GEdge) : List (Nat × Option Blk) := [pB 1000 4 (eL (eSite true) r.Config.Sites), pB 1001 2 (eL eHealth r.Health)]
theorem c60v3 {N} (gx0 : Bool) {x0 r} (h : L_edge_Copy N x0 = some r) : Con Tryz.prog 60 [.agg [iI x0.Id, iI x0.Config.Version, sS gx0 (eSite gx0) x0.Config.Sites, sS gx0 eHealth x0.Health, sS gx0 eEntry x0.Flows]] [] (d60v3 r) (h60v3 r) :=
 ci ok mix Tryz.f60 fun z =>
 bd h fun v1 h0 h =>
 bd h fun v2 h1 h =>
 bd h fun v3 h2 h =>
 z.rb [(1, [(2, { r := d76v1 v1, H := h76v1 v1 }), (5, { r := d123c7 v2, H := h123c7 v2 }), (8, oR (d124c3 v3))])] 6 [(1000, 140), (1001, 164)] (.agg [iI x0.Id, iI v1.Version, rR 140 v1.Sites, rR 164 v2, sS true eEntry v3]) (o3 (c76v1 gx0 h0) (c123c7 gx0 h1) (c124c3 gx0 h2)) h (Le.of (by kernel_rfl))
def d109v1 (r : GSite × Bool) : D := .tup [.agg [iI r.1.Weight, .bool r.1.Drain, iI r.1.Cap, sS true eBack r.1.Backs], .bool r.2]
theorem g109v1_1 {N} (gx0 : Bool) {r} (z : Z Tryz.prog ty 109 Tryz.f109 (Fi [] (d109v1 r) [])) {t0 t1 b132_0 b132_1 b132_2 t16} (h : L_conf_Site_1 N t0 t1 b132_0 b132_1 b132_2 t16 = some r) : z.G [.c 13, .c 7] [(0, .ip gx0 [iI t0.Version, sS gx0 (eSite true) t0.Sites]), (1, iI t1), (4, .ptr 132 0), (16, .bool t16)] [qB 132 [iI b132_0, .bool b132_1, iI b132_2, .nils]] :=
 by
  cases t16 with
  | true => exact brT h fun h => (
   z.rl [] 3 (.tup [.agg [iI 0, .bool false, iI 0, .nils], .bool false]) o0 h (Le.tup ((.cons (Le.agg ((.cons (Le.of rfl) (.cons (Le.of rfl) (.cons (Le.of rfl) (.cons (Le.nils (g := true)) .nil)))))) (.cons (Le.of rfl) .nil)))))
  | false => exact brF h fun h => (
   ck h fun h1 h =>
   z.r [(3, [(5, oC (.ip gx0 [iI ((t0.Sites.getD t1.toNat default).Weight), .bool ((t0.Sites.getD t1.toNat default).Drain), iI ((t0.Sites.getD t1.toNat default).Cap), sS true eBack ((t0.Sites.getD t1.toNat default).Backs)]))])] 4 (o2 h1 (Le.iptl (g := gx0) (eL_at (xs := t0.Sites) (eSite_len true) (ixl h1)))) h)
theorem c109v1 {N} (gx0 : Bool) {x0 x1 r} (h : L_conf_Site N x0 x1 = some r) : Con Tryz.prog 109 [.ip gx0 [iI x0.Version, sS gx0 (eSite true) x0.Sites], iI x1] [] (d109v1 r) [] :=
 ci ok mix Tryz.f109 fun z =>
 br h (fun h0 h =>
  z.j [(1, [(2, oT)])] 5 [0, 1, 4, 16] [(132, 132)] (o1 (Le.tt h0)) (g109v1_1 gx0 z h)) fun h0 h =>
 z.j [(1, [(2, oF)])] 5 [0, 1, 4, 16] [(132, 132)] (o1 (Le.ff h0)) (g109v1_1 gx0 z h)
def d130v1 (r : Bool) : D := .bool r
theorem g130v1_1 {N} (gx0 : Bool) {r} (z : Z Tryz.prog ty 130 Tryz.f130 (Fi [] (d130v1 r) [])) {t6} (h : L_conf_Has_1 N t6 = some r) : z.G [.c 15] [(6, .bool t6)] [] :=
 z.r [] 0 o0 h
theorem c130v1 {N} (gx0 : Bool) {x0 x1 x2 r} (h : L_conf_Has N x0 x1 x2 = some r) : Con Tryz.prog 130 [.agg [iI x0.Version, sS gx0 (eSite true) x0.Sites], iI x1, iI x2] [] (d130v1 r) [] :=
 ci ok mix Tryz.f130 fun z =>
 bd h fun v1 h0 h =>
 bd h fun v2 h1 h =>
 z.s [(1, [(1, oR (d109v1 v1))])] 5 (o1 ((c109v1 false h0).le ((.cons (Le.ipl ((.cons (Le.rfl) (.cons (Le.lnd (g := gx0) (cs := (eL (eSite true) x0.Sites)) (n := x0.Sites.length) (c := x0.Sites.length)) .nil)))) (.cons (Le.rfl) .nil))))) <|
 br h (fun h2 h =>
  br h (fun h3 h =>
   br h (fun h4 h =>
    z.j [(2, [(1, oR (d85 v2)), (2, oT), (5, oT), (8, oT)])] 1 [6] [] (o4 ((c85 false h1).le ((.cons (Le.agg ((.cons (Le.rfl) (.cons (Le.loo (g := gx0) (xs := x0.Sites) (n := x0.Sites.length) (c := x0.Sites.length) (lo_Site true)) .nil)))) .nil))) (Le.tt h2) (Le.tt h3) (Le.tt h4)) (g130v1_1 gx0 z h)) fun h4 h =>
   br h (fun h5 h =>
    z.j [(2, [(1, oR (d85 v2)), (2, oT), (5, oT), (8, oF), (11, oT)])] 1 [6] [] (o5 ((c85 false h1).le ((.cons (Le.agg ((.cons (Le.rfl) (.cons (Le.loo (g := gx0) (xs := x0.Sites) (n := x0.Sites.length) (c := x0.Sites.length) (lo_Site true)) .nil)))) .nil))) (Le.tt h2) (Le.tt h3) (Le.ff h4) (o1 (Le.tt h5))) (g130v1_1 gx0 z h)) fun h5 h =>
   z.j [(2, [(1, oR (d85 v2)), (2, oT), (5, oT), (8, oF), (11, oF)])] 1 [6] [] (o5 ((c85 false h1).le ((.cons (Le.agg ((.cons (Le.rfl) (.cons (Le.loo (g := gx0) (xs := x0.Sites) (n := x0.Sites.length) (c := x0.Sites.length) (lo_Site true)) .nil)))) .nil))) (Le.tt h2) (Le.tt h3) (Le.ff h4) (o1 (Le.ff h5))) (g130v1_1 gx0 z h)) fun h3 h =>
  z.j [(2, [(1, oR (d85 v2)), (2, oT), (5, oF)])] 1 [6] [] (o3 ((c85 false h1).le ((.cons (Le.agg ((.cons (Le.rfl) (.cons (Le.loo (g := gx0) (xs := x0.Sites) (n := x0.Sites.length) (c := x0.Sites.length) (lo_Site true)) .nil)))) .nil))) (Le.tt h2) (Le.ff h3)) (g130v1_1 gx0 z h)) fun h2 h =>
 z.j [(2, [(1, oR (d85 v2)), (2, oF)])] 1 [6] [] (o2 ((c85 false h1).le ((.cons (Le.agg ((.cons (Le.rfl) (.cons (Le.loo (g := gx0) (xs := x0.Sites) (n := x0.Sites.length) (c := x0.Sites.length) (lo_Site true)) .nil)))) .nil))) (Le.ff h2)) (g130v1_1 gx0 z h)
def d64v2 (r : GEntry × Bool) : D := .tup [.agg [iI r.1.Flow.Src, iI r.1.Flow.Dst, iI r.1.Flow.Proto, iI r.1.Flow.Sport, iI r.1.Flow.Dport, iI r.1.To, .bool r.1.Away, iI r.1.Phase, iI r.1.Used], .bool r.2]
theorem g64v2_1 {N} (gx0 : Bool) {r} (z : Z Tryz.prog ty 64 Tryz.f64 (Fi [] (d64v2 r) [])) {t0 b140_0 b140_1 b140_2 b140_3 b140_4 b148_0 b148_1 b148_2 b148_3 b148_4 b148_5 b148_6 b148_7 b148_8 b164_0 b164_1 b164_2 b164_3 b164_4 b164_5 b164_6 b164_7 b164_8 t44} (h : L_edge_pinned_1 N t0 b140_0 b140_1 b140_2 b140_3 b140_4 b148_0 b148_1 b148_2 b148_3 b148_4 b148_5 b148_6 b148_7 b148_8 b164_0 b164_1 b164_2 b164_3 b164_4 b164_5 b164_6 b164_7 b164_8 t44 = some r) : z.G [.c 27, .c 15] [(0, .ip gx0 [iI t0.Id, iI t0.Config.Version, sS gx0 (eSite true) t0.Config.Sites, sS gx0 eHealth t0.Health, sS true eEntry t0.Flows]), (5, .ptr 140 0), (6, .ptr 148 0), (8, .ptr 164 0), (44, .bool t44)] [qB 140 [iI b140_0, iI b140_1, iI b140_2, iI b140_3, iI b140_4], qB 148 [iI b148_0, iI b148_1, iI b148_2, iI b148_3, iI b148_4, iI b148_5, .bool b148_6, iI b148_7, iI b148_8], qB 164 [iI b164_0, iI b164_1, iI b164_2, iI b164_3, iI b164_4, iI b164_5, .bool b164_6, iI b164_7, iI b164_8]] :=
 by
  cases t44 with
  | true => exact brT h fun h => (
   z.r [] 3 o0 h)
  | false => exact brF h fun h => (
   bd h fun v1 h1 h =>
   bd h fun v2 h2 h =>
   z.r [(4, [(8, oR (d131 v1))]), (5, [(2, oR (d132 v2))])] 8 (o2 ((c131 false gx0 h1).le ((.cons (Le.agg ((.cons (Le.rfl) (.cons (Le.loo (g := gx0) (xs := t0.Config.Sites) (n := t0.Config.Sites.length) (c := t0.Config.Sites.length) (lo_Site true)) .nil)))) (.cons (Le.rfl) .nil)))) (c132 true h2)) h)
theorem c64v2 {N} (gx0 : Bool) {x0 x1 x2 r} (h : L_edge_pinned N x0 x1 x2 = some r) : Con Tryz.prog 64 [.ip gx0 [iI x0.Id, iI x0.Config.Version, sS gx0 (eSite true) x0.Config.Sites, sS gx0 eHealth x0.Health, sS true eEntry x0.Flows], iI x1, .agg [iI x2.Src, iI x2.Dst, iI x2.Proto, iI x2.Sport, iI x2.Dport]] [] (d64v2 r) [] :=
 ci ok mix Tryz.f64 fun z =>
 bd h fun v1 h0 h =>
 z.s [(1, [(6, oR (d129 v1))])] 6 (o1 (c129 true h0)) <|
 br h (fun h1 h =>
  bd h fun v2 h2 h =>
  br h (fun h3 h =>
   ck h fun h4 h =>
   z.j [(2, [(1, oT), (8, oR (d130v1 v2)), (10, oT), (17, oC (.ip gx0 [.bool ((x0.Health.getD v1.1.To.toNat default).Up), iI ((x0.Health.getD v1.1.To.toNat default).Count)]))])] 1 [0, 5, 6, 8, 44] [(140, 140), (148, 148), (164, 164)] (o5 (Le.tt h1) (c130v1 gx0 h2) (Le.tt h3) h4 (o1 (Le.iptl (g := gx0) (eL_at (xs := x0.Health) eHealth_len (ixl h4))))) (g64v2_1 gx0 z h)) fun h3 h =>
  z.j [(2, [(1, oT), (8, oR (d130v1 v2)), (10, oF)])] 1 [0, 5, 6, 8, 44] [(140, 140), (148, 148), (164, 164)] (o3 (Le.tt h1) (c130v1 gx0 h2) (Le.ff h3)) (g64v2_1 gx0 z h)) fun h1 h =>
 z.j [(2, [(1, oF)])] 1 [0, 5, 6, 8, 44] [(140, 140), (148, 148), (164, 164)] (o1 (Le.ff h1)) (g64v2_1 gx0 z h)
def d19v2 (r : GEdge × GOut × Int) : D := .tup [.agg [iI r.1.Id, iI r.1.Config.Version, rR 1000 r.1.Config.Sites, rR 1001 r.1.Health, sS true eEntry r.1.Flows], .agg [sS true eStr r.2.1.Sent, sS true eEvent r.2.1.Events], iI r.2.2]
def h19v2 (r : GEdge × GOut × Int) : List (Nat × Option Blk) := [pB 1000 4 (eL (eSite true) r.1.Config.Sites), pB 1001 2 (eL eHealth r.1.Health)]
theorem g19v2_1 {N} (gx0 : Bool) {r} (z : Z Tryz.prog ty 19 Tryz.f19 (Fi [] (d19v2 r) (h19v2 r))) {t1 t2 b124_0 b124_1 b124_2 b124_3 b124_4 b148_0 b148_1 t24} (h : L_edge_Take_1 N t1 t2 b124_0 b124_1 b124_2 b124_3 b124_4 b148_0 b148_1 t24 = some r) : z.G [.c 13, .c 7] [(1, iI t1), (2, .str t2), (3, .ptr 124 0), (6, .ptr 148 0), (7, .ptr 156 0), (24, .bool t24)] [qB 124 [iI b124_0, iI b124_1, sS gx0 (eSite gx0) b124_2, sS gx0 eHealth b124_3, sS gx0 eEntry b124_4], qB 148 [iI b148_0, iI b148_1, .nils, .nils, .nils], qB 156 [.nils, .nils]] :=
 by
  cases t24 with
  | true => exact brT h fun h => (
   z.rb [(2, [(0, { own := some (2004) })])] 3 [(1000, 300), (1001, 301)] (.tup [.agg [iI 0, iI 0, .ref 300 0 0 0, .ref 301 0 0 0, .nils], .agg [.nils, .nils], iI 1900]) o0 h (Le.ofEq (Le.tup ((.cons (Le.agg ((.cons (Le.of rfl) (.cons (Le.of rfl) (.cons (Le.of rfl) (.cons (Le.of rfl) (.cons (Le.nils (g := true)) .nil))))))) (.cons (Le.agg ((.cons (Le.nils (g := true)) (.cons (Le.nils (g := true)) .nil)))) (.cons (Le.of rfl) .nil))))) (by kernel_rfl)))
  | false => exact brF h fun h => (
   bd h fun v1 h1 h =>
   bd h fun v2 h2 h =>
   z.s [(3, [(1, { r := d60v3 v1, H := h60v3 v1 })]), (5, [(1, oR (d61 v2))])] 10 (o2 (c60v3 gx0 h1) (c61 h2)) <|
   br h (fun h3 h =>
    bd h fun v3 h4 h =>
    bd h fun v4 h5 h =>
    z.rb [(6, [(1, oT)]), (7, [(3, oR (d63 v3)), (5, oR (d62 v4))])] 4 [(1000, 324), (1001, 325)] (.tup [.agg [iI v1.Id, iI v1.Config.Version, rR 324 v1.Config.Sites, rR 325 v1.Health, sS true eEntry v1.Flows], .agg [sS true eStr v4.Sent, sS true eEvent v4.Events], iI 0]) (o3 (Le.tt h3) (c63 h4) (c62 h5)) h (Le.of (by kernel_rfl))) fun h3 h =>
   bd h fun v3 h4 h =>
   z.s [(6, [(1, oF)]), (8, [(2, oR (d64v2 v3))])] 7 (o2 (Le.ff h3) (c64v2 false h4)) <|
   br h (fun h5 h =>
    bd h fun v4 h6 h =>
    z.rb [(9, [(1, oT)]), (10, [(3, oR (d62 v4))])] 4 [(1000, 324), (1001, 325)] (.tup [.agg [iI v1.Id, iI v1.Config.Version, rR 324 v1.Config.Sites, rR 325 v1.Health, sS true eEntry v1.Flows], .agg [sS true eStr v4.Sent, sS true eEvent v4.Events], iI 0]) (o2 (Le.tt h5) (c62 h6)) h (Le.of (by kernel_rfl))) fun h5 h =>
   bd h fun v4 h6 h =>
   bd h fun v5 h7 h =>
   bd h fun v6 h8 h =>
   z.rb [(9, [(1, oF)]), (12, [(2, oR (d65 v4))]), (13, [(2, oR (d65 v5))]), (15, [(8, oR (d66 v6))])] 15 [(1000, 324), (1001, 325)] (.tup [.agg [iI v1.Id, iI v1.Config.Version, rR 324 v1.Config.Sites, rR 325 v1.Health, sS true eEntry v6.1], .agg [sS true eStr v6.2.Sent, sS true eEvent v6.2.Events], iI 0]) (o4 (Le.ff h5) (c65 h6) (c65 h7) (c66 h8)) h (Le.of (by kernel_rfl)))
theorem c19v2 {N} (gx0 : Bool) {x0 x1 x2 r} (h : L_edge_Take N x0 x1 x2 = some r) : Con Tryz.prog 19 [.agg [iI x0.Id, iI x0.Config.Version, sS gx0 (eSite gx0) x0.Config.Sites, sS gx0 eHealth x0.Health, sS gx0 eEntry x0.Flows], iI x1, .str x2] [] (d19v2 r) (h19v2 r) :=
 ci ok mix Tryz.f19 fun z =>
 bd h fun v1 h0 h =>
 br h (fun h1 h =>
  z.j [(1, [(1, oR (d26 v1)), (3, oT)])] 5 [1, 2, 3, 6, 7, 24] [(124, 124), (148, 148), (156, 156)] (o2 (c26 gx0 h0) (Le.tt h1)) (g19v2_1 gx0 z h)) fun h1 h =>
 bd h fun v2 h2 h =>
 z.j [(1, [(1, oR (d26 v1)), (3, oF), (5, oR (d59 v2))])] 5 [1, 2, 3, 6, 7, 24] [(124, 124), (148, 148), (156, 156)] (o3 (c26 gx0 h0) (Le.ff h1) (c59 h2)) (g19v2_1 gx0 z h)
def L_law19_EdgeMoves_5 (N : Nat) (t4 : Bool) : Option (Bool) :=
 some t4
def L_law19_EdgeMoves_4 (N : Nat) (t7 : ByteArray) (t10 b196_0 b196_1 : Int) (b700 : (List GSite)) (b701 : (List GHealth)) (b196_4 : (List GEntry)) : Option (Bool) :=
 (L_edge_Take N (GEdge.mk b196_0 (GConfig.mk b196_1 b700) b701 b196_4) 3 t7).bind fun v1 =>
 (L_law0_Num N v1.2.2).bind fun v2 =>
 bif (v2 == 0) then
  bif ((v1.1.Flows.length : Int) == 1) then
   if 0 ≤ (0 : Int) ∧ (0 : Int) < ((v1.1.Flows.length : Nat) : Int) then
   L_law19_EdgeMoves_5 N ((v1.1.Flows.getD (Int.toNat 0) default).To == (IntKind.i64.wrap ((1 : Int) - t10)))
   else none
  else
   L_law19_EdgeMoves_5 N false
 else
  L_law19_EdgeMoves_5 N false
def L_law19_EdgeMoves_3 (N : Nat) (t1 : Bool) (t7 : ByteArray) (t10 b196_0 b196_1 : Int) (b700 : (List GSite)) (b701 : (List GHealth)) (b196_4 : (List GEntry)) (t116 : Bool) : Option (Bool) :=
 bif t116 then
  some false
 else
  if 0 ≤ t10 ∧ t10 < ((b701.length : Nat) : Int) then
  bif t1 then
   if 0 ≤ t10 ∧ t10 < ((b700.length : Nat) : Int) then
   L_law19_EdgeMoves_4 N t7 t10 b196_0 b196_1 (b700.set t10.toNat (GSite.mk 16 ((b700.getD t10.toNat default).Drain) ((b700.getD t10.toNat default).Cap) ((b700.getD t10.toNat default).Backs))) (b701.set t10.toNat (GHealth.mk true 0)) b196_4
   else none
  else
   L_law19_EdgeMoves_4 N t7 t10 b196_0 b196_1 b700 (b701.set t10.toNat (GHealth.mk true 0)) b196_4
  else none
def L_law19_EdgeMoves_2 (N : Nat) (t1 : Bool) (b140_0 b140_1 : Int) (b140_2 : (List GSite)) (b140_3 : (List GHealth)) (b140_4 : (List GEntry)) (t7 : ByteArray) (t10 : Int) (t64 : Bool) : Option (Bool) :=
 bif t64 then
  some false
 else
  (L_law0_CopyEdge N (GEdge.mk b140_0 (GConfig.mk b140_1 b140_2) b140_3 b140_4)).bind fun v1 =>
  if 0 ≤ t10 ∧ t10 < ((v1.Health.length : Nat) : Int) then
  (L_edge_Take N (GEdge.mk v1.Id v1.Config (v1.Health.set t10.toNat (GHealth.mk false 0)) v1.Flows) 2 t7).bind fun v2 =>
  (L_law0_Num N v2.2.2).bind fun v3 =>
  bif (v3 != 0) then
   L_law19_EdgeMoves_3 N t1 t7 t10 v2.1.Id v2.1.Config.Version v2.1.Config.Sites v2.1.Health v2.1.Flows true
  else
   bif ((v2.1.Flows.length : Int) != 1) then
    L_law19_EdgeMoves_3 N t1 t7 t10 v2.1.Id v2.1.Config.Version v2.1.Config.Sites v2.1.Health v2.1.Flows true
   else
    bif ((v2.2.1.Sent.length : Int) != 1) then
     L_law19_EdgeMoves_3 N t1 t7 t10 v2.1.Id v2.1.Config.Version v2.1.Config.Sites v2.1.Health v2.1.Flows true
    else
     if 0 ≤ (0 : Int) ∧ (0 : Int) < ((v2.1.Flows.length : Nat) : Int) then
     bif ((v2.1.Flows.getD (Int.toNat 0) default).To != (IntKind.i64.wrap ((1 : Int) - t10))) then
      L_law19_EdgeMoves_3 N t1 t7 t10 v2.1.Id v2.1.Config.Version v2.1.Config.Sites v2.1.Health v2.1.Flows true
     else
      bif ((v2.1.Health.length : Int) != 3) then
       L_law19_EdgeMoves_3 N t1 t7 t10 v2.1.Id v2.1.Config.Version v2.1.Config.Sites v2.1.Health v2.1.Flows true
      else
       L_law19_EdgeMoves_3 N t1 t7 t10 v2.1.Id v2.1.Config.Version v2.1.Config.Sites v2.1.Health v2.1.Flows ((v2.1.Config.Sites.length : Int) != 2)
     else none
  else none
def L_law19_EdgeMoves_1 (N : Nat) (t1 : Bool) (b140_0 b140_1 : Int) (b140_2 : (List GSite)) (b140_3 : (List GHealth)) (b140_4 : (List GEntry)) (t7 : ByteArray) (t53 : Bool) : Option (Bool) :=
 bif t53 then
  some false
 else
  if 0 ≤ (0 : Int) ∧ (0 : Int) < ((b140_4.length : Nat) : Int) then
  bif (decide ((b140_4.getD (Int.toNat 0) default).To < 0)) then
   L_law19_EdgeMoves_2 N t1 b140_0 b140_1 b140_2 b140_3 b140_4 t7 ((b140_4.getD (Int.toNat 0) default).To) true
  else
   L_law19_EdgeMoves_2 N t1 b140_0 b140_1 b140_2 b140_3 b140_4 t7 ((b140_4.getD (Int.toNat 0) default).To) (decide ((b140_4.getD (Int.toNat 0) default).To > 1))
  else none
def L_law19_EdgeMoves (N : Nat) (x0 : Int) (x1 : Bool) : Option (Bool) :=
 (L_law19_awake N).bind fun v1 =>
 bif (!v1) then
  some false
 else
  (L_law19_given N).bind fun v2 =>
  (L_edge_New N 0 v2).bind fun v3 =>
  (L_law19_said N x0 2 (ByteArray.mk #[109])).bind fun v4 =>
  (L_edge_Take N v3.1 1 v4).bind fun v5 =>
  (L_law0_Num N v3.2).bind fun v6 =>
  bif (v6 != 0) then
   L_law19_EdgeMoves_1 N x1 v5.1.Id v5.1.Config.Version v5.1.Config.Sites v5.1.Health v5.1.Flows v4 true
  else
   (L_law0_Num N v5.2.2).bind fun v7 =>
   bif (v7 != 0) then
    L_law19_EdgeMoves_1 N x1 v5.1.Id v5.1.Config.Version v5.1.Config.Sites v5.1.Health v5.1.Flows v4 true
   else
    bif ((v5.1.Flows.length : Int) != 1) then
     L_law19_EdgeMoves_1 N x1 v5.1.Id v5.1.Config.Version v5.1.Config.Sites v5.1.Health v5.1.Flows v4 true
    else
     L_law19_EdgeMoves_1 N x1 v5.1.Id v5.1.Config.Version v5.1.Config.Sites v5.1.Health v5.1.Flows v4 ((v5.1.Health.length : Int) != 3)
def d7 (r : Bool) : D := .bool r
theorem g7_5 {N} {r} (z : Z Tryz.prog ty 7 Tryz.f7 (Fi [] (d7 r) [])) {t4} (h : L_law19_EdgeMoves_5 N t4 = some r) : z.G [.c 131071] [(4, .bool t4)] [] :=
 z.r [] 0 o0 h
theorem g7_4 {N} {r} (z : Z Tryz.prog ty 7 Tryz.f7 (Fi [] (d7 r) [])) {t7 t10 b196_0 b196_1 b700 b701 b196_4} (h : L_law19_EdgeMoves_4 N t7 t10 b196_0 b196_1 b700 b701 b196_4 = some r) : z.G [.c 32767] [(7, .str t7), (10, iI t10), (12, .ptr 196 0)] [qB 196 [iI b196_0, iI b196_1, rR 700 b700, rR 701 b701, sS true eEntry b196_4], pB 700 4 (eL (eSite true) b700), pB 701 2 (eL eHealth b701)] :=
 bd h fun v1 h0 h =>
 bd h fun v2 h1 h =>
 z.s [(19, [(2, oR (d19 v1))])] 3 (o1 ((c19 false h0).le ((.cons (Le.agg ((.cons (Le.rfl) (.cons (Le.rfl) (.cons (Le.loo (g := false) (xs := b700) (n := b700.length) (c := b700.length) (lo_Site true)) (.cons (Le.rfl) (.cons (Le.lnd (g := true) (cs := (eL eEntry b196_4)) (n := b196_4.length) (c := b196_4.length)) .nil))))))) (.cons (Le.rfl) (.cons (Le.rfl) .nil)))))) <|
 br h (fun h2 h =>
  br h (fun h3 h =>
   ck h fun h4 h =>
   z.j [(20, [(1, oR (d25 v2)), (3, oT), (9, oT), (12, oC (.ip true [iI (((v1.1.Flows.getD (Int.toNat 0) default).Flow).Src), iI (((v1.1.Flows.getD (Int.toNat 0) default).Flow).Dst), iI (((v1.1.Flows.getD (Int.toNat 0) default).Flow).Proto), iI (((v1.1.Flows.getD (Int.toNat 0) default).Flow).Sport), iI (((v1.1.Flows.getD (Int.toNat 0) default).Flow).Dport), iI ((v1.1.Flows.getD (Int.toNat 0) default).To), .bool ((v1.1.Flows.getD (Int.toNat 0) default).Away), iI ((v1.1.Flows.getD (Int.toNat 0) default).Phase), iI ((v1.1.Flows.getD (Int.toNat 0) default).Used)]))])] 1 [4] [] (o5 (c25 h1) (Le.tt h2) (Le.tt h3) h4 (o1 (Le.iptl (g := true) (eL_at (xs := v1.1.Flows) eEntry_len (ixl h4))))) (g7_5 z h)) fun h3 h =>
  z.j [(20, [(1, oR (d25 v2)), (3, oT), (9, oF)])] 1 [4] [] (o3 (c25 h1) (Le.tt h2) (Le.ff h3)) (g7_5 z h)) fun h2 h =>
 z.j [(20, [(1, oR (d25 v2)), (3, oF)])] 1 [4] [] (o2 (c25 h1) (Le.ff h2)) (g7_5 z h)
theorem g7_3 {N} {r} (z : Z Tryz.prog ty 7 Tryz.f7 (Fi [] (d7 r) [])) {t1 t7 t10 b196_0 b196_1 b700 b701 b196_4 t116} (h : L_law19_EdgeMoves_3 N t1 t7 t10 b196_0 b196_1 b700 b701 b196_4 t116 = some r) : z.G [.c 14335, .c 8191] [(1, .bool t1), (7, .str t7), (10, iI t10), (12, .ptr 196 0), (116, .bool t116)] [qB 196 [iI b196_0, iI b196_1, rR 700 b700, rR 701 b701, sS true eEntry b196_4], pB 700 4 (eL (eSite true) b700), pB 701 2 (eL eHealth b701)] :=
 by
  cases t116 with
  | true => exact brT h fun h => (
   z.r [] 3 o0 h)
  | false => exact brF h fun h => (
   ck h fun h1 h =>
   z.s [(16, [(4, oC (.ptr 701 (t10.toNat * 2 + 0))), (5, { cb := [(701, eL eHealth (b701.set t10.toNat (GHealth.mk true 0)))] })])] 6 (o4 h1 (Le.pt (b := 701) (k := t10.toNat * 2)) (st_need (xs := b701) eHealth_len (ixl h1) (o := 0) (k := 2) (vs := [.bool true, iI 0]) (p := true) (by decide) rfl rfl) (st_set (xs := b701) eHealth_len (ixl h1) (o := 0) (vs := [.bool true, iI 0]) (y := (GHealth.mk true 0)) (Nat.le_of_ble_eq_true rfl) rfl)) <|
   br h (fun h2 h =>
    ck h fun h3 h =>
    z.jH [(17, [(0, oT)]), (18, [(4, oC (.ptr 700 (t10.toNat * 4 + 0))), (6, { cb := [(700, eL (eSite true) (b700.set t10.toNat (GSite.mk 16 ((b700.getD t10.toNat default).Drain) ((b700.getD t10.toNat default).Cap) ((b700.getD t10.toNat default).Backs))))] })])] 3 [7, 10, 12] [(196, 196), (700, 700), (701, 701)] (o5 (Le.tt h2) h3 (Le.pt (b := 700) (k := t10.toNat * 4)) (st_need (xs := b700) (eSite_len true) (ixl h3) (o := 0) (k := 1) (vs := [iI 16]) (p := true) (by decide) rfl rfl) (o1 (st_set (xs := b700) (eSite_len true) (ixl h3) (o := 0) (vs := [iI 16]) (y := (GSite.mk 16 ((b700.getD t10.toNat default).Drain) ((b700.getD t10.toNat default).Cap) ((b700.getD t10.toNat default).Backs))) (Nat.le_of_ble_eq_true rfl) rfl))) (.cons (Le.rfl) (.cons (Le.rfl) (.cons (Le.rfl) .nil))) (.cons ((.cons (Le.rfl) (.cons (Le.rfl) (.cons (Le.rfs (b := 700) (by first | rfl | omega | (simp only [List.length_append, List.length_take, List.length_drop]; omega) | simp : b700.length = (b700.set t10.toNat (GSite.mk 16 ((b700.getD t10.toNat default).Drain) ((b700.getD t10.toNat default).Cap) ((b700.getD t10.toNat default).Backs))).length) (by first | rfl | omega | (simp only [List.length_append, List.length_take, List.length_drop]; omega) | simp : b700.length = (b700.set t10.toNat (GSite.mk 16 ((b700.getD t10.toNat default).Drain) ((b700.getD t10.toNat default).Cap) ((b700.getD t10.toNat default).Backs))).length)) (.cons (Le.rfs (b := 701) (by first | rfl | omega | (simp only [List.length_append, List.length_take, List.length_drop]; omega) | simp : b701.length = (b701.set t10.toNat (GHealth.mk true 0)).length) (by first | rfl | omega | (simp only [List.length_append, List.length_take, List.length_drop]; omega) | simp : b701.length = (b701.set t10.toNat (GHealth.mk true 0)).length)) (.cons (Le.rfl) .nil)))))) (.same (.same .nil))) (g7_4 z h)) fun h2 h =>
   z.jH [(17, [(0, oF)])] 3 [7, 10, 12] [(196, 196), (700, 700), (701, 701)] (o1 (Le.ff h2)) (.cons (Le.rfl) (.cons (Le.rfl) (.cons (Le.rfl) .nil))) (.cons ((.cons (Le.rfl) (.cons (Le.rfl) (.cons (Le.rfl) (.cons (Le.rfs (b := 701) (by first | rfl | omega | (simp only [List.length_append, List.length_take, List.length_drop]; omega) | simp : b701.length = (b701.set t10.toNat (GHealth.mk true 0)).length) (by first | rfl | omega | (simp only [List.length_append, List.length_take, List.length_drop]; omega) | simp : b701.length = (b701.set t10.toNat (GHealth.mk true 0)).length)) (.cons (Le.rfl) .nil)))))) (.same (.same .nil))) (g7_4 z h))
theorem g7_2 {N} {r} (z : Z Tryz.prog ty 7 Tryz.f7 (Fi [] (d7 r) [])) {t1 b140_0 b140_1 b140_2 b140_3 b140_4 t7 t10 t64} (h : L_law19_EdgeMoves_2 N t1 b140_0 b140_1 b140_2 b140_3 b140_4 t7 t10 t64 = some r) : z.G [.c 895, .c 511] [(1, .bool t1), (5, .ptr 140 0), (7, .str t7), (10, iI t10), (64, .bool t64)] [qB 140 [iI b140_0, iI b140_1, sS true (eSite true) b140_2, sS true eHealth b140_3, sS true eEntry b140_4]] :=
 by
  cases t64 with
  | true => exact brT h fun h => (
   z.r [] 3 o0 h)
  | false => exact brF h fun h => (
   bd h fun v1 h1 h =>
   ck h fun h2 h =>
   bd h fun v2 h3 h =>
   bd h fun v3 h4 h =>
   z.s [(11, [(1, { r := d18v1 v1, H := h18v1 v1 })]), (12, [(4, oC (.ptr 628 (t10.toNat * 2 + 0))), (5, { cb := [(628, eL eHealth (v1.Health.set t10.toNat (GHealth.mk false 0)))] })]), (13, [(2, { r := d19v2 v2, H := h19v2 v2 })])] 10 (o5 (c18v1 true h1) h2 (Le.pt (b := 628) (k := t10.toNat * 2)) (st_need (xs := v1.Health) eHealth_len (ixl h2) (o := 0) (k := 2) (vs := [.bool false, iI 0]) (p := true) (by decide) rfl rfl) (o2 (st_set (xs := v1.Health) eHealth_len (ixl h2) (o := 0) (vs := [.bool false, iI 0]) (y := (GHealth.mk false 0)) (Nat.le_of_ble_eq_true rfl) rfl) ((c19v2 false h3).le ((.cons (Le.agg ((.cons (Le.rfl) (.cons (Le.rfl) (.cons (Le.loo (g := true) (xs := v1.Config.Sites) (n := v1.Config.Sites.length) (c := v1.Config.Sites.length) (lo_Site true)) (.cons (Le.sln (g := false) (cs := (eL eHealth (v1.Health.set t10.toNat (GHealth.mk false 0)))) (n := v1.Health.length) (c := v1.Health.length) (k := (v1.Health.set t10.toNat (GHealth.mk false 0)).length) (by first | rfl | omega | simp) (by first | rfl | omega | simp)) (.cons (Le.rfl) .nil))))))) (.cons (Le.rfl) (.cons (Le.rfl) .nil))))))) <|
   br h (fun h5 h =>
    z.j [(14, [(1, oR (d25 v3)), (3, oT)])] 1 [1, 7, 10, 12, 116] [(196, 196), (700, 700), (701, 701)] (o2 (c25 h4) (Le.tt h5)) (g7_3 z h)) fun h5 h =>
   br h (fun h6 h =>
    z.j [(14, [(1, oR (d25 v3)), (3, oF), (9, oT)])] 1 [1, 7, 10, 12, 116] [(196, 196), (700, 700), (701, 701)] (o3 (c25 h4) (Le.ff h5) (Le.tt h6)) (g7_3 z h)) fun h6 h =>
   br h (fun h7 h =>
    z.j [(14, [(1, oR (d25 v3)), (3, oF), (9, oF), (15, oT)])] 1 [1, 7, 10, 12, 116] [(196, 196), (700, 700), (701, 701)] (o4 (c25 h4) (Le.ff h5) (Le.ff h6) (Le.tt h7)) (g7_3 z h)) fun h7 h =>
   ck h fun h8 h =>
   br h (fun h9 h =>
    z.j [(14, [(1, oR (d25 v3)), (3, oF), (9, oF), (15, oF), (18, oC (.ip true [iI (((v2.1.Flows.getD (Int.toNat 0) default).Flow).Src), iI (((v2.1.Flows.getD (Int.toNat 0) default).Flow).Dst), iI (((v2.1.Flows.getD (Int.toNat 0) default).Flow).Proto), iI (((v2.1.Flows.getD (Int.toNat 0) default).Flow).Sport), iI (((v2.1.Flows.getD (Int.toNat 0) default).Flow).Dport), iI ((v2.1.Flows.getD (Int.toNat 0) default).To), .bool ((v2.1.Flows.getD (Int.toNat 0) default).Away), iI ((v2.1.Flows.getD (Int.toNat 0) default).Phase), iI ((v2.1.Flows.getD (Int.toNat 0) default).Used)])), (25, oT)])] 1 [1, 7, 10, 12, 116] [(196, 196), (700, 700), (701, 701)] (o5 (c25 h4) (Le.ff h5) (Le.ff h6) (Le.ff h7) (o3 h8 (Le.iptl (g := true) (eL_at (xs := v2.1.Flows) eEntry_len (ixl h8))) (Le.tt h9))) (g7_3 z h)) fun h9 h =>
   br h (fun h10 h =>
    z.j [(14, [(1, oR (d25 v3)), (3, oF), (9, oF), (15, oF), (18, oC (.ip true [iI (((v2.1.Flows.getD (Int.toNat 0) default).Flow).Src), iI (((v2.1.Flows.getD (Int.toNat 0) default).Flow).Dst), iI (((v2.1.Flows.getD (Int.toNat 0) default).Flow).Proto), iI (((v2.1.Flows.getD (Int.toNat 0) default).Flow).Sport), iI (((v2.1.Flows.getD (Int.toNat 0) default).Flow).Dport), iI ((v2.1.Flows.getD (Int.toNat 0) default).To), .bool ((v2.1.Flows.getD (Int.toNat 0) default).Away), iI ((v2.1.Flows.getD (Int.toNat 0) default).Phase), iI ((v2.1.Flows.getD (Int.toNat 0) default).Used)])), (25, oF), (31, oT)])] 1 [1, 7, 10, 12, 116] [(196, 196), (700, 700), (701, 701)] (o5 (c25 h4) (Le.ff h5) (Le.ff h6) (Le.ff h7) (o4 h8 (Le.iptl (g := true) (eL_at (xs := v2.1.Flows) eEntry_len (ixl h8))) (Le.ff h9) (Le.tt h10))) (g7_3 z h)) fun h10 h =>
   z.j [(14, [(1, oR (d25 v3)), (3, oF), (9, oF), (15, oF), (18, oC (.ip true [iI (((v2.1.Flows.getD (Int.toNat 0) default).Flow).Src), iI (((v2.1.Flows.getD (Int.toNat 0) default).Flow).Dst), iI (((v2.1.Flows.getD (Int.toNat 0) default).Flow).Proto), iI (((v2.1.Flows.getD (Int.toNat 0) default).Flow).Sport), iI (((v2.1.Flows.getD (Int.toNat 0) default).Flow).Dport), iI ((v2.1.Flows.getD (Int.toNat 0) default).To), .bool ((v2.1.Flows.getD (Int.toNat 0) default).Away), iI ((v2.1.Flows.getD (Int.toNat 0) default).Phase), iI ((v2.1.Flows.getD (Int.toNat 0) default).Used)])), (25, oF), (31, oF)])] 1 [1, 7, 10, 12, 116] [(196, 196), (700, 700), (701, 701)] (o5 (c25 h4) (Le.ff h5) (Le.ff h6) (Le.ff h7) (o4 h8 (Le.iptl (g := true) (eL_at (xs := v2.1.Flows) eEntry_len (ixl h8))) (Le.ff h9) (Le.ff h10))) (g7_3 z h))
theorem g7_1 {N} {r} (z : Z Tryz.prog ty 7 Tryz.f7 (Fi [] (d7 r) [])) {t1 b140_0 b140_1 b140_2 b140_3 b140_4 t7 t53} (h : L_law19_EdgeMoves_1 N t1 b140_0 b140_1 b140_2 b140_3 b140_4 t7 t53 = some r) : z.G [.c 223, .c 127] [(1, .bool t1), (5, .ptr 140 0), (7, .str t7), (53, .bool t53)] [qB 140 [iI b140_0, iI b140_1, sS true (eSite true) b140_2, sS true eHealth b140_3, sS true eEntry b140_4]] :=
 by
  cases t53 with
  | true => exact brT h fun h => (
   z.r [] 3 o0 h)
  | false => exact brF h fun h => (
   ck h fun h1 h =>
   z.s [(8, [(2, oC (.ip true [iI (((b140_4.getD (Int.toNat 0) default).Flow).Src), iI (((b140_4.getD (Int.toNat 0) default).Flow).Dst), iI (((b140_4.getD (Int.toNat 0) default).Flow).Proto), iI (((b140_4.getD (Int.toNat 0) default).Flow).Sport), iI (((b140_4.getD (Int.toNat 0) default).Flow).Dport), iI ((b140_4.getD (Int.toNat 0) default).To), .bool ((b140_4.getD (Int.toNat 0) default).Away), iI ((b140_4.getD (Int.toNat 0) default).Phase), iI ((b140_4.getD (Int.toNat 0) default).Used)]))])] 6 (o2 h1 (Le.iptl (g := true) (eL_at (xs := b140_4) eEntry_len (ixl h1)))) <|
   br h (fun h2 h =>
    z.j [(9, [(2, oT)])] 1 [1, 5, 7, 10, 64] [(140, 140)] (o1 (Le.tt h2)) (g7_2 z h)) fun h2 h =>
   z.j [(9, [(2, oF)])] 1 [1, 5, 7, 10, 64] [(140, 140)] (o1 (Le.ff h2)) (g7_2 z h))
theorem c7 {N} {x0 x1 r} (h : L_law19_EdgeMoves N x0 x1 = some r) : Con Tryz.prog 7 [iI x0, .bool x1] [] (d7 r) [] :=
 ci ok mix Tryz.f7 fun z =>
 bd h fun v1 h0 h =>
 br h (fun h1 h =>
  z.r [(1, [(0, oR (d30 v1)), (1, oT)])] 8 (o2 (c30 h0) (Le.tt h1)) h) fun h1 h =>
 bd h fun v2 h2 h =>
 bd h fun v3 h3 h =>
 bd h fun v4 h4 h =>
 bd h fun v5 h5 h =>
 bd h fun v6 h6 h =>
 z.s [(1, [(0, oR (d30 v1)), (1, oF)]), (3, [(0, oR (d34 v2)), (1, oR (d21 v3))]), (4, [(1, oR (d35 v4))]), (5, [(2, oR (d19 v5))])] 15 (o5 (c30 h0) (Le.ff h1) (c34 h2) (c21 true h3) (o2 (c35 h4) (c19 true h5))) <|
 br h (fun h7 h =>
  z.j [(6, [(1, oR (d25 v6)), (3, oT)])] 1 [1, 5, 7, 53] [(140, 140)] (o2 (c25 h6) (Le.tt h7)) (g7_1 z h)) fun h7 h =>
 bd h fun v7 h8 h =>
 br h (fun h9 h =>
  z.j [(6, [(1, oR (d25 v6)), (3, oF), (5, oR (d25 v7)), (8, oT)])] 1 [1, 5, 7, 53] [(140, 140)] (o4 (c25 h6) (Le.ff h7) (c25 h8) (Le.tt h9)) (g7_1 z h)) fun h9 h =>
 br h (fun h10 h =>
  z.j [(6, [(1, oR (d25 v6)), (3, oF), (5, oR (d25 v7)), (8, oF), (14, oT)])] 1 [1, 5, 7, 53] [(140, 140)] (o5 (c25 h6) (Le.ff h7) (c25 h8) (Le.ff h9) (o1 (Le.tt h10))) (g7_1 z h)) fun h10 h =>
 z.j [(6, [(1, oR (d25 v6)), (3, oF), (5, oR (d25 v7)), (8, oF), (14, oF)])] 1 [1, 5, 7, 53] [(140, 140)] (o5 (c25 h6) (Le.ff h7) (c25 h8) (Le.ff h9) (o1 (Le.ff h10))) (g7_1 z h)
def L_law19_EdgeRow_5 (N : Nat) (r1 : (List Int) → Int → Int → (List GSite) → (List GHealth) → (List GEntry) → (List Int) → Int → Option (Bool)) (r4 : (List Int) → Int → Int → (List GSite) → (List GHealth) → (List GEntry) → (List Int) → Int → Int → Int → Int → (List GSite) → (List GHealth) → (List GEntry) → (List ByteArray) → (List GEvent) → (List Int) → Int → Option (Bool)) (t0 : (List Int)) (b124_0 b124_1 : Int) (b124_2 : (List GSite)) (b124_3 : (List GHealth)) (b124_4 : (List GEntry)) (b140 : (List Int)) (t6 t7 b164_0 b164_1 : Int) (b164_2 : (List GSite)) (b164_3 : (List GHealth)) (b164_4 : (List GEntry)) (b172_0 : (List ByteArray)) (b172_1 : (List GEvent)) (b724 : (List Int)) (t12 : Int) : Option (Bool) :=
 r4 t0 b124_0 b124_1 b124_2 b124_3 b124_4 b140 t6 t7 b164_0 b164_1 b164_2 b164_3 b164_4 b172_0 b172_1 b724 (IntKind.i64.wrap (t12 + 1))
def L_law19_EdgeRow_8 (N : Nat) (r1 : (List Int) → Int → Int → (List GSite) → (List GHealth) → (List GEntry) → (List Int) → Int → Option (Bool)) : Nat → (List Int) → Int → Int → (List GSite) → (List GHealth) → (List GEntry) → (List Int) → Int → Int → Option (Bool)
  | 0, _, _, _, _, _, _, _, _, _ => none
  | fuel + 1, t0, b124_0, b124_1, b124_2, b124_3, b124_4, b1004, t6, t13 =>
  bif (decide (t13 < (b1004.length : Int))) then
   if 0 ≤ t13 ∧ t13 < ((b124_4.length : Nat) : Int) then
   if 0 ≤ t13 ∧ t13 < ((b1004.length : Nat) : Int) then
   bif (((b124_4.getD t13.toNat default).Flow).Src != (b1004.getD t13.toNat default)) then
    some false
   else
    L_law19_EdgeRow_8 N r1 fuel t0 b124_0 b124_1 b124_2 b124_3 b124_4 b1004 t6 (IntKind.i64.wrap (t13 + 1))
   else none
   else none
  else
   r1 t0 b124_0 b124_1 b124_2 b124_3 b124_4 b1004 (IntKind.i64.wrap (t6 + 1))
def L_law19_EdgeRow_7 (N : Nat) (r1 : (List Int) → Int → Int → (List GSite) → (List GHealth) → (List GEntry) → (List Int) → Int → Option (Bool)) (t0 : (List Int)) (b124_0 b124_1 : Int) (b124_2 : (List GSite)) (b124_3 : (List GHealth)) (b124_4 : (List GEntry)) (t6 b164_0 b164_1 : Int) (b164_2 : (List GSite)) (b164_3 : (List GHealth)) (b164_4 : (List GEntry)) (b1004 : (List Int)) : Option (Bool) :=
 bif ((b164_4.length : Int) != (b1004.length : Int)) then
  some false
 else
  L_law19_EdgeRow_8 N r1 N t0 b164_0 b164_1 b164_2 b164_3 b164_4 b1004 t6 0
def L_law19_EdgeRow_6 (N : Nat) (r1 : (List Int) → Int → Int → (List GSite) → (List GHealth) → (List GEntry) → (List Int) → Int → Option (Bool)) (t0 : (List Int)) (b124_0 b124_1 : Int) (b124_2 : (List GSite)) (b124_3 : (List GHealth)) (b124_4 : (List GEntry)) (t6 b164_0 b164_1 : Int) (b164_2 : (List GSite)) (b164_3 : (List GHealth)) (b164_4 : (List GEntry)) (b756 : (List Int)) (t109 : Bool) : Option (Bool) :=
 bif t109 then
  some false
 else
  if 0 ≤ ((b756.length : Nat) : Int) ∧ ((b756.length : Nat) : Int) ≤ ((b756.length : Nat) : Int) ∧ 0 ≤ (1 : Int) ∧ (1 : Int) ≤ ((b756.length : Nat) : Int) ∧ b756.length ≤ b756.length then
  if (Int.toNat (1 : Int)) + (Int.toNat (((b756.length : Nat) : Int) - (1 : Int))) ≤ b756.length then
  if growOk 8 (0 + (Int.toNat (((b756.length : Nat) : Int) - (1 : Int)))) then
  L_law19_EdgeRow_7 N r1 t0 b124_0 b124_1 b124_2 b124_3 b124_4 t6 b164_0 b164_1 b164_2 b164_3 b164_4 ([] ++ ((b756.drop (Int.toNat (1 : Int))).take (Int.toNat (((b756.length : Nat) : Int) - (1 : Int)))))
  else none
  else none
  else none
def L_law19_EdgeRow_4 (N : Nat) (r1 : (List Int) → Int → Int → (List GSite) → (List GHealth) → (List GEntry) → (List Int) → Int → Option (Bool)) : Nat → (List Int) → Int → Int → (List GSite) → (List GHealth) → (List GEntry) → (List Int) → Int → Int → Int → Int → (List GSite) → (List GHealth) → (List GEntry) → (List ByteArray) → (List GEvent) → (List Int) → Int → Option (Bool)
  | 0, _, _, _, _, _, _, _, _, _, _, _, _, _, _, _, _, _, _ => none
  | fuel + 1, t0, b124_0, b124_1, b124_2, b124_3, b124_4, b140, t6, t7, b164_0, b164_1, b164_2, b164_3, b164_4, b172_0, b172_1, b188, t12 =>
  bif (decide (t12 < (b140.length : Int))) then
   if 0 ≤ t12 ∧ t12 < ((b140.length : Nat) : Int) then
   bif ((b140.getD t12.toNat default) != t7) then
    if 0 ≤ t12 ∧ t12 < ((b140.length : Nat) : Int) then
    if growOk 8 (b188.length + 1) then
    L_law19_EdgeRow_5 N r1 (L_law19_EdgeRow_4 N r1 fuel) t0 b124_0 b124_1 b124_2 b124_3 b124_4 b140 t6 t7 b164_0 b164_1 b164_2 b164_3 b164_4 b172_0 b172_1 (b188 ++ [(b140.getD t12.toNat default)]) t12
    else none
    else none
   else
    L_law19_EdgeRow_5 N r1 (L_law19_EdgeRow_4 N r1 fuel) t0 b124_0 b124_1 b124_2 b124_3 b124_4 b140 t6 t7 b164_0 b164_1 b164_2 b164_3 b164_4 b172_0 b172_1 b188 t12
   else none
  else
   if growOk 8 (b188.length + 1) then
   bif (decide (((b188 ++ [t7]).length : Int) > 8)) then
    bif ((b172_1.length : Int) != 2) then
     L_law19_EdgeRow_6 N r1 t0 b124_0 b124_1 b124_2 b124_3 b124_4 t6 b164_0 b164_1 b164_2 b164_3 b164_4 (b188 ++ [t7]) true
    else
     if 0 ≤ (0 : Int) ∧ (0 : Int) < ((b172_1.length : Nat) : Int) then
     bif ((b172_1.getD (Int.toNat 0) default).Kind != 11) then
      L_law19_EdgeRow_6 N r1 t0 b124_0 b124_1 b124_2 b124_3 b124_4 t6 b164_0 b164_1 b164_2 b164_3 b164_4 (b188 ++ [t7]) true
     else
      if 0 ≤ (0 : Int) ∧ (0 : Int) < ((b172_1.length : Nat) : Int) then
      via (((b172_1.getD (Int.toNat 0) default).Flow).Src : Int) fun v1 =>
      if 0 ≤ (0 : Int) ∧ (0 : Int) < (((b188 ++ [t7]).length : Nat) : Int) then
      L_law19_EdgeRow_6 N r1 t0 b124_0 b124_1 b124_2 b124_3 b124_4 t6 b164_0 b164_1 b164_2 b164_3 b164_4 (b188 ++ [t7]) (v1 != ((b188 ++ [t7]).getD (Int.toNat 0) default))
      else none
      else none
     else none
   else
    bif ((b172_1.length : Int) != 1) then
     some false
    else
     L_law19_EdgeRow_7 N r1 t0 b124_0 b124_1 b124_2 b124_3 b124_4 t6 b164_0 b164_1 b164_2 b164_3 b164_4 (b188 ++ [t7])
   else none
def L_law19_EdgeRow_3 (N : Nat) (r1 : (List Int) → Int → Int → (List GSite) → (List GHealth) → (List GEntry) → (List Int) → Int → Option (Bool)) (t0 : (List Int)) (b124_0 b124_1 : Int) (b124_2 : (List GSite)) (b124_3 : (List GHealth)) (b124_4 : (List GEntry)) (b140 : (List Int)) (t6 t7 b164_0 b164_1 : Int) (b164_2 : (List GSite)) (b164_3 : (List GHealth)) (b164_4 : (List GEntry)) (b172_0 : (List ByteArray)) (b172_1 : (List GEvent)) (t59 : Bool) : Option (Bool) :=
 bif t59 then
  some false
 else
  L_law19_EdgeRow_4 N r1 N t0 b124_0 b124_1 b124_2 b124_3 b124_4 b140 t6 t7 b164_0 b164_1 b164_2 b164_3 b164_4 b172_0 b172_1 ([]) 0
def L_law19_EdgeRow_2 (N : Nat) (r1 : (List Int) → Int → Int → (List GSite) → (List GHealth) → (List GEntry) → (List Int) → Int → Option (Bool)) (t0 : (List Int)) (b124_0 b124_1 : Int) (b124_2 : (List GSite)) (b124_3 : (List GHealth)) (b124_4 : (List GEntry)) (b140 : (List Int)) (t6 : Int) (t31 : Bool) : Option (Bool) :=
 bif t31 then
  if 0 ≤ t6 ∧ t6 < ((t0.length : Nat) : Int) then
  via ((IntKind.u64.wrap (t0.getD t6.toNat default)) : Int) fun v1 =>
  (L_law19_said N (IntKind.i64.wrap (v1.tmod 11)) 16 (ByteArray.mk #[114])).bind fun v2 =>
  (L_edge_Take N (GEdge.mk b124_0 (GConfig.mk b124_1 b124_2) b124_3 b124_4) (bAnd .i64 t6 3) v2).bind fun v3 =>
  (L_law0_Num N v3.2.2).bind fun v4 =>
  bif (v4 != 0) then
   L_law19_EdgeRow_3 N r1 t0 b124_0 b124_1 b124_2 b124_3 b124_4 b140 t6 (IntKind.i64.wrap (v1.tmod 11)) v3.1.Id v3.1.Config.Version v3.1.Config.Sites v3.1.Health v3.1.Flows v3.2.1.Sent v3.2.1.Events true
  else
   L_law19_EdgeRow_3 N r1 t0 b124_0 b124_1 b124_2 b124_3 b124_4 b140 t6 (IntKind.i64.wrap (v1.tmod 11)) v3.1.Id v3.1.Config.Version v3.1.Config.Sites v3.1.Health v3.1.Flows v3.2.1.Sent v3.2.1.Events ((v3.2.1.Sent.length : Int) != 1)
  else none
 else
  some true
def L_law19_EdgeRow_1 (N : Nat) : Nat → (List Int) → Int → Int → (List GSite) → (List GHealth) → (List GEntry) → (List Int) → Int → Option (Bool)
  | 0, _, _, _, _, _, _, _, _ => none
  | fuel + 1, t0, b124_0, b124_1, b124_2, b124_3, b124_4, b140, t6 =>
  bif (decide (t6 < (t0.length : Int))) then
   L_law19_EdgeRow_2 N (L_law19_EdgeRow_1 N fuel) t0 b124_0 b124_1 b124_2 b124_3 b124_4 b140 t6 (decide (t6 < 30))
  else
   L_law19_EdgeRow_2 N (L_law19_EdgeRow_1 N fuel) t0 b124_0 b124_1 b124_2 b124_3 b124_4 b140 t6 false
def L_law19_EdgeRow (N : Nat) (x0 : (List Int)) : Option (Bool) :=
 (L_law19_awake N).bind fun v1 =>
 bif (!v1) then
  some false
 else
  (L_law19_given N).bind fun v2 =>
  (L_edge_New N 0 v2).bind fun v3 =>
  (L_law0_Num N v3.2).bind fun v4 =>
  bif (v4 != 0) then
   some false
  else
   L_law19_EdgeRow_1 N N x0 v3.1.Id v3.1.Config.Version v3.1.Config.Sites v3.1.Health v3.1.Flows ([]) 0
def d6 (r : Bool) : D := .bool r
theorem g6_5 {N} (gx0 : Bool) {r} (z : Z Tryz.prog ty 6 Tryz.f6 (Fi [] (d6 r) [])) {r1 : (List Int) → Int → Int → (List GSite) → (List GHealth) → (List GEntry) → (List Int) → Int → Option (Bool)} {r4 : (List Int) → Int → Int → (List GSite) → (List GHealth) → (List GEntry) → (List Int) → Int → Int → Int → Int → (List GSite) → (List GHealth) → (List GEntry) → (List ByteArray) → (List GEvent) → (List Int) → Int → Option (Bool)} (hr1 : ∀ {t0 b124_0 b124_1 b124_2 b124_3 b124_4 b140 t6}, r1 t0 b124_0 b124_1 b124_2 b124_3 b124_4 b140 t6 = some r → z.G [.c 607, .l 607, .b 0, .c 127] [(0, sS gx0 (eInt .i64) t0), (3, .ptr 124 0), (5, rR 140 b140), (6, iI t6)] [qB 124 [iI b124_0, iI b124_1, sS true (eSite true) b124_2, sS true eHealth b124_3, sS true eEntry b124_4], pB 140 1 (eL (eInt .i64) b140)]) (hr4 : ∀ {t0 b124_0 b124_1 b124_2 b124_3 b124_4 b140 t6 t7 b164_0 b164_1 b164_2 b164_3 b164_4 b172_0 b172_1 b188 t12}, r4 t0 b124_0 b124_1 b124_2 b124_3 b124_4 b140 t6 t7 b164_0 b164_1 b164_2 b164_3 b164_4 b172_0 b172_1 b188 t12 = some r → z.G [.c 1241695, .l 1241695, .b 2, .c 258655, .b 1, .c 3679, .l 607, .b 0, .c 127] [(0, sS gx0 (eInt .i64) t0), (3, .ptr 124 0), (5, rR 140 b140), (6, iI t6), (7, iI t7), (8, .ptr 164 0), (9, .ptr 172 0), (11, rR 188 b188), (12, iI t12)] [qB 124 [iI b124_0, iI b124_1, sS true (eSite true) b124_2, sS true eHealth b124_3, sS true eEntry b124_4], pB 140 1 (eL (eInt .i64) b140), qB 164 [iI b164_0, iI b164_1, sS true (eSite true) b164_2, sS true eHealth b164_3, sS true eEntry b164_4], qB 172 [sS true eStr b172_0, sS true eEvent b172_1], pB 188 1 (eL (eInt .i64) b188)]) {t0 b124_0 b124_1 b124_2 b124_3 b124_4 b140 t6 t7 b164_0 b164_1 b164_2 b164_3 b164_4 b172_0 b172_1 b724 t12} (h : L_law19_EdgeRow_5 N r1 r4 t0 b124_0 b124_1 b124_2 b124_3 b124_4 b140 t6 t7 b164_0 b164_1 b164_2 b164_3 b164_4 b172_0 b172_1 b724 t12 = some r) : z.G [.b 3, .c 7533151, .l 1241695, .b 2, .c 258655, .b 1, .c 3679, .l 607, .b 0, .c 127] [(0, sS gx0 (eInt .i64) t0), (3, .ptr 124 0), (5, rR 140 b140), (6, iI t6), (7, iI t7), (8, .ptr 164 0), (9, .ptr 172 0), (11, rR 724 b724), (12, iI t12)] [qB 124 [iI b124_0, iI b124_1, sS true (eSite true) b124_2, sS true eHealth b124_3, sS true eEntry b124_4], pB 140 1 (eL (eInt .i64) b140), qB 164 [iI b164_0, iI b164_1, sS true (eSite true) b164_2, sS true eHealth b164_3, sS true eEntry b164_4], qB 172 [sS true eStr b172_0, sS true eEvent b172_1], pB 724 1 (eL (eInt .i64) b724)] :=
 z.j [] 3 [0, 3, 5, 6, 7, 8, 9, 11, 12] [(124, 124), (140, 140), (164, 164), (172, 172), (724, 188)] o0 (hr4 h)
theorem g6_8 {N} (gx0 : Bool) {r} (z : Z Tryz.prog ty 6 Tryz.f6 (Fi [] (d6 r) [])) {r1 : (List Int) → Int → Int → (List GSite) → (List GHealth) → (List GEntry) → (List Int) → Int → Option (Bool)} (hr1 : ∀ {t0 b124_0 b124_1 b124_2 b124_3 b124_4 b140 t6}, r1 t0 b124_0 b124_1 b124_2 b124_3 b124_4 b140 t6 = some r → z.G [.c 607, .l 607, .b 0, .c 127] [(0, sS gx0 (eInt .i64) t0), (3, .ptr 124 0), (5, rR 140 b140), (6, iI t6)] [qB 124 [iI b124_0, iI b124_1, sS true (eSite true) b124_2, sS true eHealth b124_3, sS true eEntry b124_4], pB 140 1 (eL (eInt .i64) b140)]) (fuel) : ∀ {t0 b124_0 b124_1 b124_2 b124_3 b124_4 b1004 t6 t13}, L_law19_EdgeRow_8 N r1 fuel t0 b124_0 b124_1 b124_2 b124_3 b124_4 b1004 t6 t13 = some r → z.G [.c 41939551, .l 41939551, .b 4, .b 1, .c 3679, .l 607, .b 0, .c 127] [(0, sS gx0 (eInt .i64) t0), (3, .ptr 124 0), (5, rR 1004 b1004), (6, iI t6), (13, iI t13)] [qB 124 [iI b124_0, iI b124_1, sS true (eSite true) b124_2, sS true eHealth b124_3, sS true eEntry b124_4], pB 1004 1 (eL (eInt .i64) b1004)] := by
 induction fuel with
 | zero => intro t0 b124_0 b124_1 b124_2 b124_3 b124_4 b1004 t6 t13 h; cases h
 | succ fuel ih =>
  intro t0 b124_0 b124_1 b124_2 b124_3 b124_4 b1004 t6 t13 h
  exact
   br h (fun h0 h =>
    ck h fun h1 h =>
    ck h fun h2 h =>
    z.s [(32, [(3, oT)])] 8 (o1 (Le.tt h0)) <|
    br h (fun h3 h =>
     z.r [(34, [(3, oC (.ip true [iI (((b124_4.getD t13.toNat default).Flow).Src), iI (((b124_4.getD t13.toNat default).Flow).Dst), iI (((b124_4.getD t13.toNat default).Flow).Proto), iI (((b124_4.getD t13.toNat default).Flow).Sport), iI (((b124_4.getD t13.toNat default).Flow).Dport), iI ((b124_4.getD t13.toNat default).To), .bool ((b124_4.getD t13.toNat default).Away), iI ((b124_4.getD t13.toNat default).Phase), iI ((b124_4.getD t13.toNat default).Used)])), (9, oC (.ptr 1004 (t13.toNat * 1 + 0))), (10, oC (iI (b1004.getD t13.toNat default))), (11, oT)])] 4 (o5 h1 (Le.iptl (g := true) (eL_at (xs := b124_4) eEntry_len (ixl h1))) h2 (Le.pt (b := 1004) (k := t13.toNat * 1)) (o3 (ld_ne (xs := b1004) (eInt_len .i64) (ixl h2) (o := 0) (by decide)) (Le.of (ld_hd (xs := b1004) (eInt_len .i64) (ixl h2) (o := 0) (by decide))) (Le.tt h3))) h) fun h3 h =>
    z.j [(34, [(3, oC (.ip true [iI (((b124_4.getD t13.toNat default).Flow).Src), iI (((b124_4.getD t13.toNat default).Flow).Dst), iI (((b124_4.getD t13.toNat default).Flow).Proto), iI (((b124_4.getD t13.toNat default).Flow).Sport), iI (((b124_4.getD t13.toNat default).Flow).Dport), iI ((b124_4.getD t13.toNat default).To), .bool ((b124_4.getD t13.toNat default).Away), iI ((b124_4.getD t13.toNat default).Phase), iI ((b124_4.getD t13.toNat default).Used)])), (9, oC (.ptr 1004 (t13.toNat * 1 + 0))), (10, oC (iI (b1004.getD t13.toNat default))), (11, oF)])] 6 [0, 3, 5, 6, 13] [(124, 124), (1004, 1004)] (o5 h1 (Le.iptl (g := true) (eL_at (xs := b124_4) eEntry_len (ixl h1))) h2 (Le.pt (b := 1004) (k := t13.toNat * 1)) (o3 (ld_ne (xs := b1004) (eInt_len .i64) (ixl h2) (o := 0) (by decide)) (Le.of (ld_hd (xs := b1004) (eInt_len .i64) (ixl h2) (o := 0) (by decide))) (Le.ff h3))) (ih h)) fun h0 h =>
   z.j [(32, [(3, oF)])] 8 [0, 3, 5, 6] [(124, 124), (1004, 140)] (o1 (Le.ff h0)) (hr1 h)
theorem g6_7 {N} (gx0 : Bool) {r} (z : Z Tryz.prog ty 6 Tryz.f6 (Fi [] (d6 r) [])) {r1 : (List Int) → Int → Int → (List GSite) → (List GHealth) → (List GEntry) → (List Int) → Int → Option (Bool)} (hr1 : ∀ {t0 b124_0 b124_1 b124_2 b124_3 b124_4 b140 t6}, r1 t0 b124_0 b124_1 b124_2 b124_3 b124_4 b140 t6 = some r → z.G [.c 607, .l 607, .b 0, .c 127] [(0, sS gx0 (eInt .i64) t0), (3, .ptr 124 0), (5, rR 140 b140), (6, iI t6)] [qB 124 [iI b124_0, iI b124_1, sS true (eSite true) b124_2, sS true eHealth b124_3, sS true eEntry b124_4], pB 140 1 (eL (eInt .i64) b140)]) {t0 b124_0 b124_1 b124_2 b124_3 b124_4 t6 b164_0 b164_1 b164_2 b164_3 b164_4 b1004} (h : L_law19_EdgeRow_7 N r1 t0 b124_0 b124_1 b124_2 b124_3 b124_4 t6 b164_0 b164_1 b164_2 b164_3 b164_4 b1004 = some r) : z.G [.c 1045087, .b 1, .c 3679, .l 607, .b 0, .c 127] [(0, sS gx0 (eInt .i64) t0), (3, .ptr 124 0), (6, iI t6), (8, .ptr 164 0), (11, rR 1004 b1004)] [qB 124 [iI b124_0, iI b124_1, sS true (eSite true) b124_2, sS true eHealth b124_3, sS true eEntry b124_4], qB 164 [iI b164_0, iI b164_1, sS true (eSite true) b164_2, sS true eHealth b164_3, sS true eEntry b164_4], pB 1004 1 (eL (eInt .i64) b1004)] :=
 br h (fun h0 h =>
  z.r [(29, [(5, oT)])] 10 (o1 (Le.tt h0)) h) fun h0 h =>
 z.j [(29, [(5, oF)])] 13 [0, 3, 5, 6, 13] [(124, 124), (1004, 1004)] (o1 (Le.ff h0)) (g6_8 gx0 z @hr1 N h)
theorem g6_6 {N} (gx0 : Bool) {r} (z : Z Tryz.prog ty 6 Tryz.f6 (Fi [] (d6 r) [])) {r1 : (List Int) → Int → Int → (List GSite) → (List GHealth) → (List GEntry) → (List Int) → Int → Option (Bool)} (hr1 : ∀ {t0 b124_0 b124_1 b124_2 b124_3 b124_4 b140 t6}, r1 t0 b124_0 b124_1 b124_2 b124_3 b124_4 b140 t6 = some r → z.G [.c 607, .l 607, .b 0, .c 127] [(0, sS gx0 (eInt .i64) t0), (3, .ptr 124 0), (5, rR 140 b140), (6, iI t6)] [qB 124 [iI b124_0, iI b124_1, sS true (eSite true) b124_2, sS true eHealth b124_3, sS true eEntry b124_4], pB 140 1 (eL (eInt .i64) b140)]) {t0 b124_0 b124_1 b124_2 b124_3 b124_4 t6 b164_0 b164_1 b164_2 b164_3 b164_4 b756 t109} (h : L_law19_EdgeRow_6 N r1 t0 b124_0 b124_1 b124_2 b124_3 b124_4 t6 b164_0 b164_1 b164_2 b164_3 b164_4 b756 t109 = some r) : z.G [.c 13365855, .c 7074399, .c 1045087, .b 1, .c 3679, .l 607, .b 0, .c 127] [(0, sS gx0 (eInt .i64) t0), (3, .ptr 124 0), (6, iI t6), (8, .ptr 164 0), (11, rR 756 b756), (109, .bool t109)] [qB 124 [iI b124_0, iI b124_1, sS true (eSite true) b124_2, sS true eHealth b124_3, sS true eEntry b124_4], qB 164 [iI b164_0, iI b164_1, sS true (eSite true) b164_2, sS true eHealth b164_3, sS true eEntry b164_4], pB 756 1 (eL (eInt .i64) b756)] :=
 by
  cases t109 with
  | true => exact brT h fun h => (
   z.r [] 3 o0 h)
  | false => exact brF h fun h => (
   ck h fun h1 h =>
   ck h fun h2 h =>
   ck h fun h3 h =>
   z.j [(24, [(3, { cv := some (.ref 1004 0 ([] ++ ((b756.drop (Int.toNat (1 : Int))).take (Int.toNat (((b756.length : Nat) : Int) - (1 : Int))))).length ([] ++ ((b756.drop (Int.toNat (1 : Int))).take (Int.toNat (((b756.length : Nat) : Int) - (1 : Int))))).length), cb := [(1004, eL (eInt .i64) ([] ++ ((b756.drop (Int.toNat (1 : Int))).take (Int.toNat (((b756.length : Nat) : Int) - (1 : Int))))))] })])] 3 [0, 3, 6, 8, 11] [(124, 124), (164, 164), (1004, 1004)] (o5 h1 (ap_cutlen (xs := b756) (eInt_len .i64) (by simp : (0 + (Int.toNat (1 : Int)) * 1) = (Int.toNat (1 : Int)) * 1) h2) (ap_len (xs := []) (eInt_len .i64)) h3 (o2 (Le.apr (b := 1004) (by first | rfl | (simp only [List.length_append, List.length_take, List.length_drop]; omega) | simp : ([] ++ ((b756.drop (Int.toNat (1 : Int))).take (Int.toNat (((b756.length : Nat) : Int) - (1 : Int))))).length = 0 + (Int.toNat (((b756.length : Nat) : Int) - (1 : Int))))) (ap_cutall (xs := b756) (ys := []) (lo := (Int.toNat (1 : Int))) (n := (Int.toNat (((b756.length : Nat) : Int) - (1 : Int)))) (eInt_len .i64) (by simp : (0 + (Int.toNat (1 : Int)) * 1) = (Int.toNat (1 : Int)) * 1)))) (g6_7 gx0 z @hr1 h))
theorem g6_4 {N} (gx0 : Bool) {r} (z : Z Tryz.prog ty 6 Tryz.f6 (Fi [] (d6 r) [])) {r1 : (List Int) → Int → Int → (List GSite) → (List GHealth) → (List GEntry) → (List Int) → Int → Option (Bool)} (hr1 : ∀ {t0 b124_0 b124_1 b124_2 b124_3 b124_4 b140 t6}, r1 t0 b124_0 b124_1 b124_2 b124_3 b124_4 b140 t6 = some r → z.G [.c 607, .l 607, .b 0, .c 127] [(0, sS gx0 (eInt .i64) t0), (3, .ptr 124 0), (5, rR 140 b140), (6, iI t6)] [qB 124 [iI b124_0, iI b124_1, sS true (eSite true) b124_2, sS true eHealth b124_3, sS true eEntry b124_4], pB 140 1 (eL (eInt .i64) b140)]) (fuel) : ∀ {t0 b124_0 b124_1 b124_2 b124_3 b124_4 b140 t6 t7 b164_0 b164_1 b164_2 b164_3 b164_4 b172_0 b172_1 b188 t12}, L_law19_EdgeRow_4 N r1 fuel t0 b124_0 b124_1 b124_2 b124_3 b124_4 b140 t6 t7 b164_0 b164_1 b164_2 b164_3 b164_4 b172_0 b172_1 b188 t12 = some r → z.G [.c 1241695, .l 1241695, .b 2, .c 258655, .b 1, .c 3679, .l 607, .b 0, .c 127] [(0, sS gx0 (eInt .i64) t0), (3, .ptr 124 0), (5, rR 140 b140), (6, iI t6), (7, iI t7), (8, .ptr 164 0), (9, .ptr 172 0), (11, rR 188 b188), (12, iI t12)] [qB 124 [iI b124_0, iI b124_1, sS true (eSite true) b124_2, sS true eHealth b124_3, sS true eEntry b124_4], pB 140 1 (eL (eInt .i64) b140), qB 164 [iI b164_0, iI b164_1, sS true (eSite true) b164_2, sS true eHealth b164_3, sS true eEntry b164_4], qB 172 [sS true eStr b172_0, sS true eEvent b172_1], pB 188 1 (eL (eInt .i64) b188)] := by
 induction fuel with
 | zero => intro t0 b124_0 b124_1 b124_2 b124_3 b124_4 b140 t6 t7 b164_0 b164_1 b164_2 b164_3 b164_4 b172_0 b172_1 b188 t12 h; cases h
 | succ fuel ih =>
  intro t0 b124_0 b124_1 b124_2 b124_3 b124_4 b140 t6 t7 b164_0 b164_1 b164_2 b164_3 b164_4 b172_0 b172_1 b188 t12 h
  exact
   br h (fun h0 h =>
    ck h fun h1 h =>
    z.s [(16, [(3, oT)])] 8 (o1 (Le.tt h0)) <|
    br h (fun h2 h =>
     ck h fun h3 h =>
     ck h fun h4 h =>
     z.j [(18, [(2, oC (.ptr 140 (t12.toNat * 1 + 0))), (3, oC (iI (b140.getD t12.toNat default))), (5, oT)]), (19, [(3, oC (.ptr 140 (t12.toNat * 1 + 0))), (4, oC (iI (b140.getD t12.toNat default))), (6, { cv := some (.ref 724 0 (b188 ++ [(b140.getD t12.toNat default)]).length (b188 ++ [(b140.getD t12.toNat default)]).length), cb := [(724, eL (eInt .i64) (b188 ++ [(b140.getD t12.toNat default)]))] })])] 3 [0, 3, 5, 6, 7, 8, 9, 11, 12] [(124, 124), (140, 140), (164, 164), (172, 172), (724, 724)] (o5 h1 (Le.pt (b := 140) (k := t12.toNat * 1)) (ld_ne (xs := b140) (eInt_len .i64) (ixl h1) (o := 0) (by decide)) (Le.of (ld_hd (xs := b140) (eInt_len .i64) (ixl h1) (o := 0) (by decide))) (o5 (Le.tt h2) h3 (Le.pt (b := 140) (k := t12.toNat * 1)) (ld_ne (xs := b140) (eInt_len .i64) (ixl h3) (o := 0) (by decide)) (o5 (Le.of (ld_hd (xs := b140) (eInt_len .i64) (ixl h3) (o := 0) (by decide))) (by decide : 1 * 1 ≤ 1) (ap_len (xs := b188) (eInt_len .i64)) h4 (o2 (Le.apr (b := 724) (by first | rfl | (simp only [List.length_append, List.length_take, List.length_drop]; omega) | simp : (b188 ++ [(b140.getD t12.toNat default)]).length = b188.length + 1)) (ap_one (xs := b188) (eInt_len .i64) (y := (b140.getD t12.toNat default)) (cs := [iI (b140.getD t12.toNat default)]) rfl))))) (g6_5 gx0 z @hr1 @ih h)) fun h2 h =>
    z.j [(18, [(2, oC (.ptr 140 (t12.toNat * 1 + 0))), (3, oC (iI (b140.getD t12.toNat default))), (5, oF)])] 3 [0, 3, 5, 6, 7, 8, 9, 11, 12] [(124, 124), (140, 140), (164, 164), (172, 172), (188, 724)] (o5 h1 (Le.pt (b := 140) (k := t12.toNat * 1)) (ld_ne (xs := b140) (eInt_len .i64) (ixl h1) (o := 0) (by decide)) (Le.of (ld_hd (xs := b140) (eInt_len .i64) (ixl h1) (o := 0) (by decide))) (o1 (Le.ff h2))) (g6_5 gx0 z @hr1 @ih h)) fun h0 h =>
   ck h fun h1 h =>
   z.s [(16, [(3, oF)]), (20, [(3, { cv := some (.ref 756 0 (b188 ++ [t7]).length (b188 ++ [t7]).length), cb := [(756, eL (eInt .i64) (b188 ++ [t7]))] })])] 9 (o5 (Le.ff h0) (by decide : 1 * 1 ≤ 1) (ap_len (xs := b188) (eInt_len .i64)) h1 (o2 (Le.apr (b := 756) (by first | rfl | (simp only [List.length_append, List.length_take, List.length_drop]; omega) | simp : (b188 ++ [t7]).length = b188.length + 1)) (ap_one (xs := b188) (eInt_len .i64) (y := t7) (cs := [iI t7]) rfl))) <|
   br h (fun h2 h =>
    z.s [(21, [(2, oT)])] 4 (o1 (Le.tt h2)) <|
    br h (fun h3 h =>
     z.j [(22, [(4, oT)])] 1 [0, 3, 6, 8, 11, 109] [(124, 124), (164, 164), (756, 756)] (o1 (Le.tt h3)) (g6_6 gx0 z @hr1 h)) fun h3 h =>
    ck h fun h4 h =>
    br h (fun h5 h =>
     z.j [(22, [(4, oF), (7, oC (.ip true [iI ((b172_1.getD (Int.toNat 0) default).Kind), iI ((b172_1.getD (Int.toNat 0) default).Role), iI ((b172_1.getD (Int.toNat 0) default).Site), iI ((b172_1.getD (Int.toNat 0) default).Node), iI ((b172_1.getD (Int.toNat 0) default).To), iI (((b172_1.getD (Int.toNat 0) default).Flow).Src), iI (((b172_1.getD (Int.toNat 0) default).Flow).Dst), iI (((b172_1.getD (Int.toNat 0) default).Flow).Proto), iI (((b172_1.getD (Int.toNat 0) default).Flow).Sport), iI (((b172_1.getD (Int.toNat 0) default).Flow).Dport)])), (12, oT)])] 1 [0, 3, 6, 8, 11, 109] [(124, 124), (164, 164), (756, 756)] (o4 (Le.ff h3) h4 (Le.iptl (g := true) (eL_at (xs := b172_1) eEvent_len (ixl h4))) (Le.tt h5)) (g6_6 gx0 z @hr1 h)) fun h5 h =>
    ck h fun h6 h =>
    vi h fun v1 h7 h =>
    ck h fun h8 h =>
    z.j [(22, [(4, oF), (7, oC (.ip true [iI ((b172_1.getD (Int.toNat 0) default).Kind), iI ((b172_1.getD (Int.toNat 0) default).Role), iI ((b172_1.getD (Int.toNat 0) default).Site), iI ((b172_1.getD (Int.toNat 0) default).Node), iI ((b172_1.getD (Int.toNat 0) default).To), iI (((b172_1.getD (Int.toNat 0) default).Flow).Src), iI (((b172_1.getD (Int.toNat 0) default).Flow).Dst), iI (((b172_1.getD (Int.toNat 0) default).Flow).Proto), iI (((b172_1.getD (Int.toNat 0) default).Flow).Sport), iI (((b172_1.getD (Int.toNat 0) default).Flow).Dport)])), (12, oF), (15, oC (.ip true [iI ((b172_1.getD (Int.toNat 0) default).Kind), iI ((b172_1.getD (Int.toNat 0) default).Role), iI ((b172_1.getD (Int.toNat 0) default).Site), iI ((b172_1.getD (Int.toNat 0) default).Node), iI ((b172_1.getD (Int.toNat 0) default).To), iI (((b172_1.getD (Int.toNat 0) default).Flow).Src), iI (((b172_1.getD (Int.toNat 0) default).Flow).Dst), iI (((b172_1.getD (Int.toNat 0) default).Flow).Proto), iI (((b172_1.getD (Int.toNat 0) default).Flow).Sport), iI (((b172_1.getD (Int.toNat 0) default).Flow).Dport)])), (18, oC (.int .i64 v1)), (20, oC (.ptr 756 ((Int.toNat 0) * 1 + 0))), (21, oC (iI ((b188 ++ [t7]).getD (Int.toNat 0) default)))])] 1 [0, 3, 6, 8, 11, 109] [(124, 124), (164, 164), (756, 756)] (o5 (Le.ff h3) h4 (Le.iptl (g := true) (eL_at (xs := b172_1) eEvent_len (ixl h4))) (Le.ff h5) (o5 h6 (Le.iptl (g := true) (eL_at (xs := b172_1) eEvent_len (ixl h6))) (List.cons_ne_nil _ _ : ([iI (((b172_1.getD (Int.toNat 0) default).Flow).Src), iI (((b172_1.getD (Int.toNat 0) default).Flow).Dst), iI (((b172_1.getD (Int.toNat 0) default).Flow).Proto), iI (((b172_1.getD (Int.toNat 0) default).Flow).Sport), iI (((b172_1.getD (Int.toNat 0) default).Flow).Dport)] : List D) ≠ []) (Le.int (k := .i64) h7) (o4 h8 (Le.pt (b := 756) (k := (Int.toNat 0) * 1)) (ld_ne (xs := (b188 ++ [t7])) (eInt_len .i64) (ixl h8) (o := 0) (by decide)) (Le.of (ld_hd (xs := (b188 ++ [t7])) (eInt_len .i64) (ixl h8) (o := 0) (by decide)))))) (g6_6 gx0 z @hr1 h)) fun h2 h =>
   z.s [(21, [(2, oF)])] 3 (o1 (Le.ff h2)) <|
   br h (fun h3 h =>
    z.r [(25, [(3, oT)])] 4 (o1 (Le.tt h3)) h) fun h3 h =>
   z.j [(25, [(3, oF)])] 3 [0, 3, 6, 8, 11] [(124, 124), (164, 164), (756, 1004)] (o1 (Le.ff h3)) (g6_7 gx0 z @hr1 h)
theorem g6_3 {N} (gx0 : Bool) {r} (z : Z Tryz.prog ty 6 Tryz.f6 (Fi [] (d6 r) [])) {r1 : (List Int) → Int → Int → (List GSite) → (List GHealth) → (List GEntry) → (List Int) → Int → Option (Bool)} (hr1 : ∀ {t0 b124_0 b124_1 b124_2 b124_3 b124_4 b140 t6}, r1 t0 b124_0 b124_1 b124_2 b124_3 b124_4 b140 t6 = some r → z.G [.c 607, .l 607, .b 0, .c 127] [(0, sS gx0 (eInt .i64) t0), (3, .ptr 124 0), (5, rR 140 b140), (6, iI t6)] [qB 124 [iI b124_0, iI b124_1, sS true (eSite true) b124_2, sS true eHealth b124_3, sS true eEntry b124_4], pB 140 1 (eL (eInt .i64) b140)]) {t0 b124_0 b124_1 b124_2 b124_3 b124_4 b140 t6 t7 b164_0 b164_1 b164_2 b164_3 b164_4 b172_0 b172_1 t59} (h : L_law19_EdgeRow_3 N r1 t0 b124_0 b124_1 b124_2 b124_3 b124_4 b140 t6 t7 b164_0 b164_1 b164_2 b164_3 b164_4 b172_0 b172_1 t59 = some r) : z.G [.c 111199, .c 62047, .b 1, .c 3679, .l 607, .b 0, .c 127] [(0, sS gx0 (eInt .i64) t0), (3, .ptr 124 0), (5, rR 140 b140), (6, iI t6), (7, iI t7), (8, .ptr 164 0), (9, .ptr 172 0), (59, .bool t59)] [qB 124 [iI b124_0, iI b124_1, sS true (eSite true) b124_2, sS true eHealth b124_3, sS true eEntry b124_4], pB 140 1 (eL (eInt .i64) b140), qB 164 [iI b164_0, iI b164_1, sS true (eSite true) b164_2, sS true eHealth b164_3, sS true eEntry b164_4], qB 172 [sS true eStr b172_0, sS true eEvent b172_1]] :=
 by
  cases t59 with
  | true => exact brT h fun h => (
   z.r [] 3 o0 h)
  | false => exact brF h fun h => (
   z.j [(14, [(0, { own := some (1) })])] 9 [0, 3, 5, 6, 7, 8, 9, 11, 12] [(124, 124), (140, 140), (164, 164), (172, 172), (188, 188)] o0 (g6_4 gx0 z @hr1 N h))
theorem g6_2 {N} (gx0 : Bool) {r} (z : Z Tryz.prog ty 6 Tryz.f6 (Fi [] (d6 r) [])) {r1 : (List Int) → Int → Int → (List GSite) → (List GHealth) → (List GEntry) → (List Int) → Int → Option (Bool)} (hr1 : ∀ {t0 b124_0 b124_1 b124_2 b124_3 b124_4 b140 t6}, r1 t0 b124_0 b124_1 b124_2 b124_3 b124_4 b140 t6 = some r → z.G [.c 607, .l 607, .b 0, .c 127] [(0, sS gx0 (eInt .i64) t0), (3, .ptr 124 0), (5, rR 140 b140), (6, iI t6)] [qB 124 [iI b124_0, iI b124_1, sS true (eSite true) b124_2, sS true eHealth b124_3, sS true eEntry b124_4], pB 140 1 (eL (eInt .i64) b140)]) {t0 b124_0 b124_1 b124_2 b124_3 b124_4 b140 t6 t31} (h : L_law19_EdgeRow_2 N r1 t0 b124_0 b124_1 b124_2 b124_3 b124_4 b140 t6 t31 = some r) : z.G [.c 3167, .c 1631, .l 607, .b 0, .c 127] [(0, sS gx0 (eInt .i64) t0), (3, .ptr 124 0), (5, rR 140 b140), (6, iI t6), (31, .bool t31)] [qB 124 [iI b124_0, iI b124_1, sS true (eSite true) b124_2, sS true eHealth b124_3, sS true eEntry b124_4], pB 140 1 (eL (eInt .i64) b140)] :=
 by
  cases t31 with
  | true => exact brT h fun h => (
   ck h fun h1 h =>
   vi h fun v1 h2 h =>
   bd h fun v2 h3 h =>
   bd h fun v3 h4 h =>
   bd h fun v4 h5 h =>
   z.s [(10, [(2, oC (.ip gx0 [iI (t0.getD t6.toNat default)])), (4, oC (.int .u64 v1))]), (11, [(4, oR (d35 v2)), (5, oR (d19 v3))])] 10 (o5 h1 (Le.iptl (g := gx0) (eL_at (xs := t0) (eInt_len .i64) (ixl h1))) (Le.int (k := .u64) h2) (by decide : (11:Int) ≠ 0) (o2 (c35 h3) (c19 true h4))) <|
   br h (fun h6 h =>
    z.j [(12, [(1, oR (d25 v4)), (3, oT)])] 1 [0, 3, 5, 6, 7, 8, 9, 59] [(124, 124), (140, 140), (164, 164), (172, 172)] (o2 (c25 h5) (Le.tt h6)) (g6_3 gx0 z @hr1 h)) fun h6 h =>
   z.j [(12, [(1, oR (d25 v4)), (3, oF)])] 1 [0, 3, 5, 6, 7, 8, 9, 59] [(124, 124), (140, 140), (164, 164), (172, 172)] (o2 (c25 h5) (Le.ff h6)) (g6_3 gx0 z @hr1 h))
  | false => exact brF h fun h => (
   z.r [] 4 o0 h)
theorem g6_1 {N} (gx0 : Bool) {r} (z : Z Tryz.prog ty 6 Tryz.f6 (Fi [] (d6 r) [])) (fuel) : ∀ {t0 b124_0 b124_1 b124_2 b124_3 b124_4 b140 t6}, L_law19_EdgeRow_1 N fuel t0 b124_0 b124_1 b124_2 b124_3 b124_4 b140 t6 = some r → z.G [.c 607, .l 607, .b 0, .c 127] [(0, sS gx0 (eInt .i64) t0), (3, .ptr 124 0), (5, rR 140 b140), (6, iI t6)] [qB 124 [iI b124_0, iI b124_1, sS true (eSite true) b124_2, sS true eHealth b124_3, sS true eEntry b124_4], pB 140 1 (eL (eInt .i64) b140)] := by
 induction fuel with
 | zero => intro t0 b124_0 b124_1 b124_2 b124_3 b124_4 b140 t6 h; cases h
 | succ fuel ih =>
  intro t0 b124_0 b124_1 b124_2 b124_3 b124_4 b140 t6 h
  exact
   br h (fun h0 h =>
    z.j [(8, [(4, oT)])] 3 [0, 3, 5, 6, 31] [(124, 124), (140, 140)] (o1 (Le.tt h0)) (g6_2 gx0 z @ih h)) fun h0 h =>
   z.j [(8, [(4, oF)])] 3 [0, 3, 5, 6, 31] [(124, 124), (140, 140)] (o1 (Le.ff h0)) (g6_2 gx0 z @ih h)
theorem c6 {N} (gx0 : Bool) {x0 r} (h : L_law19_EdgeRow N x0 = some r) : Con Tryz.prog 6 [sS gx0 (eInt .i64) x0] [] (d6 r) [] :=
 ci ok mix Tryz.f6 fun z =>
 bd h fun v1 h0 h =>
 br h (fun h1 h =>
  z.r [(1, [(0, oR (d30 v1)), (1, oT)])] 8 (o2 (c30 h0) (Le.tt h1)) h) fun h1 h =>
 bd h fun v2 h2 h =>
 bd h fun v3 h3 h =>
 bd h fun v4 h4 h =>
 z.s [(1, [(0, oR (d30 v1)), (1, oF)]), (3, [(0, oR (d34 v2)), (1, oR (d21 v3))])] 11 (o4 (c30 h0) (Le.ff h1) (c34 h2) (c21 true h3)) <|
 br h (fun h5 h =>
  z.r [(4, [(1, oR (d25 v4)), (2, oT)])] 4 (o2 (c25 h4) (Le.tt h5)) h) fun h5 h =>
 z.j [(4, [(1, oR (d25 v4)), (2, oF)]), (6, [(0, { own := some (1) })])] 10 [0, 3, 5, 6] [(124, 124), (140, 140)] (o2 (c25 h4) (Le.ff h5)) (g6_1 gx0 z N h)
def L_law19_EdgeStays_2 (N : Nat) (t6 : Bool) : Option (Bool) :=
 some t6
def L_law19_EdgeStays_6 (N : Nat) (t6 : Bool) : Option (Bool) :=
 some t6
def L_law19_EdgeStays_5 (N : Nat) (b124_0 b124_1 : Int) (b124_2 : (List GSite)) (b124_3 : (List GHealth)) (b124_4 : (List GEntry)) (b204_0 b204_1 b204_2 b204_3 b204_4 b204_5 : Int) (b204_6 : Bool) (b204_7 b204_8 t17 : Int) (t18 : Bool) : Option (Bool) :=
 bif t18 then
  bif (t17 == b204_5) then
   L_law19_EdgeStays_6 N true
  else
   bif (!t18) then
    if 0 ≤ t17 ∧ t17 < ((b124_2.length : Nat) : Int) then
    bif (!((b124_2.getD t17.toNat default).Drain)) then
     if 0 ≤ t17 ∧ t17 < ((b124_2.length : Nat) : Int) then
     L_law19_EdgeStays_6 N (decide ((b124_2.getD t17.toNat default).Weight > 0))
     else none
    else
     L_law19_EdgeStays_6 N false
    else none
   else
    L_law19_EdgeStays_6 N false
 else
  bif (!t18) then
   if 0 ≤ t17 ∧ t17 < ((b124_2.length : Nat) : Int) then
   bif (!((b124_2.getD t17.toNat default).Drain)) then
    if 0 ≤ t17 ∧ t17 < ((b124_2.length : Nat) : Int) then
    L_law19_EdgeStays_6 N (decide ((b124_2.getD t17.toNat default).Weight > 0))
    else none
   else
    L_law19_EdgeStays_6 N false
   else none
  else
   L_law19_EdgeStays_6 N false
def L_law19_EdgeStays_4 (N : Nat) (b124_0 b124_1 : Int) (b124_2 : (List GSite)) (b124_3 : (List GHealth)) (b124_4 : (List GEntry)) (b204_0 b204_1 b204_2 b204_3 b204_4 b204_5 : Int) (b204_6 : Bool) (b204_7 b204_8 : Int) (t14 : Bool) (t17 : Int) (t131 : Bool) : Option (Bool) :=
 bif t131 then
  some false
 else
  bif t14 then
   bif (decide (b204_5 < (b124_2.length : Int))) then
    bif (decide (b204_5 < (b124_3.length : Int))) then
     if 0 ≤ b204_5 ∧ b204_5 < ((b124_3.length : Nat) : Int) then
     L_law19_EdgeStays_5 N b124_0 b124_1 b124_2 b124_3 b124_4 b204_0 b204_1 b204_2 b204_3 b204_4 b204_5 b204_6 b204_7 b204_8 t17 ((b124_3.getD b204_5.toNat default).Up)
     else none
    else
     L_law19_EdgeStays_5 N b124_0 b124_1 b124_2 b124_3 b124_4 b204_0 b204_1 b204_2 b204_3 b204_4 b204_5 b204_6 b204_7 b204_8 t17 false
   else
    L_law19_EdgeStays_5 N b124_0 b124_1 b124_2 b124_3 b124_4 b204_0 b204_1 b204_2 b204_3 b204_4 b204_5 b204_6 b204_7 b204_8 t17 false
  else
   L_law19_EdgeStays_5 N b124_0 b124_1 b124_2 b124_3 b124_4 b204_0 b204_1 b204_2 b204_3 b204_4 b204_5 b204_6 b204_7 b204_8 t17 false
def L_law19_EdgeStays_3 (N : Nat) (b124_0 b124_1 : Int) (b124_2 : (List GSite)) (b124_3 : (List GHealth)) (b124_4 : (List GEntry)) (b204_0 b204_1 b204_2 b204_3 b204_4 b204_5 : Int) (b204_6 : Bool) (b204_7 b204_8 : Int) (t14 : Bool) (b220_0 b220_1 b220_2 b220_3 b220_4 : Int) (b220_5 : ByteArray) (t102 : Bool) : Option (Bool) :=
 bif t102 then
  some false
 else
  bif (decide ((IntKind.i64.wrap (b220_1 - 167903232)) < 0)) then
   L_law19_EdgeStays_4 N b124_0 b124_1 b124_2 b124_3 b124_4 b204_0 b204_1 b204_2 b204_3 b204_4 b204_5 b204_6 b204_7 b204_8 t14 (IntKind.i64.wrap (b220_1 - 167903232)) true
  else
   bif (decide ((IntKind.i64.wrap (b220_1 - 167903232)) ≥ (b124_2.length : Int))) then
    L_law19_EdgeStays_4 N b124_0 b124_1 b124_2 b124_3 b124_4 b204_0 b204_1 b204_2 b204_3 b204_4 b204_5 b204_6 b204_7 b204_8 t14 (IntKind.i64.wrap (b220_1 - 167903232)) true
   else
    bif (decide ((IntKind.i64.wrap (b220_1 - 167903232)) ≥ (b124_3.length : Int))) then
     L_law19_EdgeStays_4 N b124_0 b124_1 b124_2 b124_3 b124_4 b204_0 b204_1 b204_2 b204_3 b204_4 b204_5 b204_6 b204_7 b204_8 t14 (IntKind.i64.wrap (b220_1 - 167903232)) true
    else
     if 0 ≤ (IntKind.i64.wrap (b220_1 - 167903232)) ∧ (IntKind.i64.wrap (b220_1 - 167903232)) < ((b124_3.length : Nat) : Int) then
     L_law19_EdgeStays_4 N b124_0 b124_1 b124_2 b124_3 b124_4 b204_0 b204_1 b204_2 b204_3 b204_4 b204_5 b204_6 b204_7 b204_8 t14 (IntKind.i64.wrap (b220_1 - 167903232)) (!((b124_3.getD (IntKind.i64.wrap (b220_1 - 167903232)).toNat default).Up))
     else none
def L_law19_EdgeStays_1 (N : Nat) (t1 : Int) (t2 : ByteArray) (b124_0 b124_1 : Int) (b124_2 : (List GSite)) (b124_3 : (List GHealth)) (b124_4 : (List GEntry)) (b164_0 : (List ByteArray)) (b164_1 : (List GEvent)) (t9 b180_0 b180_1 b180_2 b180_3 b180_4 : Int) (t41 : Bool) : Option (Bool) :=
 bif t41 then
  (L_law0_Num N t9).bind fun v1 =>
  bif (v1 == 0) then
   bif ((b164_0.length : Int) == 0) then
    L_law19_EdgeStays_2 N true
   else
    L_law19_EdgeStays_2 N ((b164_1.length : Int) == 0)
  else
   L_law19_EdgeStays_2 N ((b164_1.length : Int) == 0)
 else
  (L_ref10_FindEntry N b124_4 (GFlow.mk b180_0 b180_1 b180_2 b180_3 b180_4) t1).bind fun v1 =>
  bif ((b164_0.length : Int) == 0) then
   some ((b164_1.length : Int) == 1)
  else
   if 0 ≤ (0 : Int) ∧ (0 : Int) < ((b164_0.length : Nat) : Int) then
   (L_ref1_Pop N (b164_0.getD (Int.toNat 0) default)).bind fun v2 =>
   bif (v2.2 != 0) then
    L_law19_EdgeStays_3 N b124_0 b124_1 b124_2 b124_3 b124_4 v1.1.Flow.Src v1.1.Flow.Dst v1.1.Flow.Proto v1.1.Flow.Sport v1.1.Flow.Dport v1.1.To v1.1.Away v1.1.Phase v1.1.Used v1.2 v2.1.Src v2.1.Dst v2.1.Tier v2.1.Marker v2.1.Origin v2.1.Body true
   else
    bif ((b164_0.length : Int) != 1) then
     L_law19_EdgeStays_3 N b124_0 b124_1 b124_2 b124_3 b124_4 v1.1.Flow.Src v1.1.Flow.Dst v1.1.Flow.Proto v1.1.Flow.Sport v1.1.Flow.Dport v1.1.To v1.1.Away v1.1.Phase v1.1.Used v1.2 v2.1.Src v2.1.Dst v2.1.Tier v2.1.Marker v2.1.Origin v2.1.Body true
    else
     via ((IntKind.i64.wrap ((167837696 : Int) + b124_0)) : Int) fun v3 =>
     bif (v2.1.Src != v3) then
      L_law19_EdgeStays_3 N b124_0 b124_1 b124_2 b124_3 b124_4 v1.1.Flow.Src v1.1.Flow.Dst v1.1.Flow.Proto v1.1.Flow.Sport v1.1.Flow.Dport v1.1.To v1.1.Away v1.1.Phase v1.1.Used v1.2 v2.1.Src v2.1.Dst v2.1.Tier v2.1.Marker v2.1.Origin v2.1.Body true
     else
      L_law19_EdgeStays_3 N b124_0 b124_1 b124_2 b124_3 b124_4 v1.1.Flow.Src v1.1.Flow.Dst v1.1.Flow.Proto v1.1.Flow.Sport v1.1.Flow.Dport v1.1.To v1.1.Away v1.1.Phase v1.1.Used v1.2 v2.1.Src v2.1.Dst v2.1.Tier v2.1.Marker v2.1.Origin v2.1.Body (!(v2.1.Body.toList == t2.toList))
   else none
def L_law19_EdgeStays (N : Nat) (x0 : GEdge) (x1 : Int) (x2 : ByteArray) : Option (Bool) :=
 (L_law19_awake N).bind fun v1 =>
 bif (!v1) then
  some false
 else
  (L_edge_Take N x0 x1 x2).bind fun v2 =>
  (L_ref1_FlowOf N x2).bind fun v3 =>
  (L_law0_Num N v2.2.2).bind fun v4 =>
  bif (v4 != 0) then
   L_law19_EdgeStays_1 N x1 x2 x0.Id x0.Config.Version x0.Config.Sites x0.Health x0.Flows v2.2.1.Sent v2.2.1.Events v2.2.2 v3.1.Src v3.1.Dst v3.1.Proto v3.1.Sport v3.1.Dport true
  else
   L_law19_EdgeStays_1 N x1 x2 x0.Id x0.Config.Version x0.Config.Sites x0.Health x0.Flows v2.2.1.Sent v2.2.1.Events v2.2.2 v3.1.Src v3.1.Dst v3.1.Proto v3.1.Sport v3.1.Dport (v3.2.2 != 0)
def d4 (r : Bool) : D := .bool r
theorem g4_2 {N} (gx0 : Bool) {r} (z : Z Tryz.prog ty 4 Tryz.f4 (Fi [] (d4 r) [])) {t6} (h : L_law19_EdgeStays_2 N t6 = some r) : z.G [.c 431, .c 63] [(6, .bool t6)] [] :=
 z.r [] 0 o0 h
theorem g4_6 {N} (gx0 : Bool) {r} (z : Z Tryz.prog ty 4 Tryz.f4 (Fi [] (d4 r) [])) {t6} (h : L_law19_EdgeStays_6 N t6 = some r) : z.G [.c 16383] [(6, .bool t6)] [] :=
 z.r [] 0 o0 h
theorem g4_5 {N} (gx0 : Bool) {r} (z : Z Tryz.prog ty 4 Tryz.f4 (Fi [] (d4 r) [])) {b124_0 b124_1 b124_2 b124_3 b124_4 b204_0 b204_1 b204_2 b204_3 b204_4 b204_5 b204_6 b204_7 b204_8 t17 t18} (h : L_law19_EdgeStays_5 N b124_0 b124_1 b124_2 b124_3 b124_4 b204_0 b204_1 b204_2 b204_3 b204_4 b204_5 b204_6 b204_7 b204_8 t17 t18 = some r) : z.G [.c 8191] [(3, .ptr 124 0), (13, .ptr 204 0), (17, iI t17), (18, .bool t18)] [qB 124 [iI b124_0, iI b124_1, sS gx0 (eSite gx0) b124_2, sS gx0 eHealth b124_3, sS gx0 eEntry b124_4], qB 204 [iI b204_0, iI b204_1, iI b204_2, iI b204_3, iI b204_4, iI b204_5, .bool b204_6, iI b204_7, iI b204_8]] :=
 br h (fun h0 h =>
  br h (fun h1 h =>
   z.j [(17, [(1, oT), (7, oT)])] 2 [6] [] (o2 (Le.tt h0) (Le.tt h1)) (g4_6 gx0 z h)) fun h1 h =>
  br h (fun h2 h =>
   ck h fun h3 h =>
   br h (fun h4 h =>
    ck h fun h5 h =>
    z.j [(17, [(1, oT), (7, oF), (10, oT), (15, oC (.ip gx0 [iI ((b124_2.getD t17.toNat default).Weight), .bool ((b124_2.getD t17.toNat default).Drain), iI ((b124_2.getD t17.toNat default).Cap), sS gx0 eBack ((b124_2.getD t17.toNat default).Backs)])), (20, oT), (25, oC (.ip gx0 [iI ((b124_2.getD t17.toNat default).Weight), .bool ((b124_2.getD t17.toNat default).Drain), iI ((b124_2.getD t17.toNat default).Cap), sS gx0 eBack ((b124_2.getD t17.toNat default).Backs)]))])] 2 [6] [] (o5 (Le.tt h0) (Le.ff h1) (Le.tt h2) h3 (o4 (Le.iptl (g := gx0) (eL_at (xs := b124_2) (eSite_len gx0) (ixl h3))) (Le.tt h4) h5 (Le.iptl (g := gx0) (eL_at (xs := b124_2) (eSite_len gx0) (ixl h5))))) (g4_6 gx0 z h)) fun h4 h =>
   z.j [(17, [(1, oT), (7, oF), (10, oT), (15, oC (.ip gx0 [iI ((b124_2.getD t17.toNat default).Weight), .bool ((b124_2.getD t17.toNat default).Drain), iI ((b124_2.getD t17.toNat default).Cap), sS gx0 eBack ((b124_2.getD t17.toNat default).Backs)])), (20, oF)])] 2 [6] [] (o5 (Le.tt h0) (Le.ff h1) (Le.tt h2) h3 (o2 (Le.iptl (g := gx0) (eL_at (xs := b124_2) (eSite_len gx0) (ixl h3))) (Le.ff h4))) (g4_6 gx0 z h)) fun h2 h =>
  z.j [(17, [(1, oT), (7, oF), (10, oF)])] 2 [6] [] (o3 (Le.tt h0) (Le.ff h1) (Le.ff h2)) (g4_6 gx0 z h)) fun h0 h =>
 br h (fun h1 h =>
  ck h fun h2 h =>
  br h (fun h3 h =>
   ck h fun h4 h =>
   z.j [(17, [(1, oF), (10, oT), (15, oC (.ip gx0 [iI ((b124_2.getD t17.toNat default).Weight), .bool ((b124_2.getD t17.toNat default).Drain), iI ((b124_2.getD t17.toNat default).Cap), sS gx0 eBack ((b124_2.getD t17.toNat default).Backs)])), (20, oT), (25, oC (.ip gx0 [iI ((b124_2.getD t17.toNat default).Weight), .bool ((b124_2.getD t17.toNat default).Drain), iI ((b124_2.getD t17.toNat default).Cap), sS gx0 eBack ((b124_2.getD t17.toNat default).Backs)]))])] 2 [6] [] (o5 (Le.ff h0) (Le.tt h1) h2 (Le.iptl (g := gx0) (eL_at (xs := b124_2) (eSite_len gx0) (ixl h2))) (o3 (Le.tt h3) h4 (Le.iptl (g := gx0) (eL_at (xs := b124_2) (eSite_len gx0) (ixl h4))))) (g4_6 gx0 z h)) fun h3 h =>
  z.j [(17, [(1, oF), (10, oT), (15, oC (.ip gx0 [iI ((b124_2.getD t17.toNat default).Weight), .bool ((b124_2.getD t17.toNat default).Drain), iI ((b124_2.getD t17.toNat default).Cap), sS gx0 eBack ((b124_2.getD t17.toNat default).Backs)])), (20, oF)])] 2 [6] [] (o5 (Le.ff h0) (Le.tt h1) h2 (Le.iptl (g := gx0) (eL_at (xs := b124_2) (eSite_len gx0) (ixl h2))) (o1 (Le.ff h3))) (g4_6 gx0 z h)) fun h1 h =>
 z.j [(17, [(1, oF), (10, oF)])] 2 [6] [] (o2 (Le.ff h0) (Le.ff h1)) (g4_6 gx0 z h)
theorem g4_4 {N} (gx0 : Bool) {r} (z : Z Tryz.prog ty 4 Tryz.f4 (Fi [] (d4 r) [])) {b124_0 b124_1 b124_2 b124_3 b124_4 b204_0 b204_1 b204_2 b204_3 b204_4 b204_5 b204_6 b204_7 b204_8 t14 t17 t131} (h : L_law19_EdgeStays_4 N b124_0 b124_1 b124_2 b124_3 b124_4 b204_0 b204_1 b204_2 b204_3 b204_4 b204_5 b204_6 b204_7 b204_8 t14 t17 t131 = some r) : z.G [.c 7167, .c 4095] [(3, .ptr 124 0), (13, .ptr 204 0), (14, .bool t14), (17, iI t17), (131, .bool t131)] [qB 124 [iI b124_0, iI b124_1, sS gx0 (eSite gx0) b124_2, sS gx0 eHealth b124_3, sS gx0 eEntry b124_4], qB 204 [iI b204_0, iI b204_1, iI b204_2, iI b204_3, iI b204_4, iI b204_5, .bool b204_6, iI b204_7, iI b204_8]] :=
 by
  cases t131 with
  | true => exact brT h fun h => (
   z.r [] 3 o0 h)
  | false => exact brF h fun h => (
   br h (fun h1 h =>
    br h (fun h2 h =>
     br h (fun h3 h =>
      ck h fun h4 h =>
      z.j [(16, [(1, oT), (10, oT), (18, oT), (23, oC (.ip gx0 [.bool ((b124_3.getD b204_5.toNat default).Up), iI ((b124_3.getD b204_5.toNat default).Count)]))])] 4 [3, 13, 17, 18] [(124, 124), (204, 204)] (o5 (Le.tt h1) (Le.tt h2) (Le.tt h3) h4 (o1 (Le.iptl (g := gx0) (eL_at (xs := b124_3) eHealth_len (ixl h4))))) (g4_5 gx0 z h)) fun h3 h =>
     z.j [(16, [(1, oT), (10, oT), (18, oF)])] 4 [3, 13, 17, 18] [(124, 124), (204, 204)] (o3 (Le.tt h1) (Le.tt h2) (Le.ff h3)) (g4_5 gx0 z h)) fun h2 h =>
    z.j [(16, [(1, oT), (10, oF)])] 4 [3, 13, 17, 18] [(124, 124), (204, 204)] (o2 (Le.tt h1) (Le.ff h2)) (g4_5 gx0 z h)) fun h1 h =>
   z.j [(16, [(1, oF)])] 4 [3, 13, 17, 18] [(124, 124), (204, 204)] (o1 (Le.ff h1)) (g4_5 gx0 z h))
theorem g4_3 {N} (gx0 : Bool) {r} (z : Z Tryz.prog ty 4 Tryz.f4 (Fi [] (d4 r) [])) {b124_0 b124_1 b124_2 b124_3 b124_4 b204_0 b204_1 b204_2 b204_3 b204_4 b204_5 b204_6 b204_7 b204_8 t14 b220_0 b220_1 b220_2 b220_3 b220_4 b220_5 t102} (h : L_law19_EdgeStays_3 N b124_0 b124_1 b124_2 b124_3 b124_4 b204_0 b204_1 b204_2 b204_3 b204_4 b204_5 b204_6 b204_7 b204_8 t14 b220_0 b220_1 b220_2 b220_3 b220_4 b220_5 t102 = some r) : z.G [.c 1791, .c 1023] [(3, .ptr 124 0), (13, .ptr 204 0), (14, .bool t14), (15, .ptr 220 0), (102, .bool t102)] [qB 124 [iI b124_0, iI b124_1, sS gx0 (eSite gx0) b124_2, sS gx0 eHealth b124_3, sS gx0 eEntry b124_4], qB 204 [iI b204_0, iI b204_1, iI b204_2, iI b204_3, iI b204_4, iI b204_5, .bool b204_6, iI b204_7, iI b204_8], qB 220 [iI b220_0, iI b220_1, iI b220_2, iI b220_3, iI b220_4, .str b220_5]] :=
 by
  cases t102 with
  | true => exact brT h fun h => (
   z.r [] 3 o0 h)
  | false => exact brF h fun h => (
   br h (fun h1 h =>
    z.j [(14, [(2, oT)])] 7 [3, 13, 14, 17, 131] [(124, 124), (204, 204)] (o1 (Le.tt h1)) (g4_4 gx0 z h)) fun h1 h =>
   br h (fun h2 h =>
    z.j [(14, [(2, oF), (10, oT)])] 7 [3, 13, 14, 17, 131] [(124, 124), (204, 204)] (o2 (Le.ff h1) (Le.tt h2)) (g4_4 gx0 z h)) fun h2 h =>
   br h (fun h3 h =>
    z.j [(14, [(2, oF), (10, oF), (17, oT)])] 7 [3, 13, 14, 17, 131] [(124, 124), (204, 204)] (o3 (Le.ff h1) (Le.ff h2) (Le.tt h3)) (g4_4 gx0 z h)) fun h3 h =>
   ck h fun h4 h =>
   z.j [(14, [(2, oF), (10, oF), (17, oF), (21, oC (.ip gx0 [.bool ((b124_3.getD (IntKind.i64.wrap (b220_1 - 167903232)).toNat default).Up), iI ((b124_3.getD (IntKind.i64.wrap (b220_1 - 167903232)).toNat default).Count)]))])] 7 [3, 13, 14, 17, 131] [(124, 124), (204, 204)] (o5 (Le.ff h1) (Le.ff h2) (Le.ff h3) h4 (o1 (Le.iptl (g := gx0) (eL_at (xs := b124_3) eHealth_len (ixl h4))))) (g4_4 gx0 z h))
theorem g4_1 {N} (gx0 : Bool) {r} (z : Z Tryz.prog ty 4 Tryz.f4 (Fi [] (d4 r) [])) {t1 t2 b124_0 b124_1 b124_2 b124_3 b124_4 b164_0 b164_1 t9 b180_0 b180_1 b180_2 b180_3 b180_4 t41} (h : L_law19_EdgeStays_1 N t1 t2 b124_0 b124_1 b124_2 b124_3 b124_4 b164_0 b164_1 t9 b180_0 b180_1 b180_2 b180_3 b180_4 t41 = some r) : z.G [.c 111, .c 63] [(1, iI t1), (2, .str t2), (3, .ptr 124 0), (8, .ptr 164 0), (9, iI t9), (10, .ptr 180 0), (41, .bool t41)] [qB 124 [iI b124_0, iI b124_1, sS gx0 (eSite gx0) b124_2, sS gx0 eHealth b124_3, sS gx0 eEntry b124_4], qB 164 [sS true eStr b164_0, sS true eEvent b164_1], qB 180 [iI b180_0, iI b180_1, iI b180_2, iI b180_3, iI b180_4]] :=
 by
  cases t41 with
  | true => exact brT h fun h => (
   bd h fun v1 h1 h =>
   br h (fun h2 h =>
    br h (fun h3 h =>
     z.j [(6, [(1, oR (d25 v1)), (3, oT), (9, oT)])] 3 [6] [] (o3 (c25 h1) (Le.tt h2) (Le.tt h3)) (g4_2 gx0 z h)) fun h3 h =>
    z.j [(6, [(1, oR (d25 v1)), (3, oT), (9, oF)])] 3 [6] [] (o3 (c25 h1) (Le.tt h2) (Le.ff h3)) (g4_2 gx0 z h)) fun h2 h =>
   z.j [(6, [(1, oR (d25 v1)), (3, oF)])] 3 [6] [] (o2 (c25 h1) (Le.ff h2)) (g4_2 gx0 z h))
  | false => exact brF h fun h => (
   bd h fun v1 h1 h =>
   z.s [(7, [(4, oR (d32 v1))])] 6 (o1 (c32 gx0 h1)) <|
   br h (fun h2 h =>
    z.r [(8, [(3, oT)])] 4 (o1 (Le.tt h2)) h) fun h2 h =>
   ck h fun h3 h =>
   bd h fun v2 h4 h =>
   z.s [(8, [(3, oF)]), (10, [(2, oC (.ip true [.str (b164_0.getD (Int.toNat 0) default)])), (4, oR (d33 v2))])] 7 (o4 (Le.ff h2) h3 (Le.iptl (g := true) (eL_at (xs := b164_0) eStr_len (ixl h3))) (c33 h4)) <|
   br h (fun h5 h =>
    z.j [(11, [(2, oT)])] 1 [3, 13, 14, 15, 102] [(124, 124), (204, 204), (220, 220)] (o1 (Le.tt h5)) (g4_3 gx0 z h)) fun h5 h =>
   br h (fun h6 h =>
    z.j [(11, [(2, oF), (8, oT)])] 1 [3, 13, 14, 15, 102] [(124, 124), (204, 204), (220, 220)] (o2 (Le.ff h5) (Le.tt h6)) (g4_3 gx0 z h)) fun h6 h =>
   vi h fun v3 h7 h =>
   br h (fun h8 h =>
    z.j [(11, [(2, oF), (8, oF), (13, oC (.int .i64 v3)), (16, oT)])] 1 [3, 13, 14, 15, 102] [(124, 124), (204, 204), (220, 220)] (o4 (Le.ff h5) (Le.ff h6) (Le.int (k := .i64) h7) (Le.tt h8)) (g4_3 gx0 z h)) fun h8 h =>
   z.j [(11, [(2, oF), (8, oF), (13, oC (.int .i64 v3)), (16, oF)])] 1 [3, 13, 14, 15, 102] [(124, 124), (204, 204), (220, 220)] (o4 (Le.ff h5) (Le.ff h6) (Le.int (k := .i64) h7) (Le.ff h8)) (g4_3 gx0 z h))
theorem c4 {N} (gx0 : Bool) {x0 x1 x2 r} (h : L_law19_EdgeStays N x0 x1 x2 = some r) : Con Tryz.prog 4 [.agg [iI x0.Id, iI x0.Config.Version, sS gx0 (eSite gx0) x0.Config.Sites, sS gx0 eHealth x0.Health, sS gx0 eEntry x0.Flows], iI x1, .str x2] [] (d4 r) [] :=
 ci ok mix Tryz.f4 fun z =>
 bd h fun v1 h0 h =>
 br h (fun h1 h =>
  z.r [(1, [(0, oR (d30 v1)), (1, oT)])] 8 (o2 (c30 h0) (Le.tt h1)) h) fun h1 h =>
 bd h fun v2 h2 h =>
 bd h fun v3 h3 h =>
 bd h fun v4 h4 h =>
 z.s [(1, [(0, oR (d30 v1)), (1, oF)]), (3, [(3, oR (d19 v2))]), (4, [(1, oR (d31 v3))])] 13 (o4 (c30 h0) (Le.ff h1) (c19 gx0 h2) (c31 h3)) <|
 br h (fun h5 h =>
  z.j [(5, [(1, oR (d25 v4)), (3, oT)])] 1 [1, 2, 3, 8, 9, 10, 41] [(124, 124), (164, 164), (180, 180)] (o2 (c25 h4) (Le.tt h5)) (g4_1 gx0 z h)) fun h5 h =>
 z.j [(5, [(1, oR (d25 v4)), (3, oF)])] 1 [1, 2, 3, 8, 9, 10, 41] [(124, 124), (164, 164), (180, 180)] (o2 (c25 h4) (Le.ff h5)) (g4_1 gx0 z h)
end Go.Proofs.YtmhlgpdoedbedaaGreat.Lf
