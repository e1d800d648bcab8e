/- What functions compute, and that they do. -/
import Derived.Test.YtmhlgpdoedbedaaGreatAll1
namespace Go.Proofs.YtmhlgpdoedbedaaGreat.Lf
set_option linter.unusedVariables false
set_option linter.unusedSimpArgs false
set_option maxRecDepth 20000
open Go Go.RowKit Go.Proofs Go.Proofs.YtmhlgpdoedbedaaGreat.Sv
/-! ### wharfage/conf.Site -/
/-! ### wharfage/conf.Has -/
/-! ### wharfage/edge.pinned -/
/-! ### wharfage/edge.Take -/
/-! ### wharfage/wharfagelaw19.EdgeMoves -/
/-! ### wharfage/wharfagelaw19.EdgeRow -/
/-! ### wharfage/wharfageref1.GetSeg -/
def L_ref1_GetSeg_4 (N : Nat) (b164_0 b164_1 b164_2 b164_3 b164_4 b164_5 : Int) (b164_6 : ByteArray) (b180_0 b180_1 b180_2 b180_3 b180_4 b180_5 : Int) (b180_6 : ByteArray) (t100 : Bool) : Option (GSeg × Int) :=
  bif t100 then
    some ((GSeg.mk 0 0 0 0 0 0 ByteArray.empty), 300)
  else
    some ((GSeg.mk b180_0 b180_1 b180_2 b180_3 b180_4 b180_5 b180_6), 0)
def L_ref1_GetSeg_3 (N : Nat) (b164_0 b164_1 b164_2 b164_3 b164_4 b164_5 : Int) (b164_6 : ByteArray) (b180_0 b180_1 b180_2 b180_3 b180_4 b180_5 : Int) (b180_6 : ByteArray) (t11 : Bool) : Option (GSeg × Int) :=
  bif (!t11) then
    L_ref1_GetSeg_4 N b164_0 b164_1 b164_2 b164_3 b164_4 b164_5 b164_6 b180_0 b180_1 b180_2 b180_3 b180_4 b180_5 b180_6 true
  else
    (L_ref1_SegMay N (GSeg.mk b180_0 b180_1 b180_2 b180_3 b180_4 b180_5 b180_6)).bind fun v1 =>
    L_ref1_GetSeg_4 N b164_0 b164_1 b164_2 b164_3 b164_4 b164_5 b164_6 b180_0 b180_1 b180_2 b180_3 b180_4 b180_5 b180_6 (!v1)
def L_ref1_GetSeg_2 (N : Nat) (t0 : Int) (t1 : ByteArray) (t2 t3 b164_0 b164_1 b164_2 b164_3 b164_4 b164_5 : Int) (b164_6 : ByteArray) (b180_0 b180_1 b180_2 b180_3 b180_4 b180_5 : Int) (b180_6 : ByteArray) (t11 t34 : Bool) : Option (GSeg × Int) :=
  bif t34 then
    if 0 ≤ (8 : Int) ∧ (8 : Int) ≤ (t1.size : Int) ∧ 0 ≤ (4 : Int) ∧ (4 : Int) ≤ (8 : Int) then
    (L_ref1_Of N (t1.extract 4 8)).bind fun v1 =>
    if 0 ≤ (12 : Int) ∧ (12 : Int) ≤ (t1.size : Int) ∧ 0 ≤ (8 : Int) ∧ (8 : Int) ≤ (12 : Int) then
    (L_ref1_Of N (t1.extract 8 12)).bind fun v2 =>
    if 0 ≤ (13 : Int) ∧ (13 : Int) < (t1.size : Int) then
    if 0 ≤ (t1.size : Int) ∧ (t1.size : Int) ≤ (t1.size : Int) ∧ 0 ≤ (20 : Int) ∧ (20 : Int) ≤ (t1.size : Int) then
    if 0 ≤ (12 : Int) ∧ (12 : Int) < (t1.size : Int) then
    bif ((bt t1 12) == 80) then
      (L_ref1_pseudo N t0 t1 t2 t3).bind fun v3 =>
      L_ref1_GetSeg_3 N b164_0 b164_1 b164_2 b164_3 b164_4 b164_5 b164_6 b180_0 b180_1 b180_2 v1 v2 (IntKind.i64.wrap (bt t1 13)) (t1.extract 20 t1.size) (v3 == 65535)
    else
      L_ref1_GetSeg_3 N b164_0 b164_1 b164_2 b164_3 b164_4 b164_5 b164_6 b180_0 b180_1 b180_2 v1 v2 (IntKind.i64.wrap (bt t1 13)) (t1.extract 20 t1.size) false
    else none
    else none
    else none
    else none
    else none
  else
    bif (t0 == 17) then
      if 0 ≤ (t1.size : Int) ∧ (t1.size : Int) ≤ (t1.size : Int) ∧ 0 ≤ (8 : Int) ∧ (8 : Int) ≤ (t1.size : Int) then
      if 0 ≤ (6 : Int) ∧ (6 : Int) ≤ (t1.size : Int) ∧ 0 ≤ (4 : Int) ∧ (4 : Int) ≤ (6 : Int) then
      (L_ref1_Of N (t1.extract 4 6)).bind fun v1 =>
      bif (v1 == (t1.size : Int)) then
        if 0 ≤ (8 : Int) ∧ (8 : Int) ≤ (t1.size : Int) ∧ 0 ≤ (6 : Int) ∧ (6 : Int) ≤ (8 : Int) then
        (L_ref1_Of N (t1.extract 6 8)).bind fun v2 =>
        bif (v2 == 0) then
          L_ref1_GetSeg_3 N b164_0 b164_1 b164_2 b164_3 b164_4 b164_5 b164_6 b180_0 b180_1 b180_2 b180_3 b180_4 b180_5 (t1.extract 8 t1.size) true
        else
          (L_ref1_pseudo N t0 t1 t2 t3).bind fun v3 =>
          L_ref1_GetSeg_3 N b164_0 b164_1 b164_2 b164_3 b164_4 b164_5 b164_6 b180_0 b180_1 b180_2 b180_3 b180_4 b180_5 (t1.extract 8 t1.size) (v3 == 65535)
        else none
      else
        L_ref1_GetSeg_3 N b164_0 b164_1 b164_2 b164_3 b164_4 b164_5 b164_6 b180_0 b180_1 b180_2 b180_3 b180_4 b180_5 (t1.extract 8 t1.size) false
      else none
      else none
    else
      L_ref1_GetSeg_3 N b164_0 b164_1 b164_2 b164_3 b164_4 b164_5 b164_6 b180_0 b180_1 b180_2 b180_3 b180_4 b180_5 b180_6 t11
def L_ref1_GetSeg_1 (N : Nat) (t0 : Int) (t1 : ByteArray) (t2 t3 b164_0 b164_1 b164_2 b164_3 b164_4 b164_5 : Int) (b164_6 : ByteArray) (t24 : Bool) : Option (GSeg × Int) :=
  bif t24 then
    some ((GSeg.mk 0 0 0 0 0 0 ByteArray.empty), 300)
  else
    if 0 ≤ (2 : Int) ∧ (2 : Int) ≤ (t1.size : Int) ∧ 0 ≤ (0 : Int) ∧ (0 : Int) ≤ (2 : Int) then
    (L_ref1_Of N (t1.extract 0 2)).bind fun v1 =>
    if 0 ≤ (4 : Int) ∧ (4 : Int) ≤ (t1.size : Int) ∧ 0 ≤ (2 : Int) ∧ (2 : Int) ≤ (4 : Int) then
    (L_ref1_Of N (t1.extract 2 4)).bind fun v2 =>
    bif (t0 == 6) then
      L_ref1_GetSeg_2 N t0 t1 t2 t3 b164_0 b164_1 b164_2 b164_3 b164_4 b164_5 b164_6 t0 v1 v2 0 0 0 ByteArray.empty false (decide ((t1.size : Int) ≥ 20))
    else
      L_ref1_GetSeg_2 N t0 t1 t2 t3 b164_0 b164_1 b164_2 b164_3 b164_4 b164_5 b164_6 t0 v1 v2 0 0 0 ByteArray.empty false false
    else none
    else none
def L_ref1_GetSeg (N : Nat) (x0 : Int) (x1 : ByteArray) (x2 x3 : Int) : Option (GSeg × Int) :=
  (L_ref1_within N x2 32).bind fun v1 =>
  bif (!v1) then
    L_ref1_GetSeg_1 N x0 x1 x2 x3 0 0 0 0 0 0 ByteArray.empty true
  else
    (L_ref1_within N x3 32).bind fun v2 =>
    bif (!v2) then
      L_ref1_GetSeg_1 N x0 x1 x2 x3 0 0 0 0 0 0 ByteArray.empty true
    else
      L_ref1_GetSeg_1 N x0 x1 x2 x3 0 0 0 0 0 0 ByteArray.empty (decide ((x1.size : Int) < 8))
def d97 (r : GSeg × Int) : D := .tup [.agg [iI r.1.Proto, iI r.1.Sport, iI r.1.Dport, iI r.1.Seq, iI r.1.Ack, iI r.1.Flags, .str r.1.Body], iI r.2]
theorem g97_4 {N} {r} (z : Z Tryz.prog ty 97 Tryz.f97 (Fi [] (d97 r) [])) {b164_0 b164_1 b164_2 b164_3 b164_4 b164_5 b164_6 b180_0 b180_1 b180_2 b180_3 b180_4 b180_5 b180_6 t100} (h : L_ref1_GetSeg_4 N b164_0 b164_1 b164_2 b164_3 b164_4 b164_5 b164_6 b180_0 b180_1 b180_2 b180_3 b180_4 b180_5 b180_6 t100 = some r) : z.G [.c 223, .c 127] [(8, .ptr 164 0), (10, .ptr 180 0), (100, .bool t100)] [qB 164 [iI b164_0, iI b164_1, iI b164_2, iI b164_3, iI b164_4, iI b164_5, .str b164_6], qB 180 [iI b180_0, iI b180_1, iI b180_2, iI b180_3, iI b180_4, iI b180_5, .str b180_6]] :=
 by
  cases t100 with
  | true => exact brT h fun h => (
   z.r [] 3 o0 h)
  | false => exact brF h fun h => (
   z.r [] 4 o0 h)
theorem g97_3 {N} {r} (z : Z Tryz.prog ty 97 Tryz.f97 (Fi [] (d97 r) [])) {b164_0 b164_1 b164_2 b164_3 b164_4 b164_5 b164_6 b180_0 b180_1 b180_2 b180_3 b180_4 b180_5 b180_6 t11} (h : L_ref1_GetSeg_3 N b164_0 b164_1 b164_2 b164_3 b164_4 b164_5 b164_6 b180_0 b180_1 b180_2 b180_3 b180_4 b180_5 b180_6 t11 = some r) : z.G [.b 0, .c 63] [(8, .ptr 164 0), (10, .ptr 180 0), (11, .bool t11)] [qB 164 [iI b164_0, iI b164_1, iI b164_2, iI b164_3, iI b164_4, iI b164_5, .str b164_6], qB 180 [iI b180_0, iI b180_1, iI b180_2, iI b180_3, iI b180_4, iI b180_5, .str b180_6]] :=
 br h (fun h0 h =>
  z.j [(14, [(2, oT)])] 4 [8, 10, 100] [(164, 164), (180, 180)] (o1 (Le.tt h0)) (g97_4 z h)) fun h0 h =>
 bd h fun v1 h1 h =>
 z.j [(14, [(2, oF), (4, oR (d155 v1))])] 4 [8, 10, 100] [(164, 164), (180, 180)] (o2 (Le.ff h0) (c155 h1)) (g97_4 z h)
theorem g97_2 {N} {r} (z : Z Tryz.prog ty 97 Tryz.f97 (Fi [] (d97 r) [])) {t0 t1 t2 t3 b164_0 b164_1 b164_2 b164_3 b164_4 b164_5 b164_6 b180_0 b180_1 b180_2 b180_3 b180_4 b180_5 b180_6 t11 t34} (h : L_ref1_GetSeg_2 N t0 t1 t2 t3 b164_0 b164_1 b164_2 b164_3 b164_4 b164_5 b164_6 b180_0 b180_1 b180_2 b180_3 b180_4 b180_5 b180_6 t11 t34 = some r) : z.G [.c 207, .b 0, .c 63] [(0, iI t0), (1, .str t1), (2, iI t2), (3, iI t3), (8, .ptr 164 0), (10, .ptr 180 0), (11, .bool t11), (34, .bool t34)] [qB 164 [iI b164_0, iI b164_1, iI b164_2, iI b164_3, iI b164_4, iI b164_5, .str b164_6], qB 180 [iI b180_0, iI b180_1, iI b180_2, iI b180_3, iI b180_4, iI b180_5, .str b180_6]] :=
 by
  cases t34 with
  | true => exact brT h fun h => (
   ck h fun h1 h =>
   bd h fun v1 h2 h =>
   ck h fun h3 h =>
   bd h fun v2 h4 h =>
   ck h fun h5 h =>
   ck h fun h6 h =>
   ck h fun h7 h =>
   z.s [(6, [(2, oR (d153 v1))]), (7, [(2, oR (d153 v2))])] 9 (o5 h1 (c153 h2) h3 (c153 h4) (o2 h5 h6)) <|
   br h (fun h8 h =>
    bd h fun v3 h9 h =>
    z.j [(10, [(3, oT), (8, oR (d154 v3))])] 1 [8, 10, 11] [(164, 164), (180, 180)] (o3 h7 (Le.tt h8) (c154 h9)) (g97_3 z h)) fun h8 h =>
   z.j [(10, [(3, oF)])] 1 [8, 10, 11] [(164, 164), (180, 180)] (o2 h7 (Le.ff h8)) (g97_3 z h))
  | false => exact brF h fun h => (
   br h (fun h1 h =>
    ck h fun h2 h =>
    ck h fun h3 h =>
    bd h fun v1 h4 h =>
    z.s [(11, [(2, oT)])] 6 (o2 (Le.tt h1) h2) <|
    br h (fun h5 h =>
     ck h fun h6 h =>
     bd h fun v2 h7 h =>
     br h (fun h8 h =>
      z.j [(13, [(2, oR (d153 v1)), (6, oT), (9, oR (d153 v2)), (11, oT)])] 1 [8, 10, 11] [(164, 164), (180, 180)] (o5 h3 (c153 h4) (Le.tt h5) h6 (o2 (c153 h7) (Le.tt h8))) (g97_3 z h)) fun h8 h =>
     bd h fun v3 h9 h =>
     z.j [(13, [(2, oR (d153 v1)), (6, oT), (9, oR (d153 v2)), (11, oF), (16, oR (d154 v3))])] 1 [8, 10, 11] [(164, 164), (180, 180)] (o5 h3 (c153 h4) (Le.tt h5) h6 (o3 (c153 h7) (Le.ff h8) (c154 h9))) (g97_3 z h)) fun h5 h =>
    z.j [(13, [(2, oR (d153 v1)), (6, oF)])] 1 [8, 10, 11] [(164, 164), (180, 180)] (o3 h3 (c153 h4) (Le.ff h5)) (g97_3 z h)) fun h1 h =>
   z.j [(11, [(2, oF)])] 5 [8, 10, 11] [(164, 164), (180, 180)] (o1 (Le.ff h1)) (g97_3 z h))
theorem g97_1 {N} {r} (z : Z Tryz.prog ty 97 Tryz.f97 (Fi [] (d97 r) [])) {t0 t1 t2 t3 b164_0 b164_1 b164_2 b164_3 b164_4 b164_5 b164_6 t24} (h : L_ref1_GetSeg_1 N t0 t1 t2 t3 b164_0 b164_1 b164_2 b164_3 b164_4 b164_5 b164_6 t24 = some r) : z.G [.c 13, .c 7] [(0, iI t0), (1, .str t1), (2, iI t2), (3, iI t3), (8, .ptr 164 0), (24, .bool t24)] [qB 164 [iI b164_0, iI b164_1, iI b164_2, iI b164_3, iI b164_4, iI b164_5, .str b164_6]] :=
 by
  cases t24 with
  | true => exact brT h fun h => (
   z.r [] 3 o0 h)
  | false => exact brF h fun h => (
   ck h fun h1 h =>
   bd h fun v1 h2 h =>
   ck h fun h3 h =>
   bd h fun v2 h4 h =>
   z.s [(3, [(3, oR (d153 v1)), (6, oR (d153 v2))])] 9 (o4 h1 (c153 h2) h3 (c153 h4)) <|
   br h (fun h5 h =>
    z.j [(5, [(2, oT)])] 1 [0, 1, 2, 3, 8, 10, 11, 34] [(164, 164), (180, 180)] (o1 (Le.tt h5)) (g97_2 z h)) fun h5 h =>
   z.j [(5, [(2, oF)])] 1 [0, 1, 2, 3, 8, 10, 11, 34] [(164, 164), (180, 180)] (o1 (Le.ff h5)) (g97_2 z h))
theorem c97 {N} {x0 x1 x2 x3 r} (h : L_ref1_GetSeg N x0 x1 x2 x3 = some r) : Con Tryz.prog 97 [iI x0, .str x1, iI x2, iI x3] [] (d97 r) [] :=
 ci ok mix Tryz.f97 fun z =>
 bd h fun v1 h0 h =>
 br h (fun h1 h =>
  z.j [(1, [(1, oR (d137 v1)), (3, oT)])] 5 [0, 1, 2, 3, 8, 24] [(164, 164)] (o2 (c137 h0) (Le.tt h1)) (g97_1 z h)) fun h1 h =>
 bd h fun v2 h2 h =>
 br h (fun h3 h =>
  z.j [(1, [(1, oR (d137 v1)), (3, oF), (5, oR (d137 v2)), (8, oT)])] 5 [0, 1, 2, 3, 8, 24] [(164, 164)] (o4 (c137 h0) (Le.ff h1) (c137 h2) (Le.tt h3)) (g97_1 z h)) fun h3 h =>
 z.j [(1, [(1, oR (d137 v1)), (3, oF), (5, oR (d137 v2)), (8, oF)])] 5 [0, 1, 2, 3, 8, 24] [(164, 164)] (o4 (c137 h0) (Le.ff h1) (c137 h2) (Le.ff h3)) (g97_1 z h)
/-! ### wharfage/wharfageref1.FlowOf -/
def L_ref1_FlowOf_1 (N : Nat) (b116_0 b116_1 b116_2 b116_3 b116_4 b124_0 b124_1 b124_2 b124_3 b124_4 b124_5 : Int) (b124_6 : ByteArray) (b140_0 b140_1 b140_2 b140_3 b140_4 : Int) (b140_5 : ByteArray) (t33 : Bool) : Option (GFlow × GSeg × Int) :=
  bif t33 then
    some ((GFlow.mk 0 0 0 0 0), (GSeg.mk 0 0 0 0 0 0 ByteArray.empty), 3)
  else
    (L_ref1_GetSeg N b140_2 b140_5 b140_0 b140_1).bind fun v1 =>
    bif (v1.2 != 0) then
      some ((GFlow.mk 0 0 0 0 0), (GSeg.mk 0 0 0 0 0 0 ByteArray.empty), 1)
    else
      some ((GFlow.mk b140_0 b140_1 b140_2 v1.1.Sport v1.1.Dport), v1.1, 0)
def L_ref1_FlowOf (N : Nat) (x0 : ByteArray) : Option (GFlow × GSeg × Int) :=
  (L_ref1_GetIp N x0).bind fun v1 =>
  bif (v1.2.1 != 0) then
    some ((GFlow.mk 0 0 0 0 0), (GSeg.mk 0 0 0 0 0 0 ByteArray.empty), v1.2.1)
  else
    bif (v1.1.Proto != 6) then
      bif (v1.1.Proto != 17) then
        L_ref1_FlowOf_1 N 0 0 0 0 0 0 0 0 0 0 0 ByteArray.empty v1.1.Src v1.1.Dst v1.1.Proto v1.1.Ttl v1.1.Id v1.1.Body true
      else
        L_ref1_FlowOf_1 N 0 0 0 0 0 0 0 0 0 0 0 ByteArray.empty v1.1.Src v1.1.Dst v1.1.Proto v1.1.Ttl v1.1.Id v1.1.Body (v1.1.Dst != 167772161)
    else
      L_ref1_FlowOf_1 N 0 0 0 0 0 0 0 0 0 0 0 ByteArray.empty v1.1.Src v1.1.Dst v1.1.Proto v1.1.Ttl v1.1.Id v1.1.Body (v1.1.Dst != 167772161)
def d31 (r : GFlow × GSeg × Int) : D := .tup [.agg [iI r.1.Src, iI r.1.Dst, iI r.1.Proto, iI r.1.Sport, iI r.1.Dport], .agg [iI r.2.1.Proto, iI r.2.1.Sport, iI r.2.1.Dport, iI r.2.1.Seq, iI r.2.1.Ack, iI r.2.1.Flags, .str r.2.1.Body], iI r.2.2]
theorem g31_1 {N} {r} (z : Z Tryz.prog ty 31 Tryz.f31 (Fi [] (d31 r) [])) {b116_0 b116_1 b116_2 b116_3 b116_4 b124_0 b124_1 b124_2 b124_3 b124_4 b124_5 b124_6 b140_0 b140_1 b140_2 b140_3 b140_4 b140_5 t33} (h : L_ref1_FlowOf_1 N b116_0 b116_1 b116_2 b116_3 b116_4 b124_0 b124_1 b124_2 b124_3 b124_4 b124_5 b124_6 b140_0 b140_1 b140_2 b140_3 b140_4 b140_5 t33 = some r) : z.G [.c 55, .c 31] [(2, .ptr 116 0), (3, .ptr 124 0), (5, .ptr 140 0), (33, .bool t33)] [qB 116 [iI b116_0, iI b116_1, iI b116_2, iI b116_3, iI b116_4], qB 124 [iI b124_0, iI b124_1, iI b124_2, iI b124_3, iI b124_4, iI b124_5, .str b124_6], qB 140 [iI b140_0, iI b140_1, iI b140_2, iI b140_3, iI b140_4, .str b140_5]] :=
 by
  cases t33 with
  | true => exact brT h fun h => (
   z.r [] 3 o0 h)
  | false => exact brF h fun h => (
   bd h fun v1 h1 h =>
   z.s [(6, [(8, oR (d97 v1))])] 6 (o1 (c97 h1)) <|
   br h (fun h2 h =>
    z.r [(7, [(1, oT)])] 4 (o1 (Le.tt h2)) h) fun h2 h =>
   z.r [(7, [(1, oF)])] 5 (o1 (Le.ff h2)) h)
theorem c31 {N} {x0 r} (h : L_ref1_FlowOf N x0 = some r) : Con Tryz.prog 31 [.str x0] [] (d31 r) [] :=
 ci ok mix Tryz.f31 fun z =>
 bd h fun v1 h0 h =>
 z.s [(1, [(1, oR (d96 v1))])] 6 (o1 (c96 h0)) <|
 br h (fun h1 h =>
  z.r [(2, [(1, oT)])] 4 (o1 (Le.tt h1)) h) fun h1 h =>
 z.s [(2, [(1, oF)])] 5 (o1 (Le.ff h1)) <|
 br h (fun h2 h =>
  br h (fun h3 h =>
   z.j [(4, [(3, oT), (8, oT)])] 1 [2, 3, 5, 33] [(116, 116), (124, 124), (140, 140)] (o2 (Le.tt h2) (Le.tt h3)) (g31_1 z h)) fun h3 h =>
  z.j [(4, [(3, oT), (8, oF)])] 1 [2, 3, 5, 33] [(116, 116), (124, 124), (140, 140)] (o2 (Le.tt h2) (Le.ff h3)) (g31_1 z h)) fun h2 h =>
 z.j [(4, [(3, oF)])] 1 [2, 3, 5, 33] [(116, 116), (124, 124), (140, 140)] (o1 (Le.ff h2)) (g31_1 z h)
/-! ### wharfage/wharfageref10.phaseMay -/
def L_ref10_phaseMay_1 (N : Nat) (t2 : Bool) : Option (Bool) :=
  some t2
def L_ref10_phaseMay (N : Nat) (x0 : Int) : Option (Bool) :=
  bif (decide (x0 ≥ 0)) then
    L_ref10_phaseMay_1 N (decide (x0 ≤ 2))
  else
    L_ref10_phaseMay_1 N false
def d202 (r : Bool) : D := .bool r
theorem g202_1 {N} {r} (z : Z Tryz.prog ty 202 Tryz.f202 (Fi [] (d202 r) [])) {t2} (h : L_ref10_phaseMay_1 N t2 = some r) : z.G [.c 7] [(2, .bool t2)] [] :=
 z.r [] 0 o0 h
theorem c202 {N} {x0 r} (h : L_ref10_phaseMay N x0 = some r) : Con Tryz.prog 202 [iI x0] [] (d202 r) [] :=
 ci ok mix Tryz.f202 fun z =>
 br h (fun h0 h =>
  z.j [(1, [(2, oT)])] 4 [2] [] (o1 (Le.tt h0)) (g202_1 z h)) fun h0 h =>
 z.j [(1, [(2, oF)])] 4 [2] [] (o1 (Le.ff h0)) (g202_1 z h)
/-! ### wharfage/wharfageref10.nowMay -/
def L_ref10_nowMay_1 (N : Nat) (t2 : Bool) : Option (Bool) :=
  some t2
def L_ref10_nowMay (N : Nat) (x0 : Int) : Option (Bool) :=
  bif (decide (x0 ≥ 0)) then
    L_ref10_nowMay_1 N (decide (x0 ≤ 1048576))
  else
    L_ref10_nowMay_1 N false
def d191 (r : Bool) : D := .bool r
theorem g191_1 {N} {r} (z : Z Tryz.prog ty 191 Tryz.f191 (Fi [] (d191 r) [])) {t2} (h : L_ref10_nowMay_1 N t2 = some r) : z.G [.c 7] [(2, .bool t2)] [] :=
 z.r [] 0 o0 h
theorem c191 {N} {x0 r} (h : L_ref10_nowMay N x0 = some r) : Con Tryz.prog 191 [iI x0] [] (d191 r) [] :=
 ci ok mix Tryz.f191 fun z =>
 br h (fun h0 h =>
  z.j [(1, [(2, oT)])] 4 [2] [] (o1 (Le.tt h0)) (g191_1 z h)) fun h0 h =>
 z.j [(1, [(2, oF)])] 4 [2] [] (o1 (Le.ff h0)) (g191_1 z h)
/-! ### wharfage/wharfageref10.EntryMay -/
def L_ref10_EntryMay_1 (N : Nat) (t2 : Bool) : Option (Bool) :=
  some t2
def L_ref10_EntryMay (N : Nat) (x0 : GEntry) : Option (Bool) :=
  (L_ref1_FlowMay N x0.Flow).bind fun v1 =>
  bif v1 then
    bif (decide (x0.To ≥ 0)) then
      bif (decide (x0.To ≤ 255)) then
        (L_ref10_phaseMay N x0.Phase).bind fun v2 =>
        bif v2 then
          (L_ref10_nowMay N x0.Used).bind fun v3 =>
          L_ref10_EntryMay_1 N v3
        else
          L_ref10_EntryMay_1 N false
      else
        L_ref10_EntryMay_1 N false
    else
      L_ref10_EntryMay_1 N false
  else
    L_ref10_EntryMay_1 N false
def d151 (r : Bool) : D := .bool r
theorem g151_1 {N} {r} (z : Z Tryz.prog ty 151 Tryz.f151 (Fi [] (d151 r) [])) {t2} (h : L_ref10_EntryMay_1 N t2 = some r) : z.G [.c 7] [(2, .bool t2)] [] :=
 z.r [] 0 o0 h
theorem c151 {N} {x0 r} (h : L_ref10_EntryMay N x0 = some r) : Con Tryz.prog 151 [.agg [iI x0.Flow.Src, iI x0.Flow.Dst, iI x0.Flow.Proto, iI x0.Flow.Sport, iI x0.Flow.Dport, iI x0.To, .bool x0.Away, iI x0.Phase, iI x0.Used]] [] (d151 r) [] :=
 ci ok mix Tryz.f151 fun z =>
 bd h fun v1 h0 h =>
 br h (fun h1 h =>
  br h (fun h2 h =>
   br h (fun h3 h =>
    bd h fun v2 h4 h =>
    br h (fun h5 h =>
     bd h fun v3 h6 h =>
     z.j [(1, [(2, oR (d138 v1)), (3, oT), (8, oT), (13, oT), (16, oR (d202 v2)), (18, oT), (21, oR (d191 v3))])] 4 [2] [] (o5 (c138 h0) (Le.tt h1) (Le.tt h2) (Le.tt h3) (o3 (c202 h4) (Le.tt h5) (c191 h6))) (g151_1 z h)) fun h5 h =>
    z.j [(1, [(2, oR (d138 v1)), (3, oT), (8, oT), (13, oT), (16, oR (d202 v2)), (18, oF)])] 4 [2] [] (o5 (c138 h0) (Le.tt h1) (Le.tt h2) (Le.tt h3) (o2 (c202 h4) (Le.ff h5))) (g151_1 z h)) fun h3 h =>
   z.j [(1, [(2, oR (d138 v1)), (3, oT), (8, oT), (13, oF)])] 4 [2] [] (o4 (c138 h0) (Le.tt h1) (Le.tt h2) (Le.ff h3)) (g151_1 z h)) fun h2 h =>
  z.j [(1, [(2, oR (d138 v1)), (3, oT), (8, oF)])] 4 [2] [] (o3 (c138 h0) (Le.tt h1) (Le.ff h2)) (g151_1 z h)) fun h1 h =>
 z.j [(1, [(2, oR (d138 v1)), (3, oF)])] 4 [2] [] (o2 (c138 h0) (Le.ff h1)) (g151_1 z h)
/-! ### wharfage/wharfageref10.CacheMay -/
def L_ref10_CacheMay_2 (N : Nat) (r1 : (List GEntry) → Int → Option (Bool)) : Nat → (List GEntry) → Int → Int → Option (Bool)
  | 0, _, _, _ => none
  | fuel + 1, t0, t3, t4 =>
    bif (decide (t4 < t3)) then
      if 0 ≤ t4 ∧ t4 < ((t0.length : Nat) : Int) then
      if 0 ≤ t3 ∧ t3 < ((t0.length : Nat) : Int) then
      bif ((((t0.getD t4.toNat default).Flow).Src == ((t0.getD t3.toNat default).Flow).Src) && ((((t0.getD t4.toNat default).Flow).Dst == ((t0.getD t3.toNat default).Flow).Dst) && ((((t0.getD t4.toNat default).Flow).Proto == ((t0.getD t3.toNat default).Flow).Proto) && ((((t0.getD t4.toNat default).Flow).Sport == ((t0.getD t3.toNat default).Flow).Sport) && ((((t0.getD t4.toNat default).Flow).Dport == ((t0.getD t3.toNat default).Flow).Dport) && true))))) then
        some false
      else
        L_ref10_CacheMay_2 N r1 fuel t0 t3 (IntKind.i64.wrap (t4 + 1))
      else none
      else none
    else
      r1 t0 (IntKind.i64.wrap (t3 + 1))
def L_ref10_CacheMay_1 (N : Nat) : Nat → (List GEntry) → Int → Option (Bool)
  | 0, _, _ => none
  | fuel + 1, t0, t3 =>
    bif (decide (t3 < (t0.length : Int))) then
      if 0 ≤ t3 ∧ t3 < ((t0.length : Nat) : Int) then
      (L_ref10_EntryMay N (GEntry.mk ((t0.getD t3.toNat default).Flow) ((t0.getD t3.toNat default).To) ((t0.getD t3.toNat default).Away) ((t0.getD t3.toNat default).Phase) ((t0.getD t3.toNat default).Used))).bind fun v1 =>
      bif (!v1) then
        some false
      else
        L_ref10_CacheMay_2 N (L_ref10_CacheMay_1 N fuel) N t0 t3 0
      else none
    else
      some (decide ((t0.length : Int) ≤ 8))
def L_ref10_CacheMay (N : Nat) (x0 : (List GEntry)) : Option (Bool) :=
  L_ref10_CacheMay_1 N N x0 0
def d90 (r : Bool) : D := .bool r
theorem g90_2 {N} (gx0 : Bool) {r} (z : Z Tryz.prog ty 90 Tryz.f90 (Fi [] (d90 r) [])) {r1 : (List GEntry) → Int → Option (Bool)} (hr1 : ∀ {t0 t3}, r1 t0 t3 = some r → z.G [.c 37, .l 37, .b 0, .c 7] [(0, sS gx0 eEntry t0), (3, iI t3)] []) (fuel) : ∀ {t0 t3 t4}, L_ref10_CacheMay_2 N r1 fuel t0 t3 t4 = some r → z.G [.c 4901, .l 4901, .b 2, .b 1, .c 229, .l 37, .b 0, .c 7] [(0, sS gx0 eEntry t0), (3, iI t3), (4, iI t4)] [] := by
 induction fuel with
 | zero => intro t0 t3 t4 h; cases h
 | succ fuel ih =>
  intro t0 t3 t4 h
  exact
   br h (fun h0 h =>
    ck h fun h1 h =>
    ck h fun h2 h =>
    z.s [(7, [(2, oT)])] 8 (o1 (Le.tt h0)) <|
    br h (fun h3 h =>
     z.r [(9, [(2, oC (.ip gx0 [iI (((t0.getD t4.toNat default).Flow).Src), iI (((t0.getD t4.toNat default).Flow).Dst), iI (((t0.getD t4.toNat default).Flow).Proto), iI (((t0.getD t4.toNat default).Flow).Sport), iI (((t0.getD t4.toNat default).Flow).Dport), iI ((t0.getD t4.toNat default).To), .bool ((t0.getD t4.toNat default).Away), iI ((t0.getD t4.toNat default).Phase), iI ((t0.getD t4.toNat default).Used)])), (7, oC (.ip gx0 [iI (((t0.getD t3.toNat default).Flow).Src), iI (((t0.getD t3.toNat default).Flow).Dst), iI (((t0.getD t3.toNat default).Flow).Proto), iI (((t0.getD t3.toNat default).Flow).Sport), iI (((t0.getD t3.toNat default).Flow).Dport), iI ((t0.getD t3.toNat default).To), .bool ((t0.getD t3.toNat default).Away), iI ((t0.getD t3.toNat default).Phase), iI ((t0.getD t3.toNat default).Used)])), (10, oT)])] 4 (o5 h1 (Le.iptl (g := gx0) (eL_at (xs := t0) eEntry_len (ixl h1))) h2 (Le.iptl (g := gx0) (eL_at (xs := t0) eEntry_len (ixl h2))) (o1 (Le.tt h3))) h) fun h3 h =>
    z.j [(9, [(2, oC (.ip gx0 [iI (((t0.getD t4.toNat default).Flow).Src), iI (((t0.getD t4.toNat default).Flow).Dst), iI (((t0.getD t4.toNat default).Flow).Proto), iI (((t0.getD t4.toNat default).Flow).Sport), iI (((t0.getD t4.toNat default).Flow).Dport), iI ((t0.getD t4.toNat default).To), .bool ((t0.getD t4.toNat default).Away), iI ((t0.getD t4.toNat default).Phase), iI ((t0.getD t4.toNat default).Used)])), (7, oC (.ip gx0 [iI (((t0.getD t3.toNat default).Flow).Src), iI (((t0.getD t3.toNat default).Flow).Dst), iI (((t0.getD t3.toNat default).Flow).Proto), iI (((t0.getD t3.toNat default).Flow).Sport), iI (((t0.getD t3.toNat default).Flow).Dport), iI ((t0.getD t3.toNat default).To), .bool ((t0.getD t3.toNat default).Away), iI ((t0.getD t3.toNat default).Phase), iI ((t0.getD t3.toNat default).Used)])), (10, oF)])] 6 [0, 3, 4] [] (o5 h1 (Le.iptl (g := gx0) (eL_at (xs := t0) eEntry_len (ixl h1))) h2 (Le.iptl (g := gx0) (eL_at (xs := t0) eEntry_len (ixl h2))) (o1 (Le.ff h3))) (ih h)) fun h0 h =>
   z.j [(7, [(2, oF)])] 8 [0, 3] [] (o1 (Le.ff h0)) (hr1 h)
theorem g90_1 {N} (gx0 : Bool) {r} (z : Z Tryz.prog ty 90 Tryz.f90 (Fi [] (d90 r) [])) (fuel) : ∀ {t0 t3}, L_ref10_CacheMay_1 N fuel t0 t3 = some r → z.G [.c 37, .l 37, .b 0, .c 7] [(0, sS gx0 eEntry t0), (3, iI t3)] [] := by
 induction fuel with
 | zero => intro t0 t3 h; cases h
 | succ fuel ih =>
  intro t0 t3 h
  exact
   br h (fun h0 h =>
    ck h fun h1 h =>
    bd h fun v1 h2 h =>
    z.s [(2, [(3, oT)])] 9 (o1 (Le.tt h0)) <|
    br h (fun h3 h =>
     z.r [(4, [(2, oC (.ip gx0 [iI (((t0.getD t3.toNat default).Flow).Src), iI (((t0.getD t3.toNat default).Flow).Dst), iI (((t0.getD t3.toNat default).Flow).Proto), iI (((t0.getD t3.toNat default).Flow).Sport), iI (((t0.getD t3.toNat default).Flow).Dport), iI ((t0.getD t3.toNat default).To), .bool ((t0.getD t3.toNat default).Away), iI ((t0.getD t3.toNat default).Phase), iI ((t0.getD t3.toNat default).Used)])), (4, oR (d151 v1)), (5, oT)])] 4 (o4 h1 (Le.iptl (g := gx0) (eL_at (xs := t0) eEntry_len (ixl h1))) (c151 h2) (Le.tt h3)) h) fun h3 h =>
    z.j [(4, [(2, oC (.ip gx0 [iI (((t0.getD t3.toNat default).Flow).Src), iI (((t0.getD t3.toNat default).Flow).Dst), iI (((t0.getD t3.toNat default).Flow).Proto), iI (((t0.getD t3.toNat default).Flow).Sport), iI (((t0.getD t3.toNat default).Flow).Dport), iI ((t0.getD t3.toNat default).To), .bool ((t0.getD t3.toNat default).Away), iI ((t0.getD t3.toNat default).Phase), iI ((t0.getD t3.toNat default).Used)])), (4, oR (d151 v1)), (5, oF)])] 7 [0, 3, 4] [] (o4 h1 (Le.iptl (g := gx0) (eL_at (xs := t0) eEntry_len (ixl h1))) (c151 h2) (Le.ff h3)) (g90_2 gx0 z @ih N h)) fun h0 h =>
   z.r [(2, [(3, oF)])] 7 (o1 (Le.ff h0)) h
theorem c90 {N} (gx0 : Bool) {x0 r} (h : L_ref10_CacheMay N x0 = some r) : Con Tryz.prog 90 [sS gx0 eEntry x0] [] (d90 r) [] :=
 ci ok mix Tryz.f90 fun z =>
 z.j [] 7 [0, 3] [] o0 (g90_1 gx0 z N h)
/-! ### wharfage/wharfageref10.Limit -/
def L_ref10_Limit (N : Nat) (x0 : Int) : Option (Int × Int) :=
  (L_ref10_phaseMay N x0).bind fun v1 =>
  bif (!v1) then
    some (0, 1400)
  else
    bif (x0 == 0) then
      some (40, 0)
    else
      some (6, 0)
def d156 (r : Int × Int) : D := .tup [iI r.1, iI r.2]
theorem c156 {N} {x0 r} (h : L_ref10_Limit N x0 = some r) : Con Tryz.prog 156 [iI x0] [] (d156 r) [] :=
 ci ok mix Tryz.f156 fun z =>
 bd h fun v1 h0 h =>
 br h (fun h1 h =>
  z.r [(1, [(1, oR (d202 v1)), (2, oT)])] 8 (o2 (c202 h0) (Le.tt h1)) h) fun h1 h =>
 z.s [(1, [(1, oR (d202 v1)), (2, oF)])] 9 (o2 (c202 h0) (Le.ff h1)) <|
 br h (fun h2 h =>
  z.r [(3, [(1, oT)])] 4 (o1 (Le.tt h2)) h) fun h2 h =>
 z.r [(3, [(1, oF)])] 5 (o1 (Le.ff h2)) h
/-! ### wharfage/wharfageref10.Ran -/
def L_ref10_Ran_1 (N : Nat) (t4 : Bool) : Option (Bool) :=
  some t4
def L_ref10_Ran (N : Nat) (x0 : GEntry) (x1 : Int) : Option (Bool) :=
  (L_ref10_EntryMay N x0).bind fun v1 =>
  bif (!v1) then
    some true
  else
    (L_ref10_Limit N x0.Phase).bind fun v2 =>
    bif (decide (x1 ≥ 0)) then
      L_ref10_Ran_1 N (decide ((IntKind.i64.wrap (x1 - x0.Used)) ≥ v2.1))
    else
      L_ref10_Ran_1 N false
def d98 (r : Bool) : D := .bool r
theorem g98_1 {N} {r} (z : Z Tryz.prog ty 98 Tryz.f98 (Fi [] (d98 r) [])) {t4} (h : L_ref10_Ran_1 N t4 = some r) : z.G [.c 31] [(4, .bool t4)] [] :=
 z.r [] 0 o0 h
theorem c98 {N} {x0 x1 r} (h : L_ref10_Ran N x0 x1 = some r) : Con Tryz.prog 98 [.agg [iI x0.Flow.Src, iI x0.Flow.Dst, iI x0.Flow.Proto, iI x0.Flow.Sport, iI x0.Flow.Dport, iI x0.To, .bool x0.Away, iI x0.Phase, iI x0.Used], iI x1] [] (d98 r) [] :=
 ci ok mix Tryz.f98 fun z =>
 bd h fun v1 h0 h =>
 br h (fun h1 h =>
  z.r [(1, [(1, oR (d151 v1)), (2, oT)])] 8 (o2 (c151 h0) (Le.tt h1)) h) fun h1 h =>
 bd h fun v2 h2 h =>
 z.s [(1, [(1, oR (d151 v1)), (2, oF)]), (3, [(2, oR (d156 v2))])] 10 (o3 (c151 h0) (Le.ff h1) (c156 h2)) <|
 br h (fun h3 h =>
  z.j [(4, [(2, oT)])] 1 [4] [] (o1 (Le.tt h3)) (g98_1 z h)) fun h3 h =>
 z.j [(4, [(2, oF)])] 1 [4] [] (o1 (Le.ff h3)) (g98_1 z h)
/-! ### wharfage/wharfageref10.FindEntry -/
def L_ref10_FindEntry_3 (N : Nat) (r1 : (List GEntry) → Int → Int → Int → Int → Int → Int → Int → Int → Int → Int → Int → Int → Bool → Int → Int → Int → Option (GEntry × Bool)) (t0 : (List GEntry)) (t2 b132_0 b132_1 b132_2 b132_3 b132_4 b148_0 b148_1 b148_2 b148_3 b148_4 b148_5 : Int) (b148_6 : Bool) (b148_7 b148_8 t8 : Int) (t34 : Bool) : Option (GEntry × Bool) :=
  bif t34 then
    if 0 ≤ t8 ∧ t8 < ((t0.length : Nat) : Int) then
    some ((GEntry.mk ((t0.getD t8.toNat default).Flow) ((t0.getD t8.toNat default).To) ((t0.getD t8.toNat default).Away) ((t0.getD t8.toNat default).Phase) ((t0.getD t8.toNat default).Used)), true)
    else none
  else
    r1 t0 t2 b132_0 b132_1 b132_2 b132_3 b132_4 b148_0 b148_1 b148_2 b148_3 b148_4 b148_5 b148_6 b148_7 b148_8 (IntKind.i64.wrap (t8 + 1))
def L_ref10_FindEntry_2 (N : Nat) (r1 : (List GEntry) → Int → Int → Int → Int → Int → Int → Int → Int → Int → Int → Int → Int → Bool → Int → Int → Int → Option (GEntry × Bool)) (t0 : (List GEntry)) (t2 b132_0 b132_1 b132_2 b132_3 b132_4 b148_0 b148_1 b148_2 b148_3 b148_4 b148_5 : Int) (b148_6 : Bool) (b148_7 b148_8 t8 : Int) (t16 : Bool) : Option (GEntry × Bool) :=
  bif t16 then
    if 0 ≤ t8 ∧ t8 < ((t0.length : Nat) : Int) then
    via (((((t0.getD t8.toNat default).Flow).Src == b132_0) && ((((t0.getD t8.toNat default).Flow).Dst == b132_1) && ((((t0.getD t8.toNat default).Flow).Proto == b132_2) && ((((t0.getD t8.toNat default).Flow).Sport == b132_3) && ((((t0.getD t8.toNat default).Flow).Dport == b132_4) && true))))) : Bool) fun v1 =>
    bif v1 then
      if 0 ≤ t8 ∧ t8 < ((t0.length : Nat) : Int) then
      (L_ref10_Ran N (GEntry.mk ((t0.getD t8.toNat default).Flow) ((t0.getD t8.toNat default).To) ((t0.getD t8.toNat default).Away) ((t0.getD t8.toNat default).Phase) ((t0.getD t8.toNat default).Used)) t2).bind fun v2 =>
      L_ref10_FindEntry_3 N r1 t0 t2 b132_0 b132_1 b132_2 b132_3 b132_4 b148_0 b148_1 b148_2 b148_3 b148_4 b148_5 b148_6 b148_7 b148_8 t8 (!v2)
      else none
    else
      L_ref10_FindEntry_3 N r1 t0 t2 b132_0 b132_1 b132_2 b132_3 b132_4 b148_0 b148_1 b148_2 b148_3 b148_4 b148_5 b148_6 b148_7 b148_8 t8 false
    else none
  else
    some ((GEntry.mk (GFlow.mk 0 0 0 0 0) 0 false 0 0), false)
def L_ref10_FindEntry_1 (N : Nat) : Nat → (List GEntry) → Int → Int → Int → Int → Int → Int → Int → Int → Int → Int → Int → Int → Bool → Int → Int → Int → Option (GEntry × Bool)
  | 0, _, _, _, _, _, _, _, _, _, _, _, _, _, _, _, _, _ => none
  | fuel + 1, t0, t2, b132_0, b132_1, b132_2, b132_3, b132_4, b148_0, b148_1, b148_2, b148_3, b148_4, b148_5, b148_6, b148_7, b148_8, t8 =>
    bif (decide (t8 < (t0.length : Int))) then
      (L_ref10_CacheMay N t0).bind fun v1 =>
      L_ref10_FindEntry_2 N (L_ref10_FindEntry_1 N fuel) t0 t2 b132_0 b132_1 b132_2 b132_3 b132_4 b148_0 b148_1 b148_2 b148_3 b148_4 b148_5 b148_6 b148_7 b148_8 t8 v1
    else
      L_ref10_FindEntry_2 N (L_ref10_FindEntry_1 N fuel) t0 t2 b132_0 b132_1 b132_2 b132_3 b132_4 b148_0 b148_1 b148_2 b148_3 b148_4 b148_5 b148_6 b148_7 b148_8 t8 false
def L_ref10_FindEntry (N : Nat) (x0 : (List GEntry)) (x1 : GFlow) (x2 : Int) : Option (GEntry × Bool) :=
  L_ref10_FindEntry_1 N N x0 x2 x1.Src x1.Dst x1.Proto x1.Sport x1.Dport 0 0 0 0 0 0 false 0 0 0
def d32 (r : GEntry × Bool) : D := .tup [.agg [iI r.1.Flow.Src, iI r.1.Flow.Dst, iI r.1.Flow.Proto, iI r.1.Flow.Sport, iI r.1.Flow.Dport, iI r.1.To, .bool r.1.Away, iI r.1.Phase, iI r.1.Used], .bool r.2]
theorem g32_3 {N} (gx0 : Bool) {r} (z : Z Tryz.prog ty 32 Tryz.f32 (Fi [] (d32 r) [])) {r1 : (List GEntry) → Int → Int → Int → Int → Int → Int → Int → Int → Int → Int → Int → Int → Bool → Int → Int → Int → Option (GEntry × Bool)} (hr1 : ∀ {t0 t2 b132_0 b132_1 b132_2 b132_3 b132_4 b148_0 b148_1 b148_2 b148_3 b148_4 b148_5 b148_6 b148_7 b148_8 t8}, r1 t0 t2 b132_0 b132_1 b132_2 b132_3 b132_4 b148_0 b148_1 b148_2 b148_3 b148_4 b148_5 b148_6 b148_7 b148_8 t8 = some r → z.G [.c 37, .l 37, .b 0, .c 7] [(0, sS gx0 eEntry t0), (2, iI t2), (4, .ptr 132 0), (6, .ptr 148 0), (8, iI t8)] [qB 132 [iI b132_0, iI b132_1, iI b132_2, iI b132_3, iI b132_4], qB 148 [iI b148_0, iI b148_1, iI b148_2, iI b148_3, iI b148_4, iI b148_5, .bool b148_6, iI b148_7, iI b148_8]]) {t0 t2 b132_0 b132_1 b132_2 b132_3 b132_4 b148_0 b148_1 b148_2 b148_3 b148_4 b148_5 b148_6 b148_7 b148_8 t8 t34} (h : L_ref10_FindEntry_3 N r1 t0 t2 b132_0 b132_1 b132_2 b132_3 b132_4 b148_0 b148_1 b148_2 b148_3 b148_4 b148_5 b148_6 b148_7 b148_8 t8 t34 = some r) : z.G [.c 805, .b 1, .c 229, .l 37, .b 0, .c 7] [(0, sS gx0 eEntry t0), (2, iI t2), (4, .ptr 132 0), (6, .ptr 148 0), (8, iI t8), (34, .bool t34)] [qB 132 [iI b132_0, iI b132_1, iI b132_2, iI b132_3, iI b132_4], qB 148 [iI b148_0, iI b148_1, iI b148_2, iI b148_3, iI b148_4, iI b148_5, .bool b148_6, iI b148_7, iI b148_8]] :=
 by
  cases t34 with
  | true => exact brT h fun h => (
   ck h fun h1 h =>
   z.r [(5, [(2, oC (.ip gx0 [iI (((t0.getD t8.toNat default).Flow).Src), iI (((t0.getD t8.toNat default).Flow).Dst), iI (((t0.getD t8.toNat default).Flow).Proto), iI (((t0.getD t8.toNat default).Flow).Sport), iI (((t0.getD t8.toNat default).Flow).Dport), iI ((t0.getD t8.toNat default).To), .bool ((t0.getD t8.toNat default).Away), iI ((t0.getD t8.toNat default).Phase), iI ((t0.getD t8.toNat default).Used)]))])] 3 (o2 h1 (Le.iptl (g := gx0) (eL_at (xs := t0) eEntry_len (ixl h1)))) h)
  | false => exact brF h fun h => (
   z.j [] 5 [0, 2, 4, 6, 8] [(132, 132), (148, 148)] o0 (hr1 h))
theorem g32_2 {N} (gx0 : Bool) {r} (z : Z Tryz.prog ty 32 Tryz.f32 (Fi [] (d32 r) [])) {r1 : (List GEntry) → Int → Int → Int → Int → Int → Int → Int → Int → Int → Int → Int → Int → Bool → Int → Int → Int → Option (GEntry × Bool)} (hr1 : ∀ {t0 t2 b132_0 b132_1 b132_2 b132_3 b132_4 b148_0 b148_1 b148_2 b148_3 b148_4 b148_5 b148_6 b148_7 b148_8 t8}, r1 t0 t2 b132_0 b132_1 b132_2 b132_3 b132_4 b148_0 b148_1 b148_2 b148_3 b148_4 b148_5 b148_6 b148_7 b148_8 t8 = some r → z.G [.c 37, .l 37, .b 0, .c 7] [(0, sS gx0 eEntry t0), (2, iI t2), (4, .ptr 132 0), (6, .ptr 148 0), (8, iI t8)] [qB 132 [iI b132_0, iI b132_1, iI b132_2, iI b132_3, iI b132_4], qB 148 [iI b148_0, iI b148_1, iI b148_2, iI b148_3, iI b148_4, iI b148_5, .bool b148_6, iI b148_7, iI b148_8]]) {t0 t2 b132_0 b132_1 b132_2 b132_3 b132_4 b148_0 b148_1 b148_2 b148_3 b148_4 b148_5 b148_6 b148_7 b148_8 t8 t16} (h : L_ref10_FindEntry_2 N r1 t0 t2 b132_0 b132_1 b132_2 b132_3 b132_4 b148_0 b148_1 b148_2 b148_3 b148_4 b148_5 b148_6 b148_7 b148_8 t8 t16 = some r) : z.G [.c 197, .c 101, .l 37, .b 0, .c 7] [(0, sS gx0 eEntry t0), (2, iI t2), (4, .ptr 132 0), (6, .ptr 148 0), (8, iI t8), (16, .bool t16)] [qB 132 [iI b132_0, iI b132_1, iI b132_2, iI b132_3, iI b132_4], qB 148 [iI b148_0, iI b148_1, iI b148_2, iI b148_3, iI b148_4, iI b148_5, .bool b148_6, iI b148_7, iI b148_8]] :=
 by
  cases t16 with
  | true => exact brT h fun h => (
   ck h fun h1 h =>
   vi h fun v1 h2 h =>
   br h (fun h3 h =>
    ck h fun h4 h =>
    bd h fun v2 h5 h =>
    z.j [(4, [(2, oC (.ip gx0 [iI (((t0.getD t8.toNat default).Flow).Src), iI (((t0.getD t8.toNat default).Flow).Dst), iI (((t0.getD t8.toNat default).Flow).Proto), iI (((t0.getD t8.toNat default).Flow).Sport), iI (((t0.getD t8.toNat default).Flow).Dport), iI ((t0.getD t8.toNat default).To), .bool ((t0.getD t8.toNat default).Away), iI ((t0.getD t8.toNat default).Phase), iI ((t0.getD t8.toNat default).Used)])), (6, oC (.bool v1)), (7, oT), (10, oC (.ip gx0 [iI (((t0.getD t8.toNat default).Flow).Src), iI (((t0.getD t8.toNat default).Flow).Dst), iI (((t0.getD t8.toNat default).Flow).Proto), iI (((t0.getD t8.toNat default).Flow).Sport), iI (((t0.getD t8.toNat default).Flow).Dport), iI ((t0.getD t8.toNat default).To), .bool ((t0.getD t8.toNat default).Away), iI ((t0.getD t8.toNat default).Phase), iI ((t0.getD t8.toNat default).Used)])), (13, oR (d98 v2))])] 6 [0, 2, 4, 6, 8, 34] [(132, 132), (148, 148)] (o5 h1 (Le.iptl (g := gx0) (eL_at (xs := t0) eEntry_len (ixl h1))) (Le.boo h2) (Le.tt h3) (o3 h4 (Le.iptl (g := gx0) (eL_at (xs := t0) eEntry_len (ixl h4))) (c98 h5))) (g32_3 gx0 z @hr1 h)) fun h3 h =>
   z.j [(4, [(2, oC (.ip gx0 [iI (((t0.getD t8.toNat default).Flow).Src), iI (((t0.getD t8.toNat default).Flow).Dst), iI (((t0.getD t8.toNat default).Flow).Proto), iI (((t0.getD t8.toNat default).Flow).Sport), iI (((t0.getD t8.toNat default).Flow).Dport), iI ((t0.getD t8.toNat default).To), .bool ((t0.getD t8.toNat default).Away), iI ((t0.getD t8.toNat default).Phase), iI ((t0.getD t8.toNat default).Used)])), (6, oC (.bool v1)), (7, oF)])] 6 [0, 2, 4, 6, 8, 34] [(132, 132), (148, 148)] (o4 h1 (Le.iptl (g := gx0) (eL_at (xs := t0) eEntry_len (ixl h1))) (Le.boo h2) (Le.ff h3)) (g32_3 gx0 z @hr1 h))
  | false => exact brF h fun h => (
   z.r [] 4 o0 h)
theorem g32_1 {N} (gx0 : Bool) {r} (z : Z Tryz.prog ty 32 Tryz.f32 (Fi [] (d32 r) [])) (fuel) : ∀ {t0 t2 b132_0 b132_1 b132_2 b132_3 b132_4 b148_0 b148_1 b148_2 b148_3 b148_4 b148_5 b148_6 b148_7 b148_8 t8}, L_ref10_FindEntry_1 N fuel t0 t2 b132_0 b132_1 b132_2 b132_3 b132_4 b148_0 b148_1 b148_2 b148_3 b148_4 b148_5 b148_6 b148_7 b148_8 t8 = some r → z.G [.c 37, .l 37, .b 0, .c 7] [(0, sS gx0 eEntry t0), (2, iI t2), (4, .ptr 132 0), (6, .ptr 148 0), (8, iI t8)] [qB 132 [iI b132_0, iI b132_1, iI b132_2, iI b132_3, iI b132_4], qB 148 [iI b148_0, iI b148_1, iI b148_2, iI b148_3, iI b148_4, iI b148_5, .bool b148_6, iI b148_7, iI b148_8]] := by
 induction fuel with
 | zero => intro t0 t2 b132_0 b132_1 b132_2 b132_3 b132_4 b148_0 b148_1 b148_2 b148_3 b148_4 b148_5 b148_6 b148_7 b148_8 t8 h; cases h
 | succ fuel ih =>
  intro t0 t2 b132_0 b132_1 b132_2 b132_3 b132_4 b148_0 b148_1 b148_2 b148_3 b148_4 b148_5 b148_6 b148_7 b148_8 t8 h
  exact
   br h (fun h0 h =>
    bd h fun v1 h1 h =>
    z.j [(2, [(4, oT), (6, oR (d90 v1))])] 3 [0, 2, 4, 6, 8, 16] [(132, 132), (148, 148)] (o2 (Le.tt h0) (c90 gx0 h1)) (g32_2 gx0 z @ih h)) fun h0 h =>
   z.j [(2, [(4, oF)])] 3 [0, 2, 4, 6, 8, 16] [(132, 132), (148, 148)] (o1 (Le.ff h0)) (g32_2 gx0 z @ih h)
theorem c32 {N} (gx0 : Bool) {x0 x1 x2 r} (h : L_ref10_FindEntry N x0 x1 x2 = some r) : Con Tryz.prog 32 [sS gx0 eEntry x0, .agg [iI x1.Src, iI x1.Dst, iI x1.Proto, iI x1.Sport, iI x1.Dport], iI x2] [] (d32 r) [] :=
 ci ok mix Tryz.f32 fun z =>
 z.j [] 7 [0, 2, 4, 6, 8] [(132, 132), (148, 148)] o0 (g32_1 gx0 z N h)
/-! ### wharfage/wharfagelaw19.EdgeStays -/
def L_law19_EdgeStays_2 (N : Nat) (t6 : Bool) : Option (Bool) :=
  some t6
def L_law19_EdgeStays_6 (N : Nat) (t6 : Bool) : Option (Bool) :=
  some t6
def L_law19_EdgeStays_5 (N : Nat) (b124_0 b124_1 : Int) (b124_2 : (List GSite)) (b124_3 : (List GHealth)) (b124_4 : (List GEntry)) (b204_0 b204_1 b204_2 b204_3 b204_4 b204_5 : Int) (b204_6 : Bool) (b204_7 b204_8 t17 : Int) (t18 : Bool) : Option (Bool) :=
  bif t18 then
    bif (t17 == b204_5) then
      L_law19_EdgeStays_6 N true
    else
      bif (!t18) then
        if 0 ≤ t17 ∧ t17 < ((b124_2.length : Nat) : Int) then
        bif (!((b124_2.getD t17.toNat default).Drain)) then
          if 0 ≤ t17 ∧ t17 < ((b124_2.length : Nat) : Int) then
          L_law19_EdgeStays_6 N (decide ((b124_2.getD t17.toNat default).Weight > 0))
          else none
        else
          L_law19_EdgeStays_6 N false
        else none
      else
        L_law19_EdgeStays_6 N false
  else
    bif (!t18) then
      if 0 ≤ t17 ∧ t17 < ((b124_2.length : Nat) : Int) then
      bif (!((b124_2.getD t17.toNat default).Drain)) then
        if 0 ≤ t17 ∧ t17 < ((b124_2.length : Nat) : Int) then
        L_law19_EdgeStays_6 N (decide ((b124_2.getD t17.toNat default).Weight > 0))
        else none
      else
        L_law19_EdgeStays_6 N false
      else none
    else
      L_law19_EdgeStays_6 N false
def L_law19_EdgeStays_4 (N : Nat) (b124_0 b124_1 : Int) (b124_2 : (List GSite)) (b124_3 : (List GHealth)) (b124_4 : (List GEntry)) (b204_0 b204_1 b204_2 b204_3 b204_4 b204_5 : Int) (b204_6 : Bool) (b204_7 b204_8 : Int) (t14 : Bool) (t17 : Int) (t131 : Bool) : Option (Bool) :=
  bif t131 then
    some false
  else
    bif t14 then
      bif (decide (b204_5 < (b124_2.length : Int))) then
        bif (decide (b204_5 < (b124_3.length : Int))) then
          if 0 ≤ b204_5 ∧ b204_5 < ((b124_3.length : Nat) : Int) then
          L_law19_EdgeStays_5 N b124_0 b124_1 b124_2 b124_3 b124_4 b204_0 b204_1 b204_2 b204_3 b204_4 b204_5 b204_6 b204_7 b204_8 t17 ((b124_3.getD b204_5.toNat default).Up)
          else none
        else
          L_law19_EdgeStays_5 N b124_0 b124_1 b124_2 b124_3 b124_4 b204_0 b204_1 b204_2 b204_3 b204_4 b204_5 b204_6 b204_7 b204_8 t17 false
      else
        L_law19_EdgeStays_5 N b124_0 b124_1 b124_2 b124_3 b124_4 b204_0 b204_1 b204_2 b204_3 b204_4 b204_5 b204_6 b204_7 b204_8 t17 false
    else
      L_law19_EdgeStays_5 N b124_0 b124_1 b124_2 b124_3 b124_4 b204_0 b204_1 b204_2 b204_3 b204_4 b204_5 b204_6 b204_7 b204_8 t17 false
def L_law19_EdgeStays_3 (N : Nat) (b124_0 b124_1 : Int) (b124_2 : (List GSite)) (b124_3 : (List GHealth)) (b124_4 : (List GEntry)) (b204_0 b204_1 b204_2 b204_3 b204_4 b204_5 : Int) (b204_6 : Bool) (b204_7 b204_8 : Int) (t14 : Bool) (b220_0 b220_1 b220_2 b220_3 b220_4 : Int) (b220_5 : ByteArray) (t102 : Bool) : Option (Bool) :=
  bif t102 then
    some false
  else
    bif (decide ((IntKind.i64.wrap (b220_1 - 167903232)) < 0)) then
      L_law19_EdgeStays_4 N b124_0 b124_1 b124_2 b124_3 b124_4 b204_0 b204_1 b204_2 b204_3 b204_4 b204_5 b204_6 b204_7 b204_8 t14 (IntKind.i64.wrap (b220_1 - 167903232)) true
    else
      bif (decide ((IntKind.i64.wrap (b220_1 - 167903232)) ≥ (b124_2.length : Int))) then
        L_law19_EdgeStays_4 N b124_0 b124_1 b124_2 b124_3 b124_4 b204_0 b204_1 b204_2 b204_3 b204_4 b204_5 b204_6 b204_7 b204_8 t14 (IntKind.i64.wrap (b220_1 - 167903232)) true
      else
        bif (decide ((IntKind.i64.wrap (b220_1 - 167903232)) ≥ (b124_3.length : Int))) then
          L_law19_EdgeStays_4 N b124_0 b124_1 b124_2 b124_3 b124_4 b204_0 b204_1 b204_2 b204_3 b204_4 b204_5 b204_6 b204_7 b204_8 t14 (IntKind.i64.wrap (b220_1 - 167903232)) true
        else
          if 0 ≤ (IntKind.i64.wrap (b220_1 - 167903232)) ∧ (IntKind.i64.wrap (b220_1 - 167903232)) < ((b124_3.length : Nat) : Int) then
          L_law19_EdgeStays_4 N b124_0 b124_1 b124_2 b124_3 b124_4 b204_0 b204_1 b204_2 b204_3 b204_4 b204_5 b204_6 b204_7 b204_8 t14 (IntKind.i64.wrap (b220_1 - 167903232)) (!((b124_3.getD (IntKind.i64.wrap (b220_1 - 167903232)).toNat default).Up))
          else none
def L_law19_EdgeStays_1 (N : Nat) (t1 : Int) (t2 : ByteArray) (b124_0 b124_1 : Int) (b124_2 : (List GSite)) (b124_3 : (List GHealth)) (b124_4 : (List GEntry)) (b164_0 : (List ByteArray)) (b164_1 : (List GEvent)) (t9 b180_0 b180_1 b180_2 b180_3 b180_4 : Int) (t41 : Bool) : Option (Bool) :=
  bif t41 then
    (L_law0_Num N t9).bind fun v1 =>
    bif (v1 == 0) then
      bif ((b164_0.length : Int) == 0) then
        L_law19_EdgeStays_2 N true
      else
        L_law19_EdgeStays_2 N ((b164_1.length : Int) == 0)
    else
      L_law19_EdgeStays_2 N ((b164_1.length : Int) == 0)
  else
    (L_ref10_FindEntry N b124_4 (GFlow.mk b180_0 b180_1 b180_2 b180_3 b180_4) t1).bind fun v1 =>
    bif ((b164_0.length : Int) == 0) then
      some ((b164_1.length : Int) == 1)
    else
      if 0 ≤ (0 : Int) ∧ (0 : Int) < ((b164_0.length : Nat) : Int) then
      (L_ref1_Pop N (b164_0.getD (Int.toNat 0) default)).bind fun v2 =>
      bif (v2.2 != 0) then
        L_law19_EdgeStays_3 N b124_0 b124_1 b124_2 b124_3 b124_4 v1.1.Flow.Src v1.1.Flow.Dst v1.1.Flow.Proto v1.1.Flow.Sport v1.1.Flow.Dport v1.1.To v1.1.Away v1.1.Phase v1.1.Used v1.2 v2.1.Src v2.1.Dst v2.1.Tier v2.1.Marker v2.1.Origin v2.1.Body true
      else
        bif ((b164_0.length : Int) != 1) then
          L_law19_EdgeStays_3 N b124_0 b124_1 b124_2 b124_3 b124_4 v1.1.Flow.Src v1.1.Flow.Dst v1.1.Flow.Proto v1.1.Flow.Sport v1.1.Flow.Dport v1.1.To v1.1.Away v1.1.Phase v1.1.Used v1.2 v2.1.Src v2.1.Dst v2.1.Tier v2.1.Marker v2.1.Origin v2.1.Body true
        else
          via ((IntKind.i64.wrap ((167837696 : Int) + b124_0)) : Int) fun v3 =>
          bif (v2.1.Src != v3) then
            L_law19_EdgeStays_3 N b124_0 b124_1 b124_2 b124_3 b124_4 v1.1.Flow.Src v1.1.Flow.Dst v1.1.Flow.Proto v1.1.Flow.Sport v1.1.Flow.Dport v1.1.To v1.1.Away v1.1.Phase v1.1.Used v1.2 v2.1.Src v2.1.Dst v2.1.Tier v2.1.Marker v2.1.Origin v2.1.Body true
          else
            L_law19_EdgeStays_3 N b124_0 b124_1 b124_2 b124_3 b124_4 v1.1.Flow.Src v1.1.Flow.Dst v1.1.Flow.Proto v1.1.Flow.Sport v1.1.Flow.Dport v1.1.To v1.1.Away v1.1.Phase v1.1.Used v1.2 v2.1.Src v2.1.Dst v2.1.Tier v2.1.Marker v2.1.Origin v2.1.Body (!(v2.1.Body.toList == t2.toList))
      else none
def L_law19_EdgeStays (N : Nat) (x0 : GEdge) (x1 : Int) (x2 : ByteArray) : Option (Bool) :=
  (L_law19_awake N).bind fun v1 =>
  bif (!v1) then
    some false
  else
    (L_edge_Take N x0 x1 x2).bind fun v2 =>
    (L_ref1_FlowOf N x2).bind fun v3 =>
    (L_law0_Num N v2.2.2).bind fun v4 =>
    bif (v4 != 0) then
      L_law19_EdgeStays_1 N x1 x2 x0.Id x0.Config.Version x0.Config.Sites x0.Health x0.Flows v2.2.1.Sent v2.2.1.Events v2.2.2 v3.1.Src v3.1.Dst v3.1.Proto v3.1.Sport v3.1.Dport true
    else
      L_law19_EdgeStays_1 N x1 x2 x0.Id x0.Config.Version x0.Config.Sites x0.Health x0.Flows v2.2.1.Sent v2.2.1.Events v2.2.2 v3.1.Src v3.1.Dst v3.1.Proto v3.1.Sport v3.1.Dport (v3.2.2 != 0)
def d4 (r : Bool) : D := .bool r
theorem g4_2 {N} (gx0 : Bool) {r} (z : Z Tryz.prog ty 4 Tryz.f4 (Fi [] (d4 r) [])) {t6} (h : L_law19_EdgeStays_2 N t6 = some r) : z.G [.c 431, .c 63] [(6, .bool t6)] [] :=
 z.r [] 0 o0 h
theorem g4_6 {N} (gx0 : Bool) {r} (z : Z Tryz.prog ty 4 Tryz.f4 (Fi [] (d4 r) [])) {t6} (h : L_law19_EdgeStays_6 N t6 = some r) : z.G [.c 16383] [(6, .bool t6)] [] :=
 z.r [] 0 o0 h
theorem g4_5 {N} (gx0 : Bool) {r} (z : Z Tryz.prog ty 4 Tryz.f4 (Fi [] (d4 r) [])) {b124_0 b124_1 b124_2 b124_3 b124_4 b204_0 b204_1 b204_2 b204_3 b204_4 b204_5 b204_6 b204_7 b204_8 t17 t18} (h : L_law19_EdgeStays_5 N b124_0 b124_1 b124_2 b124_3 b124_4 b204_0 b204_1 b204_2 b204_3 b204_4 b204_5 b204_6 b204_7 b204_8 t17 t18 = some r) : z.G [.c 8191] [(3, .ptr 124 0), (13, .ptr 204 0), (17, iI t17), (18, .bool t18)] [qB 124 [iI b124_0, iI b124_1, sS gx0 (eSite gx0) b124_2, sS gx0 eHealth b124_3, sS gx0 eEntry b124_4], qB 204 [iI b204_0, iI b204_1, iI b204_2, iI b204_3, iI b204_4, iI b204_5, .bool b204_6, iI b204_7, iI b204_8]] :=
 br h (fun h0 h =>
  br h (fun h1 h =>
   z.j [(17, [(1, oT), (7, oT)])] 2 [6] [] (o2 (Le.tt h0) (Le.tt h1)) (g4_6 gx0 z h)) fun h1 h =>
  br h (fun h2 h =>
   ck h fun h3 h =>
   br h (fun h4 h =>
    ck h fun h5 h =>
    z.j [(17, [(1, oT), (7, oF), (10, oT), (15, oC (.ip gx0 [iI ((b124_2.getD t17.toNat default).Weight), .bool ((b124_2.getD t17.toNat default).Drain), iI ((b124_2.getD t17.toNat default).Cap), sS gx0 eBack ((b124_2.getD t17.toNat default).Backs)])), (20, oT), (25, oC (.ip gx0 [iI ((b124_2.getD t17.toNat default).Weight), .bool ((b124_2.getD t17.toNat default).Drain), iI ((b124_2.getD t17.toNat default).Cap), sS gx0 eBack ((b124_2.getD t17.toNat default).Backs)]))])] 2 [6] [] (o5 (Le.tt h0) (Le.ff h1) (Le.tt h2) h3 (o4 (Le.iptl (g := gx0) (eL_at (xs := b124_2) (eSite_len gx0) (ixl h3))) (Le.tt h4) h5 (Le.iptl (g := gx0) (eL_at (xs := b124_2) (eSite_len gx0) (ixl h5))))) (g4_6 gx0 z h)) fun h4 h =>
   z.j [(17, [(1, oT), (7, oF), (10, oT), (15, oC (.ip gx0 [iI ((b124_2.getD t17.toNat default).Weight), .bool ((b124_2.getD t17.toNat default).Drain), iI ((b124_2.getD t17.toNat default).Cap), sS gx0 eBack ((b124_2.getD t17.toNat default).Backs)])), (20, oF)])] 2 [6] [] (o5 (Le.tt h0) (Le.ff h1) (Le.tt h2) h3 (o2 (Le.iptl (g := gx0) (eL_at (xs := b124_2) (eSite_len gx0) (ixl h3))) (Le.ff h4))) (g4_6 gx0 z h)) fun h2 h =>
  z.j [(17, [(1, oT), (7, oF), (10, oF)])] 2 [6] [] (o3 (Le.tt h0) (Le.ff h1) (Le.ff h2)) (g4_6 gx0 z h)) fun h0 h =>
 br h (fun h1 h =>
  ck h fun h2 h =>
  br h (fun h3 h =>
   ck h fun h4 h =>
   z.j [(17, [(1, oF), (10, oT), (15, oC (.ip gx0 [iI ((b124_2.getD t17.toNat default).Weight), .bool ((b124_2.getD t17.toNat default).Drain), iI ((b124_2.getD t17.toNat default).Cap), sS gx0 eBack ((b124_2.getD t17.toNat default).Backs)])), (20, oT), (25, oC (.ip gx0 [iI ((b124_2.getD t17.toNat default).Weight), .bool ((b124_2.getD t17.toNat default).Drain), iI ((b124_2.getD t17.toNat default).Cap), sS gx0 eBack ((b124_2.getD t17.toNat default).Backs)]))])] 2 [6] [] (o5 (Le.ff h0) (Le.tt h1) h2 (Le.iptl (g := gx0) (eL_at (xs := b124_2) (eSite_len gx0) (ixl h2))) (o3 (Le.tt h3) h4 (Le.iptl (g := gx0) (eL_at (xs := b124_2) (eSite_len gx0) (ixl h4))))) (g4_6 gx0 z h)) fun h3 h =>
  z.j [(17, [(1, oF), (10, oT), (15, oC (.ip gx0 [iI ((b124_2.getD t17.toNat default).Weight), .bool ((b124_2.getD t17.toNat default).Drain), iI ((b124_2.getD t17.toNat default).Cap), sS gx0 eBack ((b124_2.getD t17.toNat default).Backs)])), (20, oF)])] 2 [6] [] (o5 (Le.ff h0) (Le.tt h1) h2 (Le.iptl (g := gx0) (eL_at (xs := b124_2) (eSite_len gx0) (ixl h2))) (o1 (Le.ff h3))) (g4_6 gx0 z h)) fun h1 h =>
 z.j [(17, [(1, oF), (10, oF)])] 2 [6] [] (o2 (Le.ff h0) (Le.ff h1)) (g4_6 gx0 z h)
theorem g4_4 {N} (gx0 : Bool) {r} (z : Z Tryz.prog ty 4 Tryz.f4 (Fi [] (d4 r) [])) {b124_0 b124_1 b124_2 b124_3 b124_4 b204_0 b204_1 b204_2 b204_3 b204_4 b204_5 b204_6 b204_7 b204_8 t14 t17 t131} (h : L_law19_EdgeStays_4 N b124_0 b124_1 b124_2 b124_3 b124_4 b204_0 b204_1 b204_2 b204_3 b204_4 b204_5 b204_6 b204_7 b204_8 t14 t17 t131 = some r) : z.G [.c 7167, .c 4095] [(3, .ptr 124 0), (13, .ptr 204 0), (14, .bool t14), (17, iI t17), (131, .bool t131)] [qB 124 [iI b124_0, iI b124_1, sS gx0 (eSite gx0) b124_2, sS gx0 eHealth b124_3, sS gx0 eEntry b124_4], qB 204 [iI b204_0, iI b204_1, iI b204_2, iI b204_3, iI b204_4, iI b204_5, .bool b204_6, iI b204_7, iI b204_8]] :=
 by
  cases t131 with
  | true => exact brT h fun h => (
   z.r [] 3 o0 h)
  | false => exact brF h fun h => (
   br h (fun h1 h =>
    br h (fun h2 h =>
     br h (fun h3 h =>
      ck h fun h4 h =>
      z.j [(16, [(1, oT), (10, oT), (18, oT), (23, oC (.ip gx0 [.bool ((b124_3.getD b204_5.toNat default).Up), iI ((b124_3.getD b204_5.toNat default).Count)]))])] 4 [3, 13, 17, 18] [(124, 124), (204, 204)] (o5 (Le.tt h1) (Le.tt h2) (Le.tt h3) h4 (o1 (Le.iptl (g := gx0) (eL_at (xs := b124_3) eHealth_len (ixl h4))))) (g4_5 gx0 z h)) fun h3 h =>
     z.j [(16, [(1, oT), (10, oT), (18, oF)])] 4 [3, 13, 17, 18] [(124, 124), (204, 204)] (o3 (Le.tt h1) (Le.tt h2) (Le.ff h3)) (g4_5 gx0 z h)) fun h2 h =>
    z.j [(16, [(1, oT), (10, oF)])] 4 [3, 13, 17, 18] [(124, 124), (204, 204)] (o2 (Le.tt h1) (Le.ff h2)) (g4_5 gx0 z h)) fun h1 h =>
   z.j [(16, [(1, oF)])] 4 [3, 13, 17, 18] [(124, 124), (204, 204)] (o1 (Le.ff h1)) (g4_5 gx0 z h))
theorem g4_3 {N} (gx0 : Bool) {r} (z : Z Tryz.prog ty 4 Tryz.f4 (Fi [] (d4 r) [])) {b124_0 b124_1 b124_2 b124_3 b124_4 b204_0 b204_1 b204_2 b204_3 b204_4 b204_5 b204_6 b204_7 b204_8 t14 b220_0 b220_1 b220_2 b220_3 b220_4 b220_5 t102} (h : L_law19_EdgeStays_3 N b124_0 b124_1 b124_2 b124_3 b124_4 b204_0 b204_1 b204_2 b204_3 b204_4 b204_5 b204_6 b204_7 b204_8 t14 b220_0 b220_1 b220_2 b220_3 b220_4 b220_5 t102 = some r) : z.G [.c 1791, .c 1023] [(3, .ptr 124 0), (13, .ptr 204 0), (14, .bool t14), (15, .ptr 220 0), (102, .bool t102)] [qB 124 [iI b124_0, iI b124_1, sS gx0 (eSite gx0) b124_2, sS gx0 eHealth b124_3, sS gx0 eEntry b124_4], qB 204 [iI b204_0, iI b204_1, iI b204_2, iI b204_3, iI b204_4, iI b204_5, .bool b204_6, iI b204_7, iI b204_8], qB 220 [iI b220_0, iI b220_1, iI b220_2, iI b220_3, iI b220_4, .str b220_5]] :=
 by
  cases t102 with
  | true => exact brT h fun h => (
   z.r [] 3 o0 h)
  | false => exact brF h fun h => (
   br h (fun h1 h =>
    z.j [(14, [(2, oT)])] 7 [3, 13, 14, 17, 131] [(124, 124), (204, 204)] (o1 (Le.tt h1)) (g4_4 gx0 z h)) fun h1 h =>
   br h (fun h2 h =>
    z.j [(14, [(2, oF), (10, oT)])] 7 [3, 13, 14, 17, 131] [(124, 124), (204, 204)] (o2 (Le.ff h1) (Le.tt h2)) (g4_4 gx0 z h)) fun h2 h =>
   br h (fun h3 h =>
    z.j [(14, [(2, oF), (10, oF), (17, oT)])] 7 [3, 13, 14, 17, 131] [(124, 124), (204, 204)] (o3 (Le.ff h1) (Le.ff h2) (Le.tt h3)) (g4_4 gx0 z h)) fun h3 h =>
   ck h fun h4 h =>
   z.j [(14, [(2, oF), (10, oF), (17, oF), (21, oC (.ip gx0 [.bool ((b124_3.getD (IntKind.i64.wrap (b220_1 - 167903232)).toNat default).Up), iI ((b124_3.getD (IntKind.i64.wrap (b220_1 - 167903232)).toNat default).Count)]))])] 7 [3, 13, 14, 17, 131] [(124, 124), (204, 204)] (o5 (Le.ff h1) (Le.ff h2) (Le.ff h3) h4 (o1 (Le.iptl (g := gx0) (eL_at (xs := b124_3) eHealth_len (ixl h4))))) (g4_4 gx0 z h))
theorem g4_1 {N} (gx0 : Bool) {r} (z : Z Tryz.prog ty 4 Tryz.f4 (Fi [] (d4 r) [])) {t1 t2 b124_0 b124_1 b124_2 b124_3 b124_4 b164_0 b164_1 t9 b180_0 b180_1 b180_2 b180_3 b180_4 t41} (h : L_law19_EdgeStays_1 N t1 t2 b124_0 b124_1 b124_2 b124_3 b124_4 b164_0 b164_1 t9 b180_0 b180_1 b180_2 b180_3 b180_4 t41 = some r) : z.G [.c 111, .c 63] [(1, iI t1), (2, .str t2), (3, .ptr 124 0), (8, .ptr 164 0), (9, iI t9), (10, .ptr 180 0), (41, .bool t41)] [qB 124 [iI b124_0, iI b124_1, sS gx0 (eSite gx0) b124_2, sS gx0 eHealth b124_3, sS gx0 eEntry b124_4], qB 164 [sS true eStr b164_0, sS true eEvent b164_1], qB 180 [iI b180_0, iI b180_1, iI b180_2, iI b180_3, iI b180_4]] :=
 by
  cases t41 with
  | true => exact brT h fun h => (
   bd h fun v1 h1 h =>
   br h (fun h2 h =>
    br h (fun h3 h =>
     z.j [(6, [(1, oR (d25 v1)), (3, oT), (9, oT)])] 3 [6] [] (o3 (c25 h1) (Le.tt h2) (Le.tt h3)) (g4_2 gx0 z h)) fun h3 h =>
    z.j [(6, [(1, oR (d25 v1)), (3, oT), (9, oF)])] 3 [6] [] (o3 (c25 h1) (Le.tt h2) (Le.ff h3)) (g4_2 gx0 z h)) fun h2 h =>
   z.j [(6, [(1, oR (d25 v1)), (3, oF)])] 3 [6] [] (o2 (c25 h1) (Le.ff h2)) (g4_2 gx0 z h))
  | false => exact brF h fun h => (
   bd h fun v1 h1 h =>
   z.s [(7, [(4, oR (d32 v1))])] 6 (o1 (c32 gx0 h1)) <|
   br h (fun h2 h =>
    z.r [(8, [(3, oT)])] 4 (o1 (Le.tt h2)) h) fun h2 h =>
   ck h fun h3 h =>
   bd h fun v2 h4 h =>
   z.s [(8, [(3, oF)]), (10, [(2, oC (.ip true [.str (b164_0.getD (Int.toNat 0) default)])), (4, oR (d33 v2))])] 7 (o4 (Le.ff h2) h3 (Le.iptl (g := true) (eL_at (xs := b164_0) eStr_len (ixl h3))) (c33 h4)) <|
   br h (fun h5 h =>
    z.j [(11, [(2, oT)])] 1 [3, 13, 14, 15, 102] [(124, 124), (204, 204), (220, 220)] (o1 (Le.tt h5)) (g4_3 gx0 z h)) fun h5 h =>
   br h (fun h6 h =>
    z.j [(11, [(2, oF), (8, oT)])] 1 [3, 13, 14, 15, 102] [(124, 124), (204, 204), (220, 220)] (o2 (Le.ff h5) (Le.tt h6)) (g4_3 gx0 z h)) fun h6 h =>
   vi h fun v3 h7 h =>
   br h (fun h8 h =>
    z.j [(11, [(2, oF), (8, oF), (13, oC (.int .i64 v3)), (16, oT)])] 1 [3, 13, 14, 15, 102] [(124, 124), (204, 204), (220, 220)] (o4 (Le.ff h5) (Le.ff h6) (Le.int (k := .i64) h7) (Le.tt h8)) (g4_3 gx0 z h)) fun h8 h =>
   z.j [(11, [(2, oF), (8, oF), (13, oC (.int .i64 v3)), (16, oF)])] 1 [3, 13, 14, 15, 102] [(124, 124), (204, 204), (220, 220)] (o4 (Le.ff h5) (Le.ff h6) (Le.int (k := .i64) h7) (Le.ff h8)) (g4_3 gx0 z h))
theorem c4 {N} (gx0 : Bool) {x0 x1 x2 r} (h : L_law19_EdgeStays N x0 x1 x2 = some r) : Con Tryz.prog 4 [.agg [iI x0.Id, iI x0.Config.Version, sS gx0 (eSite gx0) x0.Config.Sites, sS gx0 eHealth x0.Health, sS gx0 eEntry x0.Flows], iI x1, .str x2] [] (d4 r) [] :=
 ci ok mix Tryz.f4 fun z =>
 bd h fun v1 h0 h =>
 br h (fun h1 h =>
  z.r [(1, [(0, oR (d30 v1)), (1, oT)])] 8 (o2 (c30 h0) (Le.tt h1)) h) fun h1 h =>
 bd h fun v2 h2 h =>
 bd h fun v3 h3 h =>
 bd h fun v4 h4 h =>
 z.s [(1, [(0, oR (d30 v1)), (1, oF)]), (3, [(3, oR (d19 v2))]), (4, [(1, oR (d31 v3))])] 13 (o4 (c30 h0) (Le.ff h1) (c19 gx0 h2) (c31 h3)) <|
 br h (fun h5 h =>
  z.j [(5, [(1, oR (d25 v4)), (3, oT)])] 1 [1, 2, 3, 8, 9, 10, 41] [(124, 124), (164, 164), (180, 180)] (o2 (c25 h4) (Le.tt h5)) (g4_1 gx0 z h)) fun h5 h =>
 z.j [(5, [(1, oR (d25 v4)), (3, oF)])] 1 [1, 2, 3, 8, 9, 10, 41] [(124, 124), (164, 164), (180, 180)] (o2 (c25 h4) (Le.ff h5)) (g4_1 gx0 z h)
/-! ### wharfage/wharfagelaw20.SiteInside -/
/-! ### wharfage/wharfagelaw20.SiteAgain -/
/-! ### wharfage/wharfagelaw0.CopyNode -/
/-! ### wharfage/wharfagelaw0.CopyNode -/
/-! ### wharfage/spare.Load -/
/-! ### wharfage/site.Report -/
/-! ### wharfage/wharfagelaw0.SameSeens -/
/-! ### wharfage/wharfagelaw0.SameNode -/
/-! ### wharfage/wharfagelaw20.SiteForms -/
/-! ### wharfage/wharfagelaw20.kindOf -/
/-! ### wharfage/wharfagelaw20.SiteMarkers -/
/-! ### wharfage/wharfagelaw20.given -/
/-! ### wharfage/wharfageref1.ReportMay -/
/-! ### wharfage/wharfageref1.PutReport -/
/-! ### wharfage/wharfagelaw20.SiteSpills -/
end Go.Proofs.YtmhlgpdoedbedaaGreat.Lf
