import Derived.Test.YthhlflmjikdgcaaTab
set_option linter.unusedVariables false
set_option linter.unusedSimpArgs false
namespace Go.Proofs.Ythhlflmjikdgcaa.Lf
set_option maxRecDepth 20000
open Go Go.RowKit Go.Proofs Go.Proofs.Ythhlflmjikdgcaa.Sv
structure GCandidate where
  Id : Int
  Weight : Int
def eCandidate (x : GCandidate) : List D := [iI x.Id, iI x.Weight]
instance : Inhabited GCandidate := ⟨⟨default, default⟩⟩
theorem eCandidate_len (x : GCandidate) : (eCandidate x).length = 2 := rfl
structure Gmaglev_walk where
  at_ : Int
  step_ : Int
def emaglev_walk (x : Gmaglev_walk) : List D := [iI x.at_, iI x.step_]
instance : Inhabited Gmaglev_walk := ⟨⟨default, default⟩⟩
theorem emaglev_walk_len (x : Gmaglev_walk) : (emaglev_walk x).length = 2 := rfl
structure GFlow where
  Src : Int
  Dst : Int
  Proto : Int
  Sport : Int
  Dport : Int
instance : Inhabited GFlow := ⟨⟨default, default, default, default, default⟩⟩
def L_law0_CopyCandidates (N : Nat) (x0 : (List GCandidate)) : Option ((List GCandidate)) :=
 if growOk 16 (0 + x0.length) then
 some ([] ++ x0)
 else none
def d29v1 (r : (List GCandidate)) : D := rR 1000 r
def h29v1 (r : (List GCandidate)) : List (Nat × Option Blk) := [pB 1000 2 (eL eCandidate r)]
theorem c29v1 {N} (gx0 : Bool) {x0 r} (h : L_law0_CopyCandidates N x0 = some r) : Con Try.prog 29 [sS gx0 eCandidate x0] [] (d29v1 r) (h29v1 r) :=
 ci ok mix Try.f29 fun z =>
 ck h fun h0 h =>
 z.rb [(1, [(2, { cv := some (.ref 180 0 ([] ++ x0).length ([] ++ x0).length), cb := [(180, eL eCandidate ([] ++ x0))] })])] 4 [(1000, 180)] (rR 180 ([] ++ x0)) (o5 (Or.inr (eL_frees (fun _ => rfl) _) : gx0 = true ∨ frees (eL eCandidate x0) = true) (ap_len (xs := x0) eCandidate_len) (ap_len (xs := []) eCandidate_len) h0 (o2 (Le.apr (b := 180) (by first | rfl | (simp only [List.length_append, List.length_take, List.length_drop]; omega) | simp : ([] ++ x0).length = 0 + x0.length)) (ap_all (xs := []) (ys := x0) eCandidate_len))) h (Le.of (by kernel_rfl))
def L_law0_LendCandidates (N : Nat) (x0 : (List GCandidate)) : Option ((List GCandidate) × Nat) :=
 (L_law0_CopyCandidates N x0).bind fun v1 =>
 if growOk 16 (v1.length + 2) then
 if 0 ≤ (x0.length : Int) ∧ (x0.length : Int) ≤ (((v1 ++ [(GCandidate.mk 77777 0), (GCandidate.mk 77777 0)]).length : Nat) : Int) ∧ 0 ≤ (0 : Int) ∧ (0 : Int) ≤ (x0.length : Int) ∧ (v1 ++ [(GCandidate.mk 77777 0), (GCandidate.mk 77777 0)]).length ≤ (v1 ++ [(GCandidate.mk 77777 0), (GCandidate.mk 77777 0)]).length then
 some ((v1 ++ [(GCandidate.mk 77777 0), (GCandidate.mk 77777 0)]), (Int.toNat ((x0.length : Int) - (0 : Int))))
 else none
 else none
def d14 (r : (List GCandidate) × Nat) : D := .ref 1000 0 r.2 r.1.length
def h14 (r : (List GCandidate) × Nat) : List (Nat × Option Blk) := [pB 1000 2 (eL eCandidate r.1)]
theorem c14 {N} (gx0 : Bool) {x0 r} (h : L_law0_LendCandidates N x0 = some r) : Con Try.prog 14 [sS gx0 eCandidate x0] [] (d14 r) (h14 r) :=
 ci ok mix Try.f14 fun z =>
 bd h fun v1 h0 h =>
 ck h fun h1 h =>
 ck h fun h2 h =>
 z.rb [(1, [(1, { r := d29v1 v1, H := h29v1 v1 }), (5, { cv := some (.ref 244 0 (v1 ++ [(GCandidate.mk 77777 0), (GCandidate.mk 77777 0)]).length (v1 ++ [(GCandidate.mk 77777 0), (GCandidate.mk 77777 0)]).length), cb := [(244, eL eCandidate (v1 ++ [(GCandidate.mk 77777 0), (GCandidate.mk 77777 0)]))] })])] 6 [(1000, 244)] (.ref 244 0 (Int.toNat ((x0.length : Int) - (0 : Int))) ((v1 ++ [(GCandidate.mk 77777 0), (GCandidate.mk 77777 0)]).length - (Int.toNat (0 : Int)))) (o5 (c29v1 gx0 h0) (by decide : 2 * 2 ≤ 4) (ap_len (xs := v1) eCandidate_len) h1 (o3 (Le.apr (b := 244) (by first | rfl | (simp only [List.length_append, List.length_take, List.length_drop]; omega) | simp : (v1 ++ [(GCandidate.mk 77777 0), (GCandidate.mk 77777 0)]).length = v1.length + 2)) (ap_ex (xs := v1) eCandidate_len (ys := [(GCandidate.mk 77777 0), (GCandidate.mk 77777 0)]) (cs := [iI 77777, iI 0, iI 77777, iI 0]) rfl) h2)) h (Le.of (by kernel_rfl))
def L_ip_In_1 (N : Nat) (t4 : Bool) : Option (Bool) :=
 some t4
def L_ip_In (N : Nat) (x0 x1 : Int) : Option (Bool) :=
 bif (decide (x0 ≥ 0)) then
  if 0 ≤ x1 then
  L_ip_In_1 N ((x0.fdiv (2 ^ (min x1.toNat 64))) == 0)
  else none
 else
  L_ip_In_1 N false
def d27 (r : Bool) : D := .bool r
theorem g27_1 {N} {r} (z : Z Try.prog ty 27 Try.f27 (Fi [] (d27 r) [])) {t4} (h : L_ip_In_1 N t4 = some r) : z.G [.c 7] [(4, .bool t4)] [] :=
 z.r [] 0 o0 h
theorem c27 {N} {x0 x1 r} (h : L_ip_In N x0 x1 = some r) : Con Try.prog 27 [iI x0, iI x1] [] (d27 r) [] :=
 ci ok mix Try.f27 fun z =>
 br h (fun h0 h =>
  ck h fun h1 h =>
  z.j [(1, [(2, oT)])] 4 [4] [] (o2 (Le.tt h0) h1) (g27_1 z h)) fun h0 h =>
 z.j [(1, [(2, oF)])] 4 [4] [] (o1 (Le.ff h0)) (g27_1 z h)
def L_maglev_Weight_1 (N : Nat) (t2 : Bool) : Option (Bool) :=
 some t2
def L_maglev_Weight (N : Nat) (x0 : Int) : Option (Bool) :=
 bif (decide (x0 ≥ 1)) then
  L_maglev_Weight_1 N (decide (x0 ≤ 16))
 else
  L_maglev_Weight_1 N false
def d34 (r : Bool) : D := .bool r
theorem g34_1 {N} {r} (z : Z Try.prog ty 34 Try.f34 (Fi [] (d34 r) [])) {t2} (h : L_maglev_Weight_1 N t2 = some r) : z.G [.c 7] [(2, .bool t2)] [] :=
 z.r [] 0 o0 h
theorem c34 {N} {x0 r} (h : L_maglev_Weight N x0 = some r) : Con Try.prog 34 [iI x0] [] (d34 r) [] :=
 ci ok mix Try.f34 fun z =>
 br h (fun h0 h =>
  z.j [(1, [(2, oT)])] 4 [2] [] (o1 (Le.tt h0)) (g34_1 z h)) fun h0 h =>
 z.j [(1, [(2, oF)])] 4 [2] [] (o1 (Le.ff h0)) (g34_1 z h)
def L_maglev_May_2 (N : Nat) (r1 : (List GCandidate) → (List GCandidate) → Int → Int → Option (Bool)) (t0 t5 : (List GCandidate)) (t6 t7 : Int) (t36 : Bool) : Option (Bool) :=
 bif t36 then
  some false
 else
  r1 t0 t5 t6 (IntKind.i64.wrap (t7 + 1))
def L_maglev_May_1 (N : Nat) : Nat → (List GCandidate) → (List GCandidate) → Int → Int → Option (Bool)
  | 0, _, _, _, _ => none
  | fuel + 1, t0, t5, t6, t7 =>
  bif (decide (t7 < t6)) then
   if 0 ≤ t7 ∧ t7 < ((t5.length : Nat) : Int) then
   (L_ip_In N ((t5.getD t7.toNat default).Id) 8).bind fun v1 =>
   bif (!v1) then
    L_maglev_May_2 N (L_maglev_May_1 N fuel) t0 t5 t6 t7 true
   else
    (L_maglev_Weight N ((t5.getD t7.toNat default).Weight)).bind fun v2 =>
    bif (!v2) then
     L_maglev_May_2 N (L_maglev_May_1 N fuel) t0 t5 t6 t7 true
    else
     bif (decide (t7 > 0)) then
      if 0 ≤ (IntKind.i64.wrap (t7 - 1)) ∧ (IntKind.i64.wrap (t7 - 1)) < ((t0.length : Nat) : Int) then
      via ((t0.getD (IntKind.i64.wrap (t7 - 1)).toNat default).Id : Int) fun v3 =>
      L_maglev_May_2 N (L_maglev_May_1 N fuel) t0 t5 t6 t7 (decide (v3 ≥ (t5.getD t7.toNat default).Id))
      else none
     else
      L_maglev_May_2 N (L_maglev_May_1 N fuel) t0 t5 t6 t7 false
   else none
  else
   some (decide ((t0.length : Int) ≤ 16))
def L_maglev_May (N : Nat) (x0 : (List GCandidate)) : Option (Bool) :=
 L_maglev_May_1 N N x0 x0 (x0.length : Int) 0
def d20 (r : Bool) : D := .bool r
theorem g20_2 {N} (gx0 : Bool) {r} (z : Z Try.prog ty 20 Try.f20 (Fi [] (d20 r) [])) {r1 : (List GCandidate) → (List GCandidate) → Int → Int → Option (Bool)} (hr1 : ∀ {t0 t5 t6 t7}, r1 t0 t5 t6 t7 = some r → z.G [.c 37, .l 37, .b 0, .c 7] [(0, sS gx0 eCandidate t0), (5, sS gx0 eCandidate t5), (6, iI t6), (7, iI t7)] []) {t0 t5 t6 t7 t36} (h : L_maglev_May_2 N r1 t0 t5 t6 t7 t36 = some r) : z.G [.c 3685, .b 1, .c 485, .l 37, .b 0, .c 7] [(0, sS gx0 eCandidate t0), (5, sS gx0 eCandidate t5), (6, iI t6), (7, iI t7), (36, .bool t36)] [] :=
 by
  cases t36 with
  | true => exact brT h fun h => (
   z.r [] 3 o0 h)
  | false => exact brF h fun h => (
   z.j [] 5 [0, 5, 6, 7] [] o0 (hr1 h))
theorem g20_1 {N} (gx0 : Bool) {r} (z : Z Try.prog ty 20 Try.f20 (Fi [] (d20 r) [])) (fuel) : ∀ {t0 t5 t6 t7}, L_maglev_May_1 N fuel t0 t5 t6 t7 = some r → z.G [.c 37, .l 37, .b 0, .c 7] [(0, sS gx0 eCandidate t0), (5, sS gx0 eCandidate t5), (6, iI t6), (7, iI t7)] [] := by
 induction fuel with
 | zero => intro t0 t5 t6 t7 h; cases h
 | succ fuel ih =>
  intro t0 t5 t6 t7 h
  exact
   br h (fun h0 h =>
    ck h fun h1 h =>
    bd h fun v1 h2 h =>
    z.s [(2, [(0, oT)]), (3, [(1, oC (.ip gx0 [iI ((t5.getD t7.toNat default).Id), iI ((t5.getD t7.toNat default).Weight)]))])] 10 (o3 (Le.tt h0) h1 (Le.iptl (g := gx0) (eL_at (xs := t5) eCandidate_len (ixl h1)))) <|
    br h (fun h3 h =>
     z.j [(4, [(2, oR (d27 v1)), (4, oT)])] 1 [0, 5, 6, 7, 36] [] (o2 (c27 h2) (Le.tt h3)) (g20_2 gx0 z @ih h)) fun h3 h =>
    bd h fun v2 h4 h =>
    br h (fun h5 h =>
     z.j [(4, [(2, oR (d27 v1)), (4, oF), (7, oR (d34 v2)), (10, oT)])] 1 [0, 5, 6, 7, 36] [] (o4 (c27 h2) (Le.ff h3) (c34 h4) (Le.tt h5)) (g20_2 gx0 z @ih h)) fun h5 h =>
    br h (fun h6 h =>
     ck h fun h7 h =>
     vi h fun v3 h8 h =>
     z.j [(4, [(2, oR (d27 v1)), (4, oF), (7, oR (d34 v2)), (10, oF), (13, oT), (17, oC (.ip gx0 [iI ((t0.getD (IntKind.i64.wrap (t7 - 1)).toNat default).Id), iI ((t0.getD (IntKind.i64.wrap (t7 - 1)).toNat default).Weight)])), (19, oC (.int .i64 v3))])] 1 [0, 5, 6, 7, 36] [] (o5 (c27 h2) (Le.ff h3) (c34 h4) (Le.ff h5) (o5 (Le.tt h6) h7 (Le.iptl (g := gx0) (eL_at (xs := t0) eCandidate_len (ixl h7))) (List.cons_ne_nil _ _ : ([iI ((t0.getD (IntKind.i64.wrap (t7 - 1)).toNat default).Id), iI ((t0.getD (IntKind.i64.wrap (t7 - 1)).toNat default).Weight)] : List D) ≠ []) (o1 (Le.int (k := .i64) h8)))) (g20_2 gx0 z @ih h)) fun h6 h =>
    z.j [(4, [(2, oR (d27 v1)), (4, oF), (7, oR (d34 v2)), (10, oF), (13, oF)])] 1 [0, 5, 6, 7, 36] [] (o5 (c27 h2) (Le.ff h3) (c34 h4) (Le.ff h5) (o1 (Le.ff h6))) (g20_2 gx0 z @ih h)) fun h0 h =>
   z.r [(2, [(0, oF)])] 7 (o1 (Le.ff h0)) h
theorem c20 {N} (gx0 : Bool) {x0 r} (h : L_maglev_May N x0 = some r) : Con Try.prog 20 [sS gx0 eCandidate x0] [] (d20 r) [] :=
 ci ok mix Try.f20 fun z =>
 z.j [] 7 [0, 5, 6, 7] [] o0 (g20_1 gx0 z N h)
def L_maglev_repeat_int_1 (N : Nat) : Nat → Int → (List Int) → Int → Int → Option ((List Int))
  | 0, _, _, _, _ => none
  | fuel + 1, t0, b228, t10, t11 =>
  bif (decide (t11 < t10)) then
   if 0 ≤ t11 ∧ t11 < ((b228.length : Nat) : Int) then
   L_maglev_repeat_int_1 N fuel t0 (b228.set t11.toNat t0) t10 (IntKind.i64.wrap (t11 + 1))
   else none
  else
   some b228
def L_maglev_repeat_int (N : Nat) (x0 x1 : Int) : Option ((List Int)) :=
 if 0 ≤ x1 ∧ x1 ≤ x1 ∧ ((8 : Nat) : Int) * x1 ≤ 140737488355328 ∧ x1 ≤ 4611686018427387904 then
 via (((List.replicate (Int.toNat x1) (0 : Int)).length : Int) : Int) fun v1 =>
 L_maglev_repeat_int_1 N N x0 (List.replicate (Int.toNat x1) (0 : Int)) v1 0
 else none
def L_hash_mix (N : Nat) (x0 x1 : Int) : Option (Int) :=
 via ((bXor .u32 (IntKind.u32.wrap (x0 + 2654435769)) x1) : Int) fun v1 =>
 via ((IntKind.u32.wrap ((bXor .u32 v1 (v1.fdiv (2 ^ 16))) * 2246822507)) : Int) fun v2 =>
 via ((IntKind.u32.wrap ((bXor .u32 v2 (v2.fdiv (2 ^ 13))) * 3266489909)) : Int) fun v3 =>
 some (bXor .u32 v3 (v3.fdiv (2 ^ 16)))
def d28 (r : Int) : D := .int .u32 r
theorem c28 {N} {x0 x1 r} (h : L_hash_mix N x0 x1 = some r) : Con Try.prog 28 [.int .u32 x0, .int .u32 x1] [] (d28 r) [] :=
 ci ok mix Try.f28 fun z =>
 vi h fun v1 h0 h =>
 vi h fun v2 h1 h =>
 vi h fun v3 h2 h =>
 z.r [(1, [(3, oC (.int .u32 v1))]), (2, [(4, oC (.int .u32 v2))]), (3, [(4, oC (.int .u32 v3))])] 10 (o5 (Le.int (k := .u32) h0) (by decide : (0:Int) ≤ 16) (Le.int (k := .u32) h1) (by decide : (0:Int) ≤ 13) (o2 (Le.int (k := .u32) h2) (by decide : (0:Int) ≤ 16))) h
def L_hash_Mix_1 (N : Nat) (t0 t1 : Int) (t13 : Bool) : Option (Int × Int) :=
 bif t13 then
  some (0, 800)
 else
  (L_hash_mix N (IntKind.u32.wrap t0) (IntKind.u32.wrap t1)).bind fun v1 =>
  some ((IntKind.i64.wrap v1), 0)
def L_hash_Mix (N : Nat) (x0 x1 : Int) : Option (Int × Int) :=
 (L_ip_In N x0 32).bind fun v1 =>
 bif (!v1) then
  L_hash_Mix_1 N x0 x1 true
 else
  (L_ip_In N x1 32).bind fun v2 =>
  L_hash_Mix_1 N x0 x1 (!v2)
def d12 (r : Int × Int) : D := .tup [iI r.1, iI r.2]
theorem g12_1 {N} {r} (z : Z Try.prog ty 12 Try.f12 (Fi [] (d12 r) [])) {t0 t1 t13} (h : L_hash_Mix_1 N t0 t1 t13 = some r) : z.G [.c 13, .c 7] [(0, iI t0), (1, iI t1), (13, .bool t13)] [] :=
 by
  cases t13 with
  | true => exact brT h fun h => (
   z.r [] 3 o0 h)
  | false => exact brF h fun h => (
   bd h fun v1 h1 h =>
   z.r [(3, [(4, oR (d28 v1))])] 4 (o1 (c28 h1)) h)
theorem c12 {N} {x0 x1 r} (h : L_hash_Mix N x0 x1 = some r) : Con Try.prog 12 [iI x0, iI x1] [] (d12 r) [] :=
 ci ok mix Try.f12 fun z =>
 bd h fun v1 h0 h =>
 br h (fun h1 h =>
  z.j [(1, [(1, oR (d27 v1)), (3, oT)])] 5 [0, 1, 13] [] (o2 (c27 h0) (Le.tt h1)) (g12_1 z h)) fun h1 h =>
 bd h fun v2 h2 h =>
 z.j [(1, [(1, oR (d27 v1)), (3, oF), (5, oR (d27 v2))])] 5 [0, 1, 13] [] (o3 (c27 h0) (Le.ff h1) (c27 h2)) (g12_1 z h)
def L_maglev_begin (N : Nat) (x0 : Int) : Option (Gmaglev_walk) :=
 (L_hash_Mix N 1 x0).bind fun v1 =>
 (L_hash_Mix N 2 x0).bind fun v2 =>
 via ((IntKind.i64.wrap ((1 : Int) + (v2.1.tmod 30))) : Int) fun v3 =>
 some (Gmaglev_walk.mk (v1.1.tmod 31) v3)
def d31 (r : Gmaglev_walk) : D := .agg [iI r.at_, iI r.step_]
theorem c31 {N} {x0 r} (h : L_maglev_begin N x0 = some r) : Con Try.prog 31 [iI x0] [] (d31 r) [] :=
 ci ok mix Try.f31 fun z =>
 bd h fun v1 h0 h =>
 bd h fun v2 h1 h =>
 vi h fun v3 h2 h =>
 z.r [(1, [(1, oR (d12 v1))]), (2, [(1, oR (d12 v2))]), (3, [(4, oC (.int .i64 v3))])] 8 (o5 (c12 h0) (c12 h1) (by decide : (31:Int) ≠ 0) (by decide : (30:Int) ≠ 0) (o1 (Le.int (k := .i64) h2))) h
def L_maglev_walk_next (N : Nat) (x0i : Nat) (x0 : (List Gmaglev_walk)) : Option ((List Gmaglev_walk)) :=
 if 0 ≤ ((x0i : Nat) : Int) ∧ ((x0i : Nat) : Int) < ((x0.length : Nat) : Int) then
 via ((IntKind.i64.wrap ((x0.getD x0i default).at_ + (x0.getD x0i default).step_)) : Int) fun v1 =>
 some (x0.set x0i (Gmaglev_walk.mk (v1.tmod 31) ((x0.getD x0i default).step_)))
 else none
def d37 (r : (List Gmaglev_walk)) : D := .tup []
def h37 (r : (List Gmaglev_walk)) : List (Nat × Option Blk) := [pB 0 2 (eL emaglev_walk r)]
theorem c37 {N} {x0i x0 r} (h : L_maglev_walk_next N x0i x0 = some r) : Con Try.prog 37 [.ptr 0 (x0i * 2 + 0)] [(0, ⟨true, 2, (eL emaglev_walk x0)⟩)] (d37 r) (h37 r) :=
 ci ok mix Try.f37 fun z =>
 ck h fun h0 h =>
 vi h fun v1 h1 h =>
 z.rb [(0, [(4, oC (iI ((x0.getD x0i default).at_))), (8, oC (iI ((x0.getD x0i default).step_))), (9, oC (.int .i64 v1)), (13, { cb := [(0, eL emaglev_walk (x0.set x0i (Gmaglev_walk.mk (v1.tmod 31) ((x0.getD x0i default).step_))))] })])] 1 [] (.tup []) (o5 (ld_ne (xs := x0) emaglev_walk_len (ixl h0) (o := 0) (by decide)) (Le.of (ld_hd (xs := x0) emaglev_walk_len (ixl h0) (o := 0) (by decide))) (ld_ne (xs := x0) emaglev_walk_len (ixl h0) (o := 1) (by decide)) (Le.of (ld_hd (xs := x0) emaglev_walk_len (ixl h0) (o := 1) (by decide))) (o4 (Le.int (k := .i64) h1) (by decide : (31:Int) ≠ 0) (st_need (xs := x0) emaglev_walk_len (ixl h0) (o := 0) (k := 1) (vs := [iI (v1.tmod 31)]) (p := true) (by decide) rfl rfl) (st_set (xs := x0) emaglev_walk_len (ixl h0) (o := 0) (vs := [iI (v1.tmod 31)]) (y := (Gmaglev_walk.mk (v1.tmod 31) ((x0.getD x0i default).step_))) (Nat.le_of_ble_eq_true rfl) rfl))) h (Le.of (by kernel_rfl))
def d30v1 (r : (List Int)) : D := rR 1000 r
def h30v1 (r : (List Int)) : List (Nat × Option Blk) := [pB 1000 1 (eL (eInt .i64) r)]
theorem g30v1_1 {N} {r} (z : Z Try.prog ty 30 Try.f30 (Fi [] (d30v1 r) (h30v1 r))) (fuel) : ∀ {t0 b228 t10 t11}, L_maglev_repeat_int_1 N fuel t0 b228 t10 t11 = some r → z.G [.c 75, .l 75, .b 0, .c 15] [(0, iI t0), (5, rR 228 b228), (10, iI t10), (11, iI t11)] [pB 228 1 (eL (eInt .i64) b228)] := by
 induction fuel with
 | zero => intro t0 b228 t10 t11 h; cases h
 | succ fuel ih =>
  intro t0 b228 t10 t11 h
  exact
   br h (fun h0 h =>
    ck h fun h1 h =>
    z.jL [(3, [(0, oT)]), (5, [(3, oC (.ptr 228 (t11.toNat * 1 + 0))), (4, { cb := [(228, eL (eInt .i64) (b228.set t11.toNat t0))] })])] 13 [0, 5, 10, 11] [(228, 228)] (o5 (Le.tt h0) h1 (Le.pt (b := 228) (k := t11.toNat * 1)) (st_need (xs := b228) (eInt_len .i64) (ixl h1) (o := 0) (k := 1) (vs := [iI t0]) (p := true) (by decide) rfl rfl) (o1 (st_set (xs := b228) (eInt_len .i64) (ixl h1) (o := 0) (vs := [iI t0]) (y := t0) (Nat.le_of_ble_eq_true rfl) rfl))) (.cons (Le.rfl) (.cons (Le.rfs (b := 228) (by first | rfl | omega | (simp only [List.length_append, List.length_take, List.length_drop]; omega) | simp : b228.length = (b228.set t11.toNat t0).length) (by first | rfl | omega | (simp only [List.length_append, List.length_take, List.length_drop]; omega) | simp : b228.length = (b228.set t11.toNat t0).length)) (.cons (Le.rfl) (.cons (Le.rfl) .nil)))) (ih h)) fun h0 h =>
   z.rb [(3, [(0, oF)])] 7 [(1000, 228)] (rR 228 b228) (o1 (Le.ff h0)) h (Le.of (by kernel_rfl))
theorem c30v1 {N} {x0 x1 r} (h : L_maglev_repeat_int N x0 x1 = some r) : Con Try.prog 30 [iI x0, iI x1] [] (d30v1 r) (h30v1 r) :=
 ci ok mix Try.f30 fun z =>
 ck h fun h0 h =>
 vi h fun v1 h1 h =>
 z.j [(1, [(1, { cv := some (.ref 228 0 (List.replicate (Int.toNat x1) (0 : Int)).length (List.replicate (Int.toNat x1) (0 : Int)).length), cb := [(228, eL (eInt .i64) (List.replicate (Int.toNat x1) (0 : Int)))] })]), (2, [(1, oC (.int .i64 v1))])] 9 [0, 5, 10, 11] [(228, 228)] (o4 h0 (Le.apr (b := 228) (by first | rfl | simp : (List.replicate (Int.toNat x1) (0 : Int)).length = (Int.toNat x1))) (repD_eq (e := (eInt .i64)) (z := 0) (cs := [iI 0]) rfl (Int.toNat x1)) (Le.int (k := .i64) h1)) (g30v1_1 z N h)
def L_maglev_walk_take_1 (N : Nat) : Nat → Nat → (List Gmaglev_walk) → (List Int) → Int → Option ((List Gmaglev_walk) × (List Int))
  | 0, _, _, _, _ => none
  | fuel + 1, t0i, b0, b1, t2 =>
  if 0 ≤ ((t0i : Nat) : Int) ∧ ((t0i : Nat) : Int) < ((b0.length : Nat) : Int) then
  if 0 ≤ (b0.getD t0i default).at_ ∧ (b0.getD t0i default).at_ < ((b1.length : Nat) : Int) then
  bif ((b1.getD ((b0.getD t0i default).at_).toNat default) != (-1)) then
   (L_maglev_walk_next N t0i b0).bind fun v1 =>
   if v1.length = b0.length then
   L_maglev_walk_take_1 N fuel t0i v1 b1 t2
   else none
  else
   if 0 ≤ (b0.getD t0i default).at_ ∧ (b0.getD t0i default).at_ < ((b1.length : Nat) : Int) then
   some (b0, (b1.set ((b0.getD t0i default).at_).toNat t2))
   else none
  else none
  else none
def L_maglev_walk_take (N : Nat) (x0i : Nat) (x0 : (List Gmaglev_walk)) (x1 : (List Int)) (x2 : Int) : Option ((List Gmaglev_walk) × (List Int)) :=
 if 0 ≤ ((x0i : Nat) : Int) ∧ ((x0i : Nat) : Int) < ((x0.length : Nat) : Int) then
 L_maglev_walk_take_1 N N x0i x0 x1 x2
 else none
def d32 (r : (List Gmaglev_walk) × (List Int)) : D := .tup []
def h32 (r : (List Gmaglev_walk) × (List Int)) : List (Nat × Option Blk) := [pB 0 2 (eL emaglev_walk r.1), pB 1 1 (eL (eInt .i64) r.2)]
theorem g32_1 {N} {r C0 C1} (z : Z Try.prog ty 32 Try.f32 (Fi [(0, ⟨true, 2, C0⟩), (1, ⟨true, 1, C1⟩)] (d32 r) (h32 r))) (fuel) : ∀ {t0i b0 b1 t2}, L_maglev_walk_take_1 N fuel t0i b0 b1 t2 = some r → z.G [.c 8, .l 8, .b 0, .c 3] [(0, .ptr 0 (t0i * 2 + 0)), (1, rR 1 b1), (2, iI t2)] [pB 0 2 (eL emaglev_walk b0), pB 1 1 (eL (eInt .i64) b1)] := by
 induction fuel with
 | zero => intro t0i b0 b1 t2 h; cases h
 | succ fuel ih =>
  intro t0i b0 b1 t2 h
  exact
   ck h fun h0 h =>
   ck h fun h1 h =>
   br h (fun h2 h =>
    bd h fun v1 h3 h =>
    ck h fun h4 h =>
    z.j [(0, [(4, oC (iI ((b0.getD t0i default).at_))), (5, oC (.ptr 1 (((b0.getD t0i default).at_).toNat * 1 + 0))), (6, oC (iI (b1.getD ((b0.getD t0i default).at_).toNat default))), (7, oT)]), (1, [(1, { ρ := [0], r := d37 v1, H := h37 v1 })])] 9 [0, 1, 2] [(0, 0), (1, 1)] (o5 (ld_ne (xs := b0) emaglev_walk_len (ixl h0) (o := 0) (by decide)) (Le.of (ld_hd (xs := b0) emaglev_walk_len (ixl h0) (o := 0) (by decide))) h1 (Le.pt (b := 1) (k := ((b0.getD t0i default).at_).toNat * 1)) (o4 (ld_ne (xs := b1) (eInt_len .i64) (ixl h1) (o := 0) (by decide)) (Le.of (ld_hd (xs := b1) (eInt_len .i64) (ixl h1) (o := 0) (by decide))) (Le.tt h2) (c37 h3))) (ih h)) fun h2 h =>
   ck h fun h3 h =>
   z.rb [(0, [(4, oC (iI ((b0.getD t0i default).at_))), (5, oC (.ptr 1 (((b0.getD t0i default).at_).toNat * 1 + 0))), (6, oC (iI (b1.getD ((b0.getD t0i default).at_).toNat default))), (7, oF)]), (2, [(4, oC (iI ((b0.getD t0i default).at_))), (6, oC (.ptr 1 (((b0.getD t0i default).at_).toNat * 1 + 0))), (7, { cb := [(1, eL (eInt .i64) (b1.set ((b0.getD t0i default).at_).toNat t2))] })])] 6 [] (.tup []) (o5 (ld_ne (xs := b0) emaglev_walk_len (ixl h0) (o := 0) (by decide)) (Le.of (ld_hd (xs := b0) emaglev_walk_len (ixl h0) (o := 0) (by decide))) h1 (Le.pt (b := 1) (k := ((b0.getD t0i default).at_).toNat * 1)) (o5 (ld_ne (xs := b1) (eInt_len .i64) (ixl h1) (o := 0) (by decide)) (Le.of (ld_hd (xs := b1) (eInt_len .i64) (ixl h1) (o := 0) (by decide))) (Le.ff h2) (ld_ne (xs := b0) emaglev_walk_len (ixl h0) (o := 0) (by decide)) (o5 (Le.of (ld_hd (xs := b0) emaglev_walk_len (ixl h0) (o := 0) (by decide))) h3 (Le.pt (b := 1) (k := ((b0.getD t0i default).at_).toNat * 1)) (st_need (xs := b1) (eInt_len .i64) (ixl h3) (o := 0) (k := 1) (vs := [iI t2]) (p := true) (by decide) rfl rfl) (o1 (st_set (xs := b1) (eInt_len .i64) (ixl h3) (o := 0) (vs := [iI t2]) (y := t2) (Nat.le_of_ble_eq_true rfl) rfl))))) h (Le.of (by kernel_rfl))
theorem c32 {N} {x0i x0 x1 x2 r} (h : L_maglev_walk_take N x0i x0 x1 x2 = some r) : Con Try.prog 32 [.ptr 0 (x0i * 2 + 0), rR 1 x1, iI x2] [(0, ⟨true, 2, (eL emaglev_walk x0)⟩), (1, ⟨true, 1, (eL (eInt .i64) x1)⟩)] (d32 r) (h32 r) :=
 ci ok mix Try.f32 fun z =>
 ck h fun h0 h =>
 z.j [] 3 [0, 1, 2] [(0, 0), (1, 1)] o0 (g32_1 z N h)
def L_maglev_Build_4 (N : Nat) (r2 : (List GCandidate) → (List Int) → (List Gmaglev_walk) → Int → Option ((List Int) × Int)) (r3 : (List GCandidate) → (List Int) → (List Gmaglev_walk) → Int → (List GCandidate) → Int → Int → Option ((List Int) × Int)) : Nat → (List GCandidate) → (List Int) → (List Gmaglev_walk) → Int → Int → Int → Int → Int → (List GCandidate) → Int → Int → Option ((List Int) × Int)
  | 0, _, _, _, _, _, _, _, _, _, _, _ => none
  | fuel + 1, t0, b388, b180, t8, t9, b260_0, b260_1, t11, t34, t35, t36 =>
  bif (decide (t11 > 0)) then
   if 0 ≤ t9 ∧ t9 < ((b180.length : Nat) : Int) then
   (L_maglev_walk_take N t9.toNat b180 b388 b260_0).bind fun v1 =>
   if v1.1.length = b180.length then
   if v1.2.length = b388.length then
   L_maglev_Build_4 N r2 r3 fuel t0 v1.2 v1.1 (IntKind.i64.wrap (t8 - 1)) t9 b260_0 b260_1 (IntKind.i64.wrap (t11 - 1)) t34 t35 t36
   else none
   else none
   else none
  else
   r3 t0 b388 b180 t8 t34 t35 (IntKind.i64.wrap (t36 + 1))
def L_maglev_Build_3 (N : Nat) (r2 : (List GCandidate) → (List Int) → (List Gmaglev_walk) → Int → Option ((List Int) × Int)) : Nat → (List GCandidate) → (List Int) → (List Gmaglev_walk) → Int → (List GCandidate) → Int → Int → Option ((List Int) × Int)
  | 0, _, _, _, _, _, _, _ => none
  | fuel + 1, t0, b388, b180, t8, t34, t35, t36 =>
  bif (decide (t36 < t35)) then
   if 0 ≤ t36 ∧ t36 < ((t34.length : Nat) : Int) then
   via ((if decide (t8 < (t34.getD t36.toNat default).Weight) then t8 else (t34.getD t36.toNat default).Weight) : Int) fun v1 =>
   L_maglev_Build_4 N r2 (L_maglev_Build_3 N r2 fuel) N t0 b388 b180 t8 t36 ((t34.getD t36.toNat default).Id) ((t34.getD t36.toNat default).Weight) v1 t34 t35 t36
   else none
  else
   r2 t0 b388 b180 t8
def L_maglev_Build_2 (N : Nat) : Nat → (List GCandidate) → (List Int) → (List Gmaglev_walk) → Int → Option ((List Int) × Int)
  | 0, _, _, _, _ => none
  | fuel + 1, t0, b388, b180, t8 =>
  bif (decide (t8 > 0)) then
   L_maglev_Build_3 N (L_maglev_Build_2 N fuel) N t0 b388 b180 t8 t0 (t0.length : Int) 0
  else
   some (b388, 0)
def L_maglev_Build_1 (N : Nat) : Nat → (List GCandidate) → (List Int) → (List Gmaglev_walk) → (List GCandidate) → Int → Int → Option ((List Int) × Int)
  | 0, _, _, _, _, _, _ => none
  | fuel + 1, t0, b388, b180, t19, t20, t21 =>
  bif (decide (t21 < t20)) then
   if 0 ≤ t21 ∧ t21 < ((t19.length : Nat) : Int) then
   (L_maglev_begin N ((t19.getD t21.toNat default).Id)).bind fun v1 =>
   if growOk 16 (b180.length + 1) then
   L_maglev_Build_1 N fuel t0 b388 (b180 ++ [v1]) t19 t20 (IntKind.i64.wrap (t21 + 1))
   else none
   else none
  else
   L_maglev_Build_2 N N t0 b388 b180 31
def L_maglev_Build (N : Nat) (x0 : (List GCandidate)) : Option ((List Int) × Int) :=
 (L_maglev_May N x0).bind fun v1 =>
 bif (!v1) then
  some ([], 900)
 else
  bif ((x0.length : Int) == 0) then
   some ([], 0)
  else
   (L_maglev_repeat_int N (-1) 31).bind fun v2 =>
   L_maglev_Build_1 N N x0 v2 ([]) x0 (x0.length : Int) 0
def d15 (r : (List Int) × Int) : D := .tup [sS true (eInt .i64) r.1, iI r.2]
theorem g15_4 {N} (gx0 : Bool) {r} (z : Z Try.prog ty 15 Try.f15 (Fi [] (d15 r) [])) {r2 : (List GCandidate) → (List Int) → (List Gmaglev_walk) → Int → Option ((List Int) × Int)} {r3 : (List GCandidate) → (List Int) → (List Gmaglev_walk) → Int → (List GCandidate) → Int → Int → Option ((List Int) × Int)} (hr2 : ∀ {t0 b388 b180 t8}, r2 t0 b388 b180 t8 = some r → z.G [.c 1215, .l 1215, .b 2, .c 255] [(0, sS gx0 eCandidate t0), (4, rR 388 b388), (5, rR 180 b180), (8, iI t8)] [pB 388 1 (eL (eInt .i64) b388), pB 180 2 (eL emaglev_walk b180)]) (hr3 : ∀ {t0 b388 b180 t8 t34 t35 t36}, r3 t0 b388 b180 t8 t34 t35 t36 = some r → z.G [.c 38079, .l 38079, .b 4, .b 3, .l 1215, .b 2, .c 255] [(0, sS gx0 eCandidate t0), (4, rR 388 b388), (5, rR 180 b180), (8, iI t8), (34, sS gx0 eCandidate t34), (35, iI t35), (36, iI t36)] [pB 388 1 (eL (eInt .i64) b388), pB 180 2 (eL emaglev_walk b180)]) (fuel) : ∀ {t0 b388 b180 t8 t9 b260_0 b260_1 t11 t34 t35 t36}, L_maglev_Build_4 N r2 r3 fuel t0 b388 b180 t8 t9 b260_0 b260_1 t11 t34 t35 t36 = some r → z.G [.c 10065087, .l 10065087, .b 6, .b 5, .c 496831, .l 38079, .b 4, .b 3, .l 1215, .b 2, .c 255] [(0, sS gx0 eCandidate t0), (4, rR 388 b388), (5, rR 180 b180), (8, iI t8), (9, iI t9), (10, .ptr 260 0), (11, iI t11), (34, sS gx0 eCandidate t34), (35, iI t35), (36, iI t36)] [pB 388 1 (eL (eInt .i64) b388), pB 180 2 (eL emaglev_walk b180), qB 260 [iI b260_0, iI b260_1]] := by
 induction fuel with
 | zero => intro t0 b388 b180 t8 t9 b260_0 b260_1 t11 t34 t35 t36 h; cases h
 | succ fuel ih =>
  intro t0 b388 b180 t8 t9 b260_0 b260_1 t11 t34 t35 t36 h
  exact
   br h (fun h0 h =>
    ck h fun h1 h =>
    bd h fun v1 h2 h =>
    ck h fun h3 h =>
    ck h fun h4 h =>
    z.jL [(18, [(1, oT)]), (20, [(2, oC (.ptr 180 (t9.toNat * 2 + 0))), (6, { ρ := [180, 388], r := d32 v1, H := h32 v1 })])] 13 [0, 4, 5, 8, 9, 10, 11, 34, 35, 36] [(388, 388), (180, 180), (260, 260)] (o4 (Le.tt h0) h1 (Le.pt (b := 180) (k := t9.toNat * 2)) (c32 h2)) (.cons (Le.rfl) (.cons (Le.rfs (b := 388) (by first | rfl | omega | (simp only [List.length_append, List.length_take, List.length_drop]; omega) | simp : b388.length = v1.2.length) (by first | rfl | omega | (simp only [List.length_append, List.length_take, List.length_drop]; omega) | simp : b388.length = v1.2.length)) (.cons (Le.rfs (b := 180) (by first | rfl | omega | (simp only [List.length_append, List.length_take, List.length_drop]; omega) | simp : b180.length = v1.1.length) (by first | rfl | omega | (simp only [List.length_append, List.length_take, List.length_drop]; omega) | simp : b180.length = v1.1.length)) (.cons (Le.rfl) (.cons (Le.rfl) (.cons (Le.rfl) (.cons (Le.rfl) (.cons (Le.rfl) (.cons (Le.rfl) (.cons (Le.rfl) .nil)))))))))) (ih h)) fun h0 h =>
   z.j [(18, [(1, oF)])] 8 [0, 4, 5, 8, 34, 35, 36] [(388, 388), (180, 180)] (o1 (Le.ff h0)) (hr3 h)
theorem g15_3 {N} (gx0 : Bool) {r} (z : Z Try.prog ty 15 Try.f15 (Fi [] (d15 r) [])) {r2 : (List GCandidate) → (List Int) → (List Gmaglev_walk) → Int → Option ((List Int) × Int)} (hr2 : ∀ {t0 b388 b180 t8}, r2 t0 b388 b180 t8 = some r → z.G [.c 1215, .l 1215, .b 2, .c 255] [(0, sS gx0 eCandidate t0), (4, rR 388 b388), (5, rR 180 b180), (8, iI t8)] [pB 388 1 (eL (eInt .i64) b388), pB 180 2 (eL emaglev_walk b180)]) (fuel) : ∀ {t0 b388 b180 t8 t34 t35 t36}, L_maglev_Build_3 N r2 fuel t0 b388 b180 t8 t34 t35 t36 = some r → z.G [.c 38079, .l 38079, .b 4, .b 3, .l 1215, .b 2, .c 255] [(0, sS gx0 eCandidate t0), (4, rR 388 b388), (5, rR 180 b180), (8, iI t8), (34, sS gx0 eCandidate t34), (35, iI t35), (36, iI t36)] [pB 388 1 (eL (eInt .i64) b388), pB 180 2 (eL emaglev_walk b180)] := by
 induction fuel with
 | zero => intro t0 b388 b180 t8 t34 t35 t36 h; cases h
 | succ fuel ih =>
  intro t0 b388 b180 t8 t34 t35 t36 h
  exact
   br h (fun h0 h =>
    ck h fun h1 h =>
    vi h fun v1 h2 h =>
    z.j [(15, [(0, oT)]), (16, [(1, oC (.ip gx0 [iI ((t34.getD t36.toNat default).Id), iI ((t34.getD t36.toNat default).Weight)]))]), (17, [(3, oC (.int .i64 v1))])] 13 [0, 4, 5, 8, 9, 10, 11, 34, 35, 36] [(388, 388), (180, 180), (260, 260)] (o4 (Le.tt h0) h1 (Le.iptl (g := gx0) (eL_at (xs := t34) eCandidate_len (ixl h1))) (Le.int (k := .i64) h2)) (g15_4 gx0 z @hr2 @ih N h)) fun h0 h =>
   z.j [(15, [(0, oF)])] 7 [0, 4, 5, 8] [(388, 388), (180, 180)] (o1 (Le.ff h0)) (hr2 h)
theorem g15_2 {N} (gx0 : Bool) {r} (z : Z Try.prog ty 15 Try.f15 (Fi [] (d15 r) [])) (fuel) : ∀ {t0 b388 b180 t8}, L_maglev_Build_2 N fuel t0 b388 b180 t8 = some r → z.G [.c 1215, .l 1215, .b 2, .c 255] [(0, sS gx0 eCandidate t0), (4, rR 388 b388), (5, rR 180 b180), (8, iI t8)] [pB 388 1 (eL (eInt .i64) b388), pB 180 2 (eL emaglev_walk b180)] := by
 induction fuel with
 | zero => intro t0 b388 b180 t8 h; cases h
 | succ fuel ih =>
  intro t0 b388 b180 t8 h
  exact
   br h (fun h0 h =>
    z.j [(13, [(1, oT)])] 10 [0, 4, 5, 8, 34, 35, 36] [(388, 388), (180, 180)] (o1 (Le.tt h0)) (g15_3 gx0 z @ih N h)) fun h0 h =>
   z.r [(13, [(1, oF)]), (23, [(1, { frz := true })])] 7 (o1 (Le.ff h0)) h
theorem g15_1 {N} (gx0 : Bool) {r} (z : Z Try.prog ty 15 Try.f15 (Fi [] (d15 r) [])) (fuel) : ∀ {t0 b388 b180 t19 t20 t21}, L_maglev_Build_1 N fuel t0 b388 b180 t19 t20 t21 = some r → z.G [.c 607, .l 607, .b 0, .c 127] [(0, sS gx0 eCandidate t0), (4, rR 388 b388), (5, rR 180 b180), (19, sS gx0 eCandidate t19), (20, iI t20), (21, iI t21)] [pB 388 1 (eL (eInt .i64) b388), pB 180 2 (eL emaglev_walk b180)] := by
 induction fuel with
 | zero => intro t0 b388 b180 t19 t20 t21 h; cases h
 | succ fuel ih =>
  intro t0 b388 b180 t19 t20 t21 h
  exact
   br h (fun h0 h =>
    ck h fun h1 h =>
    bd h fun v1 h2 h =>
    ck h fun h3 h =>
    z.j [(8, [(0, oT)]), (9, [(0, oC (.ip gx0 [iI ((t19.getD t21.toNat default).Id), iI ((t19.getD t21.toNat default).Weight)]))]), (10, [(3, oR (d31 v1)), (5, { cv := some (.ref 580 0 (b180 ++ [v1]).length (b180 ++ [v1]).length), cb := [(580, eL emaglev_walk (b180 ++ [v1]))] })])] 13 [0, 4, 5, 19, 20, 21] [(388, 388), (580, 180)] (o5 (Le.tt h0) h1 (Le.iptl (g := gx0) (eL_at (xs := t19) eCandidate_len (ixl h1))) (c31 h2) (o5 (by decide : 1 * 2 ≤ 2) (ap_len (xs := b180) emaglev_walk_len) h3 (Le.apr (b := 580) (by first | rfl | (simp only [List.length_append, List.length_take, List.length_drop]; omega) | simp : (b180 ++ [v1]).length = b180.length + 1)) (o1 (ap_one (xs := b180) emaglev_walk_len (y := v1) (cs := [iI v1.at_, iI v1.step_]) rfl)))) (ih h)) fun h0 h =>
   z.j [(8, [(0, oF)])] 10 [0, 4, 5, 8] [(388, 388), (180, 180)] (o1 (Le.ff h0)) (g15_2 gx0 z N h)
theorem c15 {N} (gx0 : Bool) {x0 r} (h : L_maglev_Build N x0 = some r) : Con Try.prog 15 [sS gx0 eCandidate x0] [] (d15 r) [] :=
 ci ok mix Try.f15 fun z =>
 bd h fun v1 h0 h =>
 br h (fun h1 h =>
  z.rl [(1, [(1, oR (d20 v1)), (2, oT)])] 8 (.tup [.nils, iI 900]) (o2 (c20 gx0 h0) (Le.tt h1)) h (Le.tup ((.cons (Le.nils (g := true)) (.cons (Le.of rfl) .nil))))) fun h1 h =>
 z.s [(1, [(1, oR (d20 v1)), (2, oF)])] 9 (o2 (c20 gx0 h0) (Le.ff h1)) <|
 br h (fun h2 h =>
  z.rl [(3, [(2, oT)])] 4 (.tup [.nils, iI 0]) (o1 (Le.tt h2)) h (Le.tup ((.cons (Le.nils (g := true)) (.cons (Le.of rfl) .nil))))) fun h2 h =>
 bd h fun v2 h3 h =>
 z.j [(3, [(2, oF)]), (5, [(0, { r := d30v1 v2, H := h30v1 v2 })]), (6, [(0, { own := some (2) })])] 12 [0, 4, 5, 19, 20, 21] [(388, 388), (180, 180)] (o2 (Le.ff h2) (c30v1 h3)) (g15_1 gx0 z N h)
def L_ref1_CandsMay_2 (N : Nat) (r1 : (List GCandidate) → Int → Option (Bool)) (t0 : (List GCandidate)) (t3 : Int) (t57 : Bool) : Option (Bool) :=
 bif t57 then
  some false
 else
  r1 t0 (IntKind.i64.wrap (t3 + 1))
def L_ref1_CandsMay_1 (N : Nat) : Nat → (List GCandidate) → Int → Option (Bool)
  | 0, _, _ => none
  | fuel + 1, t0, t3 =>
  bif (decide (t3 < (t0.length : Int))) then
   if 0 ≤ t3 ∧ t3 < ((t0.length : Nat) : Int) then
   bif (decide ((t0.getD t3.toNat default).Id < 0)) then
    L_ref1_CandsMay_2 N (L_ref1_CandsMay_1 N fuel) t0 t3 true
   else
    if 0 ≤ t3 ∧ t3 < ((t0.length : Nat) : Int) then
    bif (decide ((t0.getD t3.toNat default).Id > 255)) then
     L_ref1_CandsMay_2 N (L_ref1_CandsMay_1 N fuel) t0 t3 true
    else
     if 0 ≤ t3 ∧ t3 < ((t0.length : Nat) : Int) then
     bif (decide ((t0.getD t3.toNat default).Weight < 1)) then
      L_ref1_CandsMay_2 N (L_ref1_CandsMay_1 N fuel) t0 t3 true
     else
      if 0 ≤ t3 ∧ t3 < ((t0.length : Nat) : Int) then
      bif (decide ((t0.getD t3.toNat default).Weight > 16)) then
       L_ref1_CandsMay_2 N (L_ref1_CandsMay_1 N fuel) t0 t3 true
      else
       bif (decide (t3 > 0)) then
        if 0 ≤ t3 ∧ t3 < ((t0.length : Nat) : Int) then
        if 0 ≤ (IntKind.i64.wrap (t3 - 1)) ∧ (IntKind.i64.wrap (t3 - 1)) < ((t0.length : Nat) : Int) then
        via ((t0.getD (IntKind.i64.wrap (t3 - 1)).toNat default).Id : Int) fun v1 =>
        L_ref1_CandsMay_2 N (L_ref1_CandsMay_1 N fuel) t0 t3 (decide ((t0.getD t3.toNat default).Id ≤ v1))
        else none
        else none
       else
        L_ref1_CandsMay_2 N (L_ref1_CandsMay_1 N fuel) t0 t3 false
      else none
     else none
    else none
   else none
  else
   some (decide ((t0.length : Int) ≤ 16))
def L_ref1_CandsMay (N : Nat) (x0 : (List GCandidate)) : Option (Bool) :=
 L_ref1_CandsMay_1 N N x0 0
def d21 (r : Bool) : D := .bool r
theorem g21_2 {N} (gx0 : Bool) {r} (z : Z Try.prog ty 21 Try.f21 (Fi [] (d21 r) [])) {r1 : (List GCandidate) → Int → Option (Bool)} (hr1 : ∀ {t0 t3}, r1 t0 t3 = some r → z.G [.c 37, .l 37, .b 0, .c 7] [(0, sS gx0 eCandidate t0), (3, iI t3)] []) {t0 t3 t57} (h : L_ref1_CandsMay_2 N r1 t0 t3 t57 = some r) : z.G [.c 805, .b 1, .c 229, .l 37, .b 0, .c 7] [(0, sS gx0 eCandidate t0), (3, iI t3), (57, .bool t57)] [] :=
 by
  cases t57 with
  | true => exact brT h fun h => (
   z.r [] 3 o0 h)
  | false => exact brF h fun h => (
   z.j [] 5 [0, 3] [] o0 (hr1 h))
theorem g21_1 {N} (gx0 : Bool) {r} (z : Z Try.prog ty 21 Try.f21 (Fi [] (d21 r) [])) (fuel) : ∀ {t0 t3}, L_ref1_CandsMay_1 N fuel t0 t3 = some r → z.G [.c 37, .l 37, .b 0, .c 7] [(0, sS gx0 eCandidate t0), (3, iI t3)] [] := by
 induction fuel with
 | zero => intro t0 t3 h; cases h
 | succ fuel ih =>
  intro t0 t3 h
  exact
   br h (fun h0 h =>
    ck h fun h1 h =>
    z.s [(2, [(3, oT)])] 8 (o1 (Le.tt h0)) <|
    br h (fun h2 h =>
     z.j [(4, [(2, oC (.ip gx0 [iI ((t0.getD t3.toNat default).Id), iI ((t0.getD t3.toNat default).Weight)])), (6, oT)])] 1 [0, 3, 57] [] (o3 h1 (Le.iptl (g := gx0) (eL_at (xs := t0) eCandidate_len (ixl h1))) (Le.tt h2)) (g21_2 gx0 z @ih h)) fun h2 h =>
    ck h fun h3 h =>
    br h (fun h4 h =>
     z.j [(4, [(2, oC (.ip gx0 [iI ((t0.getD t3.toNat default).Id), iI ((t0.getD t3.toNat default).Weight)])), (6, oF), (9, oC (.ip gx0 [iI ((t0.getD t3.toNat default).Id), iI ((t0.getD t3.toNat default).Weight)])), (14, oT)])] 1 [0, 3, 57] [] (o5 h1 (Le.iptl (g := gx0) (eL_at (xs := t0) eCandidate_len (ixl h1))) (Le.ff h2) h3 (o2 (Le.iptl (g := gx0) (eL_at (xs := t0) eCandidate_len (ixl h3))) (Le.tt h4))) (g21_2 gx0 z @ih h)) fun h4 h =>
    ck h fun h5 h =>
    br h (fun h6 h =>
     z.j [(4, [(2, oC (.ip gx0 [iI ((t0.getD t3.toNat default).Id), iI ((t0.getD t3.toNat default).Weight)])), (6, oF), (9, oC (.ip gx0 [iI ((t0.getD t3.toNat default).Id), iI ((t0.getD t3.toNat default).Weight)])), (14, oF), (17, oC (.ip gx0 [iI ((t0.getD t3.toNat default).Id), iI ((t0.getD t3.toNat default).Weight)])), (22, oT)])] 1 [0, 3, 57] [] (o5 h1 (Le.iptl (g := gx0) (eL_at (xs := t0) eCandidate_len (ixl h1))) (Le.ff h2) h3 (o5 (Le.iptl (g := gx0) (eL_at (xs := t0) eCandidate_len (ixl h3))) (Le.ff h4) h5 (Le.iptl (g := gx0) (eL_at (xs := t0) eCandidate_len (ixl h5))) (o1 (Le.tt h6)))) (g21_2 gx0 z @ih h)) fun h6 h =>
    ck h fun h7 h =>
    br h (fun h8 h =>
     z.j [(4, [(2, oC (.ip gx0 [iI ((t0.getD t3.toNat default).Id), iI ((t0.getD t3.toNat default).Weight)])), (6, oF), (9, oC (.ip gx0 [iI ((t0.getD t3.toNat default).Id), iI ((t0.getD t3.toNat default).Weight)])), (14, oF), (17, oC (.ip gx0 [iI ((t0.getD t3.toNat default).Id), iI ((t0.getD t3.toNat default).Weight)])), (22, oF), (25, oC (.ip gx0 [iI ((t0.getD t3.toNat default).Id), iI ((t0.getD t3.toNat default).Weight)])), (30, oT)])] 1 [0, 3, 57] [] (o5 h1 (Le.iptl (g := gx0) (eL_at (xs := t0) eCandidate_len (ixl h1))) (Le.ff h2) h3 (o5 (Le.iptl (g := gx0) (eL_at (xs := t0) eCandidate_len (ixl h3))) (Le.ff h4) h5 (Le.iptl (g := gx0) (eL_at (xs := t0) eCandidate_len (ixl h5))) (o4 (Le.ff h6) h7 (Le.iptl (g := gx0) (eL_at (xs := t0) eCandidate_len (ixl h7))) (Le.tt h8)))) (g21_2 gx0 z @ih h)) fun h8 h =>
    br h (fun h9 h =>
     ck h fun h10 h =>
     ck h fun h11 h =>
     vi h fun v1 h12 h =>
     z.j [(4, [(2, oC (.ip gx0 [iI ((t0.getD t3.toNat default).Id), iI ((t0.getD t3.toNat default).Weight)])), (6, oF), (9, oC (.ip gx0 [iI ((t0.getD t3.toNat default).Id), iI ((t0.getD t3.toNat default).Weight)])), (14, oF), (17, oC (.ip gx0 [iI ((t0.getD t3.toNat default).Id), iI ((t0.getD t3.toNat default).Weight)])), (22, oF), (25, oC (.ip gx0 [iI ((t0.getD t3.toNat default).Id), iI ((t0.getD t3.toNat default).Weight)])), (30, oF), (33, oT), (36, oC (.ip gx0 [iI ((t0.getD t3.toNat default).Id), iI ((t0.getD t3.toNat default).Weight)])), (42, oC (.ip gx0 [iI ((t0.getD (IntKind.i64.wrap (t3 - 1)).toNat default).Id), iI ((t0.getD (IntKind.i64.wrap (t3 - 1)).toNat default).Weight)])), (44, oC (.int .i64 v1))])] 1 [0, 3, 57] [] (o5 h1 (Le.iptl (g := gx0) (eL_at (xs := t0) eCandidate_len (ixl h1))) (Le.ff h2) h3 (o5 (Le.iptl (g := gx0) (eL_at (xs := t0) eCandidate_len (ixl h3))) (Le.ff h4) h5 (Le.iptl (g := gx0) (eL_at (xs := t0) eCandidate_len (ixl h5))) (o5 (Le.ff h6) h7 (Le.iptl (g := gx0) (eL_at (xs := t0) eCandidate_len (ixl h7))) (Le.ff h8) (o5 (Le.tt h9) h10 (Le.iptl (g := gx0) (eL_at (xs := t0) eCandidate_len (ixl h10))) h11 (o3 (Le.iptl (g := gx0) (eL_at (xs := t0) eCandidate_len (ixl h11))) (List.cons_ne_nil _ _ : ([iI ((t0.getD (IntKind.i64.wrap (t3 - 1)).toNat default).Id), iI ((t0.getD (IntKind.i64.wrap (t3 - 1)).toNat default).Weight)] : List D) ≠ []) (Le.int (k := .i64) h12)))))) (g21_2 gx0 z @ih h)) fun h9 h =>
    z.j [(4, [(2, oC (.ip gx0 [iI ((t0.getD t3.toNat default).Id), iI ((t0.getD t3.toNat default).Weight)])), (6, oF), (9, oC (.ip gx0 [iI ((t0.getD t3.toNat default).Id), iI ((t0.getD t3.toNat default).Weight)])), (14, oF), (17, oC (.ip gx0 [iI ((t0.getD t3.toNat default).Id), iI ((t0.getD t3.toNat default).Weight)])), (22, oF), (25, oC (.ip gx0 [iI ((t0.getD t3.toNat default).Id), iI ((t0.getD t3.toNat default).Weight)])), (30, oF), (33, oF)])] 1 [0, 3, 57] [] (o5 h1 (Le.iptl (g := gx0) (eL_at (xs := t0) eCandidate_len (ixl h1))) (Le.ff h2) h3 (o5 (Le.iptl (g := gx0) (eL_at (xs := t0) eCandidate_len (ixl h3))) (Le.ff h4) h5 (Le.iptl (g := gx0) (eL_at (xs := t0) eCandidate_len (ixl h5))) (o5 (Le.ff h6) h7 (Le.iptl (g := gx0) (eL_at (xs := t0) eCandidate_len (ixl h7))) (Le.ff h8) (o1 (Le.ff h9))))) (g21_2 gx0 z @ih h)) fun h0 h =>
   z.r [(2, [(3, oF)])] 7 (o1 (Le.ff h0)) h
theorem c21 {N} (gx0 : Bool) {x0 r} (h : L_ref1_CandsMay N x0 = some r) : Con Try.prog 21 [sS gx0 eCandidate x0] [] (d21 r) [] :=
 ci ok mix Try.f21 fun z =>
 z.j [] 7 [0, 3] [] o0 (g21_1 gx0 z N h)
def L_ref1_within_1 (N : Nat) (t4 : Bool) : Option (Bool) :=
 some t4
def L_ref1_within (N : Nat) (x0 x1 : Int) : Option (Bool) :=
 bif (decide (x0 ≥ 0)) then
  if 0 ≤ x1 then
  via ((IntKind.i64.wrap (1 * 2 ^ (min x1.toNat 64))) : Int) fun v1 =>
  L_ref1_within_1 N (decide (x0 < v1))
  else none
 else
  L_ref1_within_1 N false
def d38 (r : Bool) : D := .bool r
theorem g38_1 {N} {r} (z : Z Try.prog ty 38 Try.f38 (Fi [] (d38 r) [])) {t4} (h : L_ref1_within_1 N t4 = some r) : z.G [.c 7] [(4, .bool t4)] [] :=
 z.r [] 0 o0 h
theorem c38 {N} {x0 x1 r} (h : L_ref1_within N x0 x1 = some r) : Con Try.prog 38 [iI x0, iI x1] [] (d38 r) [] :=
 ci ok mix Try.f38 fun z =>
 br h (fun h0 h =>
  ck h fun h1 h =>
  vi h fun v1 h2 h =>
  z.j [(1, [(2, oT), (5, oC (.int .i64 v1))])] 4 [4] [] (o3 (Le.tt h0) h1 (Le.int (k := .i64) h2)) (g38_1 z h)) fun h0 h =>
 z.j [(1, [(2, oF)])] 4 [4] [] (o1 (Le.ff h0)) (g38_1 z h)
def L_ref1_Mix_1 (N : Nat) (t0 t1 : Int) (t14 : Bool) : Option (Int × Int) :=
 bif t14 then
  some (0, 800)
 else
  via ((IntKind.u32.wrap ((IntKind.u32.wrap t0) + 2654435769)) : Int) fun v1 =>
  via (((bXor .u32 v1 (IntKind.u32.wrap t1)).fdiv (2 ^ 16)) : Int) fun v2 =>
  via ((bXor .u32 (bXor .u32 v1 (IntKind.u32.wrap t1)) v2) : Int) fun v3 =>
  via (((IntKind.u32.wrap (v3 * 2246822507)).fdiv (2 ^ 13)) : Int) fun v4 =>
  via ((bXor .u32 (IntKind.u32.wrap (v3 * 2246822507)) v4) : Int) fun v5 =>
  via (((IntKind.u32.wrap (v5 * 3266489909)).fdiv (2 ^ 16)) : Int) fun v6 =>
  via ((bXor .u32 (IntKind.u32.wrap (v5 * 3266489909)) v6) : Int) fun v7 =>
  some ((IntKind.i64.wrap v7), 0)
def L_ref1_Mix (N : Nat) (x0 x1 : Int) : Option (Int × Int) :=
 (L_ref1_within N x0 32).bind fun v1 =>
 bif (!v1) then
  L_ref1_Mix_1 N x0 x1 true
 else
  (L_ref1_within N x1 32).bind fun v2 =>
  L_ref1_Mix_1 N x0 x1 (!v2)
def d33 (r : Int × Int) : D := .tup [iI r.1, iI r.2]
theorem g33_1 {N} {r} (z : Z Try.prog ty 33 Try.f33 (Fi [] (d33 r) [])) {t0 t1 t14} (h : L_ref1_Mix_1 N t0 t1 t14 = some r) : z.G [.c 13, .c 7] [(0, iI t0), (1, iI t1), (14, .bool t14)] [] :=
 by
  cases t14 with
  | true => exact brT h fun h => (
   z.r [] 3 o0 h)
  | false => exact brF h fun h => (
   vi h fun v1 h1 h =>
   vi h fun v2 h2 h =>
   vi h fun v3 h3 h =>
   vi h fun v4 h4 h =>
   vi h fun v5 h5 h =>
   vi h fun v6 h6 h =>
   vi h fun v7 h7 h =>
   z.r [(3, [(2, oC (.int .u32 v1))]), (4, [(2, oC (.int .u32 v2)), (3, oC (.int .u32 v3))]), (5, [(2, oC (.int .u32 v4)), (3, oC (.int .u32 v5))]), (6, [(2, oC (.int .u32 v6)), (3, oC (.int .u32 v7))])] 10 (o5 (Le.int (k := .u32) h1) (by decide : (0:Int) ≤ 16) (Le.int (k := .u32) h2) (Le.int (k := .u32) h3) (o5 (by decide : (0:Int) ≤ 13) (Le.int (k := .u32) h4) (Le.int (k := .u32) h5) (by decide : (0:Int) ≤ 16) (o2 (Le.int (k := .u32) h6) (Le.int (k := .u32) h7)))) h)
theorem c33 {N} {x0 x1 r} (h : L_ref1_Mix N x0 x1 = some r) : Con Try.prog 33 [iI x0, iI x1] [] (d33 r) [] :=
 ci ok mix Try.f33 fun z =>
 bd h fun v1 h0 h =>
 br h (fun h1 h =>
  z.j [(1, [(1, oR (d38 v1)), (3, oT)])] 5 [0, 1, 14] [] (o2 (c38 h0) (Le.tt h1)) (g33_1 z h)) fun h1 h =>
 bd h fun v2 h2 h =>
 z.j [(1, [(1, oR (d38 v1)), (3, oF), (5, oR (d38 v2))])] 5 [0, 1, 14] [] (o3 (c38 h0) (Le.ff h1) (c38 h2)) (g33_1 z h)
def L_ref1_Build_6 (N : Nat) (r2 : (List GCandidate) → (List Int) → (List Bool) → (List Int) → (List Int) → Int → Option ((List Int) × Int)) (r3 : (List GCandidate) → (List Int) → (List Bool) → (List Int) → (List Int) → Int → Int → Option ((List Int) × Int)) (r4 : (List GCandidate) → (List Int) → (List Bool) → (List Int) → (List Int) → Int → Int → Int → Option ((List Int) × Int)) : Nat → (List GCandidate) → (List Int) → (List Bool) → (List Int) → (List Int) → Int → Int → Int → Option ((List Int) × Int)
  | 0, _, _, _, _, _, _, _, _ => none
  | fuel + 1, t0, b452, b468, b516, b564, t13, t14, t15 =>
  if 0 ≤ t14 ∧ t14 < ((b516.length : Nat) : Int) then
  if 0 ≤ (b516.getD t14.toNat default) ∧ (b516.getD t14.toNat default) < ((b468.length : Nat) : Int) then
  bif (b468.getD (b516.getD t14.toNat default).toNat default) then
   if 0 ≤ t14 ∧ t14 < ((b516.length : Nat) : Int) then
   if 0 ≤ t14 ∧ t14 < ((b564.length : Nat) : Int) then
   via ((IntKind.i64.wrap ((b516.getD t14.toNat default) + (b564.getD t14.toNat default))) : Int) fun v1 =>
   if 0 ≤ t14 ∧ t14 < ((b516.length : Nat) : Int) then
   L_ref1_Build_6 N r2 r3 r4 fuel t0 b452 b468 (b516.set t14.toNat (v1.tmod 31)) b564 t13 t14 t15
   else none
   else none
   else none
  else
   if 0 ≤ t14 ∧ t14 < ((b516.length : Nat) : Int) then
   if 0 ≤ (b516.getD t14.toNat default) ∧ (b516.getD t14.toNat default) < ((b468.length : Nat) : Int) then
   if 0 ≤ t14 ∧ t14 < ((b516.length : Nat) : Int) then
   if 0 ≤ t14 ∧ t14 < ((t0.length : Nat) : Int) then
   if 0 ≤ (b516.getD t14.toNat default) ∧ (b516.getD t14.toNat default) < ((b452.length : Nat) : Int) then
   r4 t0 (b452.set (b516.getD t14.toNat default).toNat ((t0.getD t14.toNat default).Id)) (b468.set (b516.getD t14.toNat default).toNat true) b516 b564 (IntKind.i64.wrap (t13 + 1)) t14 (IntKind.i64.wrap (t15 + 1))
   else none
   else none
   else none
   else none
   else none
  else none
  else none
def L_ref1_Build_5 (N : Nat) (r2 : (List GCandidate) → (List Int) → (List Bool) → (List Int) → (List Int) → Int → Option ((List Int) × Int)) (r3 : (List GCandidate) → (List Int) → (List Bool) → (List Int) → (List Int) → Int → Int → Option ((List Int) × Int)) (r4 : (List GCandidate) → (List Int) → (List Bool) → (List Int) → (List Int) → Int → Int → Int → Option ((List Int) × Int)) (t0 : (List GCandidate)) (b452 : (List Int)) (b468 : (List Bool)) (b516 b564 : (List Int)) (t13 t14 t15 : Int) (t83 : Bool) : Option ((List Int) × Int) :=
 bif t83 then
  L_ref1_Build_6 N r2 r3 r4 N t0 b452 b468 b516 b564 t13 t14 t15
 else
  r3 t0 b452 b468 b516 b564 t13 (IntKind.i64.wrap (t14 + 1))
def L_ref1_Build_4 (N : Nat) (r2 : (List GCandidate) → (List Int) → (List Bool) → (List Int) → (List Int) → Int → Option ((List Int) × Int)) (r3 : (List GCandidate) → (List Int) → (List Bool) → (List Int) → (List Int) → Int → Int → Option ((List Int) × Int)) : Nat → (List GCandidate) → (List Int) → (List Bool) → (List Int) → (List Int) → Int → Int → Int → Option ((List Int) × Int)
  | 0, _, _, _, _, _, _, _, _ => none
  | fuel + 1, t0, b452, b468, b516, b564, t13, t14, t15 =>
  if 0 ≤ t14 ∧ t14 < ((t0.length : Nat) : Int) then
  bif (decide (t15 < (t0.getD t14.toNat default).Weight)) then
   L_ref1_Build_5 N r2 r3 (L_ref1_Build_4 N r2 r3 fuel) t0 b452 b468 b516 b564 t13 t14 t15 (decide (t13 < 31))
  else
   L_ref1_Build_5 N r2 r3 (L_ref1_Build_4 N r2 r3 fuel) t0 b452 b468 b516 b564 t13 t14 t15 false
  else none
def L_ref1_Build_3 (N : Nat) (r2 : (List GCandidate) → (List Int) → (List Bool) → (List Int) → (List Int) → Int → Option ((List Int) × Int)) : Nat → (List GCandidate) → (List Int) → (List Bool) → (List Int) → (List Int) → Int → Int → Option ((List Int) × Int)
  | 0, _, _, _, _, _, _, _ => none
  | fuel + 1, t0, b452, b468, b516, b564, t13, t14 =>
  bif (decide (t14 < (t0.length : Int))) then
   L_ref1_Build_4 N r2 (L_ref1_Build_3 N r2 fuel) N t0 b452 b468 b516 b564 t13 t14 0
  else
   r2 t0 b452 b468 b516 b564 t13
def L_ref1_Build_2 (N : Nat) : Nat → (List GCandidate) → (List Int) → (List Bool) → (List Int) → (List Int) → Int → Option ((List Int) × Int)
  | 0, _, _, _, _, _, _ => none
  | fuel + 1, t0, b452, b468, b516, b564, t13 =>
  bif (decide (t13 < 31)) then
   L_ref1_Build_3 N (L_ref1_Build_2 N fuel) N t0 b452 b468 b516 b564 t13 0
  else
   some (b452, 0)
def L_ref1_Build_1 (N : Nat) : Nat → (List GCandidate) → (List Int) → (List Bool) → (List Int) → (List Int) → Int → Option ((List Int) × Int)
  | 0, _, _, _, _, _, _ => none
  | fuel + 1, t0, b452, b468, b516, b564, t8 =>
  bif (decide (t8 < (t0.length : Int))) then
   if 0 ≤ t8 ∧ t8 < ((t0.length : Nat) : Int) then
   (L_ref1_Mix N 1 ((t0.getD t8.toNat default).Id)).bind fun v1 =>
   if 0 ≤ t8 ∧ t8 < ((t0.length : Nat) : Int) then
   (L_ref1_Mix N 2 ((t0.getD t8.toNat default).Id)).bind fun v2 =>
   if 0 ≤ t8 ∧ t8 < ((b516.length : Nat) : Int) then
   via ((IntKind.i64.wrap ((1 : Int) + (v2.1.tmod 30))) : Int) fun v3 =>
   if 0 ≤ t8 ∧ t8 < ((b564.length : Nat) : Int) then
   L_ref1_Build_1 N fuel t0 b452 b468 (b516.set t8.toNat (v1.1.tmod 31)) (b564.set t8.toNat v3) (IntKind.i64.wrap (t8 + 1))
   else none
   else none
   else none
   else none
  else
   L_ref1_Build_2 N N t0 b452 b468 b516 b564 0
def L_ref1_Build (N : Nat) (x0 : (List GCandidate)) : Option ((List Int) × Int) :=
 (L_ref1_CandsMay N x0).bind fun v1 =>
 bif (!v1) then
  some ([], 900)
 else
  bif ((x0.length : Int) == 0) then
   some ([], 0)
  else
   if 0 ≤ (x0.length : Int) ∧ (x0.length : Int) ≤ (x0.length : Int) ∧ ((8 : Nat) : Int) * (x0.length : Int) ≤ 140737488355328 ∧ (x0.length : Int) ≤ 4611686018427387904 then
   if 0 ≤ (x0.length : Int) ∧ (x0.length : Int) ≤ (x0.length : Int) ∧ ((8 : Nat) : Int) * (x0.length : Int) ≤ 140737488355328 ∧ (x0.length : Int) ≤ 4611686018427387904 then
   L_ref1_Build_1 N N x0 (List.replicate (Int.toNat 31) (0 : Int)) (List.replicate (Int.toNat 31) false) (List.replicate (Int.toNat (x0.length : Int)) (0 : Int)) (List.replicate (Int.toNat (x0.length : Int)) (0 : Int)) 0
   else none
   else none
def d16 (r : (List Int) × Int) : D := .tup [sS true (eInt .i64) r.1, iI r.2]
theorem g16_6 {N} (gx0 : Bool) {r} (z : Z Try.prog ty 16 Try.f16 (Fi [] (d16 r) [])) {r2 : (List GCandidate) → (List Int) → (List Bool) → (List Int) → (List Int) → Int → Option ((List Int) × Int)} {r3 : (List GCandidate) → (List Int) → (List Bool) → (List Int) → (List Int) → Int → Int → Option ((List Int) × Int)} {r4 : (List GCandidate) → (List Int) → (List Bool) → (List Int) → (List Int) → Int → Int → Int → Option ((List Int) × Int)} (hr2 : ∀ {t0 b452 b468 b516 b564 t13}, r2 t0 b452 b468 b516 b564 t13 = some r → z.G [.c 4863, .l 4863, .b 2, .c 1023] [(0, sS gx0 eCandidate t0), (4, rR 452 b452), (5, rR 468 b468), (6, rR 516 b516), (7, rR 564 b564), (13, iI t13)] [pB 452 1 (eL (eInt .i64) b452), pB 468 1 (eL eBool b468), pB 516 1 (eL (eInt .i64) b516), pB 564 1 (eL (eInt .i64) b564)]) (hr3 : ∀ {t0 b452 b468 b516 b564 t13 t14}, r3 t0 b452 b468 b516 b564 t13 t14 = some r → z.G [.c 152319, .l 152319, .b 4, .b 3, .l 4863, .b 2, .c 1023] [(0, sS gx0 eCandidate t0), (4, rR 452 b452), (5, rR 468 b468), (6, rR 516 b516), (7, rR 564 b564), (13, iI t13), (14, iI t14)] [pB 452 1 (eL (eInt .i64) b452), pB 468 1 (eL eBool b468), pB 516 1 (eL (eInt .i64) b516), pB 564 1 (eL (eInt .i64) b564)]) (hr4 : ∀ {t0 b452 b468 b516 b564 t13 t14 t15}, r4 t0 b452 b468 b516 b564 t13 t14 t15 = some r → z.G [.c 9589503, .l 9589503, .b 6, .b 5, .c 938751, .l 152319, .b 4, .b 3, .l 4863, .b 2, .c 1023] [(0, sS gx0 eCandidate t0), (4, rR 452 b452), (5, rR 468 b468), (6, rR 516 b516), (7, rR 564 b564), (13, iI t13), (14, iI t14), (15, iI t15)] [pB 452 1 (eL (eInt .i64) b452), pB 468 1 (eL eBool b468), pB 516 1 (eL (eInt .i64) b516), pB 564 1 (eL (eInt .i64) b564)]) (fuel) : ∀ {t0 b452 b468 b516 b564 t13 t14 t15}, L_ref1_Build_6 N r2 r3 r4 fuel t0 b452 b468 b516 b564 t13 t14 t15 = some r → z.G [.c 546460415, .l 546460415, .b 8, .c 210916095, .b 7, .c 59921151, .l 9589503, .b 6, .b 5, .c 938751, .l 152319, .b 4, .b 3, .l 4863, .b 2, .c 1023] [(0, sS gx0 eCandidate t0), (4, rR 452 b452), (5, rR 468 b468), (6, rR 516 b516), (7, rR 564 b564), (13, iI t13), (14, iI t14), (15, iI t15)] [pB 452 1 (eL (eInt .i64) b452), pB 468 1 (eL eBool b468), pB 516 1 (eL (eInt .i64) b516), pB 564 1 (eL (eInt .i64) b564)] := by
 induction fuel with
 | zero => intro t0 b452 b468 b516 b564 t13 t14 t15 h; cases h
 | succ fuel ih =>
  intro t0 b452 b468 b516 b564 t13 t14 t15 h
  exact
   ck h fun h0 h =>
   ck h fun h1 h =>
   br h (fun h2 h =>
    ck h fun h3 h =>
    ck h fun h4 h =>
    vi h fun v1 h5 h =>
    ck h fun h6 h =>
    z.jL [(24, [(3, oC (.ptr 516 (t14.toNat * 1 + 0))), (4, oC (iI (b516.getD t14.toNat default))), (5, oC (.ptr 468 ((b516.getD t14.toNat default).toNat * 1 + 0))), (6, oT)]), (25, [(4, oC (.ptr 516 (t14.toNat * 1 + 0))), (5, oC (iI (b516.getD t14.toNat default))), (8, oC (.ptr 564 (t14.toNat * 1 + 0))), (9, oC (iI (b564.getD t14.toNat default))), (10, oC (.int .i64 v1)), (12, oC (.ptr 516 (t14.toNat * 1 + 0))), (13, { cb := [(516, eL (eInt .i64) (b516.set t14.toNat (v1.tmod 31)))] })])] 9 [0, 4, 5, 6, 7, 13, 14, 15] [(452, 452), (468, 468), (516, 516), (564, 564)] (o5 h0 (Le.pt (b := 516) (k := t14.toNat * 1)) (ld_ne (xs := b516) (eInt_len .i64) (ixl h0) (o := 0) (by decide)) (Le.of (ld_hd (xs := b516) (eInt_len .i64) (ixl h0) (o := 0) (by decide))) (o5 h1 (Le.pt (b := 468) (k := (b516.getD t14.toNat default).toNat * 1)) (ld_ne (xs := b468) eBool_len (ixl h1) (o := 0) (by decide)) (Le.via (Le.of (ld_hd (xs := b468) eBool_len (ixl h1) (o := 0) (by decide))) (Le.tt h2)) (o5 h3 (Le.pt (b := 516) (k := t14.toNat * 1)) (ld_ne (xs := b516) (eInt_len .i64) (ixl h3) (o := 0) (by decide)) (Le.of (ld_hd (xs := b516) (eInt_len .i64) (ixl h3) (o := 0) (by decide))) (o5 h4 (Le.pt (b := 564) (k := t14.toNat * 1)) (ld_ne (xs := b564) (eInt_len .i64) (ixl h4) (o := 0) (by decide)) (Le.of (ld_hd (xs := b564) (eInt_len .i64) (ixl h4) (o := 0) (by decide))) (o5 (Le.int (k := .i64) h5) (by decide : (31:Int) ≠ 0) h6 (Le.pt (b := 516) (k := t14.toNat * 1)) (o2 (st_need (xs := b516) (eInt_len .i64) (ixl h6) (o := 0) (k := 1) (vs := [iI (v1.tmod 31)]) (p := true) (by decide) rfl rfl) (st_set (xs := b516) (eInt_len .i64) (ixl h6) (o := 0) (vs := [iI (v1.tmod 31)]) (y := (v1.tmod 31)) (Nat.le_of_ble_eq_true rfl) rfl))))))) (.cons (Le.rfl) (.cons (Le.rfl) (.cons (Le.rfl) (.cons (Le.rfs (b := 516) (by first | rfl | omega | (simp only [List.length_append, List.length_take, List.length_drop]; omega) | simp : b516.length = (b516.set t14.toNat (v1.tmod 31)).length) (by first | rfl | omega | (simp only [List.length_append, List.length_take, List.length_drop]; omega) | simp : b516.length = (b516.set t14.toNat (v1.tmod 31)).length)) (.cons (Le.rfl) (.cons (Le.rfl) (.cons (Le.rfl) (.cons (Le.rfl) .nil)))))))) (ih h)) fun h2 h =>
   ck h fun h3 h =>
   ck h fun h4 h =>
   ck h fun h5 h =>
   ck h fun h6 h =>
   ck h fun h7 h =>
   z.jL [(24, [(3, oC (.ptr 516 (t14.toNat * 1 + 0))), (4, oC (iI (b516.getD t14.toNat default))), (5, oC (.ptr 468 ((b516.getD t14.toNat default).toNat * 1 + 0))), (6, oF)]), (26, [(3, oC (.ptr 516 (t14.toNat * 1 + 0))), (4, oC (iI (b516.getD t14.toNat default))), (5, oC (.ptr 468 ((b516.getD t14.toNat default).toNat * 1 + 0))), (6, { cb := [(468, eL eBool (b468.set (b516.getD t14.toNat default).toNat true))] })]), (27, [(3, oC (.ptr 516 (t14.toNat * 1 + 0))), (4, oC (iI (b516.getD t14.toNat default))), (7, oC (.ip gx0 [iI ((t0.getD t14.toNat default).Id), iI ((t0.getD t14.toNat default).Weight)])), (10, oC (.ptr 452 ((b516.getD t14.toNat default).toNat * 1 + 0))), (11, { cb := [(452, eL (eInt .i64) (b452.set (b516.getD t14.toNat default).toNat ((t0.getD t14.toNat default).Id)))] })])] 13 [0, 4, 5, 6, 7, 13, 14, 15] [(452, 452), (468, 468), (516, 516), (564, 564)] (o5 h0 (Le.pt (b := 516) (k := t14.toNat * 1)) (ld_ne (xs := b516) (eInt_len .i64) (ixl h0) (o := 0) (by decide)) (Le.of (ld_hd (xs := b516) (eInt_len .i64) (ixl h0) (o := 0) (by decide))) (o5 h1 (Le.pt (b := 468) (k := (b516.getD t14.toNat default).toNat * 1)) (ld_ne (xs := b468) eBool_len (ixl h1) (o := 0) (by decide)) (Le.via (Le.of (ld_hd (xs := b468) eBool_len (ixl h1) (o := 0) (by decide))) (Le.ff h2)) (o5 h3 (Le.pt (b := 516) (k := t14.toNat * 1)) (ld_ne (xs := b516) (eInt_len .i64) (ixl h3) (o := 0) (by decide)) (Le.of (ld_hd (xs := b516) (eInt_len .i64) (ixl h3) (o := 0) (by decide))) (o5 h4 (Le.pt (b := 468) (k := (b516.getD t14.toNat default).toNat * 1)) (st_need (xs := b468) eBool_len (ixl h4) (o := 0) (k := 1) (vs := [.bool true]) (p := true) (by decide) rfl rfl) (st_set (xs := b468) eBool_len (ixl h4) (o := 0) (vs := [.bool true]) (y := true) (Nat.le_of_ble_eq_true rfl) rfl) (o5 h5 (Le.pt (b := 516) (k := t14.toNat * 1)) (ld_ne (xs := b516) (eInt_len .i64) (ixl h5) (o := 0) (by decide)) (Le.of (ld_hd (xs := b516) (eInt_len .i64) (ixl h5) (o := 0) (by decide))) (o5 h6 (Le.iptl (g := gx0) (eL_at (xs := t0) eCandidate_len (ixl h6))) h7 (Le.pt (b := 452) (k := (b516.getD t14.toNat default).toNat * 1)) (o2 (st_need (xs := b452) (eInt_len .i64) (ixl h7) (o := 0) (k := 1) (vs := [iI ((t0.getD t14.toNat default).Id)]) (p := true) (by decide) rfl rfl) (st_set (xs := b452) (eInt_len .i64) (ixl h7) (o := 0) (vs := [iI ((t0.getD t14.toNat default).Id)]) (y := (t0.getD t14.toNat default).Id) (Nat.le_of_ble_eq_true rfl) rfl)))))))) (.cons (Le.rfl) (.cons (Le.rfs (b := 452) (by first | rfl | omega | (simp only [List.length_append, List.length_take, List.length_drop]; omega) | simp : b452.length = (b452.set (b516.getD t14.toNat default).toNat ((t0.getD t14.toNat default).Id)).length) (by first | rfl | omega | (simp only [List.length_append, List.length_take, List.length_drop]; omega) | simp : b452.length = (b452.set (b516.getD t14.toNat default).toNat ((t0.getD t14.toNat default).Id)).length)) (.cons (Le.rfs (b := 468) (by first | rfl | omega | (simp only [List.length_append, List.length_take, List.length_drop]; omega) | simp : b468.length = (b468.set (b516.getD t14.toNat default).toNat true).length) (by first | rfl | omega | (simp only [List.length_append, List.length_take, List.length_drop]; omega) | simp : b468.length = (b468.set (b516.getD t14.toNat default).toNat true).length)) (.cons (Le.rfl) (.cons (Le.rfl) (.cons (Le.rfl) (.cons (Le.rfl) (.cons (Le.rfl) .nil)))))))) (hr4 h)
theorem g16_5 {N} (gx0 : Bool) {r} (z : Z Try.prog ty 16 Try.f16 (Fi [] (d16 r) [])) {r2 : (List GCandidate) → (List Int) → (List Bool) → (List Int) → (List Int) → Int → Option ((List Int) × Int)} {r3 : (List GCandidate) → (List Int) → (List Bool) → (List Int) → (List Int) → Int → Int → Option ((List Int) × Int)} {r4 : (List GCandidate) → (List Int) → (List Bool) → (List Int) → (List Int) → Int → Int → Int → Option ((List Int) × Int)} (hr2 : ∀ {t0 b452 b468 b516 b564 t13}, r2 t0 b452 b468 b516 b564 t13 = some r → z.G [.c 4863, .l 4863, .b 2, .c 1023] [(0, sS gx0 eCandidate t0), (4, rR 452 b452), (5, rR 468 b468), (6, rR 516 b516), (7, rR 564 b564), (13, iI t13)] [pB 452 1 (eL (eInt .i64) b452), pB 468 1 (eL eBool b468), pB 516 1 (eL (eInt .i64) b516), pB 564 1 (eL (eInt .i64) b564)]) (hr3 : ∀ {t0 b452 b468 b516 b564 t13 t14}, r3 t0 b452 b468 b516 b564 t13 t14 = some r → z.G [.c 152319, .l 152319, .b 4, .b 3, .l 4863, .b 2, .c 1023] [(0, sS gx0 eCandidate t0), (4, rR 452 b452), (5, rR 468 b468), (6, rR 516 b516), (7, rR 564 b564), (13, iI t13), (14, iI t14)] [pB 452 1 (eL (eInt .i64) b452), pB 468 1 (eL eBool b468), pB 516 1 (eL (eInt .i64) b516), pB 564 1 (eL (eInt .i64) b564)]) (hr4 : ∀ {t0 b452 b468 b516 b564 t13 t14 t15}, r4 t0 b452 b468 b516 b564 t13 t14 t15 = some r → z.G [.c 9589503, .l 9589503, .b 6, .b 5, .c 938751, .l 152319, .b 4, .b 3, .l 4863, .b 2, .c 1023] [(0, sS gx0 eCandidate t0), (4, rR 452 b452), (5, rR 468 b468), (6, rR 516 b516), (7, rR 564 b564), (13, iI t13), (14, iI t14), (15, iI t15)] [pB 452 1 (eL (eInt .i64) b452), pB 468 1 (eL eBool b468), pB 516 1 (eL (eInt .i64) b516), pB 564 1 (eL (eInt .i64) b564)]) {t0 b452 b468 b516 b564 t13 t14 t15 t83} (h : L_ref1_Build_5 N r2 r3 r4 t0 b452 b468 b516 b564 t13 t14 t15 t83 = some r) : z.G [.c 51532543, .c 26366719, .l 9589503, .b 6, .b 5, .c 938751, .l 152319, .b 4, .b 3, .l 4863, .b 2, .c 1023] [(0, sS gx0 eCandidate t0), (4, rR 452 b452), (5, rR 468 b468), (6, rR 516 b516), (7, rR 564 b564), (13, iI t13), (14, iI t14), (15, iI t15), (83, .bool t83)] [pB 452 1 (eL (eInt .i64) b452), pB 468 1 (eL eBool b468), pB 516 1 (eL (eInt .i64) b516), pB 564 1 (eL (eInt .i64) b564)] :=
 by
  cases t83 with
  | true => exact brT h fun h => (
   z.j [] 7 [0, 4, 5, 6, 7, 13, 14, 15] [(452, 452), (468, 468), (516, 516), (564, 564)] o0 (g16_6 gx0 z @hr2 @hr3 @hr4 N h))
  | false => exact brF h fun h => (
   z.j [] 5 [0, 4, 5, 6, 7, 13, 14] [(452, 452), (468, 468), (516, 516), (564, 564)] o0 (hr3 h))
theorem g16_4 {N} (gx0 : Bool) {r} (z : Z Try.prog ty 16 Try.f16 (Fi [] (d16 r) [])) {r2 : (List GCandidate) → (List Int) → (List Bool) → (List Int) → (List Int) → Int → Option ((List Int) × Int)} {r3 : (List GCandidate) → (List Int) → (List Bool) → (List Int) → (List Int) → Int → Int → Option ((List Int) × Int)} (hr2 : ∀ {t0 b452 b468 b516 b564 t13}, r2 t0 b452 b468 b516 b564 t13 = some r → z.G [.c 4863, .l 4863, .b 2, .c 1023] [(0, sS gx0 eCandidate t0), (4, rR 452 b452), (5, rR 468 b468), (6, rR 516 b516), (7, rR 564 b564), (13, iI t13)] [pB 452 1 (eL (eInt .i64) b452), pB 468 1 (eL eBool b468), pB 516 1 (eL (eInt .i64) b516), pB 564 1 (eL (eInt .i64) b564)]) (hr3 : ∀ {t0 b452 b468 b516 b564 t13 t14}, r3 t0 b452 b468 b516 b564 t13 t14 = some r → z.G [.c 152319, .l 152319, .b 4, .b 3, .l 4863, .b 2, .c 1023] [(0, sS gx0 eCandidate t0), (4, rR 452 b452), (5, rR 468 b468), (6, rR 516 b516), (7, rR 564 b564), (13, iI t13), (14, iI t14)] [pB 452 1 (eL (eInt .i64) b452), pB 468 1 (eL eBool b468), pB 516 1 (eL (eInt .i64) b516), pB 564 1 (eL (eInt .i64) b564)]) (fuel) : ∀ {t0 b452 b468 b516 b564 t13 t14 t15}, L_ref1_Build_4 N r2 r3 fuel t0 b452 b468 b516 b564 t13 t14 t15 = some r → z.G [.c 9589503, .l 9589503, .b 6, .b 5, .c 938751, .l 152319, .b 4, .b 3, .l 4863, .b 2, .c 1023] [(0, sS gx0 eCandidate t0), (4, rR 452 b452), (5, rR 468 b468), (6, rR 516 b516), (7, rR 564 b564), (13, iI t13), (14, iI t14), (15, iI t15)] [pB 452 1 (eL (eInt .i64) b452), pB 468 1 (eL eBool b468), pB 516 1 (eL (eInt .i64) b516), pB 564 1 (eL (eInt .i64) b564)] := by
 induction fuel with
 | zero => intro t0 b452 b468 b516 b564 t13 t14 t15 h; cases h
 | succ fuel ih =>
  intro t0 b452 b468 b516 b564 t13 t14 t15 h
  exact
   ck h fun h0 h =>
   br h (fun h1 h =>
    z.j [(22, [(3, oC (.ip gx0 [iI ((t0.getD t14.toNat default).Id), iI ((t0.getD t14.toNat default).Weight)])), (7, oT)])] 3 [0, 4, 5, 6, 7, 13, 14, 15, 83] [(452, 452), (468, 468), (516, 516), (564, 564)] (o3 h0 (Le.iptl (g := gx0) (eL_at (xs := t0) eCandidate_len (ixl h0))) (Le.tt h1)) (g16_5 gx0 z @hr2 @hr3 @ih h)) fun h1 h =>
   z.j [(22, [(3, oC (.ip gx0 [iI ((t0.getD t14.toNat default).Id), iI ((t0.getD t14.toNat default).Weight)])), (7, oF)])] 3 [0, 4, 5, 6, 7, 13, 14, 15, 83] [(452, 452), (468, 468), (516, 516), (564, 564)] (o3 h0 (Le.iptl (g := gx0) (eL_at (xs := t0) eCandidate_len (ixl h0))) (Le.ff h1)) (g16_5 gx0 z @hr2 @hr3 @ih h)
theorem g16_3 {N} (gx0 : Bool) {r} (z : Z Try.prog ty 16 Try.f16 (Fi [] (d16 r) [])) {r2 : (List GCandidate) → (List Int) → (List Bool) → (List Int) → (List Int) → Int → Option ((List Int) × Int)} (hr2 : ∀ {t0 b452 b468 b516 b564 t13}, r2 t0 b452 b468 b516 b564 t13 = some r → z.G [.c 4863, .l 4863, .b 2, .c 1023] [(0, sS gx0 eCandidate t0), (4, rR 452 b452), (5, rR 468 b468), (6, rR 516 b516), (7, rR 564 b564), (13, iI t13)] [pB 452 1 (eL (eInt .i64) b452), pB 468 1 (eL eBool b468), pB 516 1 (eL (eInt .i64) b516), pB 564 1 (eL (eInt .i64) b564)]) (fuel) : ∀ {t0 b452 b468 b516 b564 t13 t14}, L_ref1_Build_3 N r2 fuel t0 b452 b468 b516 b564 t13 t14 = some r → z.G [.c 152319, .l 152319, .b 4, .b 3, .l 4863, .b 2, .c 1023] [(0, sS gx0 eCandidate t0), (4, rR 452 b452), (5, rR 468 b468), (6, rR 516 b516), (7, rR 564 b564), (13, iI t13), (14, iI t14)] [pB 452 1 (eL (eInt .i64) b452), pB 468 1 (eL eBool b468), pB 516 1 (eL (eInt .i64) b516), pB 564 1 (eL (eInt .i64) b564)] := by
 induction fuel with
 | zero => intro t0 b452 b468 b516 b564 t13 t14 h; cases h
 | succ fuel ih =>
  intro t0 b452 b468 b516 b564 t13 t14 h
  exact
   br h (fun h0 h =>
    z.j [(19, [(3, oT)])] 11 [0, 4, 5, 6, 7, 13, 14, 15] [(452, 452), (468, 468), (516, 516), (564, 564)] (o1 (Le.tt h0)) (g16_4 gx0 z @hr2 @ih N h)) fun h0 h =>
   z.j [(19, [(3, oF)])] 7 [0, 4, 5, 6, 7, 13] [(452, 452), (468, 468), (516, 516), (564, 564)] (o1 (Le.ff h0)) (hr2 h)
theorem g16_2 {N} (gx0 : Bool) {r} (z : Z Try.prog ty 16 Try.f16 (Fi [] (d16 r) [])) (fuel) : ∀ {t0 b452 b468 b516 b564 t13}, L_ref1_Build_2 N fuel t0 b452 b468 b516 b564 t13 = some r → z.G [.c 4863, .l 4863, .b 2, .c 1023] [(0, sS gx0 eCandidate t0), (4, rR 452 b452), (5, rR 468 b468), (6, rR 516 b516), (7, rR 564 b564), (13, iI t13)] [pB 452 1 (eL (eInt .i64) b452), pB 468 1 (eL eBool b468), pB 516 1 (eL (eInt .i64) b516), pB 564 1 (eL (eInt .i64) b564)] := by
 induction fuel with
 | zero => intro t0 b452 b468 b516 b564 t13 h; cases h
 | succ fuel ih =>
  intro t0 b452 b468 b516 b564 t13 h
  exact
   br h (fun h0 h =>
    z.j [(17, [(1, oT)])] 10 [0, 4, 5, 6, 7, 13, 14] [(452, 452), (468, 468), (516, 516), (564, 564)] (o1 (Le.tt h0)) (g16_3 gx0 z @ih N h)) fun h0 h =>
   z.r [(17, [(1, oF)]), (29, [(1, { frz := true })])] 7 (o1 (Le.ff h0)) h
theorem g16_1 {N} (gx0 : Bool) {r} (z : Z Try.prog ty 16 Try.f16 (Fi [] (d16 r) [])) (fuel) : ∀ {t0 b452 b468 b516 b564 t8}, L_ref1_Build_1 N fuel t0 b452 b468 b516 b564 t8 = some r → z.G [.c 2431, .l 2431, .b 0, .c 511] [(0, sS gx0 eCandidate t0), (4, rR 452 b452), (5, rR 468 b468), (6, rR 516 b516), (7, rR 564 b564), (8, iI t8)] [pB 452 1 (eL (eInt .i64) b452), pB 468 1 (eL eBool b468), pB 516 1 (eL (eInt .i64) b516), pB 564 1 (eL (eInt .i64) b564)] := by
 induction fuel with
 | zero => intro t0 b452 b468 b516 b564 t8 h; cases h
 | succ fuel ih =>
  intro t0 b452 b468 b516 b564 t8 h
  exact
   br h (fun h0 h =>
    ck h fun h1 h =>
    bd h fun v1 h2 h =>
    ck h fun h3 h =>
    bd h fun v2 h4 h =>
    ck h fun h5 h =>
    vi h fun v3 h6 h =>
    ck h fun h7 h =>
    z.jL [(10, [(3, oT)]), (12, [(2, oC (.ip gx0 [iI ((t0.getD t8.toNat default).Id), iI ((t0.getD t8.toNat default).Weight)])), (5, oR (d33 v1))]), (13, [(2, oC (.ip gx0 [iI ((t0.getD t8.toNat default).Id), iI ((t0.getD t8.toNat default).Weight)])), (5, oR (d33 v2))]), (14, [(4, oC (.ptr 516 (t8.toNat * 1 + 0))), (5, { cb := [(516, eL (eInt .i64) (b516.set t8.toNat (v1.1.tmod 31)))] })]), (15, [(4, oC (.int .i64 v3)), (5, oC (.ptr 564 (t8.toNat * 1 + 0))), (6, { cb := [(564, eL (eInt .i64) (b564.set t8.toNat v3))] })])] 17 [0, 4, 5, 6, 7, 8] [(452, 452), (468, 468), (516, 516), (564, 564)] (o5 (Le.tt h0) h1 (Le.iptl (g := gx0) (eL_at (xs := t0) eCandidate_len (ixl h1))) (c33 h2) (o5 h3 (Le.iptl (g := gx0) (eL_at (xs := t0) eCandidate_len (ixl h3))) (c33 h4) (by decide : (31:Int) ≠ 0) (o5 h5 (Le.pt (b := 516) (k := t8.toNat * 1)) (st_need (xs := b516) (eInt_len .i64) (ixl h5) (o := 0) (k := 1) (vs := [iI (v1.1.tmod 31)]) (p := true) (by decide) rfl rfl) (st_set (xs := b516) (eInt_len .i64) (ixl h5) (o := 0) (vs := [iI (v1.1.tmod 31)]) (y := (v1.1.tmod 31)) (Nat.le_of_ble_eq_true rfl) rfl) (o5 (by decide : (30:Int) ≠ 0) (Le.int (k := .i64) h6) h7 (Le.pt (b := 564) (k := t8.toNat * 1)) (o2 (st_need (xs := b564) (eInt_len .i64) (ixl h7) (o := 0) (k := 1) (vs := [iI v3]) (p := true) (by decide) rfl rfl) (st_set (xs := b564) (eInt_len .i64) (ixl h7) (o := 0) (vs := [iI v3]) (y := v3) (Nat.le_of_ble_eq_true rfl) rfl)))))) (.cons (Le.rfl) (.cons (Le.rfl) (.cons (Le.rfl) (.cons (Le.rfs (b := 516) (by first | rfl | omega | (simp only [List.length_append, List.length_take, List.length_drop]; omega) | simp : b516.length = (b516.set t8.toNat (v1.1.tmod 31)).length) (by first | rfl | omega | (simp only [List.length_append, List.length_take, List.length_drop]; omega) | simp : b516.length = (b516.set t8.toNat (v1.1.tmod 31)).length)) (.cons (Le.rfs (b := 564) (by first | rfl | omega | (simp only [List.length_append, List.length_take, List.length_drop]; omega) | simp : b564.length = (b564.set t8.toNat v3).length) (by first | rfl | omega | (simp only [List.length_append, List.length_take, List.length_drop]; omega) | simp : b564.length = (b564.set t8.toNat v3).length)) (.cons (Le.rfl) .nil)))))) (ih h)) fun h0 h =>
   z.j [(10, [(3, oF)])] 10 [0, 4, 5, 6, 7, 13] [(452, 452), (468, 468), (516, 516), (564, 564)] (o1 (Le.ff h0)) (g16_2 gx0 z N h)
theorem c16 {N} (gx0 : Bool) {x0 r} (h : L_ref1_Build N x0 = some r) : Con Try.prog 16 [sS gx0 eCandidate x0] [] (d16 r) [] :=
 ci ok mix Try.f16 fun z =>
 bd h fun v1 h0 h =>
 br h (fun h1 h =>
  z.rl [(1, [(1, oR (d21 v1)), (2, oT)])] 8 (.tup [.nils, iI 900]) (o2 (c21 gx0 h0) (Le.tt h1)) h (Le.tup ((.cons (Le.nils (g := true)) (.cons (Le.of rfl) .nil))))) fun h1 h =>
 z.s [(1, [(1, oR (d21 v1)), (2, oF)])] 9 (o2 (c21 gx0 h0) (Le.ff h1)) <|
 br h (fun h2 h =>
  z.rl [(3, [(2, oT)])] 4 (.tup [.nils, iI 0]) (o1 (Le.tt h2)) h (Le.tup ((.cons (Le.nils (g := true)) (.cons (Le.of rfl) .nil))))) fun h2 h =>
 ck h fun h3 h =>
 ck h fun h4 h =>
 z.j [(3, [(2, oF)]), (5, [(0, { cv := some (.ref 452 0 (List.replicate (Int.toNat 31) (0 : Int)).length (List.replicate (Int.toNat 31) (0 : Int)).length), cb := [(452, eL (eInt .i64) (List.replicate (Int.toNat 31) (0 : Int)))] })]), (6, [(0, { cv := some (.ref 468 0 (List.replicate (Int.toNat 31) false).length (List.replicate (Int.toNat 31) false).length), cb := [(468, eL eBool (List.replicate (Int.toNat 31) false))] })]), (7, [(2, { cv := some (.ref 516 0 (List.replicate (Int.toNat (x0.length : Int)) (0 : Int)).length (List.replicate (Int.toNat (x0.length : Int)) (0 : Int)).length), cb := [(516, eL (eInt .i64) (List.replicate (Int.toNat (x0.length : Int)) (0 : Int)))] })]), (8, [(2, { cv := some (.ref 564 0 (List.replicate (Int.toNat (x0.length : Int)) (0 : Int)).length (List.replicate (Int.toNat (x0.length : Int)) (0 : Int)).length), cb := [(564, eL (eInt .i64) (List.replicate (Int.toNat (x0.length : Int)) (0 : Int)))] })])] 16 [0, 4, 5, 6, 7, 8] [(452, 452), (468, 468), (516, 516), (564, 564)] (o5 (Le.ff h2) (by decide : (0 : Int) ≤ 31 ∧ (31 : Int) ≤ 31 ∧ ((8 : Nat) : Int) * 31 ≤ 140737488355328 ∧ (31 : Int) ≤ 4611686018427387904) (Le.apr (b := 452) (by first | rfl | simp : (List.replicate (Int.toNat 31) (0 : Int)).length = (Int.toNat 31))) (repD_eq (e := (eInt .i64)) (z := 0) (cs := [iI 0]) rfl (Int.toNat 31)) (o5 (by decide : (0 : Int) ≤ 31 ∧ (31 : Int) ≤ 31 ∧ ((1 : Nat) : Int) * 31 ≤ 140737488355328 ∧ (31 : Int) ≤ 4611686018427387904) (Le.apr (b := 468) (by first | rfl | simp : (List.replicate (Int.toNat 31) false).length = (Int.toNat 31))) (repD_eq (e := eBool) (z := false) (cs := [.bool false]) rfl (Int.toNat 31)) h3 (o5 (Le.apr (b := 516) (by first | rfl | simp : (List.replicate (Int.toNat (x0.length : Int)) (0 : Int)).length = (Int.toNat (x0.length : Int)))) (repD_eq (e := (eInt .i64)) (z := 0) (cs := [iI 0]) rfl (Int.toNat (x0.length : Int))) h4 (Le.apr (b := 564) (by first | rfl | simp : (List.replicate (Int.toNat (x0.length : Int)) (0 : Int)).length = (Int.toNat (x0.length : Int)))) (o1 (repD_eq (e := (eInt .i64)) (z := 0) (cs := [iI 0]) rfl (Int.toNat (x0.length : Int))))))) (g16_1 gx0 z N h)
def L_maglev_Pick_1 (N : Nat) (t1 : Int) (t7 : (List Int)) (t14 : Bool) : Option (Int × Bool × Int) :=
 bif t14 then
  some (0, false, 900)
 else
  bif ((t7.length : Int) == 0) then
   some (0, false, 0)
  else
   if 0 ≤ (t1.tmod 31) ∧ (t1.tmod 31) < ((t7.length : Nat) : Int) then
   some ((t7.getD (t1.tmod 31).toNat default), true, 0)
   else none
def L_maglev_Pick (N : Nat) (x0 : (List GCandidate)) (x1 : Int) : Option (Int × Bool × Int) :=
 (L_maglev_Build N x0).bind fun v1 =>
 bif (v1.2 != 0) then
  L_maglev_Pick_1 N x1 v1.1 true
 else
  L_maglev_Pick_1 N x1 v1.1 (decide (x1 < 0))
def d17 (r : Int × Bool × Int) : D := .tup [iI r.1, .bool r.2.1, iI r.2.2]
theorem g17_1 {N} (gx0 : Bool) {r} (z : Z Try.prog ty 17 Try.f17 (Fi [] (d17 r) [])) {t1 t7 t14} (h : L_maglev_Pick_1 N t1 t7 t14 = some r) : z.G [.c 51, .b 0, .c 15] [(1, iI t1), (7, sS true (eInt .i64) t7), (14, .bool t14)] [] :=
 by
  cases t14 with
  | true => exact brT h fun h => (
   z.r [] 3 o0 h)
  | false => exact brF h fun h => (
   br h (fun h1 h =>
    z.r [(4, [(3, oT)])] 6 (o1 (Le.tt h1)) h) fun h1 h =>
   ck h fun h2 h =>
   z.r [(4, [(3, oF)]), (6, [(3, oC (.ip true [iI (t7.getD (t1.tmod 31).toNat default)]))])] 8 (o4 (Le.ff h1) (by decide : (31:Int) ≠ 0) h2 (Le.iptl (g := true) (eL_at (xs := t7) (eInt_len .i64) (ixl h2)))) h)
theorem c17 {N} (gx0 : Bool) {x0 x1 r} (h : L_maglev_Pick N x0 x1 = some r) : Con Try.prog 17 [sS gx0 eCandidate x0, iI x1] [] (d17 r) [] :=
 ci ok mix Try.f17 fun z =>
 bd h fun v1 h0 h =>
 z.s [(1, [(1, oR (d15 v1))])] 7 (o1 (c15 gx0 h0)) <|
 br h (fun h1 h =>
  z.j [(2, [(2, oT)])] 1 [1, 7, 14] [] (o1 (Le.tt h1)) (g17_1 gx0 z h)) fun h1 h =>
 z.j [(2, [(2, oF)])] 1 [1, 7, 14] [] (o1 (Le.ff h1)) (g17_1 gx0 z h)
def L_ref1_Pick_1 (N : Nat) (t1 : Int) (t7 : (List Int)) (t19 : Bool) : Option (Int × Bool × Int) :=
 bif t19 then
  some (0, false, 900)
 else
  bif ((t7.length : Int) == 0) then
   some (0, false, 0)
  else
   if 0 ≤ (t1.tmod 31) ∧ (t1.tmod 31) < ((t7.length : Nat) : Int) then
   some ((t7.getD (t1.tmod 31).toNat default), true, 0)
   else none
def L_ref1_Pick (N : Nat) (x0 : (List GCandidate)) (x1 : Int) : Option (Int × Bool × Int) :=
 (L_ref1_Build N x0).bind fun v1 =>
 bif (v1.2 != 0) then
  L_ref1_Pick_1 N x1 v1.1 true
 else
  L_ref1_Pick_1 N x1 v1.1 (decide (x1 < 0))
def d18 (r : Int × Bool × Int) : D := .tup [iI r.1, .bool r.2.1, iI r.2.2]
theorem g18_1 {N} (gx0 : Bool) {r} (z : Z Try.prog ty 18 Try.f18 (Fi [] (d18 r) [])) {t1 t7 t19} (h : L_ref1_Pick_1 N t1 t7 t19 = some r) : z.G [.c 27, .c 15] [(1, iI t1), (7, sS true (eInt .i64) t7), (19, .bool t19)] [] :=
 by
  cases t19 with
  | true => exact brT h fun h => (
   z.r [] 3 o0 h)
  | false => exact brF h fun h => (
   br h (fun h1 h =>
    z.r [(4, [(2, oT)])] 8 (o1 (Le.tt h1)) h) fun h1 h =>
   ck h fun h2 h =>
   z.r [(4, [(2, oF)]), (6, [(3, oC (.ip true [iI (t7.getD (t1.tmod 31).toNat default)]))])] 9 (o4 (Le.ff h1) (by decide : (31:Int) ≠ 0) h2 (Le.iptl (g := true) (eL_at (xs := t7) (eInt_len .i64) (ixl h2)))) h)
theorem c18 {N} (gx0 : Bool) {x0 x1 r} (h : L_ref1_Pick N x0 x1 = some r) : Con Try.prog 18 [sS gx0 eCandidate x0, iI x1] [] (d18 r) [] :=
 ci ok mix Try.f18 fun z =>
 bd h fun v1 h0 h =>
 z.s [(1, [(1, oR (d16 v1))])] 6 (o1 (c16 gx0 h0)) <|
 br h (fun h1 h =>
  z.j [(2, [(2, oT)])] 1 [1, 7, 19] [] (o1 (Le.tt h1)) (g18_1 gx0 z h)) fun h1 h =>
 z.j [(2, [(2, oF)])] 1 [1, 7, 19] [] (o1 (Le.ff h1)) (g18_1 gx0 z h)
def L_law0_SameInts_1 (N : Nat) : Nat → (List Int) → (List Int) → Int → Option (Bool)
  | 0, _, _, _ => none
  | fuel + 1, t0, t1, t5 =>
  bif (decide (t5 < (t0.length : Int))) then
   if 0 ≤ t5 ∧ t5 < ((t0.length : Nat) : Int) then
   if 0 ≤ t5 ∧ t5 < ((t1.length : Nat) : Int) then
   bif ((t0.getD t5.toNat default) != (t1.getD t5.toNat default)) then
    some false
   else
    L_law0_SameInts_1 N fuel t0 t1 (IntKind.i64.wrap (t5 + 1))
   else none
   else none
  else
   some true
def L_law0_SameInts (N : Nat) (x0 x1 : (List Int)) : Option (Bool) :=
 bif ((x0.length : Int) != (x1.length : Int)) then
  some false
 else
  L_law0_SameInts_1 N N x0 x1 0
def d19 (r : Bool) : D := .bool r
theorem g19_1 {N} (gx0 gx1 : Bool) {r} (z : Z Try.prog ty 19 Try.f19 (Fi [] (d19 r) [])) (fuel) : ∀ {t0 t1 t5}, L_law0_SameInts_1 N fuel t0 t1 t5 = some r → z.G [.c 75, .l 75, .b 0, .c 15] [(0, sS gx0 (eInt .i64) t0), (1, sS gx1 (eInt .i64) t1), (5, iI t5)] [] := by
 induction fuel with
 | zero => intro t0 t1 t5 h; cases h
 | succ fuel ih =>
  intro t0 t1 t5 h
  exact
   br h (fun h0 h =>
    ck h fun h1 h =>
    ck h fun h2 h =>
    z.s [(4, [(3, oT)])] 8 (o1 (Le.tt h0)) <|
    br h (fun h3 h =>
     z.r [(6, [(2, oC (.ip gx0 [iI (t0.getD t5.toNat default)])), (6, oC (.ip gx1 [iI (t1.getD t5.toNat default)])), (8, oT)])] 4 (o5 h1 (Le.iptl (g := gx0) (eL_at (xs := t0) (eInt_len .i64) (ixl h1))) h2 (Le.iptl (g := gx1) (eL_at (xs := t1) (eInt_len .i64) (ixl h2))) (o1 (Le.tt h3))) h) fun h3 h =>
    z.j [(6, [(2, oC (.ip gx0 [iI (t0.getD t5.toNat default)])), (6, oC (.ip gx1 [iI (t1.getD t5.toNat default)])), (8, oF)])] 6 [0, 1, 5] [] (o5 h1 (Le.iptl (g := gx0) (eL_at (xs := t0) (eInt_len .i64) (ixl h1))) h2 (Le.iptl (g := gx1) (eL_at (xs := t1) (eInt_len .i64) (ixl h2))) (o1 (Le.ff h3))) (ih h)) fun h0 h =>
   z.r [(4, [(3, oF)])] 7 (o1 (Le.ff h0)) h
theorem c19 {N} (gx0 gx1 : Bool) {x0 x1 r} (h : L_law0_SameInts N x0 x1 = some r) : Con Try.prog 19 [sS gx0 (eInt .i64) x0, sS gx1 (eInt .i64) x1] [] (d19 r) [] :=
 ci ok mix Try.f19 fun z =>
 br h (fun h0 h =>
  z.r [(1, [(4, oT)])] 8 (o1 (Le.tt h0)) h) fun h0 h =>
 z.j [(1, [(4, oF)])] 12 [0, 1, 5] [] (o1 (Le.ff h0)) (g19_1 gx0 gx1 z N h)
def L_law0_Num (N : Nat) (x0 : Int) : Option (Int) :=
 some x0
def d13 (r : Int) : D := iI r
theorem c13 {N} {x0 r} (h : L_law0_Num N x0 = some r) : Con Try.prog 13 [iI x0] [] (d13 r) [] :=
 ci ok mix Try.f13 fun z =>
 z.r [] 4 o0 h
def d15v1 (r : (List Int) × Int) : D := .tup [rR 1000 r.1, iI r.2]
def h15v1 (r : (List Int) × Int) : List (Nat × Option Blk) := [pB 1000 1 (eL (eInt .i64) r.1)]
theorem g15v1_4 {N} (gx0 : Bool) {r} (z : Z Try.prog ty 15 Try.f15 (Fi [] (d15v1 r) (h15v1 r))) {r2 : (List GCandidate) → (List Int) → (List Gmaglev_walk) → Int → Option ((List Int) × Int)} {r3 : (List GCandidate) → (List Int) → (List Gmaglev_walk) → Int → (List GCandidate) → Int → Int → Option ((List Int) × Int)} (hr2 : ∀ {t0 b388 b180 t8}, r2 t0 b388 b180 t8 = some r → z.G [.c 1215, .l 1215, .b 2, .c 255] [(0, sS gx0 eCandidate t0), (4, rR 388 b388), (5, rR 180 b180), (8, iI t8)] [pB 388 1 (eL (eInt .i64) b388), pB 180 2 (eL emaglev_walk b180)]) (hr3 : ∀ {t0 b388 b180 t8 t34 t35 t36}, r3 t0 b388 b180 t8 t34 t35 t36 = some r → z.G [.c 38079, .l 38079, .b 4, .b 3, .l 1215, .b 2, .c 255] [(0, sS gx0 eCandidate t0), (4, rR 388 b388), (5, rR 180 b180), (8, iI t8), (34, sS gx0 eCandidate t34), (35, iI t35), (36, iI t36)] [pB 388 1 (eL (eInt .i64) b388), pB 180 2 (eL emaglev_walk b180)]) (fuel) : ∀ {t0 b388 b180 t8 t9 b260_0 b260_1 t11 t34 t35 t36}, L_maglev_Build_4 N r2 r3 fuel t0 b388 b180 t8 t9 b260_0 b260_1 t11 t34 t35 t36 = some r → z.G [.c 10065087, .l 10065087, .b 6, .b 5, .c 496831, .l 38079, .b 4, .b 3, .l 1215, .b 2, .c 255] [(0, sS gx0 eCandidate t0), (4, rR 388 b388), (5, rR 180 b180), (8, iI t8), (9, iI t9), (10, .ptr 260 0), (11, iI t11), (34, sS gx0 eCandidate t34), (35, iI t35), (36, iI t36)] [pB 388 1 (eL (eInt .i64) b388), pB 180 2 (eL emaglev_walk b180), qB 260 [iI b260_0, iI b260_1]] := by
 induction fuel with
 | zero => intro t0 b388 b180 t8 t9 b260_0 b260_1 t11 t34 t35 t36 h; cases h
 | succ fuel ih =>
  intro t0 b388 b180 t8 t9 b260_0 b260_1 t11 t34 t35 t36 h
  exact
   br h (fun h0 h =>
    ck h fun h1 h =>
    bd h fun v1 h2 h =>
    ck h fun h3 h =>
    ck h fun h4 h =>
    z.jL [(18, [(1, oT)]), (20, [(2, oC (.ptr 180 (t9.toNat * 2 + 0))), (6, { ρ := [180, 388], r := d32 v1, H := h32 v1 })])] 13 [0, 4, 5, 8, 9, 10, 11, 34, 35, 36] [(388, 388), (180, 180), (260, 260)] (o4 (Le.tt h0) h1 (Le.pt (b := 180) (k := t9.toNat * 2)) (c32 h2)) (.cons (Le.rfl) (.cons (Le.rfs (b := 388) (by first | rfl | omega | (simp only [List.length_append, List.length_take, List.length_drop]; omega) | simp : b388.length = v1.2.length) (by first | rfl | omega | (simp only [List.length_append, List.length_take, List.length_drop]; omega) | simp : b388.length = v1.2.length)) (.cons (Le.rfs (b := 180) (by first | rfl | omega | (simp only [List.length_append, List.length_take, List.length_drop]; omega) | simp : b180.length = v1.1.length) (by first | rfl | omega | (simp only [List.length_append, List.length_take, List.length_drop]; omega) | simp : b180.length = v1.1.length)) (.cons (Le.rfl) (.cons (Le.rfl) (.cons (Le.rfl) (.cons (Le.rfl) (.cons (Le.rfl) (.cons (Le.rfl) (.cons (Le.rfl) .nil)))))))))) (ih h)) fun h0 h =>
   z.j [(18, [(1, oF)])] 8 [0, 4, 5, 8, 34, 35, 36] [(388, 388), (180, 180)] (o1 (Le.ff h0)) (hr3 h)
theorem g15v1_3 {N} (gx0 : Bool) {r} (z : Z Try.prog ty 15 Try.f15 (Fi [] (d15v1 r) (h15v1 r))) {r2 : (List GCandidate) → (List Int) → (List Gmaglev_walk) → Int → Option ((List Int) × Int)} (hr2 : ∀ {t0 b388 b180 t8}, r2 t0 b388 b180 t8 = some r → z.G [.c 1215, .l 1215, .b 2, .c 255] [(0, sS gx0 eCandidate t0), (4, rR 388 b388), (5, rR 180 b180), (8, iI t8)] [pB 388 1 (eL (eInt .i64) b388), pB 180 2 (eL emaglev_walk b180)]) (fuel) : ∀ {t0 b388 b180 t8 t34 t35 t36}, L_maglev_Build_3 N r2 fuel t0 b388 b180 t8 t34 t35 t36 = some r → z.G [.c 38079, .l 38079, .b 4, .b 3, .l 1215, .b 2, .c 255] [(0, sS gx0 eCandidate t0), (4, rR 388 b388), (5, rR 180 b180), (8, iI t8), (34, sS gx0 eCandidate t34), (35, iI t35), (36, iI t36)] [pB 388 1 (eL (eInt .i64) b388), pB 180 2 (eL emaglev_walk b180)] := by
 induction fuel with
 | zero => intro t0 b388 b180 t8 t34 t35 t36 h; cases h
 | succ fuel ih =>
  intro t0 b388 b180 t8 t34 t35 t36 h
  exact
   br h (fun h0 h =>
    ck h fun h1 h =>
    vi h fun v1 h2 h =>
    z.j [(15, [(0, oT)]), (16, [(1, oC (.ip gx0 [iI ((t34.getD t36.toNat default).Id), iI ((t34.getD t36.toNat default).Weight)]))]), (17, [(3, oC (.int .i64 v1))])] 13 [0, 4, 5, 8, 9, 10, 11, 34, 35, 36] [(388, 388), (180, 180), (260, 260)] (o4 (Le.tt h0) h1 (Le.iptl (g := gx0) (eL_at (xs := t34) eCandidate_len (ixl h1))) (Le.int (k := .i64) h2)) (g15v1_4 gx0 z @hr2 @ih N h)) fun h0 h =>
   z.j [(15, [(0, oF)])] 7 [0, 4, 5, 8] [(388, 388), (180, 180)] (o1 (Le.ff h0)) (hr2 h)
theorem g15v1_2 {N} (gx0 : Bool) {r} (z : Z Try.prog ty 15 Try.f15 (Fi [] (d15v1 r) (h15v1 r))) (fuel) : ∀ {t0 b388 b180 t8}, L_maglev_Build_2 N fuel t0 b388 b180 t8 = some r → z.G [.c 1215, .l 1215, .b 2, .c 255] [(0, sS gx0 eCandidate t0), (4, rR 388 b388), (5, rR 180 b180), (8, iI t8)] [pB 388 1 (eL (eInt .i64) b388), pB 180 2 (eL emaglev_walk b180)] := by
 induction fuel with
 | zero => intro t0 b388 b180 t8 h; cases h
 | succ fuel ih =>
  intro t0 b388 b180 t8 h
  exact
   br h (fun h0 h =>
    z.j [(13, [(1, oT)])] 10 [0, 4, 5, 8, 34, 35, 36] [(388, 388), (180, 180)] (o1 (Le.tt h0)) (g15v1_3 gx0 z @ih N h)) fun h0 h =>
   z.rb [(13, [(1, oF)])] 7 [(1000, 388)] (.tup [rR 388 b388, iI 0]) (o1 (Le.ff h0)) h (Le.of (by kernel_rfl))
theorem g15v1_1 {N} (gx0 : Bool) {r} (z : Z Try.prog ty 15 Try.f15 (Fi [] (d15v1 r) (h15v1 r))) (fuel) : ∀ {t0 b388 b180 t19 t20 t21}, L_maglev_Build_1 N fuel t0 b388 b180 t19 t20 t21 = some r → z.G [.c 607, .l 607, .b 0, .c 127] [(0, sS gx0 eCandidate t0), (4, rR 388 b388), (5, rR 180 b180), (19, sS gx0 eCandidate t19), (20, iI t20), (21, iI t21)] [pB 388 1 (eL (eInt .i64) b388), pB 180 2 (eL emaglev_walk b180)] := by
 induction fuel with
 | zero => intro t0 b388 b180 t19 t20 t21 h; cases h
 | succ fuel ih =>
  intro t0 b388 b180 t19 t20 t21 h
  exact
   br h (fun h0 h =>
    ck h fun h1 h =>
    bd h fun v1 h2 h =>
    ck h fun h3 h =>
    z.j [(8, [(0, oT)]), (9, [(0, oC (.ip gx0 [iI ((t19.getD t21.toNat default).Id), iI ((t19.getD t21.toNat default).Weight)]))]), (10, [(3, oR (d31 v1)), (5, { cv := some (.ref 580 0 (b180 ++ [v1]).length (b180 ++ [v1]).length), cb := [(580, eL emaglev_walk (b180 ++ [v1]))] })])] 13 [0, 4, 5, 19, 20, 21] [(388, 388), (580, 180)] (o5 (Le.tt h0) h1 (Le.iptl (g := gx0) (eL_at (xs := t19) eCandidate_len (ixl h1))) (c31 h2) (o5 (by decide : 1 * 2 ≤ 2) (ap_len (xs := b180) emaglev_walk_len) h3 (Le.apr (b := 580) (by first | rfl | (simp only [List.length_append, List.length_take, List.length_drop]; omega) | simp : (b180 ++ [v1]).length = b180.length + 1)) (o1 (ap_one (xs := b180) emaglev_walk_len (y := v1) (cs := [iI v1.at_, iI v1.step_]) rfl)))) (ih h)) fun h0 h =>
   z.j [(8, [(0, oF)])] 10 [0, 4, 5, 8] [(388, 388), (180, 180)] (o1 (Le.ff h0)) (g15v1_2 gx0 z N h)
theorem c15v1 {N} (gx0 : Bool) {x0 r} (h : L_maglev_Build N x0 = some r) : Con Try.prog 15 [sS gx0 eCandidate x0] [] (d15v1 r) (h15v1 r) :=
 ci ok mix Try.f15 fun z =>
 bd h fun v1 h0 h =>
 br h (fun h1 h =>
  z.rb [(1, [(1, oR (d20 v1)), (2, oT)]), (2, [(0, { own := some (1) })])] 8 [(1000, 132)] (.tup [.ref 132 0 0 0, iI 900]) (o2 (c20 gx0 h0) (Le.tt h1)) h (Le.of (by kernel_rfl))) fun h1 h =>
 z.s [(1, [(1, oR (d20 v1)), (2, oF)])] 9 (o2 (c20 gx0 h0) (Le.ff h1)) <|
 br h (fun h2 h =>
  z.rb [(3, [(2, oT)]), (4, [(0, { own := some (1) })])] 4 [(1000, 132)] (.tup [.ref 132 0 0 0, iI 0]) (o1 (Le.tt h2)) h (Le.of (by kernel_rfl))) fun h2 h =>
 bd h fun v2 h3 h =>
 z.j [(3, [(2, oF)]), (5, [(0, { r := d30v1 v2, H := h30v1 v2 })]), (6, [(0, { own := some (2) })])] 12 [0, 4, 5, 19, 20, 21] [(388, 388), (180, 180)] (o2 (Le.ff h2) (c30v1 h3)) (g15v1_1 gx0 z N h)
def L_law0_SpoilInts_1 (N : Nat) : Nat → (List Int) → Int → Option ((List Int))
  | 0, _, _ => none
  | fuel + 1, b0, t2 =>
  bif (decide (t2 < (b0.length : Int))) then
   if 0 ≤ t2 ∧ t2 < ((b0.length : Nat) : Int) then
   via ((IntKind.i64.wrap ((-9 : Int) - (b0.getD t2.toNat default))) : Int) fun v1 =>
   if 0 ≤ t2 ∧ t2 < ((b0.length : Nat) : Int) then
   L_law0_SpoilInts_1 N fuel (b0.set t2.toNat v1) (IntKind.i64.wrap (t2 + 1))
   else none
   else none
  else
   some b0
def L_law0_SpoilInts (N : Nat) (x0 : (List Int)) : Option ((List Int)) :=
 L_law0_SpoilInts_1 N N x0 0
def d22 (r : (List Int)) : D := .tup []
def h22 (r : (List Int)) : List (Nat × Option Blk) := [pB 0 1 (eL (eInt .i64) r)]
theorem g22_1 {N} {r C0} (z : Z Try.prog ty 22 Try.f22 (Fi [(0, ⟨true, 1, C0⟩)] (d22 r) (h22 r))) (fuel) : ∀ {b0 t2}, L_law0_SpoilInts_1 N fuel b0 t2 = some r → z.G [.c 9, .l 9, .b 0] [(0, rR 0 b0), (2, iI t2)] [pB 0 1 (eL (eInt .i64) b0)] := by
 induction fuel with
 | zero => intro b0 t2 h; cases h
 | succ fuel ih =>
  intro b0 t2 h
  exact
   br h (fun h0 h =>
    ck h fun h1 h =>
    vi h fun v1 h2 h =>
    ck h fun h3 h =>
    z.jL [(1, [(3, oT)]), (3, [(4, oC (.ptr 0 (t2.toNat * 1 + 0))), (5, oC (iI (b0.getD t2.toNat default))), (6, oC (.int .i64 v1)), (7, oC (.ptr 0 (t2.toNat * 1 + 0))), (8, { cb := [(0, eL (eInt .i64) (b0.set t2.toNat v1))] })])] 11 [0, 2] [(0, 0)] (o5 (Le.tt h0) h1 (Le.pt (b := 0) (k := t2.toNat * 1)) (ld_ne (xs := b0) (eInt_len .i64) (ixl h1) (o := 0) (by decide)) (o5 (Le.of (ld_hd (xs := b0) (eInt_len .i64) (ixl h1) (o := 0) (by decide))) (Le.int (k := .i64) h2) h3 (Le.pt (b := 0) (k := t2.toNat * 1)) (o2 (st_need (xs := b0) (eInt_len .i64) (ixl h3) (o := 0) (k := 1) (vs := [iI v1]) (p := true) (by decide) rfl rfl) (st_set (xs := b0) (eInt_len .i64) (ixl h3) (o := 0) (vs := [iI v1]) (y := v1) (Nat.le_of_ble_eq_true rfl) rfl)))) (.cons (Le.rfs (b := 0) (by first | rfl | omega | (simp only [List.length_append, List.length_take, List.length_drop]; omega) | simp : b0.length = (b0.set t2.toNat v1).length) (by first | rfl | omega | (simp only [List.length_append, List.length_take, List.length_drop]; omega) | simp : b0.length = (b0.set t2.toNat v1).length)) (.cons (Le.rfl) .nil)) (ih h)) fun h0 h =>
   z.rb [(1, [(3, oF)])] 5 [] (.tup []) (o1 (Le.ff h0)) h (Le.of (by kernel_rfl))
theorem c22 {N} {x0 r} (h : L_law0_SpoilInts N x0 = some r) : Con Try.prog 22 [rR 0 x0] [(0, ⟨true, 1, (eL (eInt .i64) x0)⟩)] (d22 r) (h22 r) :=
 ci ok mix Try.f22 fun z =>
 z.j [] 4 [0, 2] [(0, 0)] o0 (g22_1 z N h)
def L_law0_SameCandidates_1 (N : Nat) : Nat → (List GCandidate) → (List GCandidate) → Int → Option (Bool)
  | 0, _, _, _ => none
  | fuel + 1, t0, t1, t5 =>
  bif (decide (t5 < (t0.length : Int))) then
   if 0 ≤ t5 ∧ t5 < ((t0.length : Nat) : Int) then
   if 0 ≤ t5 ∧ t5 < ((t1.length : Nat) : Int) then
   bif (!(((t0.getD t5.toNat default).Id == (t1.getD t5.toNat default).Id) && (((t0.getD t5.toNat default).Weight == (t1.getD t5.toNat default).Weight) && true))) then
    some false
   else
    L_law0_SameCandidates_1 N fuel t0 t1 (IntKind.i64.wrap (t5 + 1))
   else none
   else none
  else
   some true
def L_law0_SameCandidates (N : Nat) (x0 x1 : (List GCandidate)) : Option (Bool) :=
 bif ((x0.length : Int) != (x1.length : Int)) then
  some false
 else
  L_law0_SameCandidates_1 N N x0 x1 0
def d35 (r : Bool) : D := .bool r
theorem g35_1 {N} (gx0 gx1 : Bool) {r} (z : Z Try.prog ty 35 Try.f35 (Fi [] (d35 r) [])) (fuel) : ∀ {t0 t1 t5}, L_law0_SameCandidates_1 N fuel t0 t1 t5 = some r → z.G [.c 75, .l 75, .b 0, .c 15] [(0, sS gx0 eCandidate t0), (1, sS gx1 eCandidate t1), (5, iI t5)] [] := by
 induction fuel with
 | zero => intro t0 t1 t5 h; cases h
 | succ fuel ih =>
  intro t0 t1 t5 h
  exact
   br h (fun h0 h =>
    ck h fun h1 h =>
    ck h fun h2 h =>
    z.s [(4, [(3, oT)])] 8 (o1 (Le.tt h0)) <|
    br h (fun h3 h =>
     z.r [(6, [(2, oC (.ip gx0 [iI ((t0.getD t5.toNat default).Id), iI ((t0.getD t5.toNat default).Weight)])), (6, oC (.ip gx1 [iI ((t1.getD t5.toNat default).Id), iI ((t1.getD t5.toNat default).Weight)])), (8, oT)])] 4 (o5 h1 (Le.iptl (g := gx0) (eL_at (xs := t0) eCandidate_len (ixl h1))) h2 (Le.iptl (g := gx1) (eL_at (xs := t1) eCandidate_len (ixl h2))) (o1 (Le.tt h3))) h) fun h3 h =>
    z.j [(6, [(2, oC (.ip gx0 [iI ((t0.getD t5.toNat default).Id), iI ((t0.getD t5.toNat default).Weight)])), (6, oC (.ip gx1 [iI ((t1.getD t5.toNat default).Id), iI ((t1.getD t5.toNat default).Weight)])), (8, oF)])] 6 [0, 1, 5] [] (o5 h1 (Le.iptl (g := gx0) (eL_at (xs := t0) eCandidate_len (ixl h1))) h2 (Le.iptl (g := gx1) (eL_at (xs := t1) eCandidate_len (ixl h2))) (o1 (Le.ff h3))) (ih h)) fun h0 h =>
   z.r [(4, [(3, oF)])] 7 (o1 (Le.ff h0)) h
theorem c35 {N} (gx0 gx1 : Bool) {x0 x1 r} (h : L_law0_SameCandidates N x0 x1 = some r) : Con Try.prog 35 [sS gx0 eCandidate x0, sS gx1 eCandidate x1] [] (d35 r) [] :=
 ci ok mix Try.f35 fun z =>
 br h (fun h0 h =>
  z.r [(1, [(4, oT)])] 8 (o1 (Le.tt h0)) h) fun h0 h =>
 z.j [(1, [(4, oF)])] 12 [0, 1, 5] [] (o1 (Le.ff h0)) (g35_1 gx0 gx1 z N h)
def L_law0_KeptCandidates_1 (N : Nat) (t4 : Bool) : Option (Bool × (List GCandidate)) :=
 some (t4, [])
def L_law0_KeptCandidates (N : Nat) (x0 : (List GCandidate)) (x0n : Nat) (x1 : (List GCandidate)) : Option (Bool × (List GCandidate)) :=
 if x0n ≤ x0.length then
 if 0 ≤ (IntKind.i64.wrap ((x0n : Int) + 2)) ∧ (IntKind.i64.wrap ((x0n : Int) + 2)) ≤ ((x0.length : Nat) : Int) ∧ 0 ≤ (0 : Int) ∧ (0 : Int) ≤ (IntKind.i64.wrap ((x0n : Int) + 2)) ∧ x0n ≤ x0.length then
 (L_law0_SameCandidates N ((x0.drop 0).take x0n) x1).bind fun v1 =>
 bif v1 then
  if 0 ≤ (x1.length : Int) ∧ (x1.length : Int) < (((Int.toNat ((IntKind.i64.wrap ((x0n : Int) + 2)) - (0 : Int))) : Nat) : Int) then
  via ((((x0.getD (x1.length : Int).toNat default).Id == (77777 : Int)) && (((x0.getD (x1.length : Int).toNat default).Weight == (0 : Int)) && true)) : Bool) fun v2 =>
  bif v2 then
   if 0 ≤ (IntKind.i64.wrap ((x1.length : Int) + 1)) ∧ (IntKind.i64.wrap ((x1.length : Int) + 1)) < (((Int.toNat ((IntKind.i64.wrap ((x0n : Int) + 2)) - (0 : Int))) : Nat) : Int) then
   via ((((x0.getD (IntKind.i64.wrap ((x1.length : Int) + 1)).toNat default).Id == (77777 : Int)) && (((x0.getD (IntKind.i64.wrap ((x1.length : Int) + 1)).toNat default).Weight == (0 : Int)) && true)) : Bool) fun v3 =>
   L_law0_KeptCandidates_1 N v3
   else none
  else
   L_law0_KeptCandidates_1 N false
  else none
 else
  L_law0_KeptCandidates_1 N false
 else none
 else none
def d23 (r : Bool × (List GCandidate)) : D := .bool r.1
def h23 (r : Bool × (List GCandidate)) : List (Nat × Option Blk) := [(0, none)]
theorem g23_1 {N} (gx1 : Bool) {r C0} (z : Z Try.prog ty 23 Try.f23 (Fi [(0, ⟨true, 2, C0⟩)] (d23 r) (h23 r))) {t4} (h : L_law0_KeptCandidates_1 N t4 = some r) : z.G [.c 15] [(4, .bool t4)] [(0, none)] :=
 z.rb [] 0 [] (.bool t4) o0 h (Le.of (by kernel_rfl))
theorem c23 {N} (gx1 : Bool) {x0 x0n x1 r} (h : L_law0_KeptCandidates N x0 x0n x1 = some r) : Con Try.prog 23 [.ref 0 0 x0n x0.length, sS gx1 eCandidate x1] [(0, ⟨true, 2, (eL eCandidate x0)⟩)] (d23 r) (h23 r) :=
 ci ok mix Try.f23 fun z =>
 ck h fun h0 h =>
 ck h fun h1 h =>
 bd h fun v1 h2 h =>
 z.s [] 5 (o1 h1) <|
 br h (fun h3 h =>
  ck h fun h4 h =>
  vi h fun v2 h5 h =>
  br h (fun h6 h =>
   ck h fun h7 h =>
   vi h fun v3 h8 h =>
   z.j [(2, [(2, oR (d35 v1)), (3, oT), (7, oC (.ptr 0 ((x1.length : Int).toNat * 2 + 0))), (8, oC (.agg [iI ((x0.getD (x1.length : Int).toNat default).Id), iI ((x0.getD (x1.length : Int).toNat default).Weight)])), (10, oC (.bool v2)), (12, oT), (17, oC (.ptr 0 ((IntKind.i64.wrap ((x1.length : Int) + 1)).toNat * 2 + 0))), (18, oC (.agg [iI ((x0.getD (IntKind.i64.wrap ((x1.length : Int) + 1)).toNat default).Id), iI ((x0.getD (IntKind.i64.wrap ((x1.length : Int) + 1)).toNat default).Weight)])), (20, oC (.bool v3))])] 1 [4] [(1000000, 0)] (o5 ((c35 false gx1 h2).le ((.cons (Le.cutr (g := false) (n := x0n) (c := x0.length) eCandidate_len (xs := x0) (off := 0) (lo := 0) (by first | rfl | simp) (by first | omega | decide | (simp; done) | (simp; omega)) (by first | omega | decide | (simp; done) | (simp; omega))) (.cons (Le.rfl) .nil)))) (Le.tt h3) h4 (Le.pt (b := 0) (k := (x1.length : Int).toNat * 2)) (o5 (ld_len (xs := x0) eCandidate_len (show (x1.length : Int).toNat < x0.length by first | omega | (simp only [List.length_set]; omega) | (simp only [List.length_cons, List.length_nil]; omega)) (o := 0) (k := 2) (by decide)) (Le.of (congrArg D.agg (ld_tk (xs := x0) eCandidate_len (show (x1.length : Int).toNat < x0.length by first | omega | (simp only [List.length_set]; omega) | (simp only [List.length_cons, List.length_nil]; omega)) (o := 0) (k := 2) (by decide)))) (Le.boo h5) (Le.tt h6) (o5 h7 (Le.pt (b := 0) (k := (IntKind.i64.wrap ((x1.length : Int) + 1)).toNat * 2)) (ld_len (xs := x0) eCandidate_len (show (IntKind.i64.wrap ((x1.length : Int) + 1)).toNat < x0.length by first | omega | (simp only [List.length_set]; omega) | (simp only [List.length_cons, List.length_nil]; omega)) (o := 0) (k := 2) (by decide)) (Le.of (congrArg D.agg (ld_tk (xs := x0) eCandidate_len (show (IntKind.i64.wrap ((x1.length : Int) + 1)).toNat < x0.length by first | omega | (simp only [List.length_set]; omega) | (simp only [List.length_cons, List.length_nil]; omega)) (o := 0) (k := 2) (by decide)))) (o1 (Le.boo h8))))) (g23_1 gx1 z h)) fun h6 h =>
  z.j [(2, [(2, oR (d35 v1)), (3, oT), (7, oC (.ptr 0 ((x1.length : Int).toNat * 2 + 0))), (8, oC (.agg [iI ((x0.getD (x1.length : Int).toNat default).Id), iI ((x0.getD (x1.length : Int).toNat default).Weight)])), (10, oC (.bool v2)), (12, oF)])] 1 [4] [(1000000, 0)] (o5 ((c35 false gx1 h2).le ((.cons (Le.cutr (g := false) (n := x0n) (c := x0.length) eCandidate_len (xs := x0) (off := 0) (lo := 0) (by first | rfl | simp) (by first | omega | decide | (simp; done) | (simp; omega)) (by first | omega | decide | (simp; done) | (simp; omega))) (.cons (Le.rfl) .nil)))) (Le.tt h3) h4 (Le.pt (b := 0) (k := (x1.length : Int).toNat * 2)) (o4 (ld_len (xs := x0) eCandidate_len (show (x1.length : Int).toNat < x0.length by first | omega | (simp only [List.length_set]; omega) | (simp only [List.length_cons, List.length_nil]; omega)) (o := 0) (k := 2) (by decide)) (Le.of (congrArg D.agg (ld_tk (xs := x0) eCandidate_len (show (x1.length : Int).toNat < x0.length by first | omega | (simp only [List.length_set]; omega) | (simp only [List.length_cons, List.length_nil]; omega)) (o := 0) (k := 2) (by decide)))) (Le.boo h5) (Le.ff h6))) (g23_1 gx1 z h)) fun h3 h =>
 z.j [(2, [(2, oR (d35 v1)), (3, oF)])] 1 [4] [(1000000, 0)] (o2 ((c35 false gx1 h2).le ((.cons (Le.cutr (g := false) (n := x0n) (c := x0.length) eCandidate_len (xs := x0) (off := 0) (lo := 0) (by first | rfl | simp) (by first | omega | decide | (simp; done) | (simp; omega)) (by first | omega | decide | (simp; done) | (simp; omega))) (.cons (Le.rfl) .nil)))) (Le.ff h3)) (g23_1 gx1 z h)
def L_law9_awake_1 (N : Nat) (t0 : Bool) : Option (Bool) :=
 some t0
def L_law9_awake (N : Nat) : Option (Bool) :=
 (L_maglev_Build N ([(GCandidate.mk 3 1), (GCandidate.mk 7 2)])).bind fun v1 =>
 (L_maglev_Build N ([])).bind fun v2 =>
 (L_maglev_Build N ([(GCandidate.mk 1 0)])).bind fun v3 =>
 if 0 ≤ (1 : Int) ∧ (1 : Int) ≤ ((2 : Nat) : Int) ∧ 0 ≤ (0 : Int) ∧ (0 : Int) ≤ (1 : Int) ∧ 2 ≤ 2 then
 (L_maglev_Pick N ((([(GCandidate.mk 3 1), (GCandidate.mk 7 2)]).drop 0).take (Int.toNat ((1 : Int) - (0 : Int)))) 5).bind fun v4 =>
 (L_maglev_Pick N ([]) 5).bind fun v5 =>
 bif ((v1.1.length : Int) == 31) then
  (L_law0_Num N v1.2).bind fun v6 =>
  bif (v6 == 0) then
   bif ((v2.1.length : Int) == 0) then
    (L_law0_Num N v2.2).bind fun v7 =>
    bif (v7 == 0) then
     (L_law0_Num N v3.2).bind fun v8 =>
     bif (v8 == 900) then
      bif (v4.1 == 3) then
       bif v4.2.1 then
        (L_law0_Num N v4.2.2).bind fun v9 =>
        bif (v9 == 0) then
         bif (!v5.2.1) then
          (L_law0_Num N v5.2.2).bind fun v10 =>
          bif (v10 == 0) then
           (L_maglev_May N ([(GCandidate.mk 3 1), (GCandidate.mk 7 2)])).bind fun v11 =>
           L_law9_awake_1 N v11
          else
           L_law9_awake_1 N false
         else
          L_law9_awake_1 N false
        else
         L_law9_awake_1 N false
       else
        L_law9_awake_1 N false
      else
       L_law9_awake_1 N false
     else
      L_law9_awake_1 N false
    else
     L_law9_awake_1 N false
   else
    L_law9_awake_1 N false
  else
   L_law9_awake_1 N false
 else
  L_law9_awake_1 N false
 else none
def d24 (r : Bool) : D := .bool r
theorem g24_1 {N} {r} (z : Z Try.prog ty 24 Try.f24 (Fi [] (d24 r) [])) {t0} (h : L_law9_awake_1 N t0 = some r) : z.G [.c 511] [(0, .bool t0)] [] :=
 z.r [] 0 o0 h
theorem c24 {N} {r} (h : L_law9_awake N = some r) : Con Try.prog 24 [] [] (d24 r) [] :=
 ci ok mix Try.f24 fun z =>
 bd h fun v1 h0 h =>
 bd h fun v2 h1 h =>
 bd h fun v3 h2 h =>
 ck h fun h3 h =>
 bd h fun v4 h4 h =>
 bd h fun v5 h5 h =>
 z.s [(2, [(1, oR (d15 v1))]), (3, [(0, oR (d15 v2))]), (4, [(2, oR (d15 v3))]), (5, [(2, oR (d17 v4))]), (6, [(0, oR (d17 v5))])] 15 (o5 (c15 false h0) ((c15 true h1).le ((.cons (Le.nils) .nil))) (c15 false h2) h3 (o2 ((c17 false h4).le ((.cons (Le.cutr (g := false) (n := (Int.toNat ((1 : Int) - (0 : Int)))) (c := (2 - (Int.toNat (0 : Int)))) eCandidate_len (xs := [(GCandidate.mk 3 1), (GCandidate.mk 7 2)]) (off := 0) (lo := 0) (by first | rfl | simp) (by first | omega | decide | (simp; done) | (simp; omega)) (by first | omega | decide | (simp; done) | (simp; omega))) (.cons (Le.rfl) .nil)))) ((c17 true h5).le ((.cons (Le.nils) (.cons (Le.rfl) .nil)))))) <|
 br h (fun h6 h =>
  bd h fun v6 h7 h =>
  br h (fun h8 h =>
   br h (fun h9 h =>
    bd h fun v7 h10 h =>
    br h (fun h11 h =>
     bd h fun v8 h12 h =>
     br h (fun h13 h =>
      br h (fun h14 h =>
       br h (fun h15 h =>
        bd h fun v9 h16 h =>
        br h (fun h17 h =>
         br h (fun h18 h =>
          bd h fun v10 h19 h =>
          br h (fun h20 h =>
           bd h fun v11 h21 h =>
           z.j [(7, [(3, oT), (5, oR (d13 v6)), (8, oT), (13, oT), (15, oR (d13 v7)), (18, oT), (20, oR (d13 v8)), (23, oT), (27, oT), (30, oT), (32, oR (d13 v9)), (35, oT), (39, oT), (41, oR (d13 v10)), (44, oT), (46, oR (d20 v11))])] 1 [0] [] (o5 (Le.tt h6) (c13 h7) (Le.tt h8) (Le.tt h9) (o5 (c13 h10) (Le.tt h11) (c13 h12) (Le.tt h13) (o5 (Le.tt h14) (Le.tt h15) (c13 h16) (Le.tt h17) (o4 (Le.tt h18) (c13 h19) (Le.tt h20) (c20 false h21))))) (g24_1 z h)) fun h20 h =>
          z.j [(7, [(3, oT), (5, oR (d13 v6)), (8, oT), (13, oT), (15, oR (d13 v7)), (18, oT), (20, oR (d13 v8)), (23, oT), (27, oT), (30, oT), (32, oR (d13 v9)), (35, oT), (39, oT), (41, oR (d13 v10)), (44, oF)])] 1 [0] [] (o5 (Le.tt h6) (c13 h7) (Le.tt h8) (Le.tt h9) (o5 (c13 h10) (Le.tt h11) (c13 h12) (Le.tt h13) (o5 (Le.tt h14) (Le.tt h15) (c13 h16) (Le.tt h17) (o3 (Le.tt h18) (c13 h19) (Le.ff h20))))) (g24_1 z h)) fun h18 h =>
         z.j [(7, [(3, oT), (5, oR (d13 v6)), (8, oT), (13, oT), (15, oR (d13 v7)), (18, oT), (20, oR (d13 v8)), (23, oT), (27, oT), (30, oT), (32, oR (d13 v9)), (35, oT), (39, oF)])] 1 [0] [] (o5 (Le.tt h6) (c13 h7) (Le.tt h8) (Le.tt h9) (o5 (c13 h10) (Le.tt h11) (c13 h12) (Le.tt h13) (o5 (Le.tt h14) (Le.tt h15) (c13 h16) (Le.tt h17) (o1 (Le.ff h18))))) (g24_1 z h)) fun h17 h =>
        z.j [(7, [(3, oT), (5, oR (d13 v6)), (8, oT), (13, oT), (15, oR (d13 v7)), (18, oT), (20, oR (d13 v8)), (23, oT), (27, oT), (30, oT), (32, oR (d13 v9)), (35, oF)])] 1 [0] [] (o5 (Le.tt h6) (c13 h7) (Le.tt h8) (Le.tt h9) (o5 (c13 h10) (Le.tt h11) (c13 h12) (Le.tt h13) (o4 (Le.tt h14) (Le.tt h15) (c13 h16) (Le.ff h17)))) (g24_1 z h)) fun h15 h =>
       z.j [(7, [(3, oT), (5, oR (d13 v6)), (8, oT), (13, oT), (15, oR (d13 v7)), (18, oT), (20, oR (d13 v8)), (23, oT), (27, oT), (30, oF)])] 1 [0] [] (o5 (Le.tt h6) (c13 h7) (Le.tt h8) (Le.tt h9) (o5 (c13 h10) (Le.tt h11) (c13 h12) (Le.tt h13) (o2 (Le.tt h14) (Le.ff h15)))) (g24_1 z h)) fun h14 h =>
      z.j [(7, [(3, oT), (5, oR (d13 v6)), (8, oT), (13, oT), (15, oR (d13 v7)), (18, oT), (20, oR (d13 v8)), (23, oT), (27, oF)])] 1 [0] [] (o5 (Le.tt h6) (c13 h7) (Le.tt h8) (Le.tt h9) (o5 (c13 h10) (Le.tt h11) (c13 h12) (Le.tt h13) (o1 (Le.ff h14)))) (g24_1 z h)) fun h13 h =>
     z.j [(7, [(3, oT), (5, oR (d13 v6)), (8, oT), (13, oT), (15, oR (d13 v7)), (18, oT), (20, oR (d13 v8)), (23, oF)])] 1 [0] [] (o5 (Le.tt h6) (c13 h7) (Le.tt h8) (Le.tt h9) (o4 (c13 h10) (Le.tt h11) (c13 h12) (Le.ff h13))) (g24_1 z h)) fun h11 h =>
    z.j [(7, [(3, oT), (5, oR (d13 v6)), (8, oT), (13, oT), (15, oR (d13 v7)), (18, oF)])] 1 [0] [] (o5 (Le.tt h6) (c13 h7) (Le.tt h8) (Le.tt h9) (o2 (c13 h10) (Le.ff h11))) (g24_1 z h)) fun h9 h =>
   z.j [(7, [(3, oT), (5, oR (d13 v6)), (8, oT), (13, oF)])] 1 [0] [] (o4 (Le.tt h6) (c13 h7) (Le.tt h8) (Le.ff h9)) (g24_1 z h)) fun h8 h =>
  z.j [(7, [(3, oT), (5, oR (d13 v6)), (8, oF)])] 1 [0] [] (o3 (Le.tt h6) (c13 h7) (Le.ff h8)) (g24_1 z h)) fun h6 h =>
 z.j [(7, [(3, oF)])] 1 [0] [] (o1 (Le.ff h6)) (g24_1 z h)
def L_law9_Maglevs_2 (N : Nat) (t4 : Bool) : Option (Bool) :=
 some t4
def L_law9_Maglevs_1 (N : Nat) (t0 b372 : (List GCandidate)) (m372 : Nat) (b420 : (List Int)) (t74 : Bool) : Option (Bool) :=
 if m372 ≤ b372.length then
 bif t74 then
  some false
 else
  (L_law0_SpoilInts N b420).bind fun v1 =>
  if v1.length = b420.length then
  (L_law0_KeptCandidates N b372 m372 t0).bind fun v2 =>
  bif v2.1 then
   (L_law9_awake N).bind fun v3 =>
   L_law9_Maglevs_2 N v3
  else
   L_law9_Maglevs_2 N false
  else none
 else none
def L_law9_Maglevs (N : Nat) (x0 : (List GCandidate)) (x1 : Int) : Option (Bool) :=
 (L_law0_LendCandidates N x0).bind fun v1 =>
 if v1.2 ≤ v1.1.length then
 (L_maglev_Build N ((v1.1.drop 0).take v1.2)).bind fun v2 =>
 (L_ref1_Build N x0).bind fun v3 =>
 (L_maglev_Pick N ((v1.1.drop 0).take v1.2) x1).bind fun v4 =>
 (L_ref1_Pick N x0 x1).bind fun v5 =>
 (L_law0_SameInts N v2.1 v3.1).bind fun v6 =>
 bif (!v6) then
  L_law9_Maglevs_1 N x0 v1.1 v1.2 v2.1 true
 else
  (L_law0_Num N v2.2).bind fun v7 =>
  bif (v7 != v3.2) then
   L_law9_Maglevs_1 N x0 v1.1 v1.2 v2.1 true
  else
   bif (v4.1 != v5.1) then
    L_law9_Maglevs_1 N x0 v1.1 v1.2 v2.1 true
   else
    bif (!(v4.2.1 == v5.2.1)) then
     L_law9_Maglevs_1 N x0 v1.1 v1.2 v2.1 true
    else
     (L_law0_Num N v4.2.2).bind fun v8 =>
     bif (v8 != v5.2.2) then
      L_law9_Maglevs_1 N x0 v1.1 v1.2 v2.1 true
     else
      (L_maglev_May N ((v1.1.drop 0).take v1.2)).bind fun v9 =>
      (L_ref1_CandsMay N x0).bind fun v10 =>
      L_law9_Maglevs_1 N x0 v1.1 v1.2 v2.1 (!(v9 == v10))
 else none
def d4 (r : Bool) : D := .bool r
theorem g4_2 {N} (gx0 : Bool) {r} (z : Z Try.prog ty 4 Try.f4 (Fi [] (d4 r) [])) {t4} (h : L_law9_Maglevs_2 N t4 = some r) : z.G [.c 1023] [(4, .bool t4)] [] :=
 z.r [] 0 o0 h
theorem g4_1 {N} (gx0 : Bool) {r} (z : Z Try.prog ty 4 Try.f4 (Fi [] (d4 r) [])) {t0 b372 m372 b420 t74} (h : L_law9_Maglevs_1 N t0 b372 m372 b420 t74 = some r) : z.G [.c 447, .c 255] [(0, sS gx0 eCandidate t0), (5, .ref 372 0 m372 b372.length), (6, rR 420 b420), (74, .bool t74)] [pB 372 2 (eL eCandidate b372), pB 420 1 (eL (eInt .i64) b420)] :=
 ck h fun h0 h =>
 by
  cases t74 with
  | true => exact brT h fun h => (
   z.r [] 3 o0 h)
  | false => exact brF h fun h => (
   bd h fun v1 h2 h =>
   ck h fun h3 h =>
   bd h fun v2 h4 h =>
   z.s [(8, [(1, { ρ := [420], r := d22 v1, H := h22 v1 })])] 5 (o1 (c22 h2)) <|
   br h (fun h5 h =>
    bd h fun v3 h6 h =>
    z.j [(9, [(2, { ρ := [372], r := d23 v2, H := h23 v2 }), (3, oT), (4, oR (d24 v3))])] 1 [4] [] (o3 (c23 gx0 h4) (Le.tt h5) (c24 h6)) (g4_2 gx0 z h)) fun h5 h =>
   z.j [(9, [(2, { ρ := [372], r := d23 v2, H := h23 v2 }), (3, oF)])] 1 [4] [] (o2 (c23 gx0 h4) (Le.ff h5)) (g4_2 gx0 z h))
theorem c4 {N} (gx0 : Bool) {x0 x1 r} (h : L_law9_Maglevs N x0 x1 = some r) : Con Try.prog 4 [sS gx0 eCandidate x0, iI x1] [] (d4 r) [] :=
 ci ok mix Try.f4 fun z =>
 bd h fun v1 h0 h =>
 ck h fun h1 h =>
 bd h fun v2 h2 h =>
 bd h fun v3 h3 h =>
 bd h fun v4 h4 h =>
 bd h fun v5 h5 h =>
 bd h fun v6 h6 h =>
 z.s [(1, [(1, { r := d14 v1, H := h14 v1 })]), (2, [(1, { r := d15v1 v2, H := h15v1 v2 })]), (3, [(1, oR (d16 v3))]), (4, [(2, oR (d17 v4))]), (5, [(2, oR (d18 v5))])] 14 (o5 (c14 gx0 h0) ((c15v1 false h2).le ((.cons (Le.cutr (g := false) (n := v1.2) (c := v1.1.length) eCandidate_len (xs := v1.1) (off := 0) (lo := 0) (by first | rfl | simp) (by first | omega | decide | (simp; done) | (simp; omega)) (by first | omega | decide | (simp; done) | (simp; omega))) .nil))) (c16 gx0 h3) ((c17 false h4).le ((.cons (Le.cutr (g := false) (n := v1.2) (c := v1.1.length) eCandidate_len (xs := v1.1) (off := 0) (lo := 0) (by first | rfl | simp) (by first | omega | decide | (simp; done) | (simp; omega)) (by first | omega | decide | (simp; done) | (simp; omega))) (.cons (Le.rfl) .nil)))) (o1 (c18 gx0 h5))) <|
 br h (fun h7 h =>
  z.j [(6, [(2, oR (d19 v6)), (4, oT)])] 1 [0, 5, 6, 74] [(372, 372), (420, 420)] (o2 (c19 false true h6) (Le.tt h7)) (g4_1 gx0 z h)) fun h7 h =>
 bd h fun v7 h8 h =>
 br h (fun h9 h =>
  z.j [(6, [(2, oR (d19 v6)), (4, oF), (6, oR (d13 v7)), (10, oT)])] 1 [0, 5, 6, 74] [(372, 372), (420, 420)] (o4 (c19 false true h6) (Le.ff h7) (c13 h8) (Le.tt h9)) (g4_1 gx0 z h)) fun h9 h =>
 br h (fun h10 h =>
  z.j [(6, [(2, oR (d19 v6)), (4, oF), (6, oR (d13 v7)), (10, oF), (15, oT)])] 1 [0, 5, 6, 74] [(372, 372), (420, 420)] (o5 (c19 false true h6) (Le.ff h7) (c13 h8) (Le.ff h9) (o1 (Le.tt h10))) (g4_1 gx0 z h)) fun h10 h =>
 br h (fun h11 h =>
  z.j [(6, [(2, oR (d19 v6)), (4, oF), (6, oR (d13 v7)), (10, oF), (15, oF), (20, oT)])] 1 [0, 5, 6, 74] [(372, 372), (420, 420)] (o5 (c19 false true h6) (Le.ff h7) (c13 h8) (Le.ff h9) (o2 (Le.ff h10) (Le.tt h11))) (g4_1 gx0 z h)) fun h11 h =>
 bd h fun v8 h12 h =>
 br h (fun h13 h =>
  z.j [(6, [(2, oR (d19 v6)), (4, oF), (6, oR (d13 v7)), (10, oF), (15, oF), (20, oF), (22, oR (d13 v8)), (26, oT)])] 1 [0, 5, 6, 74] [(372, 372), (420, 420)] (o5 (c19 false true h6) (Le.ff h7) (c13 h8) (Le.ff h9) (o4 (Le.ff h10) (Le.ff h11) (c13 h12) (Le.tt h13))) (g4_1 gx0 z h)) fun h13 h =>
 bd h fun v9 h14 h =>
 bd h fun v10 h15 h =>
 z.j [(6, [(2, oR (d19 v6)), (4, oF), (6, oR (d13 v7)), (10, oF), (15, oF), (20, oF), (22, oR (d13 v8)), (26, oF), (28, oR (d20 v9)), (30, oR (d21 v10))])] 1 [0, 5, 6, 74] [(372, 372), (420, 420)] (o5 (c19 false true h6) (Le.ff h7) (c13 h8) (Le.ff h9) (o5 (Le.ff h10) (Le.ff h11) (c13 h12) (Le.ff h13) (o2 ((c20 false h14).le ((.cons (Le.cutr (g := false) (n := v1.2) (c := v1.1.length) eCandidate_len (xs := v1.1) (off := 0) (lo := 0) (by first | rfl | simp) (by first | omega | decide | (simp; done) | (simp; omega)) (by first | omega | decide | (simp; done) | (simp; omega))) .nil))) (c21 gx0 h15)))) (g4_1 gx0 z h)
def L_flow_handled_1 (N : Nat) (t2 : Bool) : Option (Bool) :=
 some t2
def L_flow_handled (N : Nat) (x0 : Int) : Option (Bool) :=
 bif (x0 == 6) then
  L_flow_handled_1 N true
 else
  L_flow_handled_1 N (x0 == 17)
def d39 (r : Bool) : D := .bool r
theorem g39_1 {N} {r} (z : Z Try.prog ty 39 Try.f39 (Fi [] (d39 r) [])) {t2} (h : L_flow_handled_1 N t2 = some r) : z.G [.c 7] [(2, .bool t2)] [] :=
 z.r [] 0 o0 h
theorem c39 {N} {x0 r} (h : L_flow_handled N x0 = some r) : Con Try.prog 39 [iI x0] [] (d39 r) [] :=
 ci ok mix Try.f39 fun z =>
 br h (fun h0 h =>
  z.j [(1, [(2, oT)])] 4 [2] [] (o1 (Le.tt h0)) (g39_1 z h)) fun h0 h =>
 z.j [(1, [(2, oF)])] 4 [2] [] (o1 (Le.ff h0)) (g39_1 z h)
def L_flow_May_1 (N : Nat) (t2 : Bool) : Option (Bool) :=
 some t2
def L_flow_May (N : Nat) (x0 : GFlow) : Option (Bool) :=
 (L_ip_In N x0.Src 32).bind fun v1 =>
 bif v1 then
  (L_ip_In N x0.Dst 32).bind fun v2 =>
  bif v2 then
   (L_flow_handled N x0.Proto).bind fun v3 =>
   bif v3 then
    (L_ip_In N x0.Sport 16).bind fun v4 =>
    bif v4 then
     (L_ip_In N x0.Dport 16).bind fun v5 =>
     L_flow_May_1 N v5
    else
     L_flow_May_1 N false
   else
    L_flow_May_1 N false
  else
   L_flow_May_1 N false
 else
  L_flow_May_1 N false
def d36 (r : Bool) : D := .bool r
theorem g36_1 {N} {r} (z : Z Try.prog ty 36 Try.f36 (Fi [] (d36 r) [])) {t2} (h : L_flow_May_1 N t2 = some r) : z.G [.c 7] [(2, .bool t2)] [] :=
 z.r [] 0 o0 h
theorem c36 {N} {x0 r} (h : L_flow_May N x0 = some r) : Con Try.prog 36 [.agg [iI x0.Src, iI x0.Dst, iI x0.Proto, iI x0.Sport, iI x0.Dport]] [] (d36 r) [] :=
 ci ok mix Try.f36 fun z =>
 bd h fun v1 h0 h =>
 br h (fun h1 h =>
  bd h fun v2 h2 h =>
  br h (fun h3 h =>
   bd h fun v3 h4 h =>
   br h (fun h5 h =>
    bd h fun v4 h6 h =>
    br h (fun h7 h =>
     bd h fun v5 h8 h =>
     z.j [(1, [(2, oR (d27 v1)), (3, oT), (6, oR (d27 v2)), (8, oT), (11, oR (d39 v3)), (13, oT), (16, oR (d27 v4)), (18, oT), (21, oR (d27 v5))])] 4 [2] [] (o5 (c27 h0) (Le.tt h1) (c27 h2) (Le.tt h3) (o5 (c39 h4) (Le.tt h5) (c27 h6) (Le.tt h7) (o1 (c27 h8)))) (g36_1 z h)) fun h7 h =>
    z.j [(1, [(2, oR (d27 v1)), (3, oT), (6, oR (d27 v2)), (8, oT), (11, oR (d39 v3)), (13, oT), (16, oR (d27 v4)), (18, oF)])] 4 [2] [] (o5 (c27 h0) (Le.tt h1) (c27 h2) (Le.tt h3) (o4 (c39 h4) (Le.tt h5) (c27 h6) (Le.ff h7))) (g36_1 z h)) fun h5 h =>
   z.j [(1, [(2, oR (d27 v1)), (3, oT), (6, oR (d27 v2)), (8, oT), (11, oR (d39 v3)), (13, oF)])] 4 [2] [] (o5 (c27 h0) (Le.tt h1) (c27 h2) (Le.tt h3) (o2 (c39 h4) (Le.ff h5))) (g36_1 z h)) fun h3 h =>
  z.j [(1, [(2, oR (d27 v1)), (3, oT), (6, oR (d27 v2)), (8, oF)])] 4 [2] [] (o4 (c27 h0) (Le.tt h1) (c27 h2) (Le.ff h3)) (g36_1 z h)) fun h1 h =>
 z.j [(1, [(2, oR (d27 v1)), (3, oF)])] 4 [2] [] (o2 (c27 h0) (Le.ff h1)) (g36_1 z h)
def L_hash_Flow_2 (N : Nat) : Nat → Int → (List Int) → Int → Int → Option (Int × Int)
  | 0, _, _, _, _ => none
  | fuel + 1, t6, b596, t32, t33 =>
  bif (decide (t33 < t32)) then
   if 0 ≤ t33 ∧ t33 < ((b596.length : Nat) : Int) then
   via ((IntKind.u32.wrap (b596.getD t33.toNat default)) : Int) fun v1 =>
   (L_hash_mix N t6 v1).bind fun v2 =>
   L_hash_Flow_2 N fuel v2 b596 t32 (IntKind.i64.wrap (t33 + 1))
   else none
  else
   some ((IntKind.i64.wrap t6), 0)
def L_hash_Flow_1 (N : Nat) (t0 b148_0 b148_1 b148_2 b148_3 b148_4 : Int) (t16 : Bool) : Option (Int × Int) :=
 bif t16 then
  some (0, 800)
 else
  via ((bOr .i64 (IntKind.i64.wrap (b148_3 * 2 ^ 16)) b148_4) : Int) fun v1 =>
  L_hash_Flow_2 N N (IntKind.u32.wrap t0) ([b148_0, b148_1, b148_2, v1]) 4 0
def L_hash_Flow (N : Nat) (x0 : Int) (x1 : GFlow) : Option (Int × Int) :=
 (L_ip_In N x0 32).bind fun v1 =>
 bif (!v1) then
  L_hash_Flow_1 N x0 x1.Src x1.Dst x1.Proto x1.Sport x1.Dport true
 else
  (L_flow_May N x1).bind fun v2 =>
  L_hash_Flow_1 N x0 x1.Src x1.Dst x1.Proto x1.Sport x1.Dport (!v2)
def d26 (r : Int × Int) : D := .tup [iI r.1, iI r.2]
theorem g26_2 {N} {r} (z : Z Try.prog ty 26 Try.f26 (Fi [] (d26 r) [])) (fuel) : ∀ {t6 b596 t32 t33}, L_hash_Flow_2 N fuel t6 b596 t32 t33 = some r → z.G [.c 151, .l 151, .b 0, .c 31] [(6, .int .u32 t6), (31, rR 596 b596), (32, iI t32), (33, iI t33)] [pB 596 1 (eL (eInt .i64) b596)] := by
 induction fuel with
 | zero => intro t6 b596 t32 t33 h; cases h
 | succ fuel ih =>
  intro t6 b596 t32 t33 h
  exact
   br h (fun h0 h =>
    ck h fun h1 h =>
    vi h fun v1 h2 h =>
    bd h fun v2 h3 h =>
    z.j [(5, [(0, oT)]), (6, [(0, oC (.ptr 596 (t33.toNat * 1 + 0))), (1, oC (iI (b596.getD t33.toNat default)))]), (7, [(2, oC (.int .u32 v1)), (3, oR (d28 v2))])] 13 [6, 31, 32, 33] [(596, 596)] (o5 (Le.tt h0) h1 (Le.pt (b := 596) (k := t33.toNat * 1)) (ld_ne (xs := b596) (eInt_len .i64) (ixl h1) (o := 0) (by decide)) (o3 (Le.of (ld_hd (xs := b596) (eInt_len .i64) (ixl h1) (o := 0) (by decide))) (Le.int (k := .u32) h2) (c28 h3))) (ih h)) fun h0 h =>
   z.r [(5, [(0, oF)])] 7 (o1 (Le.ff h0)) h
theorem g26_1 {N} {r} (z : Z Try.prog ty 26 Try.f26 (Fi [] (d26 r) [])) {t0 b148_0 b148_1 b148_2 b148_3 b148_4 t16} (h : L_hash_Flow_1 N t0 b148_0 b148_1 b148_2 b148_3 b148_4 t16 = some r) : z.G [.c 13, .c 7] [(0, iI t0), (3, .ptr 148 0), (16, .bool t16)] [qB 148 [iI b148_0, iI b148_1, iI b148_2, iI b148_3, iI b148_4]] :=
 by
  cases t16 with
  | true => exact brT h fun h => (
   z.r [] 3 o0 h)
  | false => exact brF h fun h => (
   vi h fun v1 h1 h =>
   z.j [(4, [(11, oC (.int .i64 v1))])] 9 [6, 31, 32, 33] [(596, 596)] (o2 (by decide : (0:Int) ≤ 16) (Le.int (k := .i64) h1)) (g26_2 z N h))
theorem c26 {N} {x0 x1 r} (h : L_hash_Flow N x0 x1 = some r) : Con Try.prog 26 [iI x0, .agg [iI x1.Src, iI x1.Dst, iI x1.Proto, iI x1.Sport, iI x1.Dport]] [] (d26 r) [] :=
 ci ok mix Try.f26 fun z =>
 bd h fun v1 h0 h =>
 br h (fun h1 h =>
  z.j [(1, [(1, oR (d27 v1)), (3, oT)])] 5 [0, 3, 16] [(148, 148)] (o2 (c27 h0) (Le.tt h1)) (g26_1 z h)) fun h1 h =>
 bd h fun v2 h2 h =>
 z.j [(1, [(1, oR (d27 v1)), (3, oF), (5, oR (d36 v2))])] 5 [0, 3, 16] [(148, 148)] (o3 (c27 h0) (Le.ff h1) (c36 h2)) (g26_1 z h)
def L_law8_awake_1 (N : Nat) (t0 : Bool) : Option (Bool) :=
 some t0
def L_law8_awake (N : Nat) : Option (Bool) :=
 (L_hash_Mix N 1 2).bind fun v1 =>
 (L_hash_Mix N (-1) 2).bind fun v2 =>
 (L_hash_Flow N 0 (GFlow.mk 0 0 0 0 0)).bind fun v3 =>
 (L_hash_Flow N 1 (GFlow.mk 0 0 17 0 0)).bind fun v4 =>
 bif (decide (v1.1 ≥ 0)) then
  bif (decide (v1.1 ≤ 4294967295)) then
   (L_law0_Num N v1.2).bind fun v5 =>
   bif (v5 == 0) then
    (L_law0_Num N v2.2).bind fun v6 =>
    bif (v6 == 800) then
     (L_law0_Num N v3.2).bind fun v7 =>
     bif (v7 == 800) then
      bif (decide (v4.1 ≥ 0)) then
       bif (decide (v4.1 ≤ 4294967295)) then
        (L_law0_Num N v4.2).bind fun v8 =>
        L_law8_awake_1 N (v8 == 0)
       else
        L_law8_awake_1 N false
      else
       L_law8_awake_1 N false
     else
      L_law8_awake_1 N false
    else
     L_law8_awake_1 N false
   else
    L_law8_awake_1 N false
  else
   L_law8_awake_1 N false
 else
  L_law8_awake_1 N false
def d11 (r : Bool) : D := .bool r
theorem g11_1 {N} {r} (z : Z Try.prog ty 11 Try.f11 (Fi [] (d11 r) [])) {t0} (h : L_law8_awake_1 N t0 = some r) : z.G [.c 127] [(0, .bool t0)] [] :=
 z.r [] 0 o0 h
theorem c11 {N} {r} (h : L_law8_awake N = some r) : Con Try.prog 11 [] [] (d11 r) [] :=
 ci ok mix Try.f11 fun z =>
 bd h fun v1 h0 h =>
 bd h fun v2 h1 h =>
 bd h fun v3 h2 h =>
 bd h fun v4 h3 h =>
 z.s [(1, [(0, oR (d12 v1))]), (2, [(0, oR (d12 v2))]), (3, [(1, oR (d26 v3))]), (4, [(1, oR (d26 v4))])] 11 (o4 (c12 h0) (c12 h1) (c26 h2) (c26 h3)) <|
 br h (fun h4 h =>
  br h (fun h5 h =>
   bd h fun v5 h6 h =>
   br h (fun h7 h =>
    bd h fun v6 h8 h =>
    br h (fun h9 h =>
     bd h fun v7 h10 h =>
     br h (fun h11 h =>
      br h (fun h12 h =>
       br h (fun h13 h =>
        bd h fun v8 h14 h =>
        z.j [(5, [(2, oT), (6, oT), (8, oR (d13 v5)), (11, oT), (13, oR (d13 v6)), (16, oT), (18, oR (d13 v7)), (21, oT), (25, oT), (29, oT), (31, oR (d13 v8))])] 1 [0] [] (o5 (Le.tt h4) (Le.tt h5) (c13 h6) (Le.tt h7) (o5 (c13 h8) (Le.tt h9) (c13 h10) (Le.tt h11) (o3 (Le.tt h12) (Le.tt h13) (c13 h14)))) (g11_1 z h)) fun h13 h =>
       z.j [(5, [(2, oT), (6, oT), (8, oR (d13 v5)), (11, oT), (13, oR (d13 v6)), (16, oT), (18, oR (d13 v7)), (21, oT), (25, oT), (29, oF)])] 1 [0] [] (o5 (Le.tt h4) (Le.tt h5) (c13 h6) (Le.tt h7) (o5 (c13 h8) (Le.tt h9) (c13 h10) (Le.tt h11) (o2 (Le.tt h12) (Le.ff h13)))) (g11_1 z h)) fun h12 h =>
      z.j [(5, [(2, oT), (6, oT), (8, oR (d13 v5)), (11, oT), (13, oR (d13 v6)), (16, oT), (18, oR (d13 v7)), (21, oT), (25, oF)])] 1 [0] [] (o5 (Le.tt h4) (Le.tt h5) (c13 h6) (Le.tt h7) (o5 (c13 h8) (Le.tt h9) (c13 h10) (Le.tt h11) (o1 (Le.ff h12)))) (g11_1 z h)) fun h11 h =>
     z.j [(5, [(2, oT), (6, oT), (8, oR (d13 v5)), (11, oT), (13, oR (d13 v6)), (16, oT), (18, oR (d13 v7)), (21, oF)])] 1 [0] [] (o5 (Le.tt h4) (Le.tt h5) (c13 h6) (Le.tt h7) (o4 (c13 h8) (Le.tt h9) (c13 h10) (Le.ff h11))) (g11_1 z h)) fun h9 h =>
    z.j [(5, [(2, oT), (6, oT), (8, oR (d13 v5)), (11, oT), (13, oR (d13 v6)), (16, oF)])] 1 [0] [] (o5 (Le.tt h4) (Le.tt h5) (c13 h6) (Le.tt h7) (o2 (c13 h8) (Le.ff h9))) (g11_1 z h)) fun h7 h =>
   z.j [(5, [(2, oT), (6, oT), (8, oR (d13 v5)), (11, oF)])] 1 [0] [] (o4 (Le.tt h4) (Le.tt h5) (c13 h6) (Le.ff h7)) (g11_1 z h)) fun h5 h =>
  z.j [(5, [(2, oT), (6, oF)])] 1 [0] [] (o2 (Le.tt h4) (Le.ff h5)) (g11_1 z h)) fun h4 h =>
 z.j [(5, [(2, oF)])] 1 [0] [] (o1 (Le.ff h4)) (g11_1 z h)
def L_law8_HashSpreads_3 (N : Nat) (r1 : Int → Int → (List Int) → Int → Option (Bool)) : Nat → Int → Int → (List Int) → Int → Int → Int → Option (Bool)
  | 0, _, _, _, _, _, _ => none
  | fuel + 1, t5, t6, b212, t8, t9, t11 =>
  bif (decide (t11 < t8)) then
   if 0 ≤ t11 ∧ t11 < ((16 : Nat) : Int) then
   if 0 ≤ t11 ∧ t11 < ((b212.length : Nat) : Int) then
   bif ((b212.getD t11.toNat default) == t9) then
    some false
   else
    L_law8_HashSpreads_3 N r1 fuel t5 t6 b212 t8 t9 (IntKind.i64.wrap (t11 + 1))
   else none
   else none
  else
   if 0 ≤ t8 ∧ t8 < ((16 : Nat) : Int) then
   if 0 ≤ t8 ∧ t8 < ((b212.length : Nat) : Int) then
   r1 t5 t6 (b212.set t8.toNat t9) (IntKind.i64.wrap (t8 + 1))
   else none
   else none
def L_law8_HashSpreads_2 (N : Nat) (r1 : Int → Int → (List Int) → Int → Option (Bool)) (t5 t6 : Int) (b212 : (List Int)) (t8 t9 : Int) (t40 : Bool) : Option (Bool) :=
 bif t40 then
  some false
 else
  L_law8_HashSpreads_3 N r1 N t5 t6 b212 t8 t9 0
def L_law8_HashSpreads_1 (N : Nat) : Nat → Int → Int → (List Int) → Int → Option (Bool)
  | 0, _, _, _, _ => none
  | fuel + 1, t5, t6, b212, t8 =>
  bif (decide (t8 < 16)) then
   (L_hash_Mix N t5 (IntKind.i64.wrap (t6 + t8))).bind fun v1 =>
   (L_law0_Num N v1.2).bind fun v2 =>
   bif (v2 != 0) then
    L_law8_HashSpreads_2 N (L_law8_HashSpreads_1 N fuel) t5 t6 b212 t8 v1.1 true
   else
    bif (decide (v1.1 < 0)) then
     L_law8_HashSpreads_2 N (L_law8_HashSpreads_1 N fuel) t5 t6 b212 t8 v1.1 true
    else
     L_law8_HashSpreads_2 N (L_law8_HashSpreads_1 N fuel) t5 t6 b212 t8 v1.1 (decide (v1.1 > 4294967295))
  else
   some true
def L_law8_HashSpreads (N : Nat) (x0 x1 : Int) : Option (Bool) :=
 (L_law8_awake N).bind fun v1 =>
 bif (!v1) then
  some false
 else
  L_law8_HashSpreads_1 N N (bAnd .i64 x0 65535) (bAnd .i64 x1 65535) ([0, 0, 0, 0, 0, 0, 0, 0, 0, 0, 0, 0, 0, 0, 0, 0]) 0
def d3 (r : Bool) : D := .bool r
theorem g3_3 {N} {r} (z : Z Try.prog ty 3 Try.f3 (Fi [] (d3 r) [])) {r1 : Int → Int → (List Int) → Int → Option (Bool)} (hr1 : ∀ {t5 t6 b212 t8}, r1 t5 t6 b212 t8 = some r → z.G [.c 303, .l 303, .b 0, .c 63] [(5, iI t5), (6, iI t6), (7, .ptr 212 0), (8, iI t8)] [pB 212 0 (eL (eInt .i64) b212)]) (fuel) : ∀ {t5 t6 b212 t8 t9 t11}, L_law8_HashSpreads_3 N r1 fuel t5 t6 b212 t8 t9 t11 = some r → z.G [.c 153903, .l 153903, .b 2, .c 31023, .b 1, .c 1839, .l 303, .b 0, .c 63] [(5, iI t5), (6, iI t6), (7, .ptr 212 0), (8, iI t8), (9, iI t9), (11, iI t11)] [pB 212 0 (eL (eInt .i64) b212)] := by
 induction fuel with
 | zero => intro t5 t6 b212 t8 t9 t11 h; cases h
 | succ fuel ih =>
  intro t5 t6 b212 t8 t9 t11 h
  exact
   br h (fun h0 h =>
    ck h fun h1 h =>
    ck h fun h2 h =>
    z.s [(12, [(2, oT)])] 8 (o1 (Le.tt h0)) <|
    br h (fun h3 h =>
     z.r [(14, [(1, oC (.ptr 212 (t11.toNat * 1 + 0))), (2, oC (iI (b212.getD t11.toNat default))), (4, oT)])] 4 (o5 h1 (Le.pt (b := 212) (k := t11.toNat * 1)) (ld_ne (xs := b212) (eInt_len .i64) (ixl h2) (o := 0) (by decide)) (Le.of (ld_hd (xs := b212) (eInt_len .i64) (ixl h2) (o := 0) (by decide))) (o1 (Le.tt h3))) h) fun h3 h =>
    z.j [(14, [(1, oC (.ptr 212 (t11.toNat * 1 + 0))), (2, oC (iI (b212.getD t11.toNat default))), (4, oF)])] 6 [5, 6, 7, 8, 9, 11] [(212, 212)] (o5 h1 (Le.pt (b := 212) (k := t11.toNat * 1)) (ld_ne (xs := b212) (eInt_len .i64) (ixl h2) (o := 0) (by decide)) (Le.of (ld_hd (xs := b212) (eInt_len .i64) (ixl h2) (o := 0) (by decide))) (o1 (Le.ff h3))) (ih h)) fun h0 h =>
   ck h fun h1 h =>
   ck h fun h2 h =>
   z.j [(12, [(2, oF)]), (16, [(2, oC (.ptr 212 (t8.toNat * 1 + 0))), (3, { cb := [(212, eL (eInt .i64) (b212.set t8.toNat t9))] })])] 9 [5, 6, 7, 8] [(212, 212)] (o5 (Le.ff h0) h1 (Le.pt (b := 212) (k := t8.toNat * 1)) (st_need (xs := b212) (eInt_len .i64) (ixl h2) (o := 0) (k := 1) (vs := [iI t9]) (p := true) (by decide) rfl rfl) (o1 (st_set (xs := b212) (eInt_len .i64) (ixl h2) (o := 0) (vs := [iI t9]) (y := t9) (Nat.le_of_ble_eq_true rfl) rfl))) (hr1 h)
theorem g3_2 {N} {r} (z : Z Try.prog ty 3 Try.f3 (Fi [] (d3 r) [])) {r1 : Int → Int → (List Int) → Int → Option (Bool)} (hr1 : ∀ {t5 t6 b212 t8}, r1 t5 t6 b212 t8 = some r → z.G [.c 303, .l 303, .b 0, .c 63] [(5, iI t5), (6, iI t6), (7, .ptr 212 0), (8, iI t8)] [pB 212 0 (eL (eInt .i64) b212)]) {t5 t6 b212 t8 t9 t40} (h : L_law8_HashSpreads_2 N r1 t5 t6 b212 t8 t9 t40 = some r) : z.G [.c 26927, .c 14639, .b 1, .c 1839, .l 303, .b 0, .c 63] [(5, iI t5), (6, iI t6), (7, .ptr 212 0), (8, iI t8), (9, iI t9), (40, .bool t40)] [pB 212 0 (eL (eInt .i64) b212)] :=
 by
  cases t40 with
  | true => exact brT h fun h => (
   z.r [] 3 o0 h)
  | false => exact brF h fun h => (
   z.j [] 7 [5, 6, 7, 8, 9, 11] [(212, 212)] o0 (g3_3 z @hr1 N h))
theorem g3_1 {N} {r} (z : Z Try.prog ty 3 Try.f3 (Fi [] (d3 r) [])) (fuel) : ∀ {t5 t6 b212 t8}, L_law8_HashSpreads_1 N fuel t5 t6 b212 t8 = some r → z.G [.c 303, .l 303, .b 0, .c 63] [(5, iI t5), (6, iI t6), (7, .ptr 212 0), (8, iI t8)] [pB 212 0 (eL (eInt .i64) b212)] := by
 induction fuel with
 | zero => intro t5 t6 b212 t8 h; cases h
 | succ fuel ih =>
  intro t5 t6 b212 t8 h
  exact
   br h (fun h0 h =>
    bd h fun v1 h1 h =>
    bd h fun v2 h2 h =>
    z.s [(6, [(1, oT)]), (8, [(4, oR (d12 v1))])] 11 (o2 (Le.tt h0) (c12 h1)) <|
    br h (fun h3 h =>
     z.j [(9, [(1, oR (d13 v2)), (3, oT)])] 1 [5, 6, 7, 8, 9, 40] [(212, 212)] (o2 (c13 h2) (Le.tt h3)) (g3_2 z @ih h)) fun h3 h =>
    br h (fun h4 h =>
     z.j [(9, [(1, oR (d13 v2)), (3, oF), (7, oT)])] 1 [5, 6, 7, 8, 9, 40] [(212, 212)] (o3 (c13 h2) (Le.ff h3) (Le.tt h4)) (g3_2 z @ih h)) fun h4 h =>
    z.j [(9, [(1, oR (d13 v2)), (3, oF), (7, oF)])] 1 [5, 6, 7, 8, 9, 40] [(212, 212)] (o3 (c13 h2) (Le.ff h3) (Le.ff h4)) (g3_2 z @ih h)) fun h0 h =>
   z.r [(6, [(1, oF)])] 7 (o1 (Le.ff h0)) h
theorem c3 {N} {x0 x1 r} (h : L_law8_HashSpreads N x0 x1 = some r) : Con Try.prog 3 [iI x0, iI x1] [] (d3 r) [] :=
 ci ok mix Try.f3 fun z =>
 bd h fun v1 h0 h =>
 br h (fun h1 h =>
  z.r [(1, [(0, oR (d11 v1)), (1, oT)])] 8 (o2 (c11 h0) (Le.tt h1)) h) fun h1 h =>
 z.j [(1, [(0, oR (d11 v1)), (1, oF)])] 16 [5, 6, 7, 8] [(212, 212)] (o2 (c11 h0) (Le.ff h1)) (g3_1 z N h)
end Go.Proofs.Ythhlflmjikdgcaa.Lf
