import Derived.Test.YtmhlgpdoedbedaaGreatAll0
set_option linter.unusedVariables false
set_option linter.unusedSimpArgs false
namespace Go.Proofs.YtmhlgpdoedbedaaGreat.Lf
set_option maxRecDepth 20000
open Go Go.RowKit Go.Proofs Go.Proofs.YtmhlgpdoedbedaaGreat.Sv
def L_maglev_May_2 (N : Nat) (r1 : (List GCandidate) → (List GCandidate) → Int → Int → Option (Bool)) (t0 t5 : (List GCandidate)) (t6 t7 : Int) (t36 : Bool) : Option (Bool) :=
 bif t36 then
  some false
 else
  r1 t0 t5 t6 (IntKind.i64.wrap (t7 + 1))
def L_maglev_May_1 (N : Nat) : Nat → (List GCandidate) → (List GCandidate) → Int → Int → Option (Bool)
  | 0, _, _, _, _ => none
  | fuel + 1, t0, t5, t6, t7 =>
  bif (decide (t7 < t6)) then
   if 0 ≤ t7 ∧ t7 < ((t5.length : Nat) : Int) then
   (L_ip_In N ((t5.getD t7.toNat default).Id) 8).bind fun v1 =>
   bif (!v1) then
    L_maglev_May_2 N (L_maglev_May_1 N fuel) t0 t5 t6 t7 true
   else
    (L_maglev_Weight N ((t5.getD t7.toNat default).Weight)).bind fun v2 =>
    bif (!v2) then
     L_maglev_May_2 N (L_maglev_May_1 N fuel) t0 t5 t6 t7 true
    else
     bif (decide (t7 > 0)) then
      if 0 ≤ (IntKind.i64.wrap (t7 - 1)) ∧ (IntKind.i64.wrap (t7 - 1)) < ((t0.length : Nat) : Int) then
      via ((t0.getD (IntKind.i64.wrap (t7 - 1)).toNat default).Id : Int) fun v3 =>
      L_maglev_May_2 N (L_maglev_May_1 N fuel) t0 t5 t6 t7 (decide (v3 ≥ (t5.getD t7.toNat default).Id))
      else none
     else
      L_maglev_May_2 N (L_maglev_May_1 N fuel) t0 t5 t6 t7 false
   else none
  else
   some (decide ((t0.length : Int) ≤ 16))
def L_maglev_May (N : Nat) (x0 : (List GCandidate)) : Option (Bool) :=
 L_maglev_May_1 N N x0 x0 (x0.length : Int) 0
def d228 (r : Bool) : D := .bool r
theorem g228_2 {N} (gx0 : Bool) {r} (z : Z Tryz.prog ty 228 Tryz.f228 (Fi [] (d228 r) [])) {r1 : (List GCandidate) → (List GCandidate) → Int → Int → Option (Bool)} (hr1 : ∀ {t0 t5 t6 t7}, r1 t0 t5 t6 t7 = some r → z.G [.c 37, .l 37, .b 0, .c 7] [(0, sS gx0 eCandidate t0), (5, sS gx0 eCandidate t5), (6, iI t6), (7, iI t7)] []) {t0 t5 t6 t7 t36} (h : L_maglev_May_2 N r1 t0 t5 t6 t7 t36 = some r) : z.G [.c 3685, .b 1, .c 485, .l 37, .b 0, .c 7] [(0, sS gx0 eCandidate t0), (5, sS gx0 eCandidate t5), (6, iI t6), (7, iI t7), (36, .bool t36)] [] :=
 by
  cases t36 with
  | true => exact brT h fun h => (
   z.r [] 3 o0 h)
  | false => exact brF h fun h => (
   z.j [] 5 [0, 5, 6, 7] [] o0 (hr1 h))
theorem g228_1 {N} (gx0 : Bool) {r} (z : Z Tryz.prog ty 228 Tryz.f228 (Fi [] (d228 r) [])) (fuel) : ∀ {t0 t5 t6 t7}, L_maglev_May_1 N fuel t0 t5 t6 t7 = some r → z.G [.c 37, .l 37, .b 0, .c 7] [(0, sS gx0 eCandidate t0), (5, sS gx0 eCandidate t5), (6, iI t6), (7, iI t7)] [] := by
 induction fuel with
 | zero => intro t0 t5 t6 t7 h; cases h
 | succ fuel ih =>
  intro t0 t5 t6 t7 h
  exact
   br h (fun h0 h =>
    ck h fun h1 h =>
    bd h fun v1 h2 h =>
    z.s [(2, [(0, oT)]), (3, [(1, oC (.ip gx0 [iI ((t5.getD t7.toNat default).Id), iI ((t5.getD t7.toNat default).Weight)]))])] 10 (o3 (Le.tt h0) h1 (Le.iptl (g := gx0) (eL_at (xs := t5) eCandidate_len (ixl h1)))) <|
    br h (fun h3 h =>
     z.j [(4, [(2, oR (d198 v1)), (4, oT)])] 1 [0, 5, 6, 7, 36] [] (o2 (c198 h2) (Le.tt h3)) (g228_2 gx0 z @ih h)) fun h3 h =>
    bd h fun v2 h4 h =>
    br h (fun h5 h =>
     z.j [(4, [(2, oR (d198 v1)), (4, oF), (7, oR (d233 v2)), (10, oT)])] 1 [0, 5, 6, 7, 36] [] (o4 (c198 h2) (Le.ff h3) (c233 h4) (Le.tt h5)) (g228_2 gx0 z @ih h)) fun h5 h =>
    br h (fun h6 h =>
     ck h fun h7 h =>
     vi h fun v3 h8 h =>
     z.j [(4, [(2, oR (d198 v1)), (4, oF), (7, oR (d233 v2)), (10, oF), (13, oT), (17, oC (.ip gx0 [iI ((t0.getD (IntKind.i64.wrap (t7 - 1)).toNat default).Id), iI ((t0.getD (IntKind.i64.wrap (t7 - 1)).toNat default).Weight)])), (19, oC (.int .i64 v3))])] 1 [0, 5, 6, 7, 36] [] (o5 (c198 h2) (Le.ff h3) (c233 h4) (Le.ff h5) (o5 (Le.tt h6) h7 (Le.iptl (g := gx0) (eL_at (xs := t0) eCandidate_len (ixl h7))) (List.cons_ne_nil _ _ : ([iI ((t0.getD (IntKind.i64.wrap (t7 - 1)).toNat default).Id), iI ((t0.getD (IntKind.i64.wrap (t7 - 1)).toNat default).Weight)] : List D) ≠ []) (o1 (Le.int (k := .i64) h8)))) (g228_2 gx0 z @ih h)) fun h6 h =>
    z.j [(4, [(2, oR (d198 v1)), (4, oF), (7, oR (d233 v2)), (10, oF), (13, oF)])] 1 [0, 5, 6, 7, 36] [] (o5 (c198 h2) (Le.ff h3) (c233 h4) (Le.ff h5) (o1 (Le.ff h6))) (g228_2 gx0 z @ih h)) fun h0 h =>
   z.r [(2, [(0, oF)])] 7 (o1 (Le.ff h0)) h
theorem c228 {N} (gx0 : Bool) {x0 r} (h : L_maglev_May N x0 = some r) : Con Tryz.prog 228 [sS gx0 eCandidate x0] [] (d228 r) [] :=
 ci ok mix Tryz.f228 fun z =>
 z.j [] 7 [0, 5, 6, 7] [] o0 (g228_1 gx0 z N h)
def L_maglev_repeat_int_1 (N : Nat) : Nat → Int → (List Int) → Int → Int → Option ((List Int))
  | 0, _, _, _, _ => none
  | fuel + 1, t0, b164, t10, t11 =>
  bif (decide (t11 < t10)) then
   if 0 ≤ t11 ∧ t11 < ((b164.length : Nat) : Int) then
   L_maglev_repeat_int_1 N fuel t0 (b164.set t11.toNat t0) t10 (IntKind.i64.wrap (t11 + 1))
   else none
  else
   some b164
def L_maglev_repeat_int (N : Nat) (x0 x1 : Int) : Option ((List Int)) :=
 if 0 ≤ x1 ∧ x1 ≤ x1 ∧ ((8 : Nat) : Int) * x1 ≤ 140737488355328 ∧ x1 ≤ 4611686018427387904 then
 via (((List.replicate (Int.toNat x1) (0 : Int)).length : Int) : Int) fun v1 =>
 L_maglev_repeat_int_1 N N x0 (List.replicate (Int.toNat x1) (0 : Int)) v1 0
 else none
def L_hash_Mix_1 (N : Nat) (t0 t1 : Int) (t13 : Bool) : Option (Int × Int) :=
 bif t13 then
  some (0, 800)
 else
  (L_hash_mix N (IntKind.u32.wrap t0) (IntKind.u32.wrap t1)).bind fun v1 =>
  some ((IntKind.i64.wrap v1), 0)
def L_hash_Mix (N : Nat) (x0 x1 : Int) : Option (Int × Int) :=
 (L_ip_In N x0 32).bind fun v1 =>
 bif (!v1) then
  L_hash_Mix_1 N x0 x1 true
 else
  (L_ip_In N x1 32).bind fun v2 =>
  L_hash_Mix_1 N x0 x1 (!v2)
def d234 (r : Int × Int) : D := .tup [iI r.1, iI r.2]
theorem g234_1 {N} {r} (z : Z Tryz.prog ty 234 Tryz.f234 (Fi [] (d234 r) [])) {t0 t1 t13} (h : L_hash_Mix_1 N t0 t1 t13 = some r) : z.G [.c 13, .c 7] [(0, iI t0), (1, iI t1), (13, .bool t13)] [] :=
 by
  cases t13 with
  | true => exact brT h fun h => (
   z.r [] 3 o0 h)
  | false => exact brF h fun h => (
   bd h fun v1 h1 h =>
   z.r [(3, [(4, oR (d215 v1))])] 4 (o1 (c215 h1)) h)
theorem c234 {N} {x0 x1 r} (h : L_hash_Mix N x0 x1 = some r) : Con Tryz.prog 234 [iI x0, iI x1] [] (d234 r) [] :=
 ci ok mix Tryz.f234 fun z =>
 bd h fun v1 h0 h =>
 br h (fun h1 h =>
  z.j [(1, [(1, oR (d198 v1)), (3, oT)])] 5 [0, 1, 13] [] (o2 (c198 h0) (Le.tt h1)) (g234_1 z h)) fun h1 h =>
 bd h fun v2 h2 h =>
 z.j [(1, [(1, oR (d198 v1)), (3, oF), (5, oR (d198 v2))])] 5 [0, 1, 13] [] (o3 (c198 h0) (Le.ff h1) (c198 h2)) (g234_1 z h)
def L_maglev_begin (N : Nat) (x0 : Int) : Option (Gmaglev_walk) :=
 (L_hash_Mix N 1 x0).bind fun v1 =>
 (L_hash_Mix N 2 x0).bind fun v2 =>
 via ((IntKind.i64.wrap ((1 : Int) + (v2.1.tmod 30))) : Int) fun v3 =>
 some (Gmaglev_walk.mk (v1.1.tmod 31) v3)
def d230 (r : Gmaglev_walk) : D := .agg [iI r.at_, iI r.step_]
theorem c230 {N} {x0 r} (h : L_maglev_begin N x0 = some r) : Con Tryz.prog 230 [iI x0] [] (d230 r) [] :=
 ci ok mix Tryz.f230 fun z =>
 bd h fun v1 h0 h =>
 bd h fun v2 h1 h =>
 vi h fun v3 h2 h =>
 z.r [(1, [(1, oR (d234 v1))]), (2, [(1, oR (d234 v2))]), (3, [(4, oC (.int .i64 v3))])] 8 (o5 (c234 h0) (c234 h1) (by decide : (31:Int) ≠ 0) (by decide : (30:Int) ≠ 0) (o1 (Le.int (k := .i64) h2))) h
def L_maglev_walk_next (N : Nat) (x0i : Nat) (x0 : (List Gmaglev_walk)) : Option ((List Gmaglev_walk)) :=
 if 0 ≤ ((x0i : Nat) : Int) ∧ ((x0i : Nat) : Int) < ((x0.length : Nat) : Int) then
 via ((IntKind.i64.wrap ((x0.getD x0i default).at_ + (x0.getD x0i default).step_)) : Int) fun v1 =>
 some (x0.set x0i (Gmaglev_walk.mk (v1.tmod 31) ((x0.getD x0i default).step_)))
 else none
def d235 (r : (List Gmaglev_walk)) : D := .tup []
def h235 (r : (List Gmaglev_walk)) : List (Nat × Option Blk) := [pB 0 2 (eL emaglev_walk r)]
theorem c235 {N} {x0i x0 r} (h : L_maglev_walk_next N x0i x0 = some r) : Con Tryz.prog 235 [.ptr 0 (x0i * 2 + 0)] [(0, ⟨true, 2, (eL emaglev_walk x0)⟩)] (d235 r) (h235 r) :=
 ci ok mix Tryz.f235 fun z =>
 ck h fun h0 h =>
 vi h fun v1 h1 h =>
 z.rb [(0, [(4, oC (iI ((x0.getD x0i default).at_))), (8, oC (iI ((x0.getD x0i default).step_))), (9, oC (.int .i64 v1)), (13, { cb := [(0, eL emaglev_walk (x0.set x0i (Gmaglev_walk.mk (v1.tmod 31) ((x0.getD x0i default).step_))))] })])] 1 [] (.tup []) (o5 (ld_ne (xs := x0) emaglev_walk_len (ixl h0) (o := 0) (by decide)) (Le.of (ld_hd (xs := x0) emaglev_walk_len (ixl h0) (o := 0) (by decide))) (ld_ne (xs := x0) emaglev_walk_len (ixl h0) (o := 1) (by decide)) (Le.of (ld_hd (xs := x0) emaglev_walk_len (ixl h0) (o := 1) (by decide))) (o4 (Le.int (k := .i64) h1) (by decide : (31:Int) ≠ 0) (st_need (xs := x0) emaglev_walk_len (ixl h0) (o := 0) (k := 1) (vs := [iI (v1.tmod 31)]) (p := true) (by decide) rfl rfl) (st_set (xs := x0) emaglev_walk_len (ixl h0) (o := 0) (vs := [iI (v1.tmod 31)]) (y := (Gmaglev_walk.mk (v1.tmod 31) ((x0.getD x0i default).step_))) (Nat.le_of_ble_eq_true rfl) rfl))) h (Le.of (by kernel_rfl))
def d229v1 (r : (List Int)) : D := rR 1000 r
def h229v1 (r : (List Int)) : List (Nat × Option Blk) := [pB 1000 1 (eL (eInt .i64) r)]
theorem g229v1_1 {N} {r} (z : Z Tryz.prog ty 229 Tryz.f229 (Fi [] (d229v1 r) (h229v1 r))) (fuel) : ∀ {t0 b164 t10 t11}, L_maglev_repeat_int_1 N fuel t0 b164 t10 t11 = some r → z.G [.c 75, .l 75, .b 0, .c 15] [(0, iI t0), (5, rR 164 b164), (10, iI t10), (11, iI t11)] [pB 164 1 (eL (eInt .i64) b164)] := by
 induction fuel with
 | zero => intro t0 b164 t10 t11 h; cases h
 | succ fuel ih =>
  intro t0 b164 t10 t11 h
  exact
   br h (fun h0 h =>
    ck h fun h1 h =>
    z.jL [(3, [(0, oT)]), (5, [(3, oC (.ptr 164 (t11.toNat * 1 + 0))), (4, { cb := [(164, eL (eInt .i64) (b164.set t11.toNat t0))] })])] 13 [0, 5, 10, 11] [(164, 164)] (o5 (Le.tt h0) h1 (Le.pt (b := 164) (k := t11.toNat * 1)) (st_need (xs := b164) (eInt_len .i64) (ixl h1) (o := 0) (k := 1) (vs := [iI t0]) (p := true) (by decide) rfl rfl) (o1 (st_set (xs := b164) (eInt_len .i64) (ixl h1) (o := 0) (vs := [iI t0]) (y := t0) (Nat.le_of_ble_eq_true rfl) rfl))) (.cons (Le.rfl) (.cons (Le.rfs (b := 164) (by first | rfl | omega | (simp only [List.length_append, List.length_take, List.length_drop]; omega) | simp : b164.length = (b164.set t11.toNat t0).length) (by first | rfl | omega | (simp only [List.length_append, List.length_take, List.length_drop]; omega) | simp : b164.length = (b164.set t11.toNat t0).length)) (.cons (Le.rfl) (.cons (Le.rfl) .nil)))) (ih h)) fun h0 h =>
   z.rb [(3, [(0, oF)])] 7 [(1000, 164)] (rR 164 b164) (o1 (Le.ff h0)) h (Le.of (by kernel_rfl))
theorem c229v1 {N} {x0 x1 r} (h : L_maglev_repeat_int N x0 x1 = some r) : Con Tryz.prog 229 [iI x0, iI x1] [] (d229v1 r) (h229v1 r) :=
 ci ok mix Tryz.f229 fun z =>
 ck h fun h0 h =>
 vi h fun v1 h1 h =>
 z.j [(1, [(1, { cv := some (.ref 164 0 (List.replicate (Int.toNat x1) (0 : Int)).length (List.replicate (Int.toNat x1) (0 : Int)).length), cb := [(164, eL (eInt .i64) (List.replicate (Int.toNat x1) (0 : Int)))] })]), (2, [(1, oC (.int .i64 v1))])] 9 [0, 5, 10, 11] [(164, 164)] (o4 h0 (Le.apr (b := 164) (by first | rfl | simp : (List.replicate (Int.toNat x1) (0 : Int)).length = (Int.toNat x1))) (repD_eq (e := (eInt .i64)) (z := 0) (cs := [iI 0]) rfl (Int.toNat x1)) (Le.int (k := .i64) h1)) (g229v1_1 z N h)
def L_maglev_walk_take_1 (N : Nat) : Nat → Nat → (List Gmaglev_walk) → (List Int) → Int → Option ((List Gmaglev_walk) × (List Int))
  | 0, _, _, _, _ => none
  | fuel + 1, t0i, b0, b1, t2 =>
  if 0 ≤ ((t0i : Nat) : Int) ∧ ((t0i : Nat) : Int) < ((b0.length : Nat) : Int) then
  if 0 ≤ (b0.getD t0i default).at_ ∧ (b0.getD t0i default).at_ < ((b1.length : Nat) : Int) then
  bif ((b1.getD ((b0.getD t0i default).at_).toNat default) != (-1)) then
   (L_maglev_walk_next N t0i b0).bind fun v1 =>
   if v1.length = b0.length then
   L_maglev_walk_take_1 N fuel t0i v1 b1 t2
   else none
  else
   if 0 ≤ (b0.getD t0i default).at_ ∧ (b0.getD t0i default).at_ < ((b1.length : Nat) : Int) then
   some (b0, (b1.set ((b0.getD t0i default).at_).toNat t2))
   else none
  else none
  else none
def L_maglev_walk_take (N : Nat) (x0i : Nat) (x0 : (List Gmaglev_walk)) (x1 : (List Int)) (x2 : Int) : Option ((List Gmaglev_walk) × (List Int)) :=
 if 0 ≤ ((x0i : Nat) : Int) ∧ ((x0i : Nat) : Int) < ((x0.length : Nat) : Int) then
 L_maglev_walk_take_1 N N x0i x0 x1 x2
 else none
def d231 (r : (List Gmaglev_walk) × (List Int)) : D := .tup []
def h231 (r : (List Gmaglev_walk) × (List Int)) : List (Nat × Option Blk) := [pB 0 2 (eL emaglev_walk r.1), pB 1 1 (eL (eInt .i64) r.2)]
theorem g231_1 {N} {r C0 C1} (z : Z Tryz.prog ty 231 Tryz.f231 (Fi [(0, ⟨true, 2, C0⟩), (1, ⟨true, 1, C1⟩)] (d231 r) (h231 r))) (fuel) : ∀ {t0i b0 b1 t2}, L_maglev_walk_take_1 N fuel t0i b0 b1 t2 = some r → z.G [.c 8, .l 8, .b 0, .c 3] [(0, .ptr 0 (t0i * 2 + 0)), (1, rR 1 b1), (2, iI t2)] [pB 0 2 (eL emaglev_walk b0), pB 1 1 (eL (eInt .i64) b1)] := by
 induction fuel with
 | zero => intro t0i b0 b1 t2 h; cases h
 | succ fuel ih =>
  intro t0i b0 b1 t2 h
  exact
   ck h fun h0 h =>
   ck h fun h1 h =>
   br h (fun h2 h =>
    bd h fun v1 h3 h =>
    ck h fun h4 h =>
    z.j [(0, [(4, oC (iI ((b0.getD t0i default).at_))), (5, oC (.ptr 1 (((b0.getD t0i default).at_).toNat * 1 + 0))), (6, oC (iI (b1.getD ((b0.getD t0i default).at_).toNat default))), (7, oT)]), (1, [(1, { ρ := [0], r := d235 v1, H := h235 v1 })])] 9 [0, 1, 2] [(0, 0), (1, 1)] (o5 (ld_ne (xs := b0) emaglev_walk_len (ixl h0) (o := 0) (by decide)) (Le.of (ld_hd (xs := b0) emaglev_walk_len (ixl h0) (o := 0) (by decide))) h1 (Le.pt (b := 1) (k := ((b0.getD t0i default).at_).toNat * 1)) (o4 (ld_ne (xs := b1) (eInt_len .i64) (ixl h1) (o := 0) (by decide)) (Le.of (ld_hd (xs := b1) (eInt_len .i64) (ixl h1) (o := 0) (by decide))) (Le.tt h2) (c235 h3))) (ih h)) fun h2 h =>
   ck h fun h3 h =>
   z.rb [(0, [(4, oC (iI ((b0.getD t0i default).at_))), (5, oC (.ptr 1 (((b0.getD t0i default).at_).toNat * 1 + 0))), (6, oC (iI (b1.getD ((b0.getD t0i default).at_).toNat default))), (7, oF)]), (2, [(4, oC (iI ((b0.getD t0i default).at_))), (6, oC (.ptr 1 (((b0.getD t0i default).at_).toNat * 1 + 0))), (7, { cb := [(1, eL (eInt .i64) (b1.set ((b0.getD t0i default).at_).toNat t2))] })])] 6 [] (.tup []) (o5 (ld_ne (xs := b0) emaglev_walk_len (ixl h0) (o := 0) (by decide)) (Le.of (ld_hd (xs := b0) emaglev_walk_len (ixl h0) (o := 0) (by decide))) h1 (Le.pt (b := 1) (k := ((b0.getD t0i default).at_).toNat * 1)) (o5 (ld_ne (xs := b1) (eInt_len .i64) (ixl h1) (o := 0) (by decide)) (Le.of (ld_hd (xs := b1) (eInt_len .i64) (ixl h1) (o := 0) (by decide))) (Le.ff h2) (ld_ne (xs := b0) emaglev_walk_len (ixl h0) (o := 0) (by decide)) (o5 (Le.of (ld_hd (xs := b0) emaglev_walk_len (ixl h0) (o := 0) (by decide))) h3 (Le.pt (b := 1) (k := ((b0.getD t0i default).at_).toNat * 1)) (st_need (xs := b1) (eInt_len .i64) (ixl h3) (o := 0) (k := 1) (vs := [iI t2]) (p := true) (by decide) rfl rfl) (o1 (st_set (xs := b1) (eInt_len .i64) (ixl h3) (o := 0) (vs := [iI t2]) (y := t2) (Nat.le_of_ble_eq_true rfl) rfl))))) h (Le.of (by kernel_rfl))
theorem c231 {N} {x0i x0 x1 x2 r} (h : L_maglev_walk_take N x0i x0 x1 x2 = some r) : Con Tryz.prog 231 [.ptr 0 (x0i * 2 + 0), rR 1 x1, iI x2] [(0, ⟨true, 2, (eL emaglev_walk x0)⟩), (1, ⟨true, 1, (eL (eInt .i64) x1)⟩)] (d231 r) (h231 r) :=
 ci ok mix Tryz.f231 fun z =>
 ck h fun h0 h =>
 z.j [] 3 [0, 1, 2] [(0, 0), (1, 1)] o0 (g231_1 z N h)
def L_maglev_Build_4 (N : Nat) (r2 : (List GCandidate) → (List Int) → (List Gmaglev_walk) → Int → Option ((List Int) × Int)) (r3 : (List GCandidate) → (List Int) → (List Gmaglev_walk) → Int → (List GCandidate) → Int → Int → Option ((List Int) × Int)) : Nat → (List GCandidate) → (List Int) → (List Gmaglev_walk) → Int → Int → Int → Int → Int → (List GCandidate) → Int → Int → Option ((List Int) × Int)
  | 0, _, _, _, _, _, _, _, _, _, _, _ => none
  | fuel + 1, t0, b244, b140, t8, t9, b180_0, b180_1, t11, t34, t35, t36 =>
  bif (decide (t11 > 0)) then
   if 0 ≤ t9 ∧ t9 < ((b140.length : Nat) : Int) then
   (L_maglev_walk_take N t9.toNat b140 b244 b180_0).bind fun v1 =>
   if v1.1.length = b140.length then
   if v1.2.length = b244.length then
   L_maglev_Build_4 N r2 r3 fuel t0 v1.2 v1.1 (IntKind.i64.wrap (t8 - 1)) t9 b180_0 b180_1 (IntKind.i64.wrap (t11 - 1)) t34 t35 t36
   else none
   else none
   else none
  else
   r3 t0 b244 b140 t8 t34 t35 (IntKind.i64.wrap (t36 + 1))
def L_maglev_Build_3 (N : Nat) (r2 : (List GCandidate) → (List Int) → (List Gmaglev_walk) → Int → Option ((List Int) × Int)) : Nat → (List GCandidate) → (List Int) → (List Gmaglev_walk) → Int → (List GCandidate) → Int → Int → Option ((List Int) × Int)
  | 0, _, _, _, _, _, _, _ => none
  | fuel + 1, t0, b244, b140, t8, t34, t35, t36 =>
  bif (decide (t36 < t35)) then
   if 0 ≤ t36 ∧ t36 < ((t34.length : Nat) : Int) then
   via ((if decide (t8 < (t34.getD t36.toNat default).Weight) then t8 else (t34.getD t36.toNat default).Weight) : Int) fun v1 =>
   L_maglev_Build_4 N r2 (L_maglev_Build_3 N r2 fuel) N t0 b244 b140 t8 t36 ((t34.getD t36.toNat default).Id) ((t34.getD t36.toNat default).Weight) v1 t34 t35 t36
   else none
  else
   r2 t0 b244 b140 t8
def L_maglev_Build_2 (N : Nat) : Nat → (List GCandidate) → (List Int) → (List Gmaglev_walk) → Int → Option ((List Int) × Int)
  | 0, _, _, _, _ => none
  | fuel + 1, t0, b244, b140, t8 =>
  bif (decide (t8 > 0)) then
   L_maglev_Build_3 N (L_maglev_Build_2 N fuel) N t0 b244 b140 t8 t0 (t0.length : Int) 0
  else
   some (b244, 0)
def L_maglev_Build_1 (N : Nat) : Nat → (List GCandidate) → (List Int) → (List Gmaglev_walk) → (List GCandidate) → Int → Int → Option ((List Int) × Int)
  | 0, _, _, _, _, _, _ => none
  | fuel + 1, t0, b244, b140, t19, t20, t21 =>
  bif (decide (t21 < t20)) then
   if 0 ≤ t21 ∧ t21 < ((t19.length : Nat) : Int) then
   (L_maglev_begin N ((t19.getD t21.toNat default).Id)).bind fun v1 =>
   if growOk 16 (b140.length + 1) then
   L_maglev_Build_1 N fuel t0 b244 (b140 ++ [v1]) t19 t20 (IntKind.i64.wrap (t21 + 1))
   else none
   else none
  else
   L_maglev_Build_2 N N t0 b244 b140 31
def L_maglev_Build (N : Nat) (x0 : (List GCandidate)) : Option ((List Int) × Int) :=
 (L_maglev_May N x0).bind fun v1 =>
 bif (!v1) then
  some ([], 900)
 else
  bif ((x0.length : Int) == 0) then
   some ([], 0)
  else
   (L_maglev_repeat_int N (-1) 31).bind fun v2 =>
   L_maglev_Build_1 N N x0 v2 ([]) x0 (x0.length : Int) 0
def d216 (r : (List Int) × Int) : D := .tup [sS true (eInt .i64) r.1, iI r.2]
theorem g216_4 {N} (gx0 : Bool) {r} (z : Z Tryz.prog ty 216 Tryz.f216 (Fi [] (d216 r) [])) {r2 : (List GCandidate) → (List Int) → (List Gmaglev_walk) → Int → Option ((List Int) × Int)} {r3 : (List GCandidate) → (List Int) → (List Gmaglev_walk) → Int → (List GCandidate) → Int → Int → Option ((List Int) × Int)} (hr2 : ∀ {t0 b244 b140 t8}, r2 t0 b244 b140 t8 = some r → z.G [.c 1215, .l 1215, .b 2, .c 255] [(0, sS gx0 eCandidate t0), (4, rR 244 b244), (5, rR 140 b140), (8, iI t8)] [pB 244 1 (eL (eInt .i64) b244), pB 140 2 (eL emaglev_walk b140)]) (hr3 : ∀ {t0 b244 b140 t8 t34 t35 t36}, r3 t0 b244 b140 t8 t34 t35 t36 = some r → z.G [.c 38079, .l 38079, .b 4, .b 3, .l 1215, .b 2, .c 255] [(0, sS gx0 eCandidate t0), (4, rR 244 b244), (5, rR 140 b140), (8, iI t8), (34, sS gx0 eCandidate t34), (35, iI t35), (36, iI t36)] [pB 244 1 (eL (eInt .i64) b244), pB 140 2 (eL emaglev_walk b140)]) (fuel) : ∀ {t0 b244 b140 t8 t9 b180_0 b180_1 t11 t34 t35 t36}, L_maglev_Build_4 N r2 r3 fuel t0 b244 b140 t8 t9 b180_0 b180_1 t11 t34 t35 t36 = some r → z.G [.c 10065087, .l 10065087, .b 6, .b 5, .c 496831, .l 38079, .b 4, .b 3, .l 1215, .b 2, .c 255] [(0, sS gx0 eCandidate t0), (4, rR 244 b244), (5, rR 140 b140), (8, iI t8), (9, iI t9), (10, .ptr 180 0), (11, iI t11), (34, sS gx0 eCandidate t34), (35, iI t35), (36, iI t36)] [pB 244 1 (eL (eInt .i64) b244), pB 140 2 (eL emaglev_walk b140), qB 180 [iI b180_0, iI b180_1]] := by
 induction fuel with
 | zero => intro t0 b244 b140 t8 t9 b180_0 b180_1 t11 t34 t35 t36 h; cases h
 | succ fuel ih =>
  intro t0 b244 b140 t8 t9 b180_0 b180_1 t11 t34 t35 t36 h
  exact
   br h (fun h0 h =>
    ck h fun h1 h =>
    bd h fun v1 h2 h =>
    ck h fun h3 h =>
    ck h fun h4 h =>
    z.jL [(18, [(1, oT)]), (20, [(2, oC (.ptr 140 (t9.toNat * 2 + 0))), (6, { ρ := [140, 244], r := d231 v1, H := h231 v1 })])] 13 [0, 4, 5, 8, 9, 10, 11, 34, 35, 36] [(244, 244), (140, 140), (180, 180)] (o4 (Le.tt h0) h1 (Le.pt (b := 140) (k := t9.toNat * 2)) (c231 h2)) (.cons (Le.rfl) (.cons (Le.rfs (b := 244) (by first | rfl | omega | (simp only [List.length_append, List.length_take, List.length_drop]; omega) | simp : b244.length = v1.2.length) (by first | rfl | omega | (simp only [List.length_append, List.length_take, List.length_drop]; omega) | simp : b244.length = v1.2.length)) (.cons (Le.rfs (b := 140) (by first | rfl | omega | (simp only [List.length_append, List.length_take, List.length_drop]; omega) | simp : b140.length = v1.1.length) (by first | rfl | omega | (simp only [List.length_append, List.length_take, List.length_drop]; omega) | simp : b140.length = v1.1.length)) (.cons (Le.rfl) (.cons (Le.rfl) (.cons (Le.rfl) (.cons (Le.rfl) (.cons (Le.rfl) (.cons (Le.rfl) (.cons (Le.rfl) .nil)))))))))) (ih h)) fun h0 h =>
   z.j [(18, [(1, oF)])] 8 [0, 4, 5, 8, 34, 35, 36] [(244, 244), (140, 140)] (o1 (Le.ff h0)) (hr3 h)
theorem g216_3 {N} (gx0 : Bool) {r} (z : Z Tryz.prog ty 216 Tryz.f216 (Fi [] (d216 r) [])) {r2 : (List GCandidate) → (List Int) → (List Gmaglev_walk) → Int → Option ((List Int) × Int)} (hr2 : ∀ {t0 b244 b140 t8}, r2 t0 b244 b140 t8 = some r → z.G [.c 1215, .l 1215, .b 2, .c 255] [(0, sS gx0 eCandidate t0), (4, rR 244 b244), (5, rR 140 b140), (8, iI t8)] [pB 244 1 (eL (eInt .i64) b244), pB 140 2 (eL emaglev_walk b140)]) (fuel) : ∀ {t0 b244 b140 t8 t34 t35 t36}, L_maglev_Build_3 N r2 fuel t0 b244 b140 t8 t34 t35 t36 = some r → z.G [.c 38079, .l 38079, .b 4, .b 3, .l 1215, .b 2, .c 255] [(0, sS gx0 eCandidate t0), (4, rR 244 b244), (5, rR 140 b140), (8, iI t8), (34, sS gx0 eCandidate t34), (35, iI t35), (36, iI t36)] [pB 244 1 (eL (eInt .i64) b244), pB 140 2 (eL emaglev_walk b140)] := by
 induction fuel with
 | zero => intro t0 b244 b140 t8 t34 t35 t36 h; cases h
 | succ fuel ih =>
  intro t0 b244 b140 t8 t34 t35 t36 h
  exact
   br h (fun h0 h =>
    ck h fun h1 h =>
    vi h fun v1 h2 h =>
    z.j [(15, [(0, oT)]), (16, [(1, oC (.ip gx0 [iI ((t34.getD t36.toNat default).Id), iI ((t34.getD t36.toNat default).Weight)]))]), (17, [(3, oC (.int .i64 v1))])] 13 [0, 4, 5, 8, 9, 10, 11, 34, 35, 36] [(244, 244), (140, 140), (180, 180)] (o4 (Le.tt h0) h1 (Le.iptl (g := gx0) (eL_at (xs := t34) eCandidate_len (ixl h1))) (Le.int (k := .i64) h2)) (g216_4 gx0 z @hr2 @ih N h)) fun h0 h =>
   z.j [(15, [(0, oF)])] 7 [0, 4, 5, 8] [(244, 244), (140, 140)] (o1 (Le.ff h0)) (hr2 h)
theorem g216_2 {N} (gx0 : Bool) {r} (z : Z Tryz.prog ty 216 Tryz.f216 (Fi [] (d216 r) [])) (fuel) : ∀ {t0 b244 b140 t8}, L_maglev_Build_2 N fuel t0 b244 b140 t8 = some r → z.G [.c 1215, .l 1215, .b 2, .c 255] [(0, sS gx0 eCandidate t0), (4, rR 244 b244), (5, rR 140 b140), (8, iI t8)] [pB 244 1 (eL (eInt .i64) b244), pB 140 2 (eL emaglev_walk b140)] := by
 induction fuel with
 | zero => intro t0 b244 b140 t8 h; cases h
 | succ fuel ih =>
  intro t0 b244 b140 t8 h
  exact
   br h (fun h0 h =>
    z.j [(13, [(1, oT)])] 10 [0, 4, 5, 8, 34, 35, 36] [(244, 244), (140, 140)] (o1 (Le.tt h0)) (g216_3 gx0 z @ih N h)) fun h0 h =>
   z.r [(13, [(1, oF)]), (23, [(1, { frz := true })])] 7 (o1 (Le.ff h0)) h
theorem g216_1 {N} (gx0 : Bool) {r} (z : Z Tryz.prog ty 216 Tryz.f216 (Fi [] (d216 r) [])) (fuel) : ∀ {t0 b244 b140 t19 t20 t21}, L_maglev_Build_1 N fuel t0 b244 b140 t19 t20 t21 = some r → z.G [.c 607, .l 607, .b 0, .c 127] [(0, sS gx0 eCandidate t0), (4, rR 244 b244), (5, rR 140 b140), (19, sS gx0 eCandidate t19), (20, iI t20), (21, iI t21)] [pB 244 1 (eL (eInt .i64) b244), pB 140 2 (eL emaglev_walk b140)] := by
 induction fuel with
 | zero => intro t0 b244 b140 t19 t20 t21 h; cases h
 | succ fuel ih =>
  intro t0 b244 b140 t19 t20 t21 h
  exact
   br h (fun h0 h =>
    ck h fun h1 h =>
    bd h fun v1 h2 h =>
    ck h fun h3 h =>
    z.j [(8, [(0, oT)]), (9, [(0, oC (.ip gx0 [iI ((t19.getD t21.toNat default).Id), iI ((t19.getD t21.toNat default).Weight)]))]), (10, [(3, oR (d230 v1)), (5, { cv := some (.ref 340 0 (b140 ++ [v1]).length (b140 ++ [v1]).length), cb := [(340, eL emaglev_walk (b140 ++ [v1]))] })])] 13 [0, 4, 5, 19, 20, 21] [(244, 244), (340, 140)] (o5 (Le.tt h0) h1 (Le.iptl (g := gx0) (eL_at (xs := t19) eCandidate_len (ixl h1))) (c230 h2) (o5 (by decide : 1 * 2 ≤ 2) (ap_len (xs := b140) emaglev_walk_len) h3 (Le.apr (b := 340) (by first | rfl | (simp only [List.length_append, List.length_take, List.length_drop]; omega) | simp : (b140 ++ [v1]).length = b140.length + 1)) (o1 (ap_one (xs := b140) emaglev_walk_len (y := v1) (cs := [iI v1.at_, iI v1.step_]) rfl)))) (ih h)) fun h0 h =>
   z.j [(8, [(0, oF)])] 10 [0, 4, 5, 8] [(244, 244), (140, 140)] (o1 (Le.ff h0)) (g216_2 gx0 z N h)
theorem c216 {N} (gx0 : Bool) {x0 r} (h : L_maglev_Build N x0 = some r) : Con Tryz.prog 216 [sS gx0 eCandidate x0] [] (d216 r) [] :=
 ci ok mix Tryz.f216 fun z =>
 bd h fun v1 h0 h =>
 br h (fun h1 h =>
  z.rl [(1, [(1, oR (d228 v1)), (2, oT)])] 8 (.tup [.nils, iI 900]) (o2 (c228 gx0 h0) (Le.tt h1)) h (Le.tup ((.cons (Le.nils (g := true)) (.cons (Le.of rfl) .nil))))) fun h1 h =>
 z.s [(1, [(1, oR (d228 v1)), (2, oF)])] 9 (o2 (c228 gx0 h0) (Le.ff h1)) <|
 br h (fun h2 h =>
  z.rl [(3, [(2, oT)])] 4 (.tup [.nils, iI 0]) (o1 (Le.tt h2)) h (Le.tup ((.cons (Le.nils (g := true)) (.cons (Le.of rfl) .nil))))) fun h2 h =>
 bd h fun v2 h3 h =>
 z.j [(3, [(2, oF)]), (5, [(0, { r := d229v1 v2, H := h229v1 v2 })]), (6, [(0, { own := some (2) })])] 12 [0, 4, 5, 19, 20, 21] [(244, 244), (140, 140)] (o2 (Le.ff h2) (c229v1 h3)) (g216_1 gx0 z N h)
def L_maglev_Pick_1 (N : Nat) (t1 : Int) (t7 : (List Int)) (t14 : Bool) : Option (Int × Bool × Int) :=
 bif t14 then
  some (0, false, 900)
 else
  bif ((t7.length : Int) == 0) then
   some (0, false, 0)
  else
   if 0 ≤ (t1.tmod 31) ∧ (t1.tmod 31) < ((t7.length : Nat) : Int) then
   some ((t7.getD (t1.tmod 31).toNat default), true, 0)
   else none
def L_maglev_Pick (N : Nat) (x0 : (List GCandidate)) (x1 : Int) : Option (Int × Bool × Int) :=
 (L_maglev_Build N x0).bind fun v1 =>
 bif (v1.2 != 0) then
  L_maglev_Pick_1 N x1 v1.1 true
 else
  L_maglev_Pick_1 N x1 v1.1 (decide (x1 < 0))
def d183 (r : Int × Bool × Int) : D := .tup [iI r.1, .bool r.2.1, iI r.2.2]
theorem g183_1 {N} (gx0 : Bool) {r} (z : Z Tryz.prog ty 183 Tryz.f183 (Fi [] (d183 r) [])) {t1 t7 t14} (h : L_maglev_Pick_1 N t1 t7 t14 = some r) : z.G [.c 51, .b 0, .c 15] [(1, iI t1), (7, sS true (eInt .i64) t7), (14, .bool t14)] [] :=
 by
  cases t14 with
  | true => exact brT h fun h => (
   z.r [] 3 o0 h)
  | false => exact brF h fun h => (
   br h (fun h1 h =>
    z.r [(4, [(3, oT)])] 6 (o1 (Le.tt h1)) h) fun h1 h =>
   ck h fun h2 h =>
   z.r [(4, [(3, oF)]), (6, [(3, oC (.ip true [iI (t7.getD (t1.tmod 31).toNat default)]))])] 8 (o4 (Le.ff h1) (by decide : (31:Int) ≠ 0) h2 (Le.iptl (g := true) (eL_at (xs := t7) (eInt_len .i64) (ixl h2)))) h)
theorem c183 {N} (gx0 : Bool) {x0 x1 r} (h : L_maglev_Pick N x0 x1 = some r) : Con Tryz.prog 183 [sS gx0 eCandidate x0, iI x1] [] (d183 r) [] :=
 ci ok mix Tryz.f183 fun z =>
 bd h fun v1 h0 h =>
 z.s [(1, [(1, oR (d216 v1))])] 7 (o1 (c216 gx0 h0)) <|
 br h (fun h1 h =>
  z.j [(2, [(2, oT)])] 1 [1, 7, 14] [] (o1 (Le.tt h1)) (g183_1 gx0 z h)) fun h1 h =>
 z.j [(2, [(2, oF)])] 1 [1, 7, 14] [] (o1 (Le.ff h1)) (g183_1 gx0 z h)
def L_edge_Choose (N : Nat) (x0 : (List GCandidate)) (x1 : Int) (x2 : GFlow) : Option (Int × Bool) :=
 (L_hash_Flow N x1 x2).bind fun v1 =>
 (L_maglev_Pick N x0 v1.1).bind fun v2 =>
 some (v2.1, v2.2.1)
def d132 (r : Int × Bool) : D := .tup [iI r.1, .bool r.2]
theorem c132 {N} (gx0 : Bool) {x0 x1 x2 r} (h : L_edge_Choose N x0 x1 x2 = some r) : Con Tryz.prog 132 [sS gx0 eCandidate x0, iI x1, .agg [iI x2.Src, iI x2.Dst, iI x2.Proto, iI x2.Sport, iI x2.Dport]] [] (d132 r) [] :=
 ci ok mix Tryz.f132 fun z =>
 bd h fun v1 h0 h =>
 bd h fun v2 h1 h =>
 z.r [(1, [(2, oR (d182 v1))]), (2, [(2, oR (d183 v2))])] 8 (o2 (c182 h0) (c183 gx0 h1)) h
def L_site_node_away (N : Nat) (x0 : Gsite_node) (x1 : GFlow) : Option (Int × Bool) :=
 (L_spare_Full N x0.Node).bind fun v1 =>
 bif (!v1.1) then
  some (0, false)
 else
  (L_spare_Targets N x0.Node x0.now_).bind fun v2 =>
  (L_edge_Choose N v2.1 2 x1).bind fun v3 =>
  some (v3.1, v3.2)
def d208 (r : Int × Bool) : D := .tup [iI r.1, .bool r.2]
theorem c208 {N} (gx0 : Bool) {x0 x1 r} (h : L_site_node_away N x0 x1 = some r) : Con Tryz.prog 208 [.ip gx0 [iI x0.Node.Id, iI x0.Node.Config.Version, sS true (eSite true) x0.Node.Config.Sites, sS true eHealth x0.Node.Health, sS true eSeen x0.Node.Seen, sS true eEntry x0.Node.Flows, iI x0.Node.Serial, iI x0.Teller.Role, iI x0.Teller.Site, iI x0.Teller.Node, iI x0.now_], .agg [iI x1.Src, iI x1.Dst, iI x1.Proto, iI x1.Sport, iI x1.Dport]] [] (d208 r) [] :=
 ci ok mix Tryz.f208 fun z =>
 bd h fun v1 h0 h =>
 z.s [(1, [(4, oR (d224 v1))])] 6 (o1 (c224 h0)) <|
 br h (fun h1 h =>
  z.r [(2, [(1, oT)])] 4 (o1 (Le.tt h1)) h) fun h1 h =>
 bd h fun v2 h2 h =>
 bd h fun v3 h3 h =>
 z.r [(2, [(1, oF)]), (4, [(8, oR (d225 v2))]), (5, [(2, oR (d132 v3))])] 7 (o3 (Le.ff h1) (c225 true h2) (c132 true h3)) h
def L_site_node_pinned_2 (N : Nat) (t0 : Gsite_node) (b132_0 b132_1 b132_2 b132_3 b132_4 b148_0 b148_1 b148_2 b148_3 b148_4 b148_5 : Int) (b148_6 : Bool) (b148_7 b148_8 : Int) : Option (GEntry × Bool) :=
 (L_cand_Backs N t0.Node.Config t0.Node.Id t0.Node.Health).bind fun v1 =>
 (L_edge_Choose N v1.1 1 (GFlow.mk b132_0 b132_1 b132_2 b132_3 b132_4)).bind fun v2 =>
 some ((GEntry.mk (GFlow.mk b132_0 b132_1 b132_2 b132_3 b132_4) v2.1 false 0 0), v2.2)
def L_site_node_pinned_1 (N : Nat) (t0 : Gsite_node) (t2 : Bool) (b132_0 b132_1 b132_2 b132_3 b132_4 b148_0 b148_1 b148_2 b148_3 b148_4 b148_5 : Int) (b148_6 : Bool) (b148_7 b148_8 b164_0 b164_1 b164_2 b164_3 b164_4 b164_5 : Int) (b164_6 : Bool) (b164_7 b164_8 : Int) (t35 : Bool) : Option (GEntry × Bool) :=
 bif t35 then
  some ((GEntry.mk (GFlow.mk b164_0 b164_1 b164_2 b164_3 b164_4) b164_5 b164_6 b164_7 b164_8), true)
 else
  bif (!t2) then
   (L_site_node_away N t0 (GFlow.mk b132_0 b132_1 b132_2 b132_3 b132_4)).bind fun v1 =>
   bif v1.2 then
    some ((GEntry.mk (GFlow.mk b132_0 b132_1 b132_2 b132_3 b132_4) v1.1 true 0 0), true)
   else
    L_site_node_pinned_2 N t0 b132_0 b132_1 b132_2 b132_3 b132_4 b148_0 b148_1 b148_2 b148_3 b148_4 b148_5 b148_6 b148_7 b148_8
  else
   L_site_node_pinned_2 N t0 b132_0 b132_1 b132_2 b132_3 b132_4 b148_0 b148_1 b148_2 b148_3 b148_4 b148_5 b148_6 b148_7 b148_8
def L_site_node_pinned (N : Nat) (x0 : Gsite_node) (x1 : GFlow) (x2 : Bool) : Option (GEntry × Bool) :=
 (L_cache_Find N x0.Node.Flows x1 x0.now_).bind fun v1 =>
 bif v1.2 then
  (L_site_node_holds N x0 v1.1 x2).bind fun v2 =>
  L_site_node_pinned_1 N x0 x2 x1.Src x1.Dst x1.Proto x1.Sport x1.Dport 0 0 0 0 0 0 false 0 0 v1.1.Flow.Src v1.1.Flow.Dst v1.1.Flow.Proto v1.1.Flow.Sport v1.1.Flow.Dport v1.1.To v1.1.Away v1.1.Phase v1.1.Used v2
 else
  L_site_node_pinned_1 N x0 x2 x1.Src x1.Dst x1.Proto x1.Sport x1.Dport 0 0 0 0 0 0 false 0 0 v1.1.Flow.Src v1.1.Flow.Dst v1.1.Flow.Proto v1.1.Flow.Sport v1.1.Flow.Dport v1.1.To v1.1.Away v1.1.Phase v1.1.Used false
def d162 (r : GEntry × Bool) : D := .tup [.agg [iI r.1.Flow.Src, iI r.1.Flow.Dst, iI r.1.Flow.Proto, iI r.1.Flow.Sport, iI r.1.Flow.Dport, iI r.1.To, .bool r.1.Away, iI r.1.Phase, iI r.1.Used], .bool r.2]
theorem g162_2 {N} (gx0 : Bool) {r} (z : Z Tryz.prog ty 162 Tryz.f162 (Fi [] (d162 r) [])) {t0 b132_0 b132_1 b132_2 b132_3 b132_4 b148_0 b148_1 b148_2 b148_3 b148_4 b148_5 b148_6 b148_7 b148_8} (h : L_site_node_pinned_2 N t0 b132_0 b132_1 b132_2 b132_3 b132_4 b148_0 b148_1 b148_2 b148_3 b148_4 b148_5 b148_6 b148_7 b148_8 = some r) : z.G [.c 15] [(0, .ip gx0 [iI t0.Node.Id, iI t0.Node.Config.Version, sS true (eSite true) t0.Node.Config.Sites, sS true eHealth t0.Node.Health, sS true eSeen t0.Node.Seen, sS true eEntry t0.Node.Flows, iI t0.Node.Serial, iI t0.Teller.Role, iI t0.Teller.Site, iI t0.Teller.Node, iI t0.now_]), (4, .ptr 132 0), (6, .ptr 148 0)] [qB 132 [iI b132_0, iI b132_1, iI b132_2, iI b132_3, iI b132_4], qB 148 [iI b148_0, iI b148_1, iI b148_2, iI b148_3, iI b148_4, iI b148_5, .bool b148_6, iI b148_7, iI b148_8]] :=
 bd h fun v1 h0 h =>
 bd h fun v2 h1 h =>
 z.r [(8, [(15, oR (d209 v1))]), (9, [(2, oR (d132 v2))])] 6 (o2 (c209 true h0) (c132 true h1)) h
theorem g162_1 {N} (gx0 : Bool) {r} (z : Z Tryz.prog ty 162 Tryz.f162 (Fi [] (d162 r) [])) {t0 t2 b132_0 b132_1 b132_2 b132_3 b132_4 b148_0 b148_1 b148_2 b148_3 b148_4 b148_5 b148_6 b148_7 b148_8 b164_0 b164_1 b164_2 b164_3 b164_4 b164_5 b164_6 b164_7 b164_8 t35} (h : L_site_node_pinned_1 N t0 t2 b132_0 b132_1 b132_2 b132_3 b132_4 b148_0 b148_1 b148_2 b148_3 b148_4 b148_5 b148_6 b148_7 b148_8 b164_0 b164_1 b164_2 b164_3 b164_4 b164_5 b164_6 b164_7 b164_8 t35 = some r) : z.G [.c 29, .c 7] [(0, .ip gx0 [iI t0.Node.Id, iI t0.Node.Config.Version, sS true (eSite true) t0.Node.Config.Sites, sS true eHealth t0.Node.Health, sS true eSeen t0.Node.Seen, sS true eEntry t0.Node.Flows, iI t0.Node.Serial, iI t0.Teller.Role, iI t0.Teller.Site, iI t0.Teller.Node, iI t0.now_]), (2, .bool t2), (4, .ptr 132 0), (6, .ptr 148 0), (8, .ptr 164 0), (35, .bool t35)] [qB 132 [iI b132_0, iI b132_1, iI b132_2, iI b132_3, iI b132_4], qB 148 [iI b148_0, iI b148_1, iI b148_2, iI b148_3, iI b148_4, iI b148_5, .bool b148_6, iI b148_7, iI b148_8], qB 164 [iI b164_0, iI b164_1, iI b164_2, iI b164_3, iI b164_4, iI b164_5, .bool b164_6, iI b164_7, iI b164_8]] :=
 by
  cases t35 with
  | true => exact brT h fun h => (
   z.r [] 3 o0 h)
  | false => exact brF h fun h => (
   br h (fun h1 h =>
    bd h fun v1 h2 h =>
    z.s [(4, [(1, oT)]), (5, [(2, oR (d208 v1))])] 9 (o2 (Le.tt h1) (c208 gx0 h2)) <|
    br h (fun h3 h =>
     z.r [(6, [(0, oT)])] 4 (o1 (Le.tt h3)) h) fun h3 h =>
    z.j [(6, [(0, oF)])] 3 [0, 4, 6] [(132, 132), (148, 148)] (o1 (Le.ff h3)) (g162_2 gx0 z h)) fun h1 h =>
   z.j [(4, [(1, oF)])] 7 [0, 4, 6] [(132, 132), (148, 148)] (o1 (Le.ff h1)) (g162_2 gx0 z h))
theorem c162 {N} (gx0 : Bool) {x0 x1 x2 r} (h : L_site_node_pinned N x0 x1 x2 = some r) : Con Tryz.prog 162 [.ip gx0 [iI x0.Node.Id, iI x0.Node.Config.Version, sS true (eSite true) x0.Node.Config.Sites, sS true eHealth x0.Node.Health, sS true eSeen x0.Node.Seen, sS true eEntry x0.Node.Flows, iI x0.Node.Serial, iI x0.Teller.Role, iI x0.Teller.Site, iI x0.Teller.Node, iI x0.now_], .agg [iI x1.Src, iI x1.Dst, iI x1.Proto, iI x1.Sport, iI x1.Dport], .bool x2] [] (d162 r) [] :=
 ci ok mix Tryz.f162 fun z =>
 bd h fun v1 h0 h =>
 z.s [(1, [(10, oR (d129 v1))])] 6 (o1 (c129 true h0)) <|
 br h (fun h1 h =>
  bd h fun v2 h2 h =>
  z.j [(2, [(1, oT), (4, oR (d207 v2))])] 1 [0, 2, 4, 6, 8, 35] [(132, 132), (148, 148), (164, 164)] (o2 (Le.tt h1) (c207 gx0 false h2)) (g162_1 gx0 z h)) fun h1 h =>
 z.j [(2, [(1, oF)])] 1 [0, 2, 4, 6, 8, 35] [(132, 132), (148, 148), (164, 164)] (o1 (Le.ff h1)) (g162_1 gx0 z h)
def L_site_node_head (N : Nat) (x0 : Gsite_node) (x1 : GEntry) (x2 x3 : ByteArray) : Option (GOuter) :=
 (L_addr_Address N 1 x0.Node.Id 0).bind fun v1 =>
 bif x1.Away then
  (L_addr_Address N 1 x1.To 0).bind fun v2 =>
  some (GOuter.mk v1.1 v2.1 2 1 (IntKind.i64.wrap (x0.Node.Id + 1)) x2)
 else
  (L_addr_Address N 2 x0.Node.Id x1.To).bind fun v2 =>
  some (GOuter.mk v1.1 v2.1 3 0 0 x3)
def d163 (r : GOuter) : D := .agg [iI r.Src, iI r.Dst, iI r.Tier, iI r.Marker, iI r.Origin, .str r.Body]
theorem c163 {N} (gx0 gx1 : Bool) {x0 x1 x2 x3 r} (h : L_site_node_head N x0 x1 x2 x3 = some r) : Con Tryz.prog 163 [.ip gx0 [iI x0.Node.Id, iI x0.Node.Config.Version, sS true (eSite true) x0.Node.Config.Sites, sS true eHealth x0.Node.Health, sS true eSeen x0.Node.Seen, sS true eEntry x0.Node.Flows, iI x0.Node.Serial, iI x0.Teller.Role, iI x0.Teller.Site, iI x0.Teller.Node, iI x0.now_], .ip gx1 [iI x1.Flow.Src, iI x1.Flow.Dst, iI x1.Flow.Proto, iI x1.Flow.Sport, iI x1.Flow.Dport, iI x1.To, .bool x1.Away, iI x1.Phase, iI x1.Used], .str x2, .str x3] [] (d163 r) [] :=
 ci ok mix Tryz.f163 fun z =>
 bd h fun v1 h0 h =>
 z.s [(2, [(5, oR (d65 v1))])] 8 (o1 (c65 h0)) <|
 br h (fun h1 h =>
  bd h fun v2 h2 h =>
  z.r [(3, [(3, oT)]), (5, [(4, oR (d65 v2))])] 8 (o3 (List.cons_ne_nil _ _ : ([.bool x1.Away, iI x1.Phase, iI x1.Used] : List D) ≠ []) (Le.tt h1) (c65 h2)) h) fun h1 h =>
 bd h fun v2 h2 h =>
 z.r [(3, [(3, oF)]), (7, [(9, oR (d65 v2))])] 7 (o3 (List.cons_ne_nil _ _ : ([.bool x1.Away, iI x1.Phase, iI x1.Used] : List D) ≠ []) (Le.ff h1) (c65 h2)) h
def L_track_Flags (N : Nat) (x0 : Int) : Option (Bool) :=
 (L_ip_In N x0 6).bind fun v1 =>
 some v1
def d220 (r : Bool) : D := .bool r
theorem c220 {N} {x0 r} (h : L_track_Flags N x0 = some r) : Con Tryz.prog 220 [iI x0] [] (d220 r) [] :=
 ci ok mix Tryz.f220 fun z =>
 bd h fun v1 h0 h =>
 z.r [(1, [(1, oR (d198 v1))])] 4 (o1 (c198 h0)) h
def L_track_Step_f1 (N : Nat) (x0 x1_0 : Int) : Option (Bool) :=
 some ((bAnd .i64 x1_0 x0) != 0)
def d221 (r : Bool) : D := .bool r
theorem c221 {N} (gx1 : Bool) {x0 x1_0 r} (h : L_track_Step_f1 N x0 x1_0 = some r) : Con Tryz.prog 221 [iI x0, .ip gx1 [iI x1_0]] [] (d221 r) [] :=
 ci ok mix Tryz.f221 fun z =>
 z.r [] 4 o0 h
def L_track_Step_2 (N : Nat) (t0 b124_0 : Int) (t19 : Bool) : Option (Int × Int) :=
 bif t19 then
  some (0, 0)
 else
  (L_track_Step_f1 N 1 b124_0).bind fun v1 =>
  bif v1 then
   via ((if decide (2 < (IntKind.i64.wrap (t0 + 1))) then 2 else (IntKind.i64.wrap (t0 + 1))) : Int) fun v2 =>
   some (v2, 0)
  else
   some (t0, 0)
def L_track_Step_1 (N : Nat) (t0 b124_0 : Int) (t14 : Bool) : Option (Int × Int) :=
 bif t14 then
  some (0, 1400)
 else
  (L_track_Step_f1 N 4 b124_0).bind fun v1 =>
  bif v1 then
   some (2, 0)
  else
   (L_track_Step_f1 N 2 b124_0).bind fun v2 =>
   bif v2 then
    (L_track_Step_f1 N 16 b124_0).bind fun v3 =>
    L_track_Step_2 N t0 b124_0 (!v3)
   else
    L_track_Step_2 N t0 b124_0 false
def L_track_Step (N : Nat) (x0 x1 : Int) : Option (Int × Int) :=
 (L_track_May N x0).bind fun v1 =>
 bif (!v1) then
  L_track_Step_1 N x0 x1 true
 else
  (L_track_Flags N x1).bind fun v2 =>
  L_track_Step_1 N x0 x1 (!v2)
def d187 (r : Int × Int) : D := .tup [iI r.1, iI r.2]
theorem g187_2 {N} {r} (z : Z Tryz.prog ty 187 Tryz.f187 (Fi [] (d187 r) [])) {t0 b124_0 t19} (h : L_track_Step_2 N t0 b124_0 t19 = some r) : z.G [.c 487, .b 0, .c 31] [(0, iI t0), (6, .fn 221 [.ptr 124 0]), (19, .bool t19)] [qB 124 [iI b124_0]] :=
 by
  cases t19 with
  | true => exact brT h fun h => (
   z.r [] 3 o0 h)
  | false => exact brF h fun h => (
   bd h fun v1 h1 h =>
   br h (fun h2 h =>
    vi h fun v2 h3 h =>
    z.r [(8, [(1, oR (d221 v1)), (2, oT)]), (9, [(2, oC (.int .i64 v2))])] 6 (o3 (c221 false h1) (Le.tt h2) (Le.int (k := .i64) h3)) h) fun h2 h =>
   z.r [(8, [(1, oR (d221 v1)), (2, oF)])] 8 (o2 (c221 false h1) (Le.ff h2)) h)
theorem g187_1 {N} {r} (z : Z Tryz.prog ty 187 Tryz.f187 (Fi [] (d187 r) [])) {t0 b124_0 t14} (h : L_track_Step_1 N t0 b124_0 t14 = some r) : z.G [.c 13, .c 7] [(0, iI t0), (3, .ptr 124 0), (14, .bool t14)] [qB 124 [iI b124_0]] :=
 by
  cases t14 with
  | true => exact brT h fun h => (
   z.r [] 3 o0 h)
  | false => exact brF h fun h => (
   bd h fun v1 h1 h =>
   br h (fun h2 h =>
    z.r [(4, [(1, oR (d221 v1)), (2, oT)])] 11 (o2 (c221 false h1) (Le.tt h2)) h) fun h2 h =>
   bd h fun v2 h3 h =>
   z.s [(4, [(1, oR (d221 v1)), (2, oF)])] 10 (o2 (c221 false h1) (Le.ff h2)) <|
   br h (fun h4 h =>
    bd h fun v3 h5 h =>
    z.j [(6, [(1, oR (d221 v2)), (2, oT), (4, oR (d221 v3))])] 1 [0, 6, 19] [(124, 124)] (o3 (c221 false h3) (Le.tt h4) (c221 false h5)) (g187_2 z h)) fun h4 h =>
   z.j [(6, [(1, oR (d221 v2)), (2, oF)])] 1 [0, 6, 19] [(124, 124)] (o2 (c221 false h3) (Le.ff h4)) (g187_2 z h))
theorem c187 {N} {x0 x1 r} (h : L_track_Step N x0 x1 = some r) : Con Tryz.prog 187 [iI x0, iI x1] [] (d187 r) [] :=
 ci ok mix Tryz.f187 fun z =>
 bd h fun v1 h0 h =>
 br h (fun h1 h =>
  z.j [(1, [(1, oR (d199 v1)), (3, oT)])] 5 [0, 3, 14] [(124, 124)] (o2 (c199 h0) (Le.tt h1)) (g187_1 z h)) fun h1 h =>
 bd h fun v2 h2 h =>
 z.j [(1, [(1, oR (d199 v1)), (3, oF), (5, oR (d220 v2))])] 5 [0, 3, 14] [(124, 124)] (o3 (c199 h0) (Le.ff h1) (c220 h2)) (g187_1 z h)
def L_entry_Use_2 (N : Nat) (b124_0 b124_1 b124_2 b124_3 b124_4 b124_5 : Int) (b124_6 : Bool) (b124_7 b124_8 b148_0 b148_1 b148_2 b148_3 b148_4 b148_5 : Int) (b148_6 : Bool) (b148_7 b148_8 : Int) : Option (GEntry × Int) :=
 some ((GEntry.mk (GFlow.mk b124_0 b124_1 b124_2 b124_3 b124_4) b124_5 b124_6 b124_7 b124_8), 0)
def L_entry_Use_1 (N : Nat) (t2 b124_0 b124_1 b124_2 b124_3 b124_4 b124_5 : Int) (b124_6 : Bool) (b124_7 b124_8 b148_0 b148_1 b148_2 b148_3 b148_4 b148_5 : Int) (b148_6 : Bool) (b148_7 b148_8 t8 : Int) (t28 : Bool) : Option (GEntry × Int) :=
 bif t28 then
  some ((GEntry.mk (GFlow.mk 0 0 0 0 0) 0 false 0 0), 1500)
 else
  bif (b124_2 == 6) then
   L_entry_Use_2 N b124_0 b124_1 b124_2 b124_3 b124_4 b124_5 b124_6 t8 t2 b148_0 b148_1 b148_2 b148_3 b148_4 b148_5 b148_6 b148_7 b148_8
  else
   L_entry_Use_2 N b124_0 b124_1 b124_2 b124_3 b124_4 b124_5 b124_6 b124_7 t2 b148_0 b148_1 b148_2 b148_3 b148_4 b148_5 b148_6 b148_7 b148_8
def L_entry_Use (N : Nat) (x0 : GEntry) (x1 x2 : Int) : Option (GEntry × Int) :=
 (L_track_Step N x0.Phase x1).bind fun v1 =>
 bif (v1.2 != 0) then
  L_entry_Use_1 N x2 x0.Flow.Src x0.Flow.Dst x0.Flow.Proto x0.Flow.Sport x0.Flow.Dport x0.To x0.Away x0.Phase x0.Used 0 0 0 0 0 0 false 0 0 v1.1 true
 else
  (L_entry_May N x0).bind fun v2 =>
  bif (!v2) then
   L_entry_Use_1 N x2 x0.Flow.Src x0.Flow.Dst x0.Flow.Proto x0.Flow.Sport x0.Flow.Dport x0.To x0.Away x0.Phase x0.Used 0 0 0 0 0 0 false 0 0 v1.1 true
  else
   (L_conf_Time N x2).bind fun v3 =>
   L_entry_Use_1 N x2 x0.Flow.Src x0.Flow.Dst x0.Flow.Proto x0.Flow.Sport x0.Flow.Dport x0.To x0.Away x0.Phase x0.Used 0 0 0 0 0 0 false 0 0 v1.1 (!v3)
def d135 (r : GEntry × Int) : D := .tup [.agg [iI r.1.Flow.Src, iI r.1.Flow.Dst, iI r.1.Flow.Proto, iI r.1.Flow.Sport, iI r.1.Flow.Dport, iI r.1.To, .bool r.1.Away, iI r.1.Phase, iI r.1.Used], iI r.2]
theorem g135_2 {N} {r} (z : Z Tryz.prog ty 135 Tryz.f135 (Fi [] (d135 r) [])) {b124_0 b124_1 b124_2 b124_3 b124_4 b124_5 b124_6 b124_7 b124_8 b148_0 b148_1 b148_2 b148_3 b148_4 b148_5 b148_6 b148_7 b148_8} (h : L_entry_Use_2 N b124_0 b124_1 b124_2 b124_3 b124_4 b124_5 b124_6 b124_7 b124_8 b148_0 b148_1 b148_2 b148_3 b148_4 b148_5 b148_6 b148_7 b148_8 = some r) : z.G [.c 63] [(3, .ptr 124 0), (6, .ptr 148 0)] [qB 124 [iI b124_0, iI b124_1, iI b124_2, iI b124_3, iI b124_4, iI b124_5, .bool b124_6, iI b124_7, iI b124_8], qB 148 [iI b148_0, iI b148_1, iI b148_2, iI b148_3, iI b148_4, iI b148_5, .bool b148_6, iI b148_7, iI b148_8]] :=
 z.r [] 2 o0 h
theorem g135_1 {N} {r} (z : Z Tryz.prog ty 135 Tryz.f135 (Fi [] (d135 r) [])) {t2 b124_0 b124_1 b124_2 b124_3 b124_4 b124_5 b124_6 b124_7 b124_8 b148_0 b148_1 b148_2 b148_3 b148_4 b148_5 b148_6 b148_7 b148_8 t8 t28} (h : L_entry_Use_1 N t2 b124_0 b124_1 b124_2 b124_3 b124_4 b124_5 b124_6 b124_7 b124_8 b148_0 b148_1 b148_2 b148_3 b148_4 b148_5 b148_6 b148_7 b148_8 t8 t28 = some r) : z.G [.c 27, .c 15] [(2, iI t2), (3, .ptr 124 0), (6, .ptr 148 0), (8, iI t8), (28, .bool t28)] [qB 124 [iI b124_0, iI b124_1, iI b124_2, iI b124_3, iI b124_4, iI b124_5, .bool b124_6, iI b124_7, iI b124_8], qB 148 [iI b148_0, iI b148_1, iI b148_2, iI b148_3, iI b148_4, iI b148_5, .bool b148_6, iI b148_7, iI b148_8]] :=
 by
  cases t28 with
  | true => exact brT h fun h => (
   z.r [] 3 o0 h)
  | false => exact brF h fun h => (
   br h (fun h1 h =>
    z.j [(5, [(3, oT)])] 9 [3, 6] [(124, 124), (148, 148)] (o1 (Le.tt h1)) (g135_2 z h)) fun h1 h =>
   z.j [(5, [(3, oF)])] 9 [3, 6] [(124, 124), (148, 148)] (o1 (Le.ff h1)) (g135_2 z h))
theorem c135 {N} {x0 x1 x2 r} (h : L_entry_Use N x0 x1 x2 = some r) : Con Tryz.prog 135 [.agg [iI x0.Flow.Src, iI x0.Flow.Dst, iI x0.Flow.Proto, iI x0.Flow.Sport, iI x0.Flow.Dport, iI x0.To, .bool x0.Away, iI x0.Phase, iI x0.Used], iI x1, iI x2] [] (d135 r) [] :=
 ci ok mix Tryz.f135 fun z =>
 bd h fun v1 h0 h =>
 z.s [(1, [(3, oR (d187 v1))])] 6 (o1 (c187 h0)) <|
 br h (fun h1 h =>
  z.j [(2, [(2, oT)])] 1 [2, 3, 6, 8, 28] [(124, 124), (148, 148)] (o1 (Le.tt h1)) (g135_1 z h)) fun h1 h =>
 bd h fun v2 h2 h =>
 br h (fun h3 h =>
  z.j [(2, [(2, oF), (4, oR (d148 v2)), (7, oT)])] 1 [2, 3, 6, 8, 28] [(124, 124), (148, 148)] (o3 (Le.ff h1) (c148 h2) (Le.tt h3)) (g135_1 z h)) fun h3 h =>
 bd h fun v3 h4 h =>
 z.j [(2, [(2, oF), (4, oR (d148 v2)), (7, oF), (9, oR (d59 v3))])] 1 [2, 3, 6, 8, 28] [(124, 124), (148, 148)] (o4 (Le.ff h1) (c148 h2) (Le.ff h3) (c59 h4)) (g135_1 z h)
def L_cache_Put_f1 (N : Nat) (x0 : GEntry) (x1_0 x1_1 x1_2 x1_3 x1_4 x1_5 : Int) (x1_6 : Bool) (x1_7 x1_8 : Int) : Option (Bool) :=
 via (((x0.Flow.Src == x1_0) && ((x0.Flow.Dst == x1_1) && ((x0.Flow.Proto == x1_2) && ((x0.Flow.Sport == x1_3) && ((x0.Flow.Dport == x1_4) && true))))) : Bool) fun v1 =>
 some v1
def d189 (r : Bool) : D := .bool r
theorem c189 {N} (gx1 : Bool) {x0 x1_0 x1_1 x1_2 x1_3 x1_4 x1_5 x1_6 x1_7 x1_8 r} (h : L_cache_Put_f1 N x0 x1_0 x1_1 x1_2 x1_3 x1_4 x1_5 x1_6 x1_7 x1_8 = some r) : Con Tryz.prog 189 [.agg [iI x0.Flow.Src, iI x0.Flow.Dst, iI x0.Flow.Proto, iI x0.Flow.Sport, iI x0.Flow.Dport, iI x0.To, .bool x0.Away, iI x0.Phase, iI x0.Used], .ip gx1 [iI x1_0, iI x1_1, iI x1_2, iI x1_3, iI x1_4, iI x1_5, .bool x1_6, iI x1_7, iI x1_8]] [] (d189 r) [] :=
 ci ok mix Tryz.f189 fun z =>
 vi h fun v1 h0 h =>
 z.r [(1, [(4, oC (.bool v1))])] 4 (o1 (Le.boo h0)) h
def L_cache_split_api_Entry_2 (N : Nat) (r1 : Int → Int → Int → Int → Int → Int → Bool → Int → Int → (List GEntry) → (List GEntry) → (List GEntry) → Int → Int → Option ((List GEntry) × (List GEntry))) (t1_0_0 t1_0_1 t1_0_2 t1_0_3 t1_0_4 t1_0_5 : Int) (t1_0_6 : Bool) (t1_0_7 t1_0_8 : Int) (b260 b140 t8 : (List GEntry)) (t9 t10 : Int) : Option ((List GEntry) × (List GEntry)) :=
 r1 t1_0_0 t1_0_1 t1_0_2 t1_0_3 t1_0_4 t1_0_5 t1_0_6 t1_0_7 t1_0_8 b260 b140 t8 t9 (IntKind.i64.wrap (t10 + 1))
def L_cache_split_api_Entry_1 (N : Nat) : Nat → Int → Int → Int → Int → Int → Int → Bool → Int → Int → (List GEntry) → (List GEntry) → (List GEntry) → Int → Int → Option ((List GEntry) × (List GEntry))
  | 0, _, _, _, _, _, _, _, _, _, _, _, _, _, _ => none
  | fuel + 1, t1_0_0, t1_0_1, t1_0_2, t1_0_3, t1_0_4, t1_0_5, t1_0_6, t1_0_7, t1_0_8, b132, b140, t8, t9, t10 =>
  bif (decide (t10 < t9)) then
   if 0 ≤ t10 ∧ t10 < ((t8.length : Nat) : Int) then
   (L_cache_Put_f1 N (GEntry.mk ((t8.getD t10.toNat default).Flow) ((t8.getD t10.toNat default).To) ((t8.getD t10.toNat default).Away) ((t8.getD t10.toNat default).Phase) ((t8.getD t10.toNat default).Used)) t1_0_0 t1_0_1 t1_0_2 t1_0_3 t1_0_4 t1_0_5 t1_0_6 t1_0_7 t1_0_8).bind fun v1 =>
   bif v1 then
    if growOk 72 (b132.length + 1) then
    L_cache_split_api_Entry_2 N (L_cache_split_api_Entry_1 N fuel) t1_0_0 t1_0_1 t1_0_2 t1_0_3 t1_0_4 t1_0_5 t1_0_6 t1_0_7 t1_0_8 (b132 ++ [(GEntry.mk ((t8.getD t10.toNat default).Flow) ((t8.getD t10.toNat default).To) ((t8.getD t10.toNat default).Away) ((t8.getD t10.toNat default).Phase) ((t8.getD t10.toNat default).Used))]) b140 t8 t9 t10
    else none
   else
    if growOk 72 (b140.length + 1) then
    L_cache_split_api_Entry_2 N (L_cache_split_api_Entry_1 N fuel) t1_0_0 t1_0_1 t1_0_2 t1_0_3 t1_0_4 t1_0_5 t1_0_6 t1_0_7 t1_0_8 b132 (b140 ++ [(GEntry.mk ((t8.getD t10.toNat default).Flow) ((t8.getD t10.toNat default).To) ((t8.getD t10.toNat default).Away) ((t8.getD t10.toNat default).Phase) ((t8.getD t10.toNat default).Used))]) t8 t9 t10
    else none
   else none
  else
   some (b132, b140)
def L_cache_split_api_Entry (N : Nat) (x0 : (List GEntry)) (x1_0_0 x1_0_1 x1_0_2 x1_0_3 x1_0_4 x1_0_5 : Int) (x1_0_6 : Bool) (x1_0_7 x1_0_8 : Int) : Option ((List GEntry) × (List GEntry)) :=
 L_cache_split_api_Entry_1 N N x1_0_0 x1_0_1 x1_0_2 x1_0_3 x1_0_4 x1_0_5 x1_0_6 x1_0_7 x1_0_8 ([]) ([]) x0 (x0.length : Int) 0
def d188v1 (r : (List GEntry) × (List GEntry)) : D := .tup [sS true eEntry r.1, rR 1000 r.2]
def h188v1 (r : (List GEntry) × (List GEntry)) : List (Nat × Option Blk) := [pB 1000 9 (eL eEntry r.2)]
theorem g188v1_2 {N} (gx0 gx1_0 : Bool) {r} (z : Z Tryz.prog ty 188 Tryz.f188 (Fi [] (d188v1 r) (h188v1 r))) {r1 : Int → Int → Int → Int → Int → Int → Bool → Int → Int → (List GEntry) → (List GEntry) → (List GEntry) → Int → Int → Option ((List GEntry) × (List GEntry))} (hr1 : ∀ {t1_0_0 t1_0_1 t1_0_2 t1_0_3 t1_0_4 t1_0_5 t1_0_6 t1_0_7 t1_0_8 b132 b140 t8 t9 t10}, r1 t1_0_0 t1_0_1 t1_0_2 t1_0_3 t1_0_4 t1_0_5 t1_0_6 t1_0_7 t1_0_8 b132 b140 t8 t9 t10 = some r → z.G [.c 37, .l 37, .b 0, .c 7] [(1, .fn 189 [.ip gx1_0 [iI t1_0_0, iI t1_0_1, iI t1_0_2, iI t1_0_3, iI t1_0_4, iI t1_0_5, .bool t1_0_6, iI t1_0_7, iI t1_0_8]]), (4, rR 132 b132), (5, rR 140 b140), (8, sS gx0 eEntry t8), (9, iI t9), (10, iI t10)] [pB 132 9 (eL eEntry b132), pB 140 9 (eL eEntry b140)]) {t1_0_0 t1_0_1 t1_0_2 t1_0_3 t1_0_4 t1_0_5 t1_0_6 t1_0_7 t1_0_8 b260 b140 t8 t9 t10} (h : L_cache_split_api_Entry_2 N r1 t1_0_0 t1_0_1 t1_0_2 t1_0_3 t1_0_4 t1_0_5 t1_0_6 t1_0_7 t1_0_8 b260 b140 t8 t9 t10 = some r) : z.G [.b 1, .c 485, .l 37, .b 0, .c 7] [(1, .fn 189 [.ip gx1_0 [iI t1_0_0, iI t1_0_1, iI t1_0_2, iI t1_0_3, iI t1_0_4, iI t1_0_5, .bool t1_0_6, iI t1_0_7, iI t1_0_8]]), (4, rR 260 b260), (5, rR 140 b140), (8, sS gx0 eEntry t8), (9, iI t9), (10, iI t10)] [pB 260 9 (eL eEntry b260), pB 140 9 (eL eEntry b140)] :=
 z.j [] 3 [1, 4, 5, 8, 9, 10] [(260, 132), (140, 140)] o0 (hr1 h)
theorem g188v1_1 {N} (gx0 gx1_0 : Bool) {r} (z : Z Tryz.prog ty 188 Tryz.f188 (Fi [] (d188v1 r) (h188v1 r))) (fuel) : ∀ {t1_0_0 t1_0_1 t1_0_2 t1_0_3 t1_0_4 t1_0_5 t1_0_6 t1_0_7 t1_0_8 b132 b140 t8 t9 t10}, L_cache_split_api_Entry_1 N fuel t1_0_0 t1_0_1 t1_0_2 t1_0_3 t1_0_4 t1_0_5 t1_0_6 t1_0_7 t1_0_8 b132 b140 t8 t9 t10 = some r → z.G [.c 37, .l 37, .b 0, .c 7] [(1, .fn 189 [.ip gx1_0 [iI t1_0_0, iI t1_0_1, iI t1_0_2, iI t1_0_3, iI t1_0_4, iI t1_0_5, .bool t1_0_6, iI t1_0_7, iI t1_0_8]]), (4, rR 132 b132), (5, rR 140 b140), (8, sS gx0 eEntry t8), (9, iI t9), (10, iI t10)] [pB 132 9 (eL eEntry b132), pB 140 9 (eL eEntry b140)] := by
 induction fuel with
 | zero => intro t1_0_0 t1_0_1 t1_0_2 t1_0_3 t1_0_4 t1_0_5 t1_0_6 t1_0_7 t1_0_8 b132 b140 t8 t9 t10 h; cases h
 | succ fuel ih =>
  intro t1_0_0 t1_0_1 t1_0_2 t1_0_3 t1_0_4 t1_0_5 t1_0_6 t1_0_7 t1_0_8 b132 b140 t8 t9 t10 h
  exact
   br h (fun h0 h =>
    ck h fun h1 h =>
    bd h fun v1 h2 h =>
    z.s [(2, [(0, oT)]), (3, [(0, oC (.ip gx0 [iI (((t8.getD t10.toNat default).Flow).Src), iI (((t8.getD t10.toNat default).Flow).Dst), iI (((t8.getD t10.toNat default).Flow).Proto), iI (((t8.getD t10.toNat default).Flow).Sport), iI (((t8.getD t10.toNat default).Flow).Dport), iI ((t8.getD t10.toNat default).To), .bool ((t8.getD t10.toNat default).Away), iI ((t8.getD t10.toNat default).Phase), iI ((t8.getD t10.toNat default).Used)]))])] 10 (o3 (Le.tt h0) h1 (Le.iptl (g := gx0) (eL_at (xs := t8) eEntry_len (ixl h1)))) <|
    br h (fun h3 h =>
     ck h fun h4 h =>
     z.j [(4, [(2, { r := d189 v1, cv := some (.bool true) })]), (5, [(3, { cv := some (.ref 260 0 (b132 ++ [(GEntry.mk ((t8.getD t10.toNat default).Flow) ((t8.getD t10.toNat default).To) ((t8.getD t10.toNat default).Away) ((t8.getD t10.toNat default).Phase) ((t8.getD t10.toNat default).Used))]).length (b132 ++ [(GEntry.mk ((t8.getD t10.toNat default).Flow) ((t8.getD t10.toNat default).To) ((t8.getD t10.toNat default).Away) ((t8.getD t10.toNat default).Phase) ((t8.getD t10.toNat default).Used))]).length), cb := [(260, eL eEntry (b132 ++ [(GEntry.mk ((t8.getD t10.toNat default).Flow) ((t8.getD t10.toNat default).To) ((t8.getD t10.toNat default).Away) ((t8.getD t10.toNat default).Phase) ((t8.getD t10.toNat default).Used))]))] })])] 3 [1, 4, 5, 8, 9, 10] [(260, 260), (140, 140)] (o5 (c189 gx1_0 h2) (Le.tt h3) (by decide : 1 * 9 ≤ 9) (ap_len (xs := b132) eEntry_len) (o3 h4 (Le.apr (b := 260) (by first | rfl | (simp only [List.length_append, List.length_take, List.length_drop]; omega) | simp : (b132 ++ [(GEntry.mk ((t8.getD t10.toNat default).Flow) ((t8.getD t10.toNat default).To) ((t8.getD t10.toNat default).Away) ((t8.getD t10.toNat default).Phase) ((t8.getD t10.toNat default).Used))]).length = b132.length + 1)) (ap_one (xs := b132) eEntry_len (y := (GEntry.mk ((t8.getD t10.toNat default).Flow) ((t8.getD t10.toNat default).To) ((t8.getD t10.toNat default).Away) ((t8.getD t10.toNat default).Phase) ((t8.getD t10.toNat default).Used))) (cs := [iI (((t8.getD t10.toNat default).Flow).Src), iI (((t8.getD t10.toNat default).Flow).Dst), iI (((t8.getD t10.toNat default).Flow).Proto), iI (((t8.getD t10.toNat default).Flow).Sport), iI (((t8.getD t10.toNat default).Flow).Dport), iI ((t8.getD t10.toNat default).To), .bool ((t8.getD t10.toNat default).Away), iI ((t8.getD t10.toNat default).Phase), iI ((t8.getD t10.toNat default).Used)]) rfl))) (g188v1_2 gx0 gx1_0 z @ih h)) fun h3 h =>
    ck h fun h4 h =>
    z.j [(4, [(2, { r := d189 v1, cv := some (.bool false) })]), (6, [(3, { cv := some (.ref 292 0 (b140 ++ [(GEntry.mk ((t8.getD t10.toNat default).Flow) ((t8.getD t10.toNat default).To) ((t8.getD t10.toNat default).Away) ((t8.getD t10.toNat default).Phase) ((t8.getD t10.toNat default).Used))]).length (b140 ++ [(GEntry.mk ((t8.getD t10.toNat default).Flow) ((t8.getD t10.toNat default).To) ((t8.getD t10.toNat default).Away) ((t8.getD t10.toNat default).Phase) ((t8.getD t10.toNat default).Used))]).length), cb := [(292, eL eEntry (b140 ++ [(GEntry.mk ((t8.getD t10.toNat default).Flow) ((t8.getD t10.toNat default).To) ((t8.getD t10.toNat default).Away) ((t8.getD t10.toNat default).Phase) ((t8.getD t10.toNat default).Used))]))] })])] 3 [1, 4, 5, 8, 9, 10] [(132, 260), (292, 140)] (o5 (c189 gx1_0 h2) (Le.ff h3) (by decide : 1 * 9 ≤ 9) (ap_len (xs := b140) eEntry_len) (o3 h4 (Le.apr (b := 292) (by first | rfl | (simp only [List.length_append, List.length_take, List.length_drop]; omega) | simp : (b140 ++ [(GEntry.mk ((t8.getD t10.toNat default).Flow) ((t8.getD t10.toNat default).To) ((t8.getD t10.toNat default).Away) ((t8.getD t10.toNat default).Phase) ((t8.getD t10.toNat default).Used))]).length = b140.length + 1)) (ap_one (xs := b140) eEntry_len (y := (GEntry.mk ((t8.getD t10.toNat default).Flow) ((t8.getD t10.toNat default).To) ((t8.getD t10.toNat default).Away) ((t8.getD t10.toNat default).Phase) ((t8.getD t10.toNat default).Used))) (cs := [iI (((t8.getD t10.toNat default).Flow).Src), iI (((t8.getD t10.toNat default).Flow).Dst), iI (((t8.getD t10.toNat default).Flow).Proto), iI (((t8.getD t10.toNat default).Flow).Sport), iI (((t8.getD t10.toNat default).Flow).Dport), iI ((t8.getD t10.toNat default).To), .bool ((t8.getD t10.toNat default).Away), iI ((t8.getD t10.toNat default).Phase), iI ((t8.getD t10.toNat default).Used)]) rfl))) (g188v1_2 gx0 gx1_0 z @ih h)) fun h0 h =>
   z.rb [(2, [(0, oF)]), (8, [(2, { frz := true })])] 7 [(1000, 140)] (.tup [sS true eEntry b132, rR 140 b140]) (o1 (Le.ff h0)) h (Le.of (by kernel_rfl))
theorem c188v1 {N} (gx0 gx1_0 : Bool) {x0 x1_0_0 x1_0_1 x1_0_2 x1_0_3 x1_0_4 x1_0_5 x1_0_6 x1_0_7 x1_0_8 r} (h : L_cache_split_api_Entry N x0 x1_0_0 x1_0_1 x1_0_2 x1_0_3 x1_0_4 x1_0_5 x1_0_6 x1_0_7 x1_0_8 = some r) : Con Tryz.prog 188 [sS gx0 eEntry x0, .fn 189 [.ip gx1_0 [iI x1_0_0, iI x1_0_1, iI x1_0_2, iI x1_0_3, iI x1_0_4, iI x1_0_5, .bool x1_0_6, iI x1_0_7, iI x1_0_8]]] [] (d188v1 r) (h188v1 r) :=
 ci ok mix Tryz.f188 fun z =>
 z.j [(0, [(0, { own := some (9) }), (1, { own := some (9) })])] 7 [1, 4, 5, 8, 9, 10] [(132, 132), (140, 140)] o0 (g188v1_1 gx0 gx1_0 z N h)
def L_cache_Put_1 (N : Nat) (t0 : (List GEntry)) (b124_0 b124_1 b124_2 b124_3 b124_4 b124_5 : Int) (b124_6 : Bool) (b124_7 b124_8 b140_0 b140_1 b140_2 b140_3 b140_4 b140_5 : Int) (b140_6 : Bool) (b140_7 b140_8 : Int) (t17 : Bool) : Option ((List GEntry) × GEntry × Bool × Int) :=
 bif t17 then
  some ([], (GEntry.mk (GFlow.mk 0 0 0 0 0) 0 false 0 0), false, 1600)
 else
  (L_cache_split_api_Entry N t0 b124_0 b124_1 b124_2 b124_3 b124_4 b124_5 b124_6 b124_7 b124_8).bind fun v1 =>
  if growOk 72 (v1.2.length + 1) then
  via (((v1.2 ++ [(GEntry.mk (GFlow.mk b124_0 b124_1 b124_2 b124_3 b124_4) b124_5 b124_6 b124_7 b124_8)]).length : Int) : Int) fun v2 =>
  bif (decide (v2 > 8)) then
   if 0 ≤ (((v1.2 ++ [(GEntry.mk (GFlow.mk b124_0 b124_1 b124_2 b124_3 b124_4) b124_5 b124_6 b124_7 b124_8)]).length : Nat) : Int) ∧ (((v1.2 ++ [(GEntry.mk (GFlow.mk b124_0 b124_1 b124_2 b124_3 b124_4) b124_5 b124_6 b124_7 b124_8)]).length : Nat) : Int) ≤ (((v1.2 ++ [(GEntry.mk (GFlow.mk b124_0 b124_1 b124_2 b124_3 b124_4) b124_5 b124_6 b124_7 b124_8)]).length : Nat) : Int) ∧ 0 ≤ (1 : Int) ∧ (1 : Int) ≤ (((v1.2 ++ [(GEntry.mk (GFlow.mk b124_0 b124_1 b124_2 b124_3 b124_4) b124_5 b124_6 b124_7 b124_8)]).length : Nat) : Int) ∧ (v1.2 ++ [(GEntry.mk (GFlow.mk b124_0 b124_1 b124_2 b124_3 b124_4) b124_5 b124_6 b124_7 b124_8)]).length ≤ (v1.2 ++ [(GEntry.mk (GFlow.mk b124_0 b124_1 b124_2 b124_3 b124_4) b124_5 b124_6 b124_7 b124_8)]).length then
   if 0 ≤ (0 : Int) ∧ (0 : Int) < (((v1.2 ++ [(GEntry.mk (GFlow.mk b124_0 b124_1 b124_2 b124_3 b124_4) b124_5 b124_6 b124_7 b124_8)]).length : Nat) : Int) then
   some ((((v1.2 ++ [(GEntry.mk (GFlow.mk b124_0 b124_1 b124_2 b124_3 b124_4) b124_5 b124_6 b124_7 b124_8)]).drop (Int.toNat (1 : Int))).take (Int.toNat ((((v1.2 ++ [(GEntry.mk (GFlow.mk b124_0 b124_1 b124_2 b124_3 b124_4) b124_5 b124_6 b124_7 b124_8)]).length : Nat) : Int) - (1 : Int)))), (GEntry.mk (((v1.2 ++ [(GEntry.mk (GFlow.mk b124_0 b124_1 b124_2 b124_3 b124_4) b124_5 b124_6 b124_7 b124_8)]).getD (Int.toNat 0) default).Flow) (((v1.2 ++ [(GEntry.mk (GFlow.mk b124_0 b124_1 b124_2 b124_3 b124_4) b124_5 b124_6 b124_7 b124_8)]).getD (Int.toNat 0) default).To) (((v1.2 ++ [(GEntry.mk (GFlow.mk b124_0 b124_1 b124_2 b124_3 b124_4) b124_5 b124_6 b124_7 b124_8)]).getD (Int.toNat 0) default).Away) (((v1.2 ++ [(GEntry.mk (GFlow.mk b124_0 b124_1 b124_2 b124_3 b124_4) b124_5 b124_6 b124_7 b124_8)]).getD (Int.toNat 0) default).Phase) (((v1.2 ++ [(GEntry.mk (GFlow.mk b124_0 b124_1 b124_2 b124_3 b124_4) b124_5 b124_6 b124_7 b124_8)]).getD (Int.toNat 0) default).Used)), true, 0)
   else none
   else none
  else
   some ((v1.2 ++ [(GEntry.mk (GFlow.mk b124_0 b124_1 b124_2 b124_3 b124_4) b124_5 b124_6 b124_7 b124_8)]), (GEntry.mk (GFlow.mk 0 0 0 0 0) 0 false 0 0), false, 0)
  else none
def L_cache_Put (N : Nat) (x0 : (List GEntry)) (x1 : GEntry) : Option ((List GEntry) × GEntry × Bool × Int) :=
 (L_cache_May N x0).bind fun v1 =>
 bif (!v1) then
  L_cache_Put_1 N x0 x1.Flow.Src x1.Flow.Dst x1.Flow.Proto x1.Flow.Sport x1.Flow.Dport x1.To x1.Away x1.Phase x1.Used 0 0 0 0 0 0 false 0 0 true
 else
  (L_entry_May N x1).bind fun v2 =>
  L_cache_Put_1 N x0 x1.Flow.Src x1.Flow.Dst x1.Flow.Proto x1.Flow.Sport x1.Flow.Dport x1.To x1.Away x1.Phase x1.Used 0 0 0 0 0 0 false 0 0 (!v2)
def d136 (r : (List GEntry) × GEntry × Bool × Int) : D := .tup [sS true eEntry r.1, .agg [iI r.2.1.Flow.Src, iI r.2.1.Flow.Dst, iI r.2.1.Flow.Proto, iI r.2.1.Flow.Sport, iI r.2.1.Flow.Dport, iI r.2.1.To, .bool r.2.1.Away, iI r.2.1.Phase, iI r.2.1.Used], .bool r.2.2.1, iI r.2.2.2]
theorem g136_1 {N} (gx0 : Bool) {r} (z : Z Tryz.prog ty 136 Tryz.f136 (Fi [] (d136 r) [])) {t0 b124_0 b124_1 b124_2 b124_3 b124_4 b124_5 b124_6 b124_7 b124_8 b140_0 b140_1 b140_2 b140_3 b140_4 b140_5 b140_6 b140_7 b140_8 t17} (h : L_cache_Put_1 N t0 b124_0 b124_1 b124_2 b124_3 b124_4 b124_5 b124_6 b124_7 b124_8 b140_0 b140_1 b140_2 b140_3 b140_4 b140_5 b140_6 b140_7 b140_8 t17 = some r) : z.G [.c 13, .c 7] [(0, sS gx0 eEntry t0), (3, .ptr 124 0), (5, .ptr 140 0), (17, .bool t17)] [qB 124 [iI b124_0, iI b124_1, iI b124_2, iI b124_3, iI b124_4, iI b124_5, .bool b124_6, iI b124_7, iI b124_8], qB 140 [iI b140_0, iI b140_1, iI b140_2, iI b140_3, iI b140_4, iI b140_5, .bool b140_6, iI b140_7, iI b140_8]] :=
 by
  cases t17 with
  | true => exact brT h fun h => (
   z.rl [] 3 (.tup [.nils, .agg [iI 0, iI 0, iI 0, iI 0, iI 0, iI 0, .bool false, iI 0, iI 0], .bool false, iI 1600]) o0 h (Le.tup ((.cons (Le.nils (g := true)) (.cons (Le.of rfl) (.cons (Le.of rfl) (.cons (Le.of rfl) .nil)))))))
  | false => exact brF h fun h => (
   bd h fun v1 h1 h =>
   ck h fun h2 h =>
   vi h fun v2 h3 h =>
   z.s [(3, [(2, { r := d188v1 v1, H := h188v1 v1 })]), (4, [(3, { cv := some (.ref 324 0 (v1.2 ++ [(GEntry.mk (GFlow.mk b124_0 b124_1 b124_2 b124_3 b124_4) b124_5 b124_6 b124_7 b124_8)]).length (v1.2 ++ [(GEntry.mk (GFlow.mk b124_0 b124_1 b124_2 b124_3 b124_4) b124_5 b124_6 b124_7 b124_8)]).length), cb := [(324, eL eEntry (v1.2 ++ [(GEntry.mk (GFlow.mk b124_0 b124_1 b124_2 b124_3 b124_4) b124_5 b124_6 b124_7 b124_8)]))] }), (4, { frz := true })])] 8 (o5 (c188v1 gx0 false h1) (by decide : 1 * 9 ≤ 9) (ap_len (xs := v1.2) eEntry_len) h2 (o2 (Le.apr (b := 324) (by first | rfl | (simp only [List.length_append, List.length_take, List.length_drop]; omega) | simp : (v1.2 ++ [(GEntry.mk (GFlow.mk b124_0 b124_1 b124_2 b124_3 b124_4) b124_5 b124_6 b124_7 b124_8)]).length = v1.2.length + 1)) (ap_one (xs := v1.2) eEntry_len (y := (GEntry.mk (GFlow.mk b124_0 b124_1 b124_2 b124_3 b124_4) b124_5 b124_6 b124_7 b124_8)) (cs := [iI b124_0, iI b124_1, iI b124_2, iI b124_3, iI b124_4, iI b124_5, .bool b124_6, iI b124_7, iI b124_8]) rfl))) <|
   br h (fun h4 h =>
    ck h fun h5 h =>
    ck h fun h6 h =>
    z.r [(5, [(1, oC (.int .i64 v2)), (2, oT)]), (6, [(1, oC (sS true eEntry (((v1.2 ++ [(GEntry.mk (GFlow.mk b124_0 b124_1 b124_2 b124_3 b124_4) b124_5 b124_6 b124_7 b124_8)]).drop (Int.toNat (1 : Int))).take (Int.toNat ((((v1.2 ++ [(GEntry.mk (GFlow.mk b124_0 b124_1 b124_2 b124_3 b124_4) b124_5 b124_6 b124_7 b124_8)]).length : Nat) : Int) - (1 : Int)))))), (3, oC (.ip true [iI ((((v1.2 ++ [(GEntry.mk (GFlow.mk b124_0 b124_1 b124_2 b124_3 b124_4) b124_5 b124_6 b124_7 b124_8)]).getD (Int.toNat 0) default).Flow).Src), iI ((((v1.2 ++ [(GEntry.mk (GFlow.mk b124_0 b124_1 b124_2 b124_3 b124_4) b124_5 b124_6 b124_7 b124_8)]).getD (Int.toNat 0) default).Flow).Dst), iI ((((v1.2 ++ [(GEntry.mk (GFlow.mk b124_0 b124_1 b124_2 b124_3 b124_4) b124_5 b124_6 b124_7 b124_8)]).getD (Int.toNat 0) default).Flow).Proto), iI ((((v1.2 ++ [(GEntry.mk (GFlow.mk b124_0 b124_1 b124_2 b124_3 b124_4) b124_5 b124_6 b124_7 b124_8)]).getD (Int.toNat 0) default).Flow).Sport), iI ((((v1.2 ++ [(GEntry.mk (GFlow.mk b124_0 b124_1 b124_2 b124_3 b124_4) b124_5 b124_6 b124_7 b124_8)]).getD (Int.toNat 0) default).Flow).Dport), iI (((v1.2 ++ [(GEntry.mk (GFlow.mk b124_0 b124_1 b124_2 b124_3 b124_4) b124_5 b124_6 b124_7 b124_8)]).getD (Int.toNat 0) default).To), .bool (((v1.2 ++ [(GEntry.mk (GFlow.mk b124_0 b124_1 b124_2 b124_3 b124_4) b124_5 b124_6 b124_7 b124_8)]).getD (Int.toNat 0) default).Away), iI (((v1.2 ++ [(GEntry.mk (GFlow.mk b124_0 b124_1 b124_2 b124_3 b124_4) b124_5 b124_6 b124_7 b124_8)]).getD (Int.toNat 0) default).Phase), iI (((v1.2 ++ [(GEntry.mk (GFlow.mk b124_0 b124_1 b124_2 b124_3 b124_4) b124_5 b124_6 b124_7 b124_8)]).getD (Int.toNat 0) default).Used)]))])] 4 (o5 (Le.int (k := .i64) h3) (Le.tt h4) (sl_need (xs := (v1.2 ++ [(GEntry.mk (GFlow.mk b124_0 b124_1 b124_2 b124_3 b124_4) b124_5 b124_6 b124_7 b124_8)])) eEntry_len h5) (Le.cutr (g := true) (n := (Int.toNat ((((v1.2 ++ [(GEntry.mk (GFlow.mk b124_0 b124_1 b124_2 b124_3 b124_4) b124_5 b124_6 b124_7 b124_8)]).length : Nat) : Int) - (1 : Int)))) (c := ((v1.2 ++ [(GEntry.mk (GFlow.mk b124_0 b124_1 b124_2 b124_3 b124_4) b124_5 b124_6 b124_7 b124_8)]).length - (Int.toNat (1 : Int)))) eEntry_len (xs := (v1.2 ++ [(GEntry.mk (GFlow.mk b124_0 b124_1 b124_2 b124_3 b124_4) b124_5 b124_6 b124_7 b124_8)])) (lo := (Int.toNat (1 : Int))) rfl (by first | omega | decide | (simp; done) | (simp; omega)) (by first | omega | decide | (simp; done) | (simp; omega))) (o2 h6 (Le.iptl (g := true) (eL_at (xs := (v1.2 ++ [(GEntry.mk (GFlow.mk b124_0 b124_1 b124_2 b124_3 b124_4) b124_5 b124_6 b124_7 b124_8)])) eEntry_len (ixl h6))))) h) fun h4 h =>
   z.r [(5, [(1, oC (.int .i64 v2)), (2, oF)])] 5 (o2 (Le.int (k := .i64) h3) (Le.ff h4)) h)
theorem c136 {N} (gx0 : Bool) {x0 x1 r} (h : L_cache_Put N x0 x1 = some r) : Con Tryz.prog 136 [sS gx0 eEntry x0, .agg [iI x1.Flow.Src, iI x1.Flow.Dst, iI x1.Flow.Proto, iI x1.Flow.Sport, iI x1.Flow.Dport, iI x1.To, .bool x1.Away, iI x1.Phase, iI x1.Used]] [] (d136 r) [] :=
 ci ok mix Tryz.f136 fun z =>
 bd h fun v1 h0 h =>
 br h (fun h1 h =>
  z.j [(1, [(1, oR (d87 v1)), (3, oT)])] 5 [0, 3, 5, 17] [(124, 124), (140, 140)] (o2 (c87 gx0 h0) (Le.tt h1)) (g136_1 gx0 z h)) fun h1 h =>
 bd h fun v2 h2 h =>
 z.j [(1, [(1, oR (d87 v1)), (3, oF), (5, oR (d148 v2))])] 5 [0, 3, 5, 17] [(124, 124), (140, 140)] (o3 (c87 gx0 h0) (Le.ff h1) (c148 h2)) (g136_1 gx0 z h)
def L_edge_Sent_1 (N : Nat) (b148_0 b148_1 b148_2 b172_0 b172_1 b172_2 b172_3 b172_4 b172_5 : Int) (b172_6 : Bool) (b172_7 b172_8 : Int) (t16 : (List GEntry)) (b492 : (List ByteArray)) (b588 : (List GEvent)) : Option ((List GEntry) × GOut) :=
 (L_event_Teller_Tell N (Gevent_Teller.mk b148_0 b148_1 b148_2) 0 b172_5 (GFlow.mk b172_0 b172_1 b172_2 b172_3 b172_4)).bind fun v1 =>
 if growOk 80 (b588.length + 1) then
 some (t16, (GOut.mk b492 (b588 ++ [v1])))
 else none
def L_edge_Sent (N : Nat) (x0 : Gevent_Teller) (x1 : GOuter) (x2 : (List GEntry)) (x3 : GEntry) (x4 x5 : Int) : Option ((List GEntry) × GOut) :=
 (L_gue_Push N x1).bind fun v1 =>
 bif (v1.2 != 0) then
  (L_event_Teller_Alone N x0 6 x3.Flow).bind fun v2 =>
  some (x2, v2)
 else
  (L_entry_Use N x3 x4 x5).bind fun v2 =>
  (L_cache_Put N x2 v2.1).bind fun v3 =>
  bif v3.2.2.1 then
   (L_event_Teller_Tell N x0 11 v3.2.1.To v3.2.1.Flow).bind fun v4 =>
   L_edge_Sent_1 N x0.Role x0.Site x0.Node v2.1.Flow.Src v2.1.Flow.Dst v2.1.Flow.Proto v2.1.Flow.Sport v2.1.Flow.Dport v2.1.To v2.1.Away v2.1.Phase v2.1.Used v3.1 ([v1.1]) ([v4])
  else
   L_edge_Sent_1 N x0.Role x0.Site x0.Node v2.1.Flow.Src v2.1.Flow.Dst v2.1.Flow.Proto v2.1.Flow.Sport v2.1.Flow.Dport v2.1.To v2.1.Away v2.1.Phase v2.1.Used v3.1 ([v1.1]) ([])
def d66 (r : (List GEntry) × GOut) : D := .tup [sS true eEntry r.1, .agg [sS true eStr r.2.Sent, sS true eEvent r.2.Events]]
theorem g66_1 {N} {r} (z : Z Tryz.prog ty 66 Tryz.f66 (Fi [] (d66 r) [])) {b148_0 b148_1 b148_2 b172_0 b172_1 b172_2 b172_3 b172_4 b172_5 b172_6 b172_7 b172_8 t16 b492 b588} (h : L_edge_Sent_1 N b148_0 b148_1 b148_2 b172_0 b172_1 b172_2 b172_3 b172_4 b172_5 b172_6 b172_7 b172_8 t16 b492 b588 = some r) : z.G [.c 255] [(6, .ptr 148 0), (9, .ptr 172 0), (13, .ptr 204 0), (16, sS true eEntry t16), (20, .ptr 260 0)] [qB 148 [iI b148_0, iI b148_1, iI b148_2], qB 172 [iI b172_0, iI b172_1, iI b172_2, iI b172_3, iI b172_4, iI b172_5, .bool b172_6, iI b172_7, iI b172_8], qB 204 [.nils, .nils], qB 260 [rR 492 b492, rR 588 b588], pB 492 1 (eL eStr b492), pB 588 10 (eL eEvent b588)] :=
 bd h fun v1 h0 h =>
 ck h fun h1 h =>
 z.r [(9, [(7, oR (d128 v1)), (9, { cv := some (.ref 676 0 (b588 ++ [v1]).length (b588 ++ [v1]).length), cb := [(676, eL eEvent (b588 ++ [v1]))] })]), (10, [(1, { frz := true })])] 4 (o5 (c128 h0) (by decide : 1 * 10 ≤ 10) (ap_len (xs := b588) eEvent_len) h1 (o2 (Le.apr (b := 676) (by first | rfl | (simp only [List.length_append, List.length_take, List.length_drop]; omega) | simp : (b588 ++ [v1]).length = b588.length + 1)) (ap_one (xs := b588) eEvent_len (y := v1) (cs := [iI v1.Kind, iI v1.Role, iI v1.Site, iI v1.Node, iI v1.To, iI v1.Flow.Src, iI v1.Flow.Dst, iI v1.Flow.Proto, iI v1.Flow.Sport, iI v1.Flow.Dport]) rfl))) h
theorem c66 {N} {x0 x1 x2 x3 x4 x5 r} (h : L_edge_Sent N x0 x1 x2 x3 x4 x5 = some r) : Con Tryz.prog 66 [.agg [iI x0.Role, iI x0.Site, iI x0.Node], .agg [iI x1.Src, iI x1.Dst, iI x1.Tier, iI x1.Marker, iI x1.Origin, .str x1.Body], sS true eEntry x2, .agg [iI x3.Flow.Src, iI x3.Flow.Dst, iI x3.Flow.Proto, iI x3.Flow.Sport, iI x3.Flow.Dport, iI x3.To, .bool x3.Away, iI x3.Phase, iI x3.Used], iI x4, iI x5] [] (d66 r) [] :=
 ci ok mix Tryz.f66 fun z =>
 bd h fun v1 h0 h =>
 z.s [(1, [(1, oR (d134 v1))])] 6 (o1 (c134 h0)) <|
 br h (fun h1 h =>
  bd h fun v2 h2 h =>
  z.r [(2, [(1, oT)]), (3, [(4, oR (d62 v2))])] 4 (o2 (Le.tt h1) (c62 h2)) h) fun h1 h =>
 bd h fun v2 h2 h =>
 bd h fun v3 h3 h =>
 z.s [(2, [(1, oF)]), (4, [(3, oR (d135 v2))]), (5, [(2, oR (d136 v3))]), (6, [(2, { own := some (10) })])] 11 (o3 (Le.ff h1) (c135 h2) (c136 true h3)) <|
 br h (fun h4 h =>
  bd h fun v4 h5 h =>
  z.j [(7, [(0, oT)]), (8, [(7, oR (d128 v4))])] 3 [6, 9, 13, 16, 20] [(148, 148), (172, 172), (204, 204), (260, 260), (492, 492), (588, 588)] (o5 (Le.tt h4) (c128 h5) (by decide : 1 * 10 ≤ 10) (by decide : 0 * 10 ≤ 0) (o1 (show growOk 80 (0 + 1) from ⟨by decide, by decide⟩))) (g66_1 z h)) fun h4 h =>
 z.j [(7, [(0, oF)])] 3 [6, 9, 13, 16, 20] [(148, 148), (172, 172), (204, 204), (260, 260), (492, 492), (500, 588)] (o1 (Le.ff h4)) (g66_1 z h)
def L_site_node_take_1 (N : Nat) (b0_0 b0_1 : Int) (b0_2 : (List GSite)) (b0_3 : (List GHealth)) (b0_4 : (List GSeen)) (b0_5 : (List GEntry)) (b0_6 b0_7 b0_8 b0_9 b0_10 : Int) (t1 : ByteArray) (b140_0 b140_1 b140_2 b140_3 b140_4 : Int) (b140_5 : ByteArray) (t38 : Bool) : Option (GOut × Gsite_node) :=
 bif t38 then
  (L_event_Teller_Alone N (Gevent_Teller.mk b0_7 b0_8 b0_9) 8 (GFlow.mk 0 0 0 0 0)).bind fun v1 =>
  some (v1, (Gsite_node.mk (GNode.mk b0_0 (GConfig.mk b0_1 b0_2) b0_3 b0_4 b0_5 b0_6) (Gevent_Teller.mk b0_7 b0_8 b0_9) b0_10))
 else
  bif (b140_2 == 4) then
   (L_site_node_told N (Gsite_node.mk (GNode.mk b0_0 (GConfig.mk b0_1 b0_2) b0_3 b0_4 b0_5 b0_6) (Gevent_Teller.mk b0_7 b0_8 b0_9) b0_10) (GOuter.mk b140_0 b140_1 b140_2 b140_3 b140_4 b140_5)).bind fun v1 =>
   some (v1.1, v1.2)
  else
   (L_site_node_inside N (Gsite_node.mk (GNode.mk b0_0 (GConfig.mk b0_1 b0_2) b0_3 b0_4 b0_5 b0_6) (Gevent_Teller.mk b0_7 b0_8 b0_9) b0_10) (GOuter.mk b140_0 b140_1 b140_2 b140_3 b140_4 b140_5)).bind fun v1 =>
   bif (!v1.2) then
    (L_event_Teller_Alone N (Gevent_Teller.mk b0_7 b0_8 b0_9) 7 (GFlow.mk 0 0 0 0 0)).bind fun v2 =>
    some (v2, (Gsite_node.mk (GNode.mk b0_0 (GConfig.mk b0_1 b0_2) b0_3 b0_4 b0_5 b0_6) (Gevent_Teller.mk b0_7 b0_8 b0_9) b0_10))
   else
    (L_flow_Of N v1.1).bind fun v2 =>
    bif (v2.2.2 != 0) then
     (L_event_Of N v2.2.2).bind fun v3 =>
     (L_event_Teller_Alone N (Gevent_Teller.mk b0_7 b0_8 b0_9) v3 v2.1).bind fun v4 =>
     some (v4, (Gsite_node.mk (GNode.mk b0_0 (GConfig.mk b0_1 b0_2) b0_3 b0_4 b0_5 b0_6) (Gevent_Teller.mk b0_7 b0_8 b0_9) b0_10))
    else
     (L_site_node_pinned N (Gsite_node.mk (GNode.mk b0_0 (GConfig.mk b0_1 b0_2) b0_3 b0_4 b0_5 b0_6) (Gevent_Teller.mk b0_7 b0_8 b0_9) b0_10) v2.1 (b140_2 == 2)).bind fun v3 =>
     bif (!v3.2) then
      (L_event_Teller_Alone N (Gevent_Teller.mk b0_7 b0_8 b0_9) 5 v2.1).bind fun v4 =>
      some (v4, (Gsite_node.mk (GNode.mk b0_0 (GConfig.mk b0_1 b0_2) b0_3 b0_4 b0_5 b0_6) (Gevent_Teller.mk b0_7 b0_8 b0_9) b0_10))
     else
      (L_site_node_head N (Gsite_node.mk (GNode.mk b0_0 (GConfig.mk b0_1 b0_2) b0_3 b0_4 b0_5 b0_6) (Gevent_Teller.mk b0_7 b0_8 b0_9) b0_10) v3.1 t1 v1.1).bind fun v4 =>
      (L_edge_Sent N (Gevent_Teller.mk b0_7 b0_8 b0_9) v4 b0_5 v3.1 v2.2.1.Flags b0_10).bind fun v5 =>
      some (v5.2, (Gsite_node.mk (GNode.mk b0_0 (GConfig.mk b0_1 b0_2) b0_3 b0_4 v5.1 b0_6) (Gevent_Teller.mk b0_7 b0_8 b0_9) b0_10))
def L_site_node_take (N : Nat) (x0 : Gsite_node) (x1 : ByteArray) : Option (GOut × Gsite_node) :=
 (L_gue_Pop N x1).bind fun v1 =>
 (L_addr_Address N 1 x0.Node.Id 0).bind fun v2 =>
 bif (v1.2 != 0) then
  L_site_node_take_1 N x0.Node.Id x0.Node.Config.Version x0.Node.Config.Sites x0.Node.Health x0.Node.Seen x0.Node.Flows x0.Node.Serial x0.Teller.Role x0.Teller.Site x0.Teller.Node x0.now_ x1 v1.1.Src v1.1.Dst v1.1.Tier v1.1.Marker v1.1.Origin v1.1.Body true
 else
  L_site_node_take_1 N x0.Node.Id x0.Node.Config.Version x0.Node.Config.Sites x0.Node.Health x0.Node.Seen x0.Node.Flows x0.Node.Serial x0.Teller.Role x0.Teller.Site x0.Teller.Node x0.now_ x1 v1.1.Src v1.1.Dst v1.1.Tier v1.1.Marker v1.1.Origin v1.1.Body (v1.1.Dst != v2.1)
def d101 (r : GOut × Gsite_node) : D := .agg [sS true eStr r.1.Sent, sS true eEvent r.1.Events]
def h101 (r : GOut × Gsite_node) : List (Nat × Option Blk) := [qB 0 [iI r.2.Node.Id, iI r.2.Node.Config.Version, sS true (eSite true) r.2.Node.Config.Sites, sS true eHealth r.2.Node.Health, sS true eSeen r.2.Node.Seen, sS true eEntry r.2.Node.Flows, iI r.2.Node.Serial, iI r.2.Teller.Role, iI r.2.Teller.Site, iI r.2.Teller.Node, iI r.2.now_]]
theorem g101_1 {N} {r C0} (z : Z Tryz.prog ty 101 Tryz.f101 (Fi [(0, ⟨false, 0, C0⟩)] (d101 r) (h101 r))) {b0_0 b0_1 b0_2 b0_3 b0_4 b0_5 b0_6 b0_7 b0_8 b0_9 b0_10 t1 b140_0 b140_1 b140_2 b140_3 b140_4 b140_5 t38} (h : L_site_node_take_1 N b0_0 b0_1 b0_2 b0_3 b0_4 b0_5 b0_6 b0_7 b0_8 b0_9 b0_10 t1 b140_0 b140_1 b140_2 b140_3 b140_4 b140_5 t38 = some r) : z.G [.c 59, .c 15] [(0, .ptr 0 0), (1, .str t1), (4, .ptr 132 0), (5, .ptr 140 0), (38, .bool t38)] [qB 0 [iI b0_0, iI b0_1, sS true (eSite true) b0_2, sS true eHealth b0_3, sS true eSeen b0_4, sS true eEntry b0_5, iI b0_6, iI b0_7, iI b0_8, iI b0_9, iI b0_10], qB 132 [.nils, .nils], qB 140 [iI b140_0, iI b140_1, iI b140_2, iI b140_3, iI b140_4, .str b140_5]] :=
 by
  cases t38 with
  | true => exact brT h fun h => (
   bd h fun v1 h1 h =>
   z.rb [(4, [(5, oR (d62 v1))])] 3 [] (.agg [sS true eStr v1.Sent, sS true eEvent v1.Events]) (o1 (c62 h1)) h (Le.of (by kernel_rfl)))
  | false => exact brF h fun h => (
   br h (fun h1 h =>
    bd h fun v1 h2 h =>
    z.rb [(5, [(2, oT)]), (6, [(1, { ρ := [0], r := d160 v1, H := h160 v1 })])] 8 [] (.agg [sS true eStr v1.1.Sent, sS true eEvent v1.1.Events]) (o2 (Le.tt h1) (c160 false h2)) h (Le.of (by kernel_rfl))) fun h1 h =>
   bd h fun v1 h2 h =>
   z.s [(5, [(2, oF)]), (7, [(1, oR (d161 v1))])] 11 (o2 (Le.ff h1) (c161 false false h2)) <|
   br h (fun h3 h =>
    bd h fun v2 h4 h =>
    z.rb [(8, [(1, oT)]), (9, [(5, oR (d62 v2))])] 4 [] (.agg [sS true eStr v2.Sent, sS true eEvent v2.Events]) (o2 (Le.tt h3) (c62 h4)) h (Le.of (by kernel_rfl))) fun h3 h =>
   bd h fun v2 h4 h =>
   z.s [(8, [(1, oF)]), (10, [(1, oR (d61 v2))])] 7 (o2 (Le.ff h3) (c61 h4)) <|
   br h (fun h5 h =>
    bd h fun v3 h6 h =>
    bd h fun v4 h7 h =>
    z.rb [(11, [(1, oT)]), (12, [(5, oR (d63 v3)), (7, oR (d62 v4))])] 4 [] (.agg [sS true eStr v4.Sent, sS true eEvent v4.Events]) (o3 (Le.tt h5) (c63 h6) (c62 h7)) h (Le.of (by kernel_rfl))) fun h5 h =>
   bd h fun v3 h6 h =>
   z.s [(11, [(1, oF)]), (13, [(5, oR (d162 v3))])] 7 (o2 (Le.ff h5) (c162 false h6)) <|
   br h (fun h7 h =>
    bd h fun v4 h8 h =>
    z.rb [(14, [(1, oT)]), (15, [(5, oR (d62 v4))])] 4 [] (.agg [sS true eStr v4.Sent, sS true eEvent v4.Events]) (o2 (Le.tt h7) (c62 h8)) h (Le.of (by kernel_rfl))) fun h7 h =>
   bd h fun v4 h8 h =>
   bd h fun v5 h9 h =>
   z.rb [(14, [(1, oF)]), (17, [(8, oR (d163 v4)), (21, oR (d66 v5))])] 9 [] (.agg [sS true eStr v5.2.Sent, sS true eEvent v5.2.Events]) (o3 (Le.ff h7) (c163 false false h8) (c66 h9)) h (Le.of (by kernel_rfl)))
theorem c101 {N} {x0 x1 r} (h : L_site_node_take N x0 x1 = some r) : Con Tryz.prog 101 [.ptr 0 0, .str x1] [(0, ⟨false, 0, [iI x0.Node.Id, iI x0.Node.Config.Version, sS true (eSite true) x0.Node.Config.Sites, sS true eHealth x0.Node.Health, sS true eSeen x0.Node.Seen, sS true eEntry x0.Node.Flows, iI x0.Node.Serial, iI x0.Teller.Role, iI x0.Teller.Site, iI x0.Teller.Node, iI x0.now_]⟩)] (d101 r) (h101 r) :=
 ci ok mix Tryz.f101 fun z =>
 bd h fun v1 h0 h =>
 bd h fun v2 h1 h =>
 z.s [(1, [(1, oR (d159 v1))]), (2, [(5, oR (d65 v2))])] 8 (o2 (c159 h0) (c65 h1)) <|
 br h (fun h2 h =>
  z.j [(3, [(2, oT)])] 1 [0, 1, 4, 5, 38] [(0, 0), (132, 132), (140, 140)] (o1 (Le.tt h2)) (g101_1 z h)) fun h2 h =>
 z.j [(3, [(2, oF)])] 1 [0, 1, 4, 5, 38] [(0, 0), (132, 132), (140, 140)] (o1 (Le.ff h2)) (g101_1 z h)
def L_site_Take_1 (N : Nat) (t1 : Int) (t2 : ByteArray) (b124_0 b124_1 : Int) (b124_2 : (List GSite)) (b124_3 : (List GHealth)) (b124_4 : (List GSeen)) (b124_5 : (List GEntry)) (b124_6 b148_0 b148_1 b148_6 : Int) (t18 : Bool) : Option (GNode × GOut × Int) :=
 bif t18 then
  some ((GNode.mk 0 (GConfig.mk 0 ([])) ([]) ([]) ([]) 0), (GOut.mk ([]) ([])), 2000)
 else
  (L_site_Copy N (GNode.mk b124_0 (GConfig.mk b124_1 b124_2) b124_3 b124_4 b124_5 b124_6)).bind fun v1 =>
  (L_site_node_take N (Gsite_node.mk v1 (Gevent_Teller.mk 1 b124_0 0) t1) t2).bind fun v2 =>
  some (v2.2.Node, v2.1, 0)
def L_site_Take (N : Nat) (x0 : GNode) (x1 : Int) (x2 : ByteArray) : Option (GNode × GOut × Int) :=
 (L_site_May N x0).bind fun v1 =>
 bif (!v1) then
  L_site_Take_1 N x1 x2 x0.Id x0.Config.Version x0.Config.Sites x0.Health x0.Seen x0.Flows x0.Serial 0 0 0 true
 else
  (L_conf_Time N x1).bind fun v2 =>
  L_site_Take_1 N x1 x2 x0.Id x0.Config.Version x0.Config.Sites x0.Health x0.Seen x0.Flows x0.Serial 0 0 0 (!v2)
def d39 (r : GNode × GOut × Int) : D := .tup [.agg [iI r.1.Id, iI r.1.Config.Version, sS true (eSite true) r.1.Config.Sites, sS true eHealth r.1.Health, sS true eSeen r.1.Seen, sS true eEntry r.1.Flows, iI r.1.Serial], .agg [sS true eStr r.2.1.Sent, sS true eEvent r.2.1.Events], iI r.2.2]
theorem g39_1 {N} (gx0 : Bool) {r} (z : Z Tryz.prog ty 39 Tryz.f39 (Fi [] (d39 r) [])) {t1 t2 b124_0 b124_1 b124_2 b124_3 b124_4 b124_5 b124_6 b148_0 b148_1 b148_6 t18} (h : L_site_Take_1 N t1 t2 b124_0 b124_1 b124_2 b124_3 b124_4 b124_5 b124_6 b148_0 b148_1 b148_6 t18 = some r) : z.G [.c 13, .c 7] [(1, iI t1), (2, .str t2), (3, .ptr 124 0), (6, .ptr 148 0), (7, .ptr 156 0), (18, .bool t18)] [qB 124 [iI b124_0, iI b124_1, sS gx0 (eSite gx0) b124_2, sS gx0 eHealth b124_3, sS gx0 eSeen b124_4, sS gx0 eEntry b124_5, iI b124_6], qB 148 [iI b148_0, iI b148_1, .nils, .nils, .nils, .nils, iI b148_6], qB 156 [.nils, .nils]] :=
 by
  cases t18 with
  | true => exact brT h fun h => (
   z.rl [] 3 (.tup [.agg [iI 0, iI 0, .nils, .nils, .nils, .nils, iI 0], .agg [.nils, .nils], iI 2000]) o0 h (Le.tup ((.cons (Le.agg ((.cons (Le.of rfl) (.cons (Le.of rfl) (.cons (Le.nils (g := true)) (.cons (Le.nils (g := true)) (.cons (Le.nils (g := true)) (.cons (Le.nils (g := true)) (.cons (Le.of rfl) .nil))))))))) (.cons (Le.agg ((.cons (Le.nils (g := true)) (.cons (Le.nils (g := true)) .nil)))) (.cons (Le.of rfl) .nil))))))
  | false => exact brF h fun h => (
   bd h fun v1 h1 h =>
   bd h fun v2 h2 h =>
   z.r [(3, [(1, oR (d100 v1))]), (4, [(2, { ρ := [324], r := d101 v2, H := h101 v2 })])] 8 (o2 (c100 gx0 h1) (c101 h2)) h)
theorem c39 {N} (gx0 : Bool) {x0 x1 x2 r} (h : L_site_Take N x0 x1 x2 = some r) : Con Tryz.prog 39 [.agg [iI x0.Id, iI x0.Config.Version, sS gx0 (eSite gx0) x0.Config.Sites, sS gx0 eHealth x0.Health, sS gx0 eSeen x0.Seen, sS gx0 eEntry x0.Flows, iI x0.Serial], iI x1, .str x2] [] (d39 r) [] :=
 ci ok mix Tryz.f39 fun z =>
 bd h fun v1 h0 h =>
 br h (fun h1 h =>
  z.j [(1, [(1, oR (d46 v1)), (3, oT)])] 5 [1, 2, 3, 6, 7, 18] [(124, 124), (148, 148), (156, 156)] (o2 (c46 gx0 h0) (Le.tt h1)) (g39_1 gx0 z h)) fun h1 h =>
 bd h fun v2 h2 h =>
 z.j [(1, [(1, oR (d46 v1)), (3, oF), (5, oR (d59 v2))])] 5 [1, 2, 3, 6, 7, 18] [(124, 124), (148, 148), (156, 156)] (o3 (c46 gx0 h0) (Le.ff h1) (c59 h2)) (g39_1 gx0 z h)
def L_site_Report (N : Nat) (x0 : GNode) : Option (GNode × GReport × Int) :=
 (L_site_May N x0).bind fun v1 =>
 bif (!v1) then
  some ((GNode.mk 0 (GConfig.mk 0 ([])) ([]) ([]) ([]) 0), (GReport.mk 0 0 0 0), 2000)
 else
  (L_conf_Site N x0.Config x0.Id).bind fun v2 =>
  (L_spare_Load N x0).bind fun v3 =>
  (L_site_Copy N x0).bind fun v4 =>
  via (((IntKind.i64.wrap (v4.Serial + 1)).tmod 65536) : Int) fun v5 =>
  some ((GNode.mk v4.Id v4.Config v4.Health v4.Seen v4.Flows v5), (GReport.mk x0.Id x0.Serial v3 v2.1.Cap), 0)
def d43 (r : GNode × GReport × Int) : D := .tup [.agg [iI r.1.Id, iI r.1.Config.Version, sS true (eSite true) r.1.Config.Sites, sS true eHealth r.1.Health, sS true eSeen r.1.Seen, sS true eEntry r.1.Flows, iI r.1.Serial], .agg [iI r.2.1.Site, iI r.2.1.Serial, iI r.2.1.Load, iI r.2.1.Cap], iI r.2.2]
theorem c43 {N} {x0 r} (h : L_site_Report N x0 = some r) : Con Tryz.prog 43 [.agg [iI x0.Id, iI x0.Config.Version, sS true (eSite true) x0.Config.Sites, sS true eHealth x0.Health, sS true eSeen x0.Seen, sS true eEntry x0.Flows, iI x0.Serial]] [] (d43 r) [] :=
 ci ok mix Tryz.f43 fun z =>
 bd h fun v1 h0 h =>
 br h (fun h1 h =>
  z.rl [(1, [(1, oR (d46 v1)), (2, oT)])] 8 (.tup [.agg [iI 0, iI 0, .nils, .nils, .nils, .nils, iI 0], .agg [iI 0, iI 0, iI 0, iI 0], iI 2000]) (o2 (c46 true h0) (Le.tt h1)) h (Le.tup ((.cons (Le.agg ((.cons (Le.of rfl) (.cons (Le.of rfl) (.cons (Le.nils (g := true)) (.cons (Le.nils (g := true)) (.cons (Le.nils (g := true)) (.cons (Le.nils (g := true)) (.cons (Le.of rfl) .nil))))))))) (.cons (Le.of rfl) (.cons (Le.of rfl) .nil)))))) fun h1 h =>
 bd h fun v2 h2 h =>
 bd h fun v3 h3 h =>
 bd h fun v4 h4 h =>
 vi h fun v5 h5 h =>
 z.r [(1, [(1, oR (d46 v1)), (2, oF)]), (3, [(3, oR (d109 v2))]), (4, [(4, oR (d110 v3))]), (5, [(1, oR (d100 v4))]), (6, [(3, oC (.int .i64 v5))])] 17 (o5 (c46 true h0) (Le.ff h1) ((c109 false h2).le ((.cons (Le.ipt (g := false) (cs := [iI x0.Config.Version, sS true (eSite true) x0.Config.Sites]) (ds := [sS true eHealth x0.Health, sS true eSeen x0.Seen, sS true eEntry x0.Flows, iI x0.Serial])) (.cons (Le.rfl) .nil)))) (c110 false h3) (o3 (c100 true h4) (by decide : (65536:Int) ≠ 0) (Le.int (k := .i64) h5))) h
def L_ref1_Of_1 (N : Nat) : Nat → ByteArray → Int → Int → Option (Int)
  | 0, _, _, _ => none
  | fuel + 1, t0, t3, t4 =>
  bif (decide (t4 < (t0.size : Int))) then
   if 0 ≤ t4 ∧ t4 < (t0.size : Int) then
   via ((bOr .i64 (IntKind.i64.wrap (t3 * 2 ^ 8)) (IntKind.i64.wrap (bt t0 t4))) : Int) fun v1 =>
   L_ref1_Of_1 N fuel t0 v1 (IntKind.i64.wrap (t4 + 1))
   else none
  else
   some t3
def L_ref1_Of (N : Nat) (x0 : ByteArray) : Option (Int) :=
 L_ref1_Of_1 N N x0 0 0
def d153 (r : Int) : D := iI r
theorem g153_1 {N} {r} (z : Z Tryz.prog ty 153 Tryz.f153 (Fi [] (d153 r) [])) (fuel) : ∀ {t0 t3 t4}, L_ref1_Of_1 N fuel t0 t3 t4 = some r → z.G [.c 75, .l 75, .b 0, .c 15] [(0, .str t0), (3, iI t3), (4, iI t4)] [] := by
 induction fuel with
 | zero => intro t0 t3 t4 h; cases h
 | succ fuel ih =>
  intro t0 t3 t4 h
  exact
   br h (fun h0 h =>
    ck h fun h1 h =>
    vi h fun v1 h2 h =>
    z.j [(3, [(3, oT)]), (5, [(6, oC (.int .i64 v1))])] 11 [0, 3, 4] [] (o4 (Le.tt h0) (by decide : (0:Int) ≤ 8) h1 (Le.int (k := .i64) h2)) (ih h)) fun h0 h =>
   z.r [(3, [(3, oF)])] 7 (o1 (Le.ff h0)) h
theorem c153 {N} {x0 r} (h : L_ref1_Of N x0 = some r) : Con Tryz.prog 153 [.str x0] [] (d153 r) [] :=
 ci ok mix Tryz.f153 fun z =>
 z.j [] 9 [0, 3, 4] [] o0 (g153_1 z N h)
def L_ref1_GetIp_2 (N : Nat) (t0 : ByteArray) (b116_0 b116_1 b116_2 b116_3 b116_4 : Int) (b116_5 : ByteArray) (t5 : Int) (t48 : Bool) : Option (GIp × Int × Int) :=
 bif t48 then
  some ((GIp.mk 0 0 0 0 0 ByteArray.empty), 1, 200)
 else
  bif (decide (t5 > 20)) then
   some ((GIp.mk 0 0 0 0 0 ByteArray.empty), 3, 0)
  else
   if 0 ≤ (8 : Int) ∧ (8 : Int) ≤ (t0.size : Int) ∧ 0 ≤ (6 : Int) ∧ (6 : Int) ≤ (8 : Int) then
   (L_ref1_Of N (t0.extract 6 8)).bind fun v1 =>
   bif ((bAnd .i64 v1 49151) != 0) then
    some ((GIp.mk 0 0 0 0 0 ByteArray.empty), 2, 0)
   else
    if 0 ≤ (16 : Int) ∧ (16 : Int) ≤ (t0.size : Int) ∧ 0 ≤ (12 : Int) ∧ (12 : Int) ≤ (16 : Int) then
    (L_ref1_Of N (t0.extract 12 16)).bind fun v2 =>
    if 0 ≤ (20 : Int) ∧ (20 : Int) ≤ (t0.size : Int) ∧ 0 ≤ (16 : Int) ∧ (16 : Int) ≤ (20 : Int) then
    (L_ref1_Of N (t0.extract 16 20)).bind fun v3 =>
    if 0 ≤ (9 : Int) ∧ (9 : Int) < (t0.size : Int) then
    if 0 ≤ (8 : Int) ∧ (8 : Int) < (t0.size : Int) then
    if 0 ≤ (6 : Int) ∧ (6 : Int) ≤ (t0.size : Int) ∧ 0 ≤ (4 : Int) ∧ (4 : Int) ≤ (6 : Int) then
    (L_ref1_Of N (t0.extract 4 6)).bind fun v4 =>
    if 0 ≤ (t0.size : Int) ∧ (t0.size : Int) ≤ (t0.size : Int) ∧ 0 ≤ (20 : Int) ∧ (20 : Int) ≤ (t0.size : Int) then
    some ((GIp.mk v2 v3 (IntKind.i64.wrap (bt t0 9)) (IntKind.i64.wrap (bt t0 8)) v4 (t0.extract 20 t0.size)), 0, 0)
    else none
    else none
    else none
    else none
    else none
    else none
   else none
def L_ref1_GetIp_1 (N : Nat) (t0 : ByteArray) (b116_0 b116_1 b116_2 b116_3 b116_4 : Int) (b116_5 : ByteArray) (t19 : Bool) : Option (GIp × Int × Int) :=
 bif t19 then
  some ((GIp.mk 0 0 0 0 0 ByteArray.empty), 1, 200)
 else
  if 0 ≤ (0 : Int) ∧ (0 : Int) < (t0.size : Int) then
  via ((IntKind.i64.wrap ((4 : Int) * (IntKind.i64.wrap (bAnd .u8 (bt t0 0) 15)))) : Int) fun v1 =>
  bif (decide (v1 < 20)) then
   L_ref1_GetIp_2 N t0 b116_0 b116_1 b116_2 b116_3 b116_4 b116_5 v1 true
  else
   bif (decide (v1 > (t0.size : Int))) then
    L_ref1_GetIp_2 N t0 b116_0 b116_1 b116_2 b116_3 b116_4 b116_5 v1 true
   else
    if 0 ≤ (4 : Int) ∧ (4 : Int) ≤ (t0.size : Int) ∧ 0 ≤ (2 : Int) ∧ (2 : Int) ≤ (4 : Int) then
    (L_ref1_Of N (t0.extract 2 4)).bind fun v2 =>
    bif (v2 != (t0.size : Int)) then
     L_ref1_GetIp_2 N t0 b116_0 b116_1 b116_2 b116_3 b116_4 b116_5 v1 true
    else
     if 0 ≤ v1 ∧ v1 ≤ (t0.size : Int) ∧ 0 ≤ (0 : Int) ∧ (0 : Int) ≤ v1 then
     (L_ref1_Sum N (t0.extract 0 v1.toNat)).bind fun v3 =>
     L_ref1_GetIp_2 N t0 b116_0 b116_1 b116_2 b116_3 b116_4 b116_5 v1 (v3 != 65535)
     else none
    else none
  else none
def L_ref1_GetIp (N : Nat) (x0 : ByteArray) : Option (GIp × Int × Int) :=
 bif (decide ((x0.size : Int) < 20)) then
  L_ref1_GetIp_1 N x0 0 0 0 0 0 ByteArray.empty true
 else
  bif (decide ((x0.size : Int) > 512)) then
   L_ref1_GetIp_1 N x0 0 0 0 0 0 ByteArray.empty true
  else
   if 0 ≤ (0 : Int) ∧ (0 : Int) < (x0.size : Int) then
   L_ref1_GetIp_1 N x0 0 0 0 0 0 ByteArray.empty (((bt x0 0).fdiv (2 ^ 4)) != 4)
   else none
def d96 (r : GIp × Int × Int) : D := .tup [.agg [iI r.1.Src, iI r.1.Dst, iI r.1.Proto, iI r.1.Ttl, iI r.1.Id, .str r.1.Body], iI r.2.1, iI r.2.2]
theorem g96_2 {N} {r} (z : Z Tryz.prog ty 96 Tryz.f96 (Fi [] (d96 r) [])) {t0 b116_0 b116_1 b116_2 b116_3 b116_4 b116_5 t5 t48} (h : L_ref1_GetIp_2 N t0 b116_0 b116_1 b116_2 b116_3 b116_4 b116_5 t5 t48 = some r) : z.G [.c 55, .c 31] [(0, .str t0), (2, .ptr 116 0), (5, iI t5), (48, .bool t48)] [qB 116 [iI b116_0, iI b116_1, iI b116_2, iI b116_3, iI b116_4, .str b116_5]] :=
 by
  cases t48 with
  | true => exact brT h fun h => (
   z.r [] 3 o0 h)
  | false => exact brF h fun h => (
   br h (fun h1 h =>
    z.r [(6, [(1, oT)])] 8 (o1 (Le.tt h1)) h) fun h1 h =>
   ck h fun h2 h =>
   bd h fun v1 h3 h =>
   z.s [(6, [(1, oF)])] 9 (o1 (Le.ff h1)) <|
   br h (fun h4 h =>
    z.r [(8, [(2, oR (d153 v1)), (4, oT)])] 4 (o3 h2 (c153 h3) (Le.tt h4)) h) fun h4 h =>
   ck h fun h5 h =>
   bd h fun v2 h6 h =>
   ck h fun h7 h =>
   bd h fun v3 h8 h =>
   ck h fun h9 h =>
   ck h fun h10 h =>
   ck h fun h11 h =>
   bd h fun v4 h12 h =>
   ck h fun h13 h =>
   z.r [(8, [(2, oR (d153 v1)), (4, oF)]), (10, [(2, oR (d153 v2)), (5, oR (d153 v3)), (14, oR (d153 v4))])] 5 (o5 h2 (c153 h3) (Le.ff h4) h5 (o5 (c153 h6) h7 (c153 h8) h9 (o4 h10 h11 (c153 h12) h13))) h)
theorem g96_1 {N} {r} (z : Z Tryz.prog ty 96 Tryz.f96 (Fi [] (d96 r) [])) {t0 b116_0 b116_1 b116_2 b116_3 b116_4 b116_5 t19} (h : L_ref1_GetIp_1 N t0 b116_0 b116_1 b116_2 b116_3 b116_4 b116_5 t19 = some r) : z.G [.c 13, .c 7] [(0, .str t0), (2, .ptr 116 0), (19, .bool t19)] [qB 116 [iI b116_0, iI b116_1, iI b116_2, iI b116_3, iI b116_4, .str b116_5]] :=
 by
  cases t19 with
  | true => exact brT h fun h => (
   z.r [] 3 o0 h)
  | false => exact brF h fun h => (
   ck h fun h1 h =>
   vi h fun v1 h2 h =>
   z.s [(3, [(4, oC (.int .i64 v1))])] 6 (o2 h1 (Le.int (k := .i64) h2)) <|
   br h (fun h3 h =>
    z.j [(4, [(2, oT)])] 1 [0, 2, 5, 48] [(116, 116)] (o1 (Le.tt h3)) (g96_2 z h)) fun h3 h =>
   br h (fun h4 h =>
    z.j [(4, [(2, oF), (8, oT)])] 1 [0, 2, 5, 48] [(116, 116)] (o2 (Le.ff h3) (Le.tt h4)) (g96_2 z h)) fun h4 h =>
   ck h fun h5 h =>
   bd h fun v2 h6 h =>
   br h (fun h7 h =>
    z.j [(4, [(2, oF), (8, oF), (11, oR (d153 v2)), (16, oT)])] 1 [0, 2, 5, 48] [(116, 116)] (o5 (Le.ff h3) (Le.ff h4) h5 (c153 h6) (o1 (Le.tt h7))) (g96_2 z h)) fun h7 h =>
   ck h fun h8 h =>
   bd h fun v3 h9 h =>
   z.j [(4, [(2, oF), (8, oF), (11, oR (d153 v2)), (16, oF), (20, oR (d121 v3))])] 1 [0, 2, 5, 48] [(116, 116)] (o5 (Le.ff h3) (Le.ff h4) h5 (c153 h6) (o3 (Le.ff h7) h8 (c121 h9))) (g96_2 z h))
theorem c96 {N} {x0 r} (h : L_ref1_GetIp N x0 = some r) : Con Tryz.prog 96 [.str x0] [] (d96 r) [] :=
 ci ok mix Tryz.f96 fun z =>
 br h (fun h0 h =>
  z.j [(1, [(3, oT)])] 5 [0, 2, 19] [(116, 116)] (o1 (Le.tt h0)) (g96_1 z h)) fun h0 h =>
 br h (fun h1 h =>
  z.j [(1, [(3, oF), (8, oT)])] 5 [0, 2, 19] [(116, 116)] (o2 (Le.ff h0) (Le.tt h1)) (g96_1 z h)) fun h1 h =>
 ck h fun h2 h =>
 z.j [(1, [(3, oF), (8, oF)])] 5 [0, 2, 19] [(116, 116)] (o4 (Le.ff h0) (Le.ff h1) h2 (by decide : (0:Int) ≤ 4)) (g96_1 z h)
def L_ref1_Pop_2 (N : Nat) (b116_0 b116_1 b116_2 b116_3 b116_4 : Int) (b116_5 : ByteArray) (b164_0 b164_1 b164_2 b164_3 b164_4 : Int) (b164_5 : ByteArray) (t59 : Bool) : Option (GOuter × Int) :=
 bif t59 then
  some ((GOuter.mk 0 0 0 0 0 ByteArray.empty), 600)
 else
  some ((GOuter.mk b164_0 b164_1 b164_2 b164_3 b164_4 b164_5), 0)
def L_ref1_Pop_1 (N : Nat) (t0 : ByteArray) (b116_0 b116_1 b116_2 b116_3 b116_4 : Int) (b116_5 : ByteArray) (b132_0 b132_1 b132_2 b132_3 b132_4 : Int) (b132_5 : ByteArray) (t28 : Bool) : Option (GOuter × Int) :=
 bif t28 then
  some ((GOuter.mk 0 0 0 0 0 ByteArray.empty), 600)
 else
  if 0 ≤ (9 : Int) ∧ (9 : Int) < (b132_5.size : Int) then
  if 0 ≤ (10 : Int) ∧ (10 : Int) < (b132_5.size : Int) then
  if 0 ≤ (11 : Int) ∧ (11 : Int) < (b132_5.size : Int) then
  if 0 ≤ (b132_5.size : Int) ∧ (b132_5.size : Int) ≤ (b132_5.size : Int) ∧ 0 ≤ (16 : Int) ∧ (16 : Int) ≤ (b132_5.size : Int) then
  (L_ref1_Push N (GOuter.mk b132_0 b132_1 (IntKind.i64.wrap (bt b132_5 9)) (IntKind.i64.wrap (bt b132_5 10)) (IntKind.i64.wrap (bt b132_5 11)) (b132_5.extract 16 b132_5.size))).bind fun v1 =>
  bif (v1.2 != 0) then
   L_ref1_Pop_2 N b116_0 b116_1 b116_2 b116_3 b116_4 b116_5 b132_0 b132_1 (IntKind.i64.wrap (bt b132_5 9)) (IntKind.i64.wrap (bt b132_5 10)) (IntKind.i64.wrap (bt b132_5 11)) (b132_5.extract 16 b132_5.size) true
  else
   L_ref1_Pop_2 N b116_0 b116_1 b116_2 b116_3 b116_4 b116_5 b132_0 b132_1 (IntKind.i64.wrap (bt b132_5 9)) (IntKind.i64.wrap (bt b132_5 10)) (IntKind.i64.wrap (bt b132_5 11)) (b132_5.extract 16 b132_5.size) (!(v1.1.toList == t0.toList))
  else none
  else none
  else none
  else none
def L_ref1_Pop (N : Nat) (x0 : ByteArray) : Option (GOuter × Int) :=
 (L_ref1_GetIp N x0).bind fun v1 =>
 bif (v1.2.2 != 0) then
  L_ref1_Pop_1 N x0 0 0 0 0 0 ByteArray.empty v1.1.Src v1.1.Dst v1.1.Proto v1.1.Ttl v1.1.Id v1.1.Body true
 else
  bif (v1.2.1 != 0) then
   L_ref1_Pop_1 N x0 0 0 0 0 0 ByteArray.empty v1.1.Src v1.1.Dst v1.1.Proto v1.1.Ttl v1.1.Id v1.1.Body true
  else
   L_ref1_Pop_1 N x0 0 0 0 0 0 ByteArray.empty v1.1.Src v1.1.Dst v1.1.Proto v1.1.Ttl v1.1.Id v1.1.Body (decide ((v1.1.Body.size : Int) < 16))
def d33 (r : GOuter × Int) : D := .tup [.agg [iI r.1.Src, iI r.1.Dst, iI r.1.Tier, iI r.1.Marker, iI r.1.Origin, .str r.1.Body], iI r.2]
theorem g33_2 {N} {r} (z : Z Tryz.prog ty 33 Tryz.f33 (Fi [] (d33 r) [])) {b116_0 b116_1 b116_2 b116_3 b116_4 b116_5 b164_0 b164_1 b164_2 b164_3 b164_4 b164_5 t59} (h : L_ref1_Pop_2 N b116_0 b116_1 b116_2 b116_3 b116_4 b116_5 b164_0 b164_1 b164_2 b164_3 b164_4 b164_5 t59 = some r) : z.G [.c 447, .c 255] [(2, .ptr 116 0), (8, .ptr 164 0), (59, .bool t59)] [qB 116 [iI b116_0, iI b116_1, iI b116_2, iI b116_3, iI b116_4, .str b116_5], qB 164 [iI b164_0, iI b164_1, iI b164_2, iI b164_3, iI b164_4, .str b164_5]] :=
 by
  cases t59 with
  | true => exact brT h fun h => (
   z.r [] 3 o0 h)
  | false => exact brF h fun h => (
   z.r [] 4 o0 h)
theorem g33_1 {N} {r} (z : Z Tryz.prog ty 33 Tryz.f33 (Fi [] (d33 r) [])) {t0 b116_0 b116_1 b116_2 b116_3 b116_4 b116_5 b132_0 b132_1 b132_2 b132_3 b132_4 b132_5 t28} (h : L_ref1_Pop_1 N t0 b116_0 b116_1 b116_2 b116_3 b116_4 b116_5 b132_0 b132_1 b132_2 b132_3 b132_4 b132_5 t28 = some r) : z.G [.c 27, .c 15] [(0, .str t0), (2, .ptr 116 0), (4, .ptr 132 0), (28, .bool t28)] [qB 116 [iI b116_0, iI b116_1, iI b116_2, iI b116_3, iI b116_4, .str b116_5], qB 132 [iI b132_0, iI b132_1, iI b132_2, iI b132_3, iI b132_4, .str b132_5]] :=
 by
  cases t28 with
  | true => exact brT h fun h => (
   z.r [] 3 o0 h)
  | false => exact brF h fun h => (
   ck h fun h1 h =>
   ck h fun h2 h =>
   ck h fun h3 h =>
   ck h fun h4 h =>
   bd h fun v1 h5 h =>
   z.s [(6, [(1, oR (d53 v1))])] 10 (o5 h1 h2 h3 h4 (o1 (c53 h5))) <|
   br h (fun h6 h =>
    z.j [(7, [(2, oT)])] 1 [2, 8, 59] [(116, 116), (164, 164)] (o1 (Le.tt h6)) (g33_2 z h)) fun h6 h =>
   z.j [(7, [(2, oF)])] 1 [2, 8, 59] [(116, 116), (164, 164)] (o1 (Le.ff h6)) (g33_2 z h))
theorem c33 {N} {x0 r} (h : L_ref1_Pop N x0 = some r) : Con Tryz.prog 33 [.str x0] [] (d33 r) [] :=
 ci ok mix Tryz.f33 fun z =>
 bd h fun v1 h0 h =>
 z.s [(1, [(1, oR (d96 v1))])] 6 (o1 (c96 h0)) <|
 br h (fun h1 h =>
  z.j [(2, [(2, oT)])] 1 [0, 2, 4, 28] [(116, 116), (132, 132)] (o1 (Le.tt h1)) (g33_1 z h)) fun h1 h =>
 br h (fun h2 h =>
  z.j [(2, [(2, oF), (6, oT)])] 1 [0, 2, 4, 28] [(116, 116), (132, 132)] (o2 (Le.ff h1) (Le.tt h2)) (g33_1 z h)) fun h2 h =>
 z.j [(2, [(2, oF), (6, oF)])] 1 [0, 2, 4, 28] [(116, 116), (132, 132)] (o2 (Le.ff h1) (Le.ff h2)) (g33_1 z h)
def L_law0_Num (N : Nat) (x0 : Int) : Option (Int) :=
 some x0
def d25 (r : Int) : D := iI r
theorem c25 {N} {x0 r} (h : L_law0_Num N x0 = some r) : Con Tryz.prog 25 [iI x0] [] (d25 r) [] :=
 ci ok mix Tryz.f25 fun z =>
 z.r [] 4 o0 h
def L_law0_SameEvents_1 (N : Nat) : Nat → (List GEvent) → (List GEvent) → Int → Option (Bool)
  | 0, _, _, _ => none
  | fuel + 1, t0, t1, t5 =>
  bif (decide (t5 < (t0.length : Int))) then
   if 0 ≤ t5 ∧ t5 < ((t0.length : Nat) : Int) then
   if 0 ≤ t5 ∧ t5 < ((t1.length : Nat) : Int) then
   bif (!(((t0.getD t5.toNat default).Kind == (t1.getD t5.toNat default).Kind) && (((t0.getD t5.toNat default).Role == (t1.getD t5.toNat default).Role) && (((t0.getD t5.toNat default).Site == (t1.getD t5.toNat default).Site) && (((t0.getD t5.toNat default).Node == (t1.getD t5.toNat default).Node) && (((t0.getD t5.toNat default).To == (t1.getD t5.toNat default).To) && ((((t0.getD t5.toNat default).Flow).Src == ((t1.getD t5.toNat default).Flow).Src) && ((((t0.getD t5.toNat default).Flow).Dst == ((t1.getD t5.toNat default).Flow).Dst) && ((((t0.getD t5.toNat default).Flow).Proto == ((t1.getD t5.toNat default).Flow).Proto) && ((((t0.getD t5.toNat default).Flow).Sport == ((t1.getD t5.toNat default).Flow).Sport) && ((((t0.getD t5.toNat default).Flow).Dport == ((t1.getD t5.toNat default).Flow).Dport) && true))))))))))) then
    some false
   else
    L_law0_SameEvents_1 N fuel t0 t1 (IntKind.i64.wrap (t5 + 1))
   else none
   else none
  else
   some true
def L_law0_SameEvents (N : Nat) (x0 x1 : (List GEvent)) : Option (Bool) :=
 bif ((x0.length : Int) != (x1.length : Int)) then
  some false
 else
  L_law0_SameEvents_1 N N x0 x1 0
def d83 (r : Bool) : D := .bool r
theorem g83_1 {N} (gx0 gx1 : Bool) {r} (z : Z Tryz.prog ty 83 Tryz.f83 (Fi [] (d83 r) [])) (fuel) : ∀ {t0 t1 t5}, L_law0_SameEvents_1 N fuel t0 t1 t5 = some r → z.G [.c 75, .l 75, .b 0, .c 15] [(0, sS gx0 eEvent t0), (1, sS gx1 eEvent t1), (5, iI t5)] [] := by
 induction fuel with
 | zero => intro t0 t1 t5 h; cases h
 | succ fuel ih =>
  intro t0 t1 t5 h
  exact
   br h (fun h0 h =>
    ck h fun h1 h =>
    ck h fun h2 h =>
    z.s [(4, [(3, oT)])] 8 (o1 (Le.tt h0)) <|
    br h (fun h3 h =>
     z.r [(6, [(2, oC (.ip gx0 [iI ((t0.getD t5.toNat default).Kind), iI ((t0.getD t5.toNat default).Role), iI ((t0.getD t5.toNat default).Site), iI ((t0.getD t5.toNat default).Node), iI ((t0.getD t5.toNat default).To), iI (((t0.getD t5.toNat default).Flow).Src), iI (((t0.getD t5.toNat default).Flow).Dst), iI (((t0.getD t5.toNat default).Flow).Proto), iI (((t0.getD t5.toNat default).Flow).Sport), iI (((t0.getD t5.toNat default).Flow).Dport)])), (6, oC (.ip gx1 [iI ((t1.getD t5.toNat default).Kind), iI ((t1.getD t5.toNat default).Role), iI ((t1.getD t5.toNat default).Site), iI ((t1.getD t5.toNat default).Node), iI ((t1.getD t5.toNat default).To), iI (((t1.getD t5.toNat default).Flow).Src), iI (((t1.getD t5.toNat default).Flow).Dst), iI (((t1.getD t5.toNat default).Flow).Proto), iI (((t1.getD t5.toNat default).Flow).Sport), iI (((t1.getD t5.toNat default).Flow).Dport)])), (8, oT)])] 4 (o5 h1 (Le.iptl (g := gx0) (eL_at (xs := t0) eEvent_len (ixl h1))) h2 (Le.iptl (g := gx1) (eL_at (xs := t1) eEvent_len (ixl h2))) (o1 (Le.tt h3))) h) fun h3 h =>
    z.j [(6, [(2, oC (.ip gx0 [iI ((t0.getD t5.toNat default).Kind), iI ((t0.getD t5.toNat default).Role), iI ((t0.getD t5.toNat default).Site), iI ((t0.getD t5.toNat default).Node), iI ((t0.getD t5.toNat default).To), iI (((t0.getD t5.toNat default).Flow).Src), iI (((t0.getD t5.toNat default).Flow).Dst), iI (((t0.getD t5.toNat default).Flow).Proto), iI (((t0.getD t5.toNat default).Flow).Sport), iI (((t0.getD t5.toNat default).Flow).Dport)])), (6, oC (.ip gx1 [iI ((t1.getD t5.toNat default).Kind), iI ((t1.getD t5.toNat default).Role), iI ((t1.getD t5.toNat default).Site), iI ((t1.getD t5.toNat default).Node), iI ((t1.getD t5.toNat default).To), iI (((t1.getD t5.toNat default).Flow).Src), iI (((t1.getD t5.toNat default).Flow).Dst), iI (((t1.getD t5.toNat default).Flow).Proto), iI (((t1.getD t5.toNat default).Flow).Sport), iI (((t1.getD t5.toNat default).Flow).Dport)])), (8, oF)])] 6 [0, 1, 5] [] (o5 h1 (Le.iptl (g := gx0) (eL_at (xs := t0) eEvent_len (ixl h1))) h2 (Le.iptl (g := gx1) (eL_at (xs := t1) eEvent_len (ixl h2))) (o1 (Le.ff h3))) (ih h)) fun h0 h =>
   z.r [(4, [(3, oF)])] 7 (o1 (Le.ff h0)) h
theorem c83 {N} (gx0 gx1 : Bool) {x0 x1 r} (h : L_law0_SameEvents N x0 x1 = some r) : Con Tryz.prog 83 [sS gx0 eEvent x0, sS gx1 eEvent x1] [] (d83 r) [] :=
 ci ok mix Tryz.f83 fun z =>
 br h (fun h0 h =>
  z.r [(1, [(4, oT)])] 8 (o1 (Le.tt h0)) h) fun h0 h =>
 z.j [(1, [(4, oF)])] 12 [0, 1, 5] [] (o1 (Le.ff h0)) (g83_1 gx0 gx1 z N h)
def L_law20_awake_2 (N : Nat) (t0 : Bool) : Option (Bool) :=
 some t0
def L_law20_awake_1 (N : Nat) (b108_0 b108_1 : Int) (b108_2 : (List GSite)) (b108_3 : (List GHealth)) (b108_4 : (List GSeen)) (b108_5 : (List GEntry)) (b108_6 t2 t4 : Int) (t5 : ByteArray) (b156_0 : (List ByteArray)) (b156_1 : (List GEvent)) (t8 b172_0 b172_1 : Int) (b172_2 : (List GSite)) (b172_3 : (List GHealth)) (b172_4 : (List GSeen)) (b172_5 : (List GEntry)) (b172_6 b180_0 b180_1 b180_2 b180_3 t11 : Int) (b204_0 : (List ByteArray)) (b204_1 : (List GEvent)) (t14 t17 : Int) (t75 : Bool) : Option (Bool) :=
 bif t75 then
  some false
 else
  if 0 ≤ (0 : Int) ∧ (0 : Int) < ((b156_0.length : Nat) : Int) then
  (L_ref1_Pop N (b156_0.getD (Int.toNat 0) default)).bind fun v1 =>
  (L_law0_Num N t2).bind fun v2 =>
  bif (v2 == 0) then
   (L_law0_Num N t4).bind fun v3 =>
   bif (v3 == 2000) then
    (L_law0_Num N t8).bind fun v4 =>
    bif (v4 == 0) then
     bif (v1.2 == 0) then
      bif (v1.1.Body.toList == t5.toList) then
       bif (v1.1.Tier == 3) then
        if 0 ≤ (0 : Int) ∧ (0 : Int) < ((b156_1.length : Nat) : Int) then
        bif ((b156_1.getD (Int.toNat 0) default).Kind == 0) then
         (L_law0_Num N t11).bind fun v5 =>
         bif (v5 == 0) then
          bif (b172_6 == 1) then
           bif ((b180_0 == (0 : Int)) && ((b180_1 == (0 : Int)) && ((b180_2 == (1 : Int)) && ((b180_3 == (2 : Int)) && true)))) then
            (L_law0_Num N t14).bind fun v6 =>
            bif (v6 == 0) then
             (L_law0_SameEvents N b204_1 ([(GEvent.mk 8 1 0 0 0 (GFlow.mk 0 0 0 0 0))])).bind fun v7 =>
             bif v7 then
              (L_law0_Num N t17).bind fun v8 =>
              bif (v8 == 2000) then
               (L_site_May N (GNode.mk b108_0 (GConfig.mk b108_1 b108_2) b108_3 b108_4 b108_5 b108_6)).bind fun v9 =>
               L_law20_awake_2 N v9
              else
               L_law20_awake_2 N false
             else
              L_law20_awake_2 N false
            else
             L_law20_awake_2 N false
           else
            L_law20_awake_2 N false
          else
           L_law20_awake_2 N false
         else
          L_law20_awake_2 N false
        else
         L_law20_awake_2 N false
        else none
       else
        L_law20_awake_2 N false
      else
       L_law20_awake_2 N false
     else
      L_law20_awake_2 N false
    else
     L_law20_awake_2 N false
   else
    L_law20_awake_2 N false
  else
   L_law20_awake_2 N false
  else none
def L_law20_awake (N : Nat) : Option (Bool) :=
 (L_law20_given N).bind fun v1 =>
 (L_site_New N 0 v1).bind fun v2 =>
 (L_law20_given N).bind fun v3 =>
 (L_site_New N 3 v3).bind fun v4 =>
 (L_law20_said N 9 2 (ByteArray.mk #[120])).bind fun v5 =>
 (L_law20_pushed N 0 v5).bind fun v6 =>
 (L_site_Take N v2.1 5 v6).bind fun v7 =>
 (L_site_Report N v7.1).bind fun v8 =>
 (L_law20_pushed N 1 v5).bind fun v9 =>
 (L_site_Take N v2.1 5 v9).bind fun v10 =>
 (L_site_Take N (GNode.mk 0 (GConfig.mk 0 ([])) ([]) ([]) ([]) 0) 5 v5).bind fun v11 =>
 bif ((v7.1.Flows.length : Int) != 1) then
  L_law20_awake_1 N v2.1.Id v2.1.Config.Version v2.1.Config.Sites v2.1.Health v2.1.Seen v2.1.Flows v2.1.Serial v2.2 v4.2 v5 v7.2.1.Sent v7.2.1.Events v7.2.2 v8.1.Id v8.1.Config.Version v8.1.Config.Sites v8.1.Health v8.1.Seen v8.1.Flows v8.1.Serial v8.2.1.Site v8.2.1.Serial v8.2.1.Load v8.2.1.Cap v8.2.2 v10.2.1.Sent v10.2.1.Events v10.2.2 v11.2.2 true
 else
  bif ((v7.2.1.Sent.length : Int) != 1) then
   L_law20_awake_1 N v2.1.Id v2.1.Config.Version v2.1.Config.Sites v2.1.Health v2.1.Seen v2.1.Flows v2.1.Serial v2.2 v4.2 v5 v7.2.1.Sent v7.2.1.Events v7.2.2 v8.1.Id v8.1.Config.Version v8.1.Config.Sites v8.1.Health v8.1.Seen v8.1.Flows v8.1.Serial v8.2.1.Site v8.2.1.Serial v8.2.1.Load v8.2.1.Cap v8.2.2 v10.2.1.Sent v10.2.1.Events v10.2.2 v11.2.2 true
  else
   L_law20_awake_1 N v2.1.Id v2.1.Config.Version v2.1.Config.Sites v2.1.Health v2.1.Seen v2.1.Flows v2.1.Serial v2.2 v4.2 v5 v7.2.1.Sent v7.2.1.Events v7.2.2 v8.1.Id v8.1.Config.Version v8.1.Config.Sites v8.1.Health v8.1.Seen v8.1.Flows v8.1.Serial v8.2.1.Site v8.2.1.Serial v8.2.1.Load v8.2.1.Cap v8.2.2 v10.2.1.Sent v10.2.1.Events v10.2.2 v11.2.2 ((v7.2.1.Events.length : Int) != 1)
def d49 (r : Bool) : D := .bool r
theorem g49_2 {N} {r} (z : Z Tryz.prog ty 49 Tryz.f49 (Fi [] (d49 r) [])) {t0} (h : L_law20_awake_2 N t0 = some r) : z.G [.c 4095] [(0, .bool t0)] [] :=
 z.r [] 0 o0 h
theorem g49_1 {N} {r} (z : Z Tryz.prog ty 49 Tryz.f49 (Fi [] (d49 r) [])) {b108_0 b108_1 b108_2 b108_3 b108_4 b108_5 b108_6 t2 t4 t5 b156_0 b156_1 t8 b172_0 b172_1 b172_2 b172_3 b172_4 b172_5 b172_6 b180_0 b180_1 b180_2 b180_3 t11 b204_0 b204_1 t14 t17 t75} (h : L_law20_awake_1 N b108_0 b108_1 b108_2 b108_3 b108_4 b108_5 b108_6 t2 t4 t5 b156_0 b156_1 t8 b172_0 b172_1 b172_2 b172_3 b172_4 b172_5 b172_6 b180_0 b180_1 b180_2 b180_3 t11 b204_0 b204_1 t14 t17 t75 = some r) : z.G [.c 1791, .c 1023] [(1, .ptr 108 0), (2, iI t2), (4, iI t4), (5, .str t5), (7, .ptr 156 0), (8, iI t8), (9, .ptr 172 0), (10, .ptr 180 0), (11, iI t11), (13, .ptr 204 0), (14, iI t14), (17, iI t17), (75, .bool t75)] [qB 108 [iI b108_0, iI b108_1, sS true (eSite true) b108_2, sS true eHealth b108_3, sS true eSeen b108_4, sS true eEntry b108_5, iI b108_6], qB 156 [sS true eStr b156_0, sS true eEvent b156_1], qB 172 [iI b172_0, iI b172_1, sS true (eSite true) b172_2, sS true eHealth b172_3, sS true eSeen b172_4, sS true eEntry b172_5, iI b172_6], qB 180 [iI b180_0, iI b180_1, iI b180_2, iI b180_3], qB 204 [sS true eStr b204_0, sS true eEvent b204_1]] :=
 by
  cases t75 with
  | true => exact brT h fun h => (
   z.r [] 3 o0 h)
  | false => exact brF h fun h => (
   ck h fun h1 h =>
   bd h fun v1 h2 h =>
   bd h fun v2 h3 h =>
   z.s [(10, [(2, oC (.ip true [.str (b156_0.getD (Int.toNat 0) default)])), (4, oR (d33 v1))])] 5 (o3 h1 (Le.iptl (g := true) (eL_at (xs := b156_0) eStr_len (ixl h1))) (c33 h2)) <|
   br h (fun h4 h =>
    bd h fun v3 h5 h =>
    br h (fun h6 h =>
     bd h fun v4 h7 h =>
     br h (fun h8 h =>
      br h (fun h9 h =>
       br h (fun h10 h =>
        br h (fun h11 h =>
         ck h fun h12 h =>
         br h (fun h13 h =>
          bd h fun v5 h14 h =>
          br h (fun h15 h =>
           br h (fun h16 h =>
            br h (fun h17 h =>
             bd h fun v6 h18 h =>
             br h (fun h19 h =>
              bd h fun v7 h20 h =>
              br h (fun h21 h =>
               bd h fun v8 h22 h =>
               br h (fun h23 h =>
                bd h fun v9 h24 h =>
                z.j [(11, [(1, oR (d25 v2)), (3, oT), (5, oR (d25 v3)), (8, oT), (10, oR (d25 v4)), (13, oT), (17, oT), (23, oT), (28, oT), (31, oC (.ip true [iI ((b156_1.getD (Int.toNat 0) default).Kind), iI ((b156_1.getD (Int.toNat 0) default).Role), iI ((b156_1.getD (Int.toNat 0) default).Site), iI ((b156_1.getD (Int.toNat 0) default).Node), iI ((b156_1.getD (Int.toNat 0) default).To), iI (((b156_1.getD (Int.toNat 0) default).Flow).Src), iI (((b156_1.getD (Int.toNat 0) default).Flow).Dst), iI (((b156_1.getD (Int.toNat 0) default).Flow).Proto), iI (((b156_1.getD (Int.toNat 0) default).Flow).Sport), iI (((b156_1.getD (Int.toNat 0) default).Flow).Dport)])), (36, oT), (38, oR (d25 v5)), (41, oT), (46, oT), (51, oT), (53, oR (d25 v6)), (56, oT), (61, oR (d83 v7)), (63, oT), (65, oR (d25 v8)), (68, oT), (70, oR (d46 v9))])] 1 [0] [] (o5 (c25 h3) (Le.tt h4) (c25 h5) (Le.tt h6) (o5 (c25 h7) (Le.tt h8) (Le.tt h9) (Le.tt h10) (o5 (Le.tt h11) h12 (Le.iptl (g := true) (eL_at (xs := b156_1) eEvent_len (ixl h12))) (Le.tt h13) (o5 (c25 h14) (Le.tt h15) (Le.tt h16) (Le.tt h17) (o5 (c25 h18) (Le.tt h19) (c83 true false h20) (Le.tt h21) (o3 (c25 h22) (Le.tt h23) (c46 true h24))))))) (g49_2 z h)) fun h23 h =>
               z.j [(11, [(1, oR (d25 v2)), (3, oT), (5, oR (d25 v3)), (8, oT), (10, oR (d25 v4)), (13, oT), (17, oT), (23, oT), (28, oT), (31, oC (.ip true [iI ((b156_1.getD (Int.toNat 0) default).Kind), iI ((b156_1.getD (Int.toNat 0) default).Role), iI ((b156_1.getD (Int.toNat 0) default).Site), iI ((b156_1.getD (Int.toNat 0) default).Node), iI ((b156_1.getD (Int.toNat 0) default).To), iI (((b156_1.getD (Int.toNat 0) default).Flow).Src), iI (((b156_1.getD (Int.toNat 0) default).Flow).Dst), iI (((b156_1.getD (Int.toNat 0) default).Flow).Proto), iI (((b156_1.getD (Int.toNat 0) default).Flow).Sport), iI (((b156_1.getD (Int.toNat 0) default).Flow).Dport)])), (36, oT), (38, oR (d25 v5)), (41, oT), (46, oT), (51, oT), (53, oR (d25 v6)), (56, oT), (61, oR (d83 v7)), (63, oT), (65, oR (d25 v8)), (68, oF)])] 1 [0] [] (o5 (c25 h3) (Le.tt h4) (c25 h5) (Le.tt h6) (o5 (c25 h7) (Le.tt h8) (Le.tt h9) (Le.tt h10) (o5 (Le.tt h11) h12 (Le.iptl (g := true) (eL_at (xs := b156_1) eEvent_len (ixl h12))) (Le.tt h13) (o5 (c25 h14) (Le.tt h15) (Le.tt h16) (Le.tt h17) (o5 (c25 h18) (Le.tt h19) (c83 true false h20) (Le.tt h21) (o2 (c25 h22) (Le.ff h23))))))) (g49_2 z h)) fun h21 h =>
              z.j [(11, [(1, oR (d25 v2)), (3, oT), (5, oR (d25 v3)), (8, oT), (10, oR (d25 v4)), (13, oT), (17, oT), (23, oT), (28, oT), (31, oC (.ip true [iI ((b156_1.getD (Int.toNat 0) default).Kind), iI ((b156_1.getD (Int.toNat 0) default).Role), iI ((b156_1.getD (Int.toNat 0) default).Site), iI ((b156_1.getD (Int.toNat 0) default).Node), iI ((b156_1.getD (Int.toNat 0) default).To), iI (((b156_1.getD (Int.toNat 0) default).Flow).Src), iI (((b156_1.getD (Int.toNat 0) default).Flow).Dst), iI (((b156_1.getD (Int.toNat 0) default).Flow).Proto), iI (((b156_1.getD (Int.toNat 0) default).Flow).Sport), iI (((b156_1.getD (Int.toNat 0) default).Flow).Dport)])), (36, oT), (38, oR (d25 v5)), (41, oT), (46, oT), (51, oT), (53, oR (d25 v6)), (56, oT), (61, oR (d83 v7)), (63, oF)])] 1 [0] [] (o5 (c25 h3) (Le.tt h4) (c25 h5) (Le.tt h6) (o5 (c25 h7) (Le.tt h8) (Le.tt h9) (Le.tt h10) (o5 (Le.tt h11) h12 (Le.iptl (g := true) (eL_at (xs := b156_1) eEvent_len (ixl h12))) (Le.tt h13) (o5 (c25 h14) (Le.tt h15) (Le.tt h16) (Le.tt h17) (o4 (c25 h18) (Le.tt h19) (c83 true false h20) (Le.ff h21)))))) (g49_2 z h)) fun h19 h =>
             z.j [(11, [(1, oR (d25 v2)), (3, oT), (5, oR (d25 v3)), (8, oT), (10, oR (d25 v4)), (13, oT), (17, oT), (23, oT), (28, oT), (31, oC (.ip true [iI ((b156_1.getD (Int.toNat 0) default).Kind), iI ((b156_1.getD (Int.toNat 0) default).Role), iI ((b156_1.getD (Int.toNat 0) default).Site), iI ((b156_1.getD (Int.toNat 0) default).Node), iI ((b156_1.getD (Int.toNat 0) default).To), iI (((b156_1.getD (Int.toNat 0) default).Flow).Src), iI (((b156_1.getD (Int.toNat 0) default).Flow).Dst), iI (((b156_1.getD (Int.toNat 0) default).Flow).Proto), iI (((b156_1.getD (Int.toNat 0) default).Flow).Sport), iI (((b156_1.getD (Int.toNat 0) default).Flow).Dport)])), (36, oT), (38, oR (d25 v5)), (41, oT), (46, oT), (51, oT), (53, oR (d25 v6)), (56, oF)])] 1 [0] [] (o5 (c25 h3) (Le.tt h4) (c25 h5) (Le.tt h6) (o5 (c25 h7) (Le.tt h8) (Le.tt h9) (Le.tt h10) (o5 (Le.tt h11) h12 (Le.iptl (g := true) (eL_at (xs := b156_1) eEvent_len (ixl h12))) (Le.tt h13) (o5 (c25 h14) (Le.tt h15) (Le.tt h16) (Le.tt h17) (o2 (c25 h18) (Le.ff h19)))))) (g49_2 z h)) fun h17 h =>
            z.j [(11, [(1, oR (d25 v2)), (3, oT), (5, oR (d25 v3)), (8, oT), (10, oR (d25 v4)), (13, oT), (17, oT), (23, oT), (28, oT), (31, oC (.ip true [iI ((b156_1.getD (Int.toNat 0) default).Kind), iI ((b156_1.getD (Int.toNat 0) default).Role), iI ((b156_1.getD (Int.toNat 0) default).Site), iI ((b156_1.getD (Int.toNat 0) default).Node), iI ((b156_1.getD (Int.toNat 0) default).To), iI (((b156_1.getD (Int.toNat 0) default).Flow).Src), iI (((b156_1.getD (Int.toNat 0) default).Flow).Dst), iI (((b156_1.getD (Int.toNat 0) default).Flow).Proto), iI (((b156_1.getD (Int.toNat 0) default).Flow).Sport), iI (((b156_1.getD (Int.toNat 0) default).Flow).Dport)])), (36, oT), (38, oR (d25 v5)), (41, oT), (46, oT), (51, oF)])] 1 [0] [] (o5 (c25 h3) (Le.tt h4) (c25 h5) (Le.tt h6) (o5 (c25 h7) (Le.tt h8) (Le.tt h9) (Le.tt h10) (o5 (Le.tt h11) h12 (Le.iptl (g := true) (eL_at (xs := b156_1) eEvent_len (ixl h12))) (Le.tt h13) (o4 (c25 h14) (Le.tt h15) (Le.tt h16) (Le.ff h17))))) (g49_2 z h)) fun h16 h =>
           z.j [(11, [(1, oR (d25 v2)), (3, oT), (5, oR (d25 v3)), (8, oT), (10, oR (d25 v4)), (13, oT), (17, oT), (23, oT), (28, oT), (31, oC (.ip true [iI ((b156_1.getD (Int.toNat 0) default).Kind), iI ((b156_1.getD (Int.toNat 0) default).Role), iI ((b156_1.getD (Int.toNat 0) default).Site), iI ((b156_1.getD (Int.toNat 0) default).Node), iI ((b156_1.getD (Int.toNat 0) default).To), iI (((b156_1.getD (Int.toNat 0) default).Flow).Src), iI (((b156_1.getD (Int.toNat 0) default).Flow).Dst), iI (((b156_1.getD (Int.toNat 0) default).Flow).Proto), iI (((b156_1.getD (Int.toNat 0) default).Flow).Sport), iI (((b156_1.getD (Int.toNat 0) default).Flow).Dport)])), (36, oT), (38, oR (d25 v5)), (41, oT), (46, oF)])] 1 [0] [] (o5 (c25 h3) (Le.tt h4) (c25 h5) (Le.tt h6) (o5 (c25 h7) (Le.tt h8) (Le.tt h9) (Le.tt h10) (o5 (Le.tt h11) h12 (Le.iptl (g := true) (eL_at (xs := b156_1) eEvent_len (ixl h12))) (Le.tt h13) (o3 (c25 h14) (Le.tt h15) (Le.ff h16))))) (g49_2 z h)) fun h15 h =>
          z.j [(11, [(1, oR (d25 v2)), (3, oT), (5, oR (d25 v3)), (8, oT), (10, oR (d25 v4)), (13, oT), (17, oT), (23, oT), (28, oT), (31, oC (.ip true [iI ((b156_1.getD (Int.toNat 0) default).Kind), iI ((b156_1.getD (Int.toNat 0) default).Role), iI ((b156_1.getD (Int.toNat 0) default).Site), iI ((b156_1.getD (Int.toNat 0) default).Node), iI ((b156_1.getD (Int.toNat 0) default).To), iI (((b156_1.getD (Int.toNat 0) default).Flow).Src), iI (((b156_1.getD (Int.toNat 0) default).Flow).Dst), iI (((b156_1.getD (Int.toNat 0) default).Flow).Proto), iI (((b156_1.getD (Int.toNat 0) default).Flow).Sport), iI (((b156_1.getD (Int.toNat 0) default).Flow).Dport)])), (36, oT), (38, oR (d25 v5)), (41, oF)])] 1 [0] [] (o5 (c25 h3) (Le.tt h4) (c25 h5) (Le.tt h6) (o5 (c25 h7) (Le.tt h8) (Le.tt h9) (Le.tt h10) (o5 (Le.tt h11) h12 (Le.iptl (g := true) (eL_at (xs := b156_1) eEvent_len (ixl h12))) (Le.tt h13) (o2 (c25 h14) (Le.ff h15))))) (g49_2 z h)) fun h13 h =>
         z.j [(11, [(1, oR (d25 v2)), (3, oT), (5, oR (d25 v3)), (8, oT), (10, oR (d25 v4)), (13, oT), (17, oT), (23, oT), (28, oT), (31, oC (.ip true [iI ((b156_1.getD (Int.toNat 0) default).Kind), iI ((b156_1.getD (Int.toNat 0) default).Role), iI ((b156_1.getD (Int.toNat 0) default).Site), iI ((b156_1.getD (Int.toNat 0) default).Node), iI ((b156_1.getD (Int.toNat 0) default).To), iI (((b156_1.getD (Int.toNat 0) default).Flow).Src), iI (((b156_1.getD (Int.toNat 0) default).Flow).Dst), iI (((b156_1.getD (Int.toNat 0) default).Flow).Proto), iI (((b156_1.getD (Int.toNat 0) default).Flow).Sport), iI (((b156_1.getD (Int.toNat 0) default).Flow).Dport)])), (36, oF)])] 1 [0] [] (o5 (c25 h3) (Le.tt h4) (c25 h5) (Le.tt h6) (o5 (c25 h7) (Le.tt h8) (Le.tt h9) (Le.tt h10) (o4 (Le.tt h11) h12 (Le.iptl (g := true) (eL_at (xs := b156_1) eEvent_len (ixl h12))) (Le.ff h13)))) (g49_2 z h)) fun h11 h =>
        z.j [(11, [(1, oR (d25 v2)), (3, oT), (5, oR (d25 v3)), (8, oT), (10, oR (d25 v4)), (13, oT), (17, oT), (23, oT), (28, oF)])] 1 [0] [] (o5 (c25 h3) (Le.tt h4) (c25 h5) (Le.tt h6) (o5 (c25 h7) (Le.tt h8) (Le.tt h9) (Le.tt h10) (o1 (Le.ff h11)))) (g49_2 z h)) fun h10 h =>
       z.j [(11, [(1, oR (d25 v2)), (3, oT), (5, oR (d25 v3)), (8, oT), (10, oR (d25 v4)), (13, oT), (17, oT), (23, oF)])] 1 [0] [] (o5 (c25 h3) (Le.tt h4) (c25 h5) (Le.tt h6) (o4 (c25 h7) (Le.tt h8) (Le.tt h9) (Le.ff h10))) (g49_2 z h)) fun h9 h =>
      z.j [(11, [(1, oR (d25 v2)), (3, oT), (5, oR (d25 v3)), (8, oT), (10, oR (d25 v4)), (13, oT), (17, oF)])] 1 [0] [] (o5 (c25 h3) (Le.tt h4) (c25 h5) (Le.tt h6) (o3 (c25 h7) (Le.tt h8) (Le.ff h9))) (g49_2 z h)) fun h8 h =>
     z.j [(11, [(1, oR (d25 v2)), (3, oT), (5, oR (d25 v3)), (8, oT), (10, oR (d25 v4)), (13, oF)])] 1 [0] [] (o5 (c25 h3) (Le.tt h4) (c25 h5) (Le.tt h6) (o2 (c25 h7) (Le.ff h8))) (g49_2 z h)) fun h6 h =>
    z.j [(11, [(1, oR (d25 v2)), (3, oT), (5, oR (d25 v3)), (8, oF)])] 1 [0] [] (o4 (c25 h3) (Le.tt h4) (c25 h5) (Le.ff h6)) (g49_2 z h)) fun h4 h =>
   z.j [(11, [(1, oR (d25 v2)), (3, oF)])] 1 [0] [] (o2 (c25 h3) (Le.ff h4)) (g49_2 z h))
theorem c49 {N} {r} (h : L_law20_awake N = some r) : Con Tryz.prog 49 [] [] (d49 r) [] :=
 ci ok mix Tryz.f49 fun z =>
 bd h fun v1 h0 h =>
 bd h fun v2 h1 h =>
 bd h fun v3 h2 h =>
 bd h fun v4 h3 h =>
 bd h fun v5 h4 h =>
 bd h fun v6 h5 h =>
 bd h fun v7 h6 h =>
 bd h fun v8 h7 h =>
 bd h fun v9 h8 h =>
 bd h fun v10 h9 h =>
 bd h fun v11 h10 h =>
 z.s [(1, [(0, oR (d51 v1)), (1, oR (d41 v2))]), (2, [(0, oR (d51 v3)), (1, oR (d41 v4))]), (3, [(0, oR (d52 v5))]), (4, [(2, oR (d56 v6)), (3, oR (d39 v7))]), (5, [(1, oR (d43 v8))]), (6, [(2, oR (d56 v9)), (3, oR (d39 v10))]), (7, [(2, oR (d39 v11))])] 18 (o5 (c51 h0) (c41 true h1) (c51 h2) (c41 true h3) (o5 (c52 h4) (c56 h5) (c39 true h6) (c43 h7) (o3 (c56 h8) (c39 true h9) ((c39 true h10).le ((.cons (Le.agg ((.cons (Le.rfl) (.cons (Le.rfl) (.cons (Le.nils) (.cons (Le.nils) (.cons (Le.nils) (.cons (Le.nils) (.cons (Le.rfl) .nil))))))))) (.cons (Le.rfl) (.cons (Le.rfl) .nil)))))))) <|
 br h (fun h11 h =>
  z.j [(8, [(4, oT)])] 1 [1, 2, 4, 5, 7, 8, 9, 10, 11, 13, 14, 17, 75] [(108, 108), (156, 156), (172, 172), (180, 180), (204, 204)] (o1 (Le.tt h11)) (g49_1 z h)) fun h11 h =>
 br h (fun h12 h =>
  z.j [(8, [(4, oF), (10, oT)])] 1 [1, 2, 4, 5, 7, 8, 9, 10, 11, 13, 14, 17, 75] [(108, 108), (156, 156), (172, 172), (180, 180), (204, 204)] (o2 (Le.ff h11) (Le.tt h12)) (g49_1 z h)) fun h12 h =>
 z.j [(8, [(4, oF), (10, oF)])] 1 [1, 2, 4, 5, 7, 8, 9, 10, 11, 13, 14, 17, 75] [(108, 108), (156, 156), (172, 172), (180, 180), (204, 204)] (o2 (Le.ff h11) (Le.ff h12)) (g49_1 z h)
def L_ref1_GetSeg_4 (N : Nat) (b164_0 b164_1 b164_2 b164_3 b164_4 b164_5 : Int) (b164_6 : ByteArray) (b180_0 b180_1 b180_2 b180_3 b180_4 b180_5 : Int) (b180_6 : ByteArray) (t100 : Bool) : Option (GSeg × Int) :=
 bif t100 then
  some ((GSeg.mk 0 0 0 0 0 0 ByteArray.empty), 300)
 else
  some ((GSeg.mk b180_0 b180_1 b180_2 b180_3 b180_4 b180_5 b180_6), 0)
def L_ref1_GetSeg_3 (N : Nat) (b164_0 b164_1 b164_2 b164_3 b164_4 b164_5 : Int) (b164_6 : ByteArray) (b180_0 b180_1 b180_2 b180_3 b180_4 b180_5 : Int) (b180_6 : ByteArray) (t11 : Bool) : Option (GSeg × Int) :=
 bif (!t11) then
  L_ref1_GetSeg_4 N b164_0 b164_1 b164_2 b164_3 b164_4 b164_5 b164_6 b180_0 b180_1 b180_2 b180_3 b180_4 b180_5 b180_6 true
 else
  (L_ref1_SegMay N (GSeg.mk b180_0 b180_1 b180_2 b180_3 b180_4 b180_5 b180_6)).bind fun v1 =>
  L_ref1_GetSeg_4 N b164_0 b164_1 b164_2 b164_3 b164_4 b164_5 b164_6 b180_0 b180_1 b180_2 b180_3 b180_4 b180_5 b180_6 (!v1)
def L_ref1_GetSeg_2 (N : Nat) (t0 : Int) (t1 : ByteArray) (t2 t3 b164_0 b164_1 b164_2 b164_3 b164_4 b164_5 : Int) (b164_6 : ByteArray) (b180_0 b180_1 b180_2 b180_3 b180_4 b180_5 : Int) (b180_6 : ByteArray) (t11 t34 : Bool) : Option (GSeg × Int) :=
 bif t34 then
  if 0 ≤ (8 : Int) ∧ (8 : Int) ≤ (t1.size : Int) ∧ 0 ≤ (4 : Int) ∧ (4 : Int) ≤ (8 : Int) then
  (L_ref1_Of N (t1.extract 4 8)).bind fun v1 =>
  if 0 ≤ (12 : Int) ∧ (12 : Int) ≤ (t1.size : Int) ∧ 0 ≤ (8 : Int) ∧ (8 : Int) ≤ (12 : Int) then
  (L_ref1_Of N (t1.extract 8 12)).bind fun v2 =>
  if 0 ≤ (13 : Int) ∧ (13 : Int) < (t1.size : Int) then
  if 0 ≤ (t1.size : Int) ∧ (t1.size : Int) ≤ (t1.size : Int) ∧ 0 ≤ (20 : Int) ∧ (20 : Int) ≤ (t1.size : Int) then
  if 0 ≤ (12 : Int) ∧ (12 : Int) < (t1.size : Int) then
  bif ((bt t1 12) == 80) then
   (L_ref1_pseudo N t0 t1 t2 t3).bind fun v3 =>
   L_ref1_GetSeg_3 N b164_0 b164_1 b164_2 b164_3 b164_4 b164_5 b164_6 b180_0 b180_1 b180_2 v1 v2 (IntKind.i64.wrap (bt t1 13)) (t1.extract 20 t1.size) (v3 == 65535)
  else
   L_ref1_GetSeg_3 N b164_0 b164_1 b164_2 b164_3 b164_4 b164_5 b164_6 b180_0 b180_1 b180_2 v1 v2 (IntKind.i64.wrap (bt t1 13)) (t1.extract 20 t1.size) false
  else none
  else none
  else none
  else none
  else none
 else
  bif (t0 == 17) then
   if 0 ≤ (t1.size : Int) ∧ (t1.size : Int) ≤ (t1.size : Int) ∧ 0 ≤ (8 : Int) ∧ (8 : Int) ≤ (t1.size : Int) then
   if 0 ≤ (6 : Int) ∧ (6 : Int) ≤ (t1.size : Int) ∧ 0 ≤ (4 : Int) ∧ (4 : Int) ≤ (6 : Int) then
   (L_ref1_Of N (t1.extract 4 6)).bind fun v1 =>
   bif (v1 == (t1.size : Int)) then
    if 0 ≤ (8 : Int) ∧ (8 : Int) ≤ (t1.size : Int) ∧ 0 ≤ (6 : Int) ∧ (6 : Int) ≤ (8 : Int) then
    (L_ref1_Of N (t1.extract 6 8)).bind fun v2 =>
    bif (v2 == 0) then
     L_ref1_GetSeg_3 N b164_0 b164_1 b164_2 b164_3 b164_4 b164_5 b164_6 b180_0 b180_1 b180_2 b180_3 b180_4 b180_5 (t1.extract 8 t1.size) true
    else
     (L_ref1_pseudo N t0 t1 t2 t3).bind fun v3 =>
     L_ref1_GetSeg_3 N b164_0 b164_1 b164_2 b164_3 b164_4 b164_5 b164_6 b180_0 b180_1 b180_2 b180_3 b180_4 b180_5 (t1.extract 8 t1.size) (v3 == 65535)
    else none
   else
    L_ref1_GetSeg_3 N b164_0 b164_1 b164_2 b164_3 b164_4 b164_5 b164_6 b180_0 b180_1 b180_2 b180_3 b180_4 b180_5 (t1.extract 8 t1.size) false
   else none
   else none
  else
   L_ref1_GetSeg_3 N b164_0 b164_1 b164_2 b164_3 b164_4 b164_5 b164_6 b180_0 b180_1 b180_2 b180_3 b180_4 b180_5 b180_6 t11
def L_ref1_GetSeg_1 (N : Nat) (t0 : Int) (t1 : ByteArray) (t2 t3 b164_0 b164_1 b164_2 b164_3 b164_4 b164_5 : Int) (b164_6 : ByteArray) (t24 : Bool) : Option (GSeg × Int) :=
 bif t24 then
  some ((GSeg.mk 0 0 0 0 0 0 ByteArray.empty), 300)
 else
  if 0 ≤ (2 : Int) ∧ (2 : Int) ≤ (t1.size : Int) ∧ 0 ≤ (0 : Int) ∧ (0 : Int) ≤ (2 : Int) then
  (L_ref1_Of N (t1.extract 0 2)).bind fun v1 =>
  if 0 ≤ (4 : Int) ∧ (4 : Int) ≤ (t1.size : Int) ∧ 0 ≤ (2 : Int) ∧ (2 : Int) ≤ (4 : Int) then
  (L_ref1_Of N (t1.extract 2 4)).bind fun v2 =>
  bif (t0 == 6) then
   L_ref1_GetSeg_2 N t0 t1 t2 t3 b164_0 b164_1 b164_2 b164_3 b164_4 b164_5 b164_6 t0 v1 v2 0 0 0 ByteArray.empty false (decide ((t1.size : Int) ≥ 20))
  else
   L_ref1_GetSeg_2 N t0 t1 t2 t3 b164_0 b164_1 b164_2 b164_3 b164_4 b164_5 b164_6 t0 v1 v2 0 0 0 ByteArray.empty false false
  else none
  else none
def L_ref1_GetSeg (N : Nat) (x0 : Int) (x1 : ByteArray) (x2 x3 : Int) : Option (GSeg × Int) :=
 (L_ref1_within N x2 32).bind fun v1 =>
 bif (!v1) then
  L_ref1_GetSeg_1 N x0 x1 x2 x3 0 0 0 0 0 0 ByteArray.empty true
 else
  (L_ref1_within N x3 32).bind fun v2 =>
  bif (!v2) then
   L_ref1_GetSeg_1 N x0 x1 x2 x3 0 0 0 0 0 0 ByteArray.empty true
  else
   L_ref1_GetSeg_1 N x0 x1 x2 x3 0 0 0 0 0 0 ByteArray.empty (decide ((x1.size : Int) < 8))
def d97 (r : GSeg × Int) : D := .tup [.agg [iI r.1.Proto, iI r.1.Sport, iI r.1.Dport, iI r.1.Seq, iI r.1.Ack, iI r.1.Flags, .str r.1.Body], iI r.2]
theorem g97_4 {N} {r} (z : Z Tryz.prog ty 97 Tryz.f97 (Fi [] (d97 r) [])) {b164_0 b164_1 b164_2 b164_3 b164_4 b164_5 b164_6 b180_0 b180_1 b180_2 b180_3 b180_4 b180_5 b180_6 t100} (h : L_ref1_GetSeg_4 N b164_0 b164_1 b164_2 b164_3 b164_4 b164_5 b164_6 b180_0 b180_1 b180_2 b180_3 b180_4 b180_5 b180_6 t100 = some r) : z.G [.c 223, .c 127] [(8, .ptr 164 0), (10, .ptr 180 0), (100, .bool t100)] [qB 164 [iI b164_0, iI b164_1, iI b164_2, iI b164_3, iI b164_4, iI b164_5, .str b164_6], qB 180 [iI b180_0, iI b180_1, iI b180_2, iI b180_3, iI b180_4, iI b180_5, .str b180_6]] :=
 by
  cases t100 with
  | true => exact brT h fun h => (
   z.r [] 3 o0 h)
  | false => exact brF h fun h => (
   z.r [] 4 o0 h)
theorem g97_3 {N} {r} (z : Z Tryz.prog ty 97 Tryz.f97 (Fi [] (d97 r) [])) {b164_0 b164_1 b164_2 b164_3 b164_4 b164_5 b164_6 b180_0 b180_1 b180_2 b180_3 b180_4 b180_5 b180_6 t11} (h : L_ref1_GetSeg_3 N b164_0 b164_1 b164_2 b164_3 b164_4 b164_5 b164_6 b180_0 b180_1 b180_2 b180_3 b180_4 b180_5 b180_6 t11 = some r) : z.G [.b 0, .c 63] [(8, .ptr 164 0), (10, .ptr 180 0), (11, .bool t11)] [qB 164 [iI b164_0, iI b164_1, iI b164_2, iI b164_3, iI b164_4, iI b164_5, .str b164_6], qB 180 [iI b180_0, iI b180_1, iI b180_2, iI b180_3, iI b180_4, iI b180_5, .str b180_6]] :=
 br h (fun h0 h =>
  z.j [(14, [(2, oT)])] 4 [8, 10, 100] [(164, 164), (180, 180)] (o1 (Le.tt h0)) (g97_4 z h)) fun h0 h =>
 bd h fun v1 h1 h =>
 z.j [(14, [(2, oF), (4, oR (d155 v1))])] 4 [8, 10, 100] [(164, 164), (180, 180)] (o2 (Le.ff h0) (c155 h1)) (g97_4 z h)
theorem g97_2 {N} {r} (z : Z Tryz.prog ty 97 Tryz.f97 (Fi [] (d97 r) [])) {t0 t1 t2 t3 b164_0 b164_1 b164_2 b164_3 b164_4 b164_5 b164_6 b180_0 b180_1 b180_2 b180_3 b180_4 b180_5 b180_6 t11 t34} (h : L_ref1_GetSeg_2 N t0 t1 t2 t3 b164_0 b164_1 b164_2 b164_3 b164_4 b164_5 b164_6 b180_0 b180_1 b180_2 b180_3 b180_4 b180_5 b180_6 t11 t34 = some r) : z.G [.c 207, .b 0, .c 63] [(0, iI t0), (1, .str t1), (2, iI t2), (3, iI t3), (8, .ptr 164 0), (10, .ptr 180 0), (11, .bool t11), (34, .bool t34)] [qB 164 [iI b164_0, iI b164_1, iI b164_2, iI b164_3, iI b164_4, iI b164_5, .str b164_6], qB 180 [iI b180_0, iI b180_1, iI b180_2, iI b180_3, iI b180_4, iI b180_5, .str b180_6]] :=
 by
  cases t34 with
  | true => exact brT h fun h => (
   ck h fun h1 h =>
   bd h fun v1 h2 h =>
   ck h fun h3 h =>
   bd h fun v2 h4 h =>
   ck h fun h5 h =>
   ck h fun h6 h =>
   ck h fun h7 h =>
   z.s [(6, [(2, oR (d153 v1))]), (7, [(2, oR (d153 v2))])] 9 (o5 h1 (c153 h2) h3 (c153 h4) (o2 h5 h6)) <|
   br h (fun h8 h =>
    bd h fun v3 h9 h =>
    z.j [(10, [(3, oT), (8, oR (d154 v3))])] 1 [8, 10, 11] [(164, 164), (180, 180)] (o3 h7 (Le.tt h8) (c154 h9)) (g97_3 z h)) fun h8 h =>
   z.j [(10, [(3, oF)])] 1 [8, 10, 11] [(164, 164), (180, 180)] (o2 h7 (Le.ff h8)) (g97_3 z h))
  | false => exact brF h fun h => (
   br h (fun h1 h =>
    ck h fun h2 h =>
    ck h fun h3 h =>
    bd h fun v1 h4 h =>
    z.s [(11, [(2, oT)])] 6 (o2 (Le.tt h1) h2) <|
    br h (fun h5 h =>
     ck h fun h6 h =>
     bd h fun v2 h7 h =>
     br h (fun h8 h =>
      z.j [(13, [(2, oR (d153 v1)), (6, oT), (9, oR (d153 v2)), (11, oT)])] 1 [8, 10, 11] [(164, 164), (180, 180)] (o5 h3 (c153 h4) (Le.tt h5) h6 (o2 (c153 h7) (Le.tt h8))) (g97_3 z h)) fun h8 h =>
     bd h fun v3 h9 h =>
     z.j [(13, [(2, oR (d153 v1)), (6, oT), (9, oR (d153 v2)), (11, oF), (16, oR (d154 v3))])] 1 [8, 10, 11] [(164, 164), (180, 180)] (o5 h3 (c153 h4) (Le.tt h5) h6 (o3 (c153 h7) (Le.ff h8) (c154 h9))) (g97_3 z h)) fun h5 h =>
    z.j [(13, [(2, oR (d153 v1)), (6, oF)])] 1 [8, 10, 11] [(164, 164), (180, 180)] (o3 h3 (c153 h4) (Le.ff h5)) (g97_3 z h)) fun h1 h =>
   z.j [(11, [(2, oF)])] 5 [8, 10, 11] [(164, 164), (180, 180)] (o1 (Le.ff h1)) (g97_3 z h))
theorem g97_1 {N} {r} (z : Z Tryz.prog ty 97 Tryz.f97 (Fi [] (d97 r) [])) {t0 t1 t2 t3 b164_0 b164_1 b164_2 b164_3 b164_4 b164_5 b164_6 t24} (h : L_ref1_GetSeg_1 N t0 t1 t2 t3 b164_0 b164_1 b164_2 b164_3 b164_4 b164_5 b164_6 t24 = some r) : z.G [.c 13, .c 7] [(0, iI t0), (1, .str t1), (2, iI t2), (3, iI t3), (8, .ptr 164 0), (24, .bool t24)] [qB 164 [iI b164_0, iI b164_1, iI b164_2, iI b164_3, iI b164_4, iI b164_5, .str b164_6]] :=
 by
  cases t24 with
  | true => exact brT h fun h => (
   z.r [] 3 o0 h)
  | false => exact brF h fun h => (
   ck h fun h1 h =>
   bd h fun v1 h2 h =>
   ck h fun h3 h =>
   bd h fun v2 h4 h =>
   z.s [(3, [(3, oR (d153 v1)), (6, oR (d153 v2))])] 9 (o4 h1 (c153 h2) h3 (c153 h4)) <|
   br h (fun h5 h =>
    z.j [(5, [(2, oT)])] 1 [0, 1, 2, 3, 8, 10, 11, 34] [(164, 164), (180, 180)] (o1 (Le.tt h5)) (g97_2 z h)) fun h5 h =>
   z.j [(5, [(2, oF)])] 1 [0, 1, 2, 3, 8, 10, 11, 34] [(164, 164), (180, 180)] (o1 (Le.ff h5)) (g97_2 z h))
theorem c97 {N} {x0 x1 x2 x3 r} (h : L_ref1_GetSeg N x0 x1 x2 x3 = some r) : Con Tryz.prog 97 [iI x0, .str x1, iI x2, iI x3] [] (d97 r) [] :=
 ci ok mix Tryz.f97 fun z =>
 bd h fun v1 h0 h =>
 br h (fun h1 h =>
  z.j [(1, [(1, oR (d137 v1)), (3, oT)])] 5 [0, 1, 2, 3, 8, 24] [(164, 164)] (o2 (c137 h0) (Le.tt h1)) (g97_1 z h)) fun h1 h =>
 bd h fun v2 h2 h =>
 br h (fun h3 h =>
  z.j [(1, [(1, oR (d137 v1)), (3, oF), (5, oR (d137 v2)), (8, oT)])] 5 [0, 1, 2, 3, 8, 24] [(164, 164)] (o4 (c137 h0) (Le.ff h1) (c137 h2) (Le.tt h3)) (g97_1 z h)) fun h3 h =>
 z.j [(1, [(1, oR (d137 v1)), (3, oF), (5, oR (d137 v2)), (8, oF)])] 5 [0, 1, 2, 3, 8, 24] [(164, 164)] (o4 (c137 h0) (Le.ff h1) (c137 h2) (Le.ff h3)) (g97_1 z h)
def L_ref1_FlowOf_1 (N : Nat) (b116_0 b116_1 b116_2 b116_3 b116_4 b124_0 b124_1 b124_2 b124_3 b124_4 b124_5 : Int) (b124_6 : ByteArray) (b140_0 b140_1 b140_2 b140_3 b140_4 : Int) (b140_5 : ByteArray) (t33 : Bool) : Option (GFlow × GSeg × Int) :=
 bif t33 then
  some ((GFlow.mk 0 0 0 0 0), (GSeg.mk 0 0 0 0 0 0 ByteArray.empty), 3)
 else
  (L_ref1_GetSeg N b140_2 b140_5 b140_0 b140_1).bind fun v1 =>
  bif (v1.2 != 0) then
   some ((GFlow.mk 0 0 0 0 0), (GSeg.mk 0 0 0 0 0 0 ByteArray.empty), 1)
  else
   some ((GFlow.mk b140_0 b140_1 b140_2 v1.1.Sport v1.1.Dport), v1.1, 0)
def L_ref1_FlowOf (N : Nat) (x0 : ByteArray) : Option (GFlow × GSeg × Int) :=
 (L_ref1_GetIp N x0).bind fun v1 =>
 bif (v1.2.1 != 0) then
  some ((GFlow.mk 0 0 0 0 0), (GSeg.mk 0 0 0 0 0 0 ByteArray.empty), v1.2.1)
 else
  bif (v1.1.Proto != 6) then
   bif (v1.1.Proto != 17) then
    L_ref1_FlowOf_1 N 0 0 0 0 0 0 0 0 0 0 0 ByteArray.empty v1.1.Src v1.1.Dst v1.1.Proto v1.1.Ttl v1.1.Id v1.1.Body true
   else
    L_ref1_FlowOf_1 N 0 0 0 0 0 0 0 0 0 0 0 ByteArray.empty v1.1.Src v1.1.Dst v1.1.Proto v1.1.Ttl v1.1.Id v1.1.Body (v1.1.Dst != 167772161)
  else
   L_ref1_FlowOf_1 N 0 0 0 0 0 0 0 0 0 0 0 ByteArray.empty v1.1.Src v1.1.Dst v1.1.Proto v1.1.Ttl v1.1.Id v1.1.Body (v1.1.Dst != 167772161)
def d31 (r : GFlow × GSeg × Int) : D := .tup [.agg [iI r.1.Src, iI r.1.Dst, iI r.1.Proto, iI r.1.Sport, iI r.1.Dport], .agg [iI r.2.1.Proto, iI r.2.1.Sport, iI r.2.1.Dport, iI r.2.1.Seq, iI r.2.1.Ack, iI r.2.1.Flags, .str r.2.1.Body], iI r.2.2]
theorem g31_1 {N} {r} (z : Z Tryz.prog ty 31 Tryz.f31 (Fi [] (d31 r) [])) {b116_0 b116_1 b116_2 b116_3 b116_4 b124_0 b124_1 b124_2 b124_3 b124_4 b124_5 b124_6 b140_0 b140_1 b140_2 b140_3 b140_4 b140_5 t33} (h : L_ref1_FlowOf_1 N b116_0 b116_1 b116_2 b116_3 b116_4 b124_0 b124_1 b124_2 b124_3 b124_4 b124_5 b124_6 b140_0 b140_1 b140_2 b140_3 b140_4 b140_5 t33 = some r) : z.G [.c 55, .c 31] [(2, .ptr 116 0), (3, .ptr 124 0), (5, .ptr 140 0), (33, .bool t33)] [qB 116 [iI b116_0, iI b116_1, iI b116_2, iI b116_3, iI b116_4], qB 124 [iI b124_0, iI b124_1, iI b124_2, iI b124_3, iI b124_4, iI b124_5, .str b124_6], qB 140 [iI b140_0, iI b140_1, iI b140_2, iI b140_3, iI b140_4, .str b140_5]] :=
 by
  cases t33 with
  | true => exact brT h fun h => (
   z.r [] 3 o0 h)
  | false => exact brF h fun h => (
   bd h fun v1 h1 h =>
   z.s [(6, [(8, oR (d97 v1))])] 6 (o1 (c97 h1)) <|
   br h (fun h2 h =>
    z.r [(7, [(1, oT)])] 4 (o1 (Le.tt h2)) h) fun h2 h =>
   z.r [(7, [(1, oF)])] 5 (o1 (Le.ff h2)) h)
theorem c31 {N} {x0 r} (h : L_ref1_FlowOf N x0 = some r) : Con Tryz.prog 31 [.str x0] [] (d31 r) [] :=
 ci ok mix Tryz.f31 fun z =>
 bd h fun v1 h0 h =>
 z.s [(1, [(1, oR (d96 v1))])] 6 (o1 (c96 h0)) <|
 br h (fun h1 h =>
  z.r [(2, [(1, oT)])] 4 (o1 (Le.tt h1)) h) fun h1 h =>
 z.s [(2, [(1, oF)])] 5 (o1 (Le.ff h1)) <|
 br h (fun h2 h =>
  br h (fun h3 h =>
   z.j [(4, [(3, oT), (8, oT)])] 1 [2, 3, 5, 33] [(116, 116), (124, 124), (140, 140)] (o2 (Le.tt h2) (Le.tt h3)) (g31_1 z h)) fun h3 h =>
  z.j [(4, [(3, oT), (8, oF)])] 1 [2, 3, 5, 33] [(116, 116), (124, 124), (140, 140)] (o2 (Le.tt h2) (Le.ff h3)) (g31_1 z h)) fun h2 h =>
 z.j [(4, [(3, oF)])] 1 [2, 3, 5, 33] [(116, 116), (124, 124), (140, 140)] (o1 (Le.ff h2)) (g31_1 z h)
def L_ref10_phaseMay_1 (N : Nat) (t2 : Bool) : Option (Bool) :=
 some t2
def L_ref10_phaseMay (N : Nat) (x0 : Int) : Option (Bool) :=
 bif (decide (x0 ≥ 0)) then
  L_ref10_phaseMay_1 N (decide (x0 ≤ 2))
 else
  L_ref10_phaseMay_1 N false
def d202 (r : Bool) : D := .bool r
theorem g202_1 {N} {r} (z : Z Tryz.prog ty 202 Tryz.f202 (Fi [] (d202 r) [])) {t2} (h : L_ref10_phaseMay_1 N t2 = some r) : z.G [.c 7] [(2, .bool t2)] [] :=
 z.r [] 0 o0 h
theorem c202 {N} {x0 r} (h : L_ref10_phaseMay N x0 = some r) : Con Tryz.prog 202 [iI x0] [] (d202 r) [] :=
 ci ok mix Tryz.f202 fun z =>
 br h (fun h0 h =>
  z.j [(1, [(2, oT)])] 4 [2] [] (o1 (Le.tt h0)) (g202_1 z h)) fun h0 h =>
 z.j [(1, [(2, oF)])] 4 [2] [] (o1 (Le.ff h0)) (g202_1 z h)
def L_ref10_nowMay_1 (N : Nat) (t2 : Bool) : Option (Bool) :=
 some t2
def L_ref10_nowMay (N : Nat) (x0 : Int) : Option (Bool) :=
 bif (decide (x0 ≥ 0)) then
  L_ref10_nowMay_1 N (decide (x0 ≤ 1048576))
 else
  L_ref10_nowMay_1 N false
def d191 (r : Bool) : D := .bool r
theorem g191_1 {N} {r} (z : Z Tryz.prog ty 191 Tryz.f191 (Fi [] (d191 r) [])) {t2} (h : L_ref10_nowMay_1 N t2 = some r) : z.G [.c 7] [(2, .bool t2)] [] :=
 z.r [] 0 o0 h
theorem c191 {N} {x0 r} (h : L_ref10_nowMay N x0 = some r) : Con Tryz.prog 191 [iI x0] [] (d191 r) [] :=
 ci ok mix Tryz.f191 fun z =>
 br h (fun h0 h =>
  z.j [(1, [(2, oT)])] 4 [2] [] (o1 (Le.tt h0)) (g191_1 z h)) fun h0 h =>
 z.j [(1, [(2, oF)])] 4 [2] [] (o1 (Le.ff h0)) (g191_1 z h)
def L_ref10_EntryMay_1 (N : Nat) (t2 : Bool) : Option (Bool) :=
 some t2
def L_ref10_EntryMay (N : Nat) (x0 : GEntry) : Option (Bool) :=
 (L_ref1_FlowMay N x0.Flow).bind fun v1 =>
 bif v1 then
  bif (decide (x0.To ≥ 0)) then
   bif (decide (x0.To ≤ 255)) then
    (L_ref10_phaseMay N x0.Phase).bind fun v2 =>
    bif v2 then
     (L_ref10_nowMay N x0.Used).bind fun v3 =>
     L_ref10_EntryMay_1 N v3
    else
     L_ref10_EntryMay_1 N false
   else
    L_ref10_EntryMay_1 N false
  else
   L_ref10_EntryMay_1 N false
 else
  L_ref10_EntryMay_1 N false
def d151 (r : Bool) : D := .bool r
theorem g151_1 {N} {r} (z : Z Tryz.prog ty 151 Tryz.f151 (Fi [] (d151 r) [])) {t2} (h : L_ref10_EntryMay_1 N t2 = some r) : z.G [.c 7] [(2, .bool t2)] [] :=
 z.r [] 0 o0 h
theorem c151 {N} {x0 r} (h : L_ref10_EntryMay N x0 = some r) : Con Tryz.prog 151 [.agg [iI x0.Flow.Src, iI x0.Flow.Dst, iI x0.Flow.Proto, iI x0.Flow.Sport, iI x0.Flow.Dport, iI x0.To, .bool x0.Away, iI x0.Phase, iI x0.Used]] [] (d151 r) [] :=
 ci ok mix Tryz.f151 fun z =>
 bd h fun v1 h0 h =>
 br h (fun h1 h =>
  br h (fun h2 h =>
   br h (fun h3 h =>
    bd h fun v2 h4 h =>
    br h (fun h5 h =>
     bd h fun v3 h6 h =>
     z.j [(1, [(2, oR (d138 v1)), (3, oT), (8, oT), (13, oT), (16, oR (d202 v2)), (18, oT), (21, oR (d191 v3))])] 4 [2] [] (o5 (c138 h0) (Le.tt h1) (Le.tt h2) (Le.tt h3) (o3 (c202 h4) (Le.tt h5) (c191 h6))) (g151_1 z h)) fun h5 h =>
    z.j [(1, [(2, oR (d138 v1)), (3, oT), (8, oT), (13, oT), (16, oR (d202 v2)), (18, oF)])] 4 [2] [] (o5 (c138 h0) (Le.tt h1) (Le.tt h2) (Le.tt h3) (o2 (c202 h4) (Le.ff h5))) (g151_1 z h)) fun h3 h =>
   z.j [(1, [(2, oR (d138 v1)), (3, oT), (8, oT), (13, oF)])] 4 [2] [] (o4 (c138 h0) (Le.tt h1) (Le.tt h2) (Le.ff h3)) (g151_1 z h)) fun h2 h =>
  z.j [(1, [(2, oR (d138 v1)), (3, oT), (8, oF)])] 4 [2] [] (o3 (c138 h0) (Le.tt h1) (Le.ff h2)) (g151_1 z h)) fun h1 h =>
 z.j [(1, [(2, oR (d138 v1)), (3, oF)])] 4 [2] [] (o2 (c138 h0) (Le.ff h1)) (g151_1 z h)
def L_ref10_CacheMay_2 (N : Nat) (r1 : (List GEntry) → Int → Option (Bool)) : Nat → (List GEntry) → Int → Int → Option (Bool)
  | 0, _, _, _ => none
  | fuel + 1, t0, t3, t4 =>
  bif (decide (t4 < t3)) then
   if 0 ≤ t4 ∧ t4 < ((t0.length : Nat) : Int) then
   if 0 ≤ t3 ∧ t3 < ((t0.length : Nat) : Int) then
   bif ((((t0.getD t4.toNat default).Flow).Src == ((t0.getD t3.toNat default).Flow).Src) && ((((t0.getD t4.toNat default).Flow).Dst == ((t0.getD t3.toNat default).Flow).Dst) && ((((t0.getD t4.toNat default).Flow).Proto == ((t0.getD t3.toNat default).Flow).Proto) && ((((t0.getD t4.toNat default).Flow).Sport == ((t0.getD t3.toNat default).Flow).Sport) && ((((t0.getD t4.toNat default).Flow).Dport == ((t0.getD t3.toNat default).Flow).Dport) && true))))) then
    some false
   else
    L_ref10_CacheMay_2 N r1 fuel t0 t3 (IntKind.i64.wrap (t4 + 1))
   else none
   else none
  else
   r1 t0 (IntKind.i64.wrap (t3 + 1))
def L_ref10_CacheMay_1 (N : Nat) : Nat → (List GEntry) → Int → Option (Bool)
  | 0, _, _ => none
  | fuel + 1, t0, t3 =>
  bif (decide (t3 < (t0.length : Int))) then
   if 0 ≤ t3 ∧ t3 < ((t0.length : Nat) : Int) then
   (L_ref10_EntryMay N (GEntry.mk ((t0.getD t3.toNat default).Flow) ((t0.getD t3.toNat default).To) ((t0.getD t3.toNat default).Away) ((t0.getD t3.toNat default).Phase) ((t0.getD t3.toNat default).Used))).bind fun v1 =>
   bif (!v1) then
    some false
   else
    L_ref10_CacheMay_2 N (L_ref10_CacheMay_1 N fuel) N t0 t3 0
   else none
  else
   some (decide ((t0.length : Int) ≤ 8))
def L_ref10_CacheMay (N : Nat) (x0 : (List GEntry)) : Option (Bool) :=
 L_ref10_CacheMay_1 N N x0 0
def d90 (r : Bool) : D := .bool r
theorem g90_2 {N} (gx0 : Bool) {r} (z : Z Tryz.prog ty 90 Tryz.f90 (Fi [] (d90 r) [])) {r1 : (List GEntry) → Int → Option (Bool)} (hr1 : ∀ {t0 t3}, r1 t0 t3 = some r → z.G [.c 37, .l 37, .b 0, .c 7] [(0, sS gx0 eEntry t0), (3, iI t3)] []) (fuel) : ∀ {t0 t3 t4}, L_ref10_CacheMay_2 N r1 fuel t0 t3 t4 = some r → z.G [.c 4901, .l 4901, .b 2, .b 1, .c 229, .l 37, .b 0, .c 7] [(0, sS gx0 eEntry t0), (3, iI t3), (4, iI t4)] [] := by
 induction fuel with
 | zero => intro t0 t3 t4 h; cases h
 | succ fuel ih =>
  intro t0 t3 t4 h
  exact
   br h (fun h0 h =>
    ck h fun h1 h =>
    ck h fun h2 h =>
    z.s [(7, [(2, oT)])] 8 (o1 (Le.tt h0)) <|
    br h (fun h3 h =>
     z.r [(9, [(2, oC (.ip gx0 [iI (((t0.getD t4.toNat default).Flow).Src), iI (((t0.getD t4.toNat default).Flow).Dst), iI (((t0.getD t4.toNat default).Flow).Proto), iI (((t0.getD t4.toNat default).Flow).Sport), iI (((t0.getD t4.toNat default).Flow).Dport), iI ((t0.getD t4.toNat default).To), .bool ((t0.getD t4.toNat default).Away), iI ((t0.getD t4.toNat default).Phase), iI ((t0.getD t4.toNat default).Used)])), (7, oC (.ip gx0 [iI (((t0.getD t3.toNat default).Flow).Src), iI (((t0.getD t3.toNat default).Flow).Dst), iI (((t0.getD t3.toNat default).Flow).Proto), iI (((t0.getD t3.toNat default).Flow).Sport), iI (((t0.getD t3.toNat default).Flow).Dport), iI ((t0.getD t3.toNat default).To), .bool ((t0.getD t3.toNat default).Away), iI ((t0.getD t3.toNat default).Phase), iI ((t0.getD t3.toNat default).Used)])), (10, oT)])] 4 (o5 h1 (Le.iptl (g := gx0) (eL_at (xs := t0) eEntry_len (ixl h1))) h2 (Le.iptl (g := gx0) (eL_at (xs := t0) eEntry_len (ixl h2))) (o1 (Le.tt h3))) h) fun h3 h =>
    z.j [(9, [(2, oC (.ip gx0 [iI (((t0.getD t4.toNat default).Flow).Src), iI (((t0.getD t4.toNat default).Flow).Dst), iI (((t0.getD t4.toNat default).Flow).Proto), iI (((t0.getD t4.toNat default).Flow).Sport), iI (((t0.getD t4.toNat default).Flow).Dport), iI ((t0.getD t4.toNat default).To), .bool ((t0.getD t4.toNat default).Away), iI ((t0.getD t4.toNat default).Phase), iI ((t0.getD t4.toNat default).Used)])), (7, oC (.ip gx0 [iI (((t0.getD t3.toNat default).Flow).Src), iI (((t0.getD t3.toNat default).Flow).Dst), iI (((t0.getD t3.toNat default).Flow).Proto), iI (((t0.getD t3.toNat default).Flow).Sport), iI (((t0.getD t3.toNat default).Flow).Dport), iI ((t0.getD t3.toNat default).To), .bool ((t0.getD t3.toNat default).Away), iI ((t0.getD t3.toNat default).Phase), iI ((t0.getD t3.toNat default).Used)])), (10, oF)])] 6 [0, 3, 4] [] (o5 h1 (Le.iptl (g := gx0) (eL_at (xs := t0) eEntry_len (ixl h1))) h2 (Le.iptl (g := gx0) (eL_at (xs := t0) eEntry_len (ixl h2))) (o1 (Le.ff h3))) (ih h)) fun h0 h =>
   z.j [(7, [(2, oF)])] 8 [0, 3] [] (o1 (Le.ff h0)) (hr1 h)
theorem g90_1 {N} (gx0 : Bool) {r} (z : Z Tryz.prog ty 90 Tryz.f90 (Fi [] (d90 r) [])) (fuel) : ∀ {t0 t3}, L_ref10_CacheMay_1 N fuel t0 t3 = some r → z.G [.c 37, .l 37, .b 0, .c 7] [(0, sS gx0 eEntry t0), (3, iI t3)] [] := by
 induction fuel with
 | zero => intro t0 t3 h; cases h
 | succ fuel ih =>
  intro t0 t3 h
  exact
   br h (fun h0 h =>
    ck h fun h1 h =>
    bd h fun v1 h2 h =>
    z.s [(2, [(3, oT)])] 9 (o1 (Le.tt h0)) <|
    br h (fun h3 h =>
     z.r [(4, [(2, oC (.ip gx0 [iI (((t0.getD t3.toNat default).Flow).Src), iI (((t0.getD t3.toNat default).Flow).Dst), iI (((t0.getD t3.toNat default).Flow).Proto), iI (((t0.getD t3.toNat default).Flow).Sport), iI (((t0.getD t3.toNat default).Flow).Dport), iI ((t0.getD t3.toNat default).To), .bool ((t0.getD t3.toNat default).Away), iI ((t0.getD t3.toNat default).Phase), iI ((t0.getD t3.toNat default).Used)])), (4, oR (d151 v1)), (5, oT)])] 4 (o4 h1 (Le.iptl (g := gx0) (eL_at (xs := t0) eEntry_len (ixl h1))) (c151 h2) (Le.tt h3)) h) fun h3 h =>
    z.j [(4, [(2, oC (.ip gx0 [iI (((t0.getD t3.toNat default).Flow).Src), iI (((t0.getD t3.toNat default).Flow).Dst), iI (((t0.getD t3.toNat default).Flow).Proto), iI (((t0.getD t3.toNat default).Flow).Sport), iI (((t0.getD t3.toNat default).Flow).Dport), iI ((t0.getD t3.toNat default).To), .bool ((t0.getD t3.toNat default).Away), iI ((t0.getD t3.toNat default).Phase), iI ((t0.getD t3.toNat default).Used)])), (4, oR (d151 v1)), (5, oF)])] 7 [0, 3, 4] [] (o4 h1 (Le.iptl (g := gx0) (eL_at (xs := t0) eEntry_len (ixl h1))) (c151 h2) (Le.ff h3)) (g90_2 gx0 z @ih N h)) fun h0 h =>
   z.r [(2, [(3, oF)])] 7 (o1 (Le.ff h0)) h
theorem c90 {N} (gx0 : Bool) {x0 r} (h : L_ref10_CacheMay N x0 = some r) : Con Tryz.prog 90 [sS gx0 eEntry x0] [] (d90 r) [] :=
 ci ok mix Tryz.f90 fun z =>
 z.j [] 7 [0, 3] [] o0 (g90_1 gx0 z N h)
def L_ref10_Limit (N : Nat) (x0 : Int) : Option (Int × Int) :=
 (L_ref10_phaseMay N x0).bind fun v1 =>
 bif (!v1) then
  some (0, 1400)
 else
  bif (x0 == 0) then
   some (40, 0)
  else
   some (6, 0)
def d156 (r : Int × Int) : D := .tup [iI r.1, iI r.2]
theorem c156 {N} {x0 r} (h : L_ref10_Limit N x0 = some r) : Con Tryz.prog 156 [iI x0] [] (d156 r) [] :=
 ci ok mix Tryz.f156 fun z =>
 bd h fun v1 h0 h =>
 br h (fun h1 h =>
  z.r [(1, [(1, oR (d202 v1)), (2, oT)])] 8 (o2 (c202 h0) (Le.tt h1)) h) fun h1 h =>
 z.s [(1, [(1, oR (d202 v1)), (2, oF)])] 9 (o2 (c202 h0) (Le.ff h1)) <|
 br h (fun h2 h =>
  z.r [(3, [(1, oT)])] 4 (o1 (Le.tt h2)) h) fun h2 h =>
 z.r [(3, [(1, oF)])] 5 (o1 (Le.ff h2)) h
def L_ref10_Ran_1 (N : Nat) (t4 : Bool) : Option (Bool) :=
 some t4
def L_ref10_Ran (N : Nat) (x0 : GEntry) (x1 : Int) : Option (Bool) :=
 (L_ref10_EntryMay N x0).bind fun v1 =>
 bif (!v1) then
  some true
 else
  (L_ref10_Limit N x0.Phase).bind fun v2 =>
  bif (decide (x1 ≥ 0)) then
   L_ref10_Ran_1 N (decide ((IntKind.i64.wrap (x1 - x0.Used)) ≥ v2.1))
  else
   L_ref10_Ran_1 N false
def d98 (r : Bool) : D := .bool r
theorem g98_1 {N} {r} (z : Z Tryz.prog ty 98 Tryz.f98 (Fi [] (d98 r) [])) {t4} (h : L_ref10_Ran_1 N t4 = some r) : z.G [.c 31] [(4, .bool t4)] [] :=
 z.r [] 0 o0 h
theorem c98 {N} {x0 x1 r} (h : L_ref10_Ran N x0 x1 = some r) : Con Tryz.prog 98 [.agg [iI x0.Flow.Src, iI x0.Flow.Dst, iI x0.Flow.Proto, iI x0.Flow.Sport, iI x0.Flow.Dport, iI x0.To, .bool x0.Away, iI x0.Phase, iI x0.Used], iI x1] [] (d98 r) [] :=
 ci ok mix Tryz.f98 fun z =>
 bd h fun v1 h0 h =>
 br h (fun h1 h =>
  z.r [(1, [(1, oR (d151 v1)), (2, oT)])] 8 (o2 (c151 h0) (Le.tt h1)) h) fun h1 h =>
 bd h fun v2 h2 h =>
 z.s [(1, [(1, oR (d151 v1)), (2, oF)]), (3, [(2, oR (d156 v2))])] 10 (o3 (c151 h0) (Le.ff h1) (c156 h2)) <|
 br h (fun h3 h =>
  z.j [(4, [(2, oT)])] 1 [4] [] (o1 (Le.tt h3)) (g98_1 z h)) fun h3 h =>
 z.j [(4, [(2, oF)])] 1 [4] [] (o1 (Le.ff h3)) (g98_1 z h)
def L_ref10_FindEntry_3 (N : Nat) (r1 : (List GEntry) → Int → Int → Int → Int → Int → Int → Int → Int → Int → Int → Int → Int → Bool → Int → Int → Int → Option (GEntry × Bool)) (t0 : (List GEntry)) (t2 b132_0 b132_1 b132_2 b132_3 b132_4 b148_0 b148_1 b148_2 b148_3 b148_4 b148_5 : Int) (b148_6 : Bool) (b148_7 b148_8 t8 : Int) (t34 : Bool) : Option (GEntry × Bool) :=
 bif t34 then
  if 0 ≤ t8 ∧ t8 < ((t0.length : Nat) : Int) then
  some ((GEntry.mk ((t0.getD t8.toNat default).Flow) ((t0.getD t8.toNat default).To) ((t0.getD t8.toNat default).Away) ((t0.getD t8.toNat default).Phase) ((t0.getD t8.toNat default).Used)), true)
  else none
 else
  r1 t0 t2 b132_0 b132_1 b132_2 b132_3 b132_4 b148_0 b148_1 b148_2 b148_3 b148_4 b148_5 b148_6 b148_7 b148_8 (IntKind.i64.wrap (t8 + 1))
def L_ref10_FindEntry_2 (N : Nat) (r1 : (List GEntry) → Int → Int → Int → Int → Int → Int → Int → Int → Int → Int → Int → Int → Bool → Int → Int → Int → Option (GEntry × Bool)) (t0 : (List GEntry)) (t2 b132_0 b132_1 b132_2 b132_3 b132_4 b148_0 b148_1 b148_2 b148_3 b148_4 b148_5 : Int) (b148_6 : Bool) (b148_7 b148_8 t8 : Int) (t16 : Bool) : Option (GEntry × Bool) :=
 bif t16 then
  if 0 ≤ t8 ∧ t8 < ((t0.length : Nat) : Int) then
  via (((((t0.getD t8.toNat default).Flow).Src == b132_0) && ((((t0.getD t8.toNat default).Flow).Dst == b132_1) && ((((t0.getD t8.toNat default).Flow).Proto == b132_2) && ((((t0.getD t8.toNat default).Flow).Sport == b132_3) && ((((t0.getD t8.toNat default).Flow).Dport == b132_4) && true))))) : Bool) fun v1 =>
  bif v1 then
   if 0 ≤ t8 ∧ t8 < ((t0.length : Nat) : Int) then
   (L_ref10_Ran N (GEntry.mk ((t0.getD t8.toNat default).Flow) ((t0.getD t8.toNat default).To) ((t0.getD t8.toNat default).Away) ((t0.getD t8.toNat default).Phase) ((t0.getD t8.toNat default).Used)) t2).bind fun v2 =>
   L_ref10_FindEntry_3 N r1 t0 t2 b132_0 b132_1 b132_2 b132_3 b132_4 b148_0 b148_1 b148_2 b148_3 b148_4 b148_5 b148_6 b148_7 b148_8 t8 (!v2)
   else none
  else
   L_ref10_FindEntry_3 N r1 t0 t2 b132_0 b132_1 b132_2 b132_3 b132_4 b148_0 b148_1 b148_2 b148_3 b148_4 b148_5 b148_6 b148_7 b148_8 t8 false
  else none
 else
  some ((GEntry.mk (GFlow.mk 0 0 0 0 0) 0 false 0 0), false)
def L_ref10_FindEntry_1 (N : Nat) : Nat → (List GEntry) → Int → Int → Int → Int → Int → Int → Int → Int → Int → Int → Int → Int → Bool → Int → Int → Int → Option (GEntry × Bool)
  | 0, _, _, _, _, _, _, _, _, _, _, _, _, _, _, _, _, _ => none
  | fuel + 1, t0, t2, b132_0, b132_1, b132_2, b132_3, b132_4, b148_0, b148_1, b148_2, b148_3, b148_4, b148_5, b148_6, b148_7, b148_8, t8 =>
  bif (decide (t8 < (t0.length : Int))) then
   (L_ref10_CacheMay N t0).bind fun v1 =>
   L_ref10_FindEntry_2 N (L_ref10_FindEntry_1 N fuel) t0 t2 b132_0 b132_1 b132_2 b132_3 b132_4 b148_0 b148_1 b148_2 b148_3 b148_4 b148_5 b148_6 b148_7 b148_8 t8 v1
  else
   L_ref10_FindEntry_2 N (L_ref10_FindEntry_1 N fuel) t0 t2 b132_0 b132_1 b132_2 b132_3 b132_4 b148_0 b148_1 b148_2 b148_3 b148_4 b148_5 b148_6 b148_7 b148_8 t8 false
def L_ref10_FindEntry (N : Nat) (x0 : (List GEntry)) (x1 : GFlow) (x2 : Int) : Option (GEntry × Bool) :=
 L_ref10_FindEntry_1 N N x0 x2 x1.Src x1.Dst x1.Proto x1.Sport x1.Dport 0 0 0 0 0 0 false 0 0 0
def d32 (r : GEntry × Bool) : D := .tup [.agg [iI r.1.Flow.Src, iI r.1.Flow.Dst, iI r.1.Flow.Proto, iI r.1.Flow.Sport, iI r.1.Flow.Dport, iI r.1.To, .bool r.1.Away, iI r.1.Phase, iI r.1.Used], .bool r.2]
theorem g32_3 {N} (gx0 : Bool) {r} (z : Z Tryz.prog ty 32 Tryz.f32 (Fi [] (d32 r) [])) {r1 : (List GEntry) → Int → Int → Int → Int → Int → Int → Int → Int → Int → Int → Int → Int → Bool → Int → Int → Int → Option (GEntry × Bool)} (hr1 : ∀ {t0 t2 b132_0 b132_1 b132_2 b132_3 b132_4 b148_0 b148_1 b148_2 b148_3 b148_4 b148_5 b148_6 b148_7 b148_8 t8}, r1 t0 t2 b132_0 b132_1 b132_2 b132_3 b132_4 b148_0 b148_1 b148_2 b148_3 b148_4 b148_5 b148_6 b148_7 b148_8 t8 = some r → z.G [.c 37, .l 37, .b 0, .c 7] [(0, sS gx0 eEntry t0), (2, iI t2), (4, .ptr 132 0), (6, .ptr 148 0), (8, iI t8)] [qB 132 [iI b132_0, iI b132_1, iI b132_2, iI b132_3, iI b132_4], qB 148 [iI b148_0, iI b148_1, iI b148_2, iI b148_3, iI b148_4, iI b148_5, .bool b148_6, iI b148_7, iI b148_8]]) {t0 t2 b132_0 b132_1 b132_2 b132_3 b132_4 b148_0 b148_1 b148_2 b148_3 b148_4 b148_5 b148_6 b148_7 b148_8 t8 t34} (h : L_ref10_FindEntry_3 N r1 t0 t2 b132_0 b132_1 b132_2 b132_3 b132_4 b148_0 b148_1 b148_2 b148_3 b148_4 b148_5 b148_6 b148_7 b148_8 t8 t34 = some r) : z.G [.c 805, .b 1, .c 229, .l 37, .b 0, .c 7] [(0, sS gx0 eEntry t0), (2, iI t2), (4, .ptr 132 0), (6, .ptr 148 0), (8, iI t8), (34, .bool t34)] [qB 132 [iI b132_0, iI b132_1, iI b132_2, iI b132_3, iI b132_4], qB 148 [iI b148_0, iI b148_1, iI b148_2, iI b148_3, iI b148_4, iI b148_5, .bool b148_6, iI b148_7, iI b148_8]] :=
 by
  cases t34 with
  | true => exact brT h fun h => (
   ck h fun h1 h =>
   z.r [(5, [(2, oC (.ip gx0 [iI (((t0.getD t8.toNat default).Flow).Src), iI (((t0.getD t8.toNat default).Flow).Dst), iI (((t0.getD t8.toNat default).Flow).Proto), iI (((t0.getD t8.toNat default).Flow).Sport), iI (((t0.getD t8.toNat default).Flow).Dport), iI ((t0.getD t8.toNat default).To), .bool ((t0.getD t8.toNat default).Away), iI ((t0.getD t8.toNat default).Phase), iI ((t0.getD t8.toNat default).Used)]))])] 3 (o2 h1 (Le.iptl (g := gx0) (eL_at (xs := t0) eEntry_len (ixl h1)))) h)
  | false => exact brF h fun h => (
   z.j [] 5 [0, 2, 4, 6, 8] [(132, 132), (148, 148)] o0 (hr1 h))
theorem g32_2 {N} (gx0 : Bool) {r} (z : Z Tryz.prog ty 32 Tryz.f32 (Fi [] (d32 r) [])) {r1 : (List GEntry) → Int → Int → Int → Int → Int → Int → Int → Int → Int → Int → Int → Int → Bool → Int → Int → Int → Option (GEntry × Bool)} (hr1 : ∀ {t0 t2 b132_0 b132_1 b132_2 b132_3 b132_4 b148_0 b148_1 b148_2 b148_3 b148_4 b148_5 b148_6 b148_7 b148_8 t8}, r1 t0 t2 b132_0 b132_1 b132_2 b132_3 b132_4 b148_0 b148_1 b148_2 b148_3 b148_4 b148_5 b148_6 b148_7 b148_8 t8 = some r → z.G [.c 37, .l 37, .b 0, .c 7] [(0, sS gx0 eEntry t0), (2, iI t2), (4, .ptr 132 0), (6, .ptr 148 0), (8, iI t8)] [qB 132 [iI b132_0, iI b132_1, iI b132_2, iI b132_3, iI b132_4], qB 148 [iI b148_0, iI b148_1, iI b148_2, iI b148_3, iI b148_4, iI b148_5, .bool b148_6, iI b148_7, iI b148_8]]) {t0 t2 b132_0 b132_1 b132_2 b132_3 b132_4 b148_0 b148_1 b148_2 b148_3 b148_4 b148_5 b148_6 b148_7 b148_8 t8 t16} (h : L_ref10_FindEntry_2 N r1 t0 t2 b132_0 b132_1 b132_2 b132_3 b132_4 b148_0 b148_1 b148_2 b148_3 b148_4 b148_5 b148_6 b148_7 b148_8 t8 t16 = some r) : z.G [.c 197, .c 101, .l 37, .b 0, .c 7] [(0, sS gx0 eEntry t0), (2, iI t2), (4, .ptr 132 0), (6, .ptr 148 0), (8, iI t8), (16, .bool t16)] [qB 132 [iI b132_0, iI b132_1, iI b132_2, iI b132_3, iI b132_4], qB 148 [iI b148_0, iI b148_1, iI b148_2, iI b148_3, iI b148_4, iI b148_5, .bool b148_6, iI b148_7, iI b148_8]] :=
 by
  cases t16 with
  | true => exact brT h fun h => (
   ck h fun h1 h =>
   vi h fun v1 h2 h =>
   br h (fun h3 h =>
    ck h fun h4 h =>
    bd h fun v2 h5 h =>
    z.j [(4, [(2, oC (.ip gx0 [iI (((t0.getD t8.toNat default).Flow).Src), iI (((t0.getD t8.toNat default).Flow).Dst), iI (((t0.getD t8.toNat default).Flow).Proto), iI (((t0.getD t8.toNat default).Flow).Sport), iI (((t0.getD t8.toNat default).Flow).Dport), iI ((t0.getD t8.toNat default).To), .bool ((t0.getD t8.toNat default).Away), iI ((t0.getD t8.toNat default).Phase), iI ((t0.getD t8.toNat default).Used)])), (6, oC (.bool v1)), (7, oT), (10, oC (.ip gx0 [iI (((t0.getD t8.toNat default).Flow).Src), iI (((t0.getD t8.toNat default).Flow).Dst), iI (((t0.getD t8.toNat default).Flow).Proto), iI (((t0.getD t8.toNat default).Flow).Sport), iI (((t0.getD t8.toNat default).Flow).Dport), iI ((t0.getD t8.toNat default).To), .bool ((t0.getD t8.toNat default).Away), iI ((t0.getD t8.toNat default).Phase), iI ((t0.getD t8.toNat default).Used)])), (13, oR (d98 v2))])] 6 [0, 2, 4, 6, 8, 34] [(132, 132), (148, 148)] (o5 h1 (Le.iptl (g := gx0) (eL_at (xs := t0) eEntry_len (ixl h1))) (Le.boo h2) (Le.tt h3) (o3 h4 (Le.iptl (g := gx0) (eL_at (xs := t0) eEntry_len (ixl h4))) (c98 h5))) (g32_3 gx0 z @hr1 h)) fun h3 h =>
   z.j [(4, [(2, oC (.ip gx0 [iI (((t0.getD t8.toNat default).Flow).Src), iI (((t0.getD t8.toNat default).Flow).Dst), iI (((t0.getD t8.toNat default).Flow).Proto), iI (((t0.getD t8.toNat default).Flow).Sport), iI (((t0.getD t8.toNat default).Flow).Dport), iI ((t0.getD t8.toNat default).To), .bool ((t0.getD t8.toNat default).Away), iI ((t0.getD t8.toNat default).Phase), iI ((t0.getD t8.toNat default).Used)])), (6, oC (.bool v1)), (7, oF)])] 6 [0, 2, 4, 6, 8, 34] [(132, 132), (148, 148)] (o4 h1 (Le.iptl (g := gx0) (eL_at (xs := t0) eEntry_len (ixl h1))) (Le.boo h2) (Le.ff h3)) (g32_3 gx0 z @hr1 h))
  | false => exact brF h fun h => (
   z.r [] 4 o0 h)
theorem g32_1 {N} (gx0 : Bool) {r} (z : Z Tryz.prog ty 32 Tryz.f32 (Fi [] (d32 r) [])) (fuel) : ∀ {t0 t2 b132_0 b132_1 b132_2 b132_3 b132_4 b148_0 b148_1 b148_2 b148_3 b148_4 b148_5 b148_6 b148_7 b148_8 t8}, L_ref10_FindEntry_1 N fuel t0 t2 b132_0 b132_1 b132_2 b132_3 b132_4 b148_0 b148_1 b148_2 b148_3 b148_4 b148_5 b148_6 b148_7 b148_8 t8 = some r → z.G [.c 37, .l 37, .b 0, .c 7] [(0, sS gx0 eEntry t0), (2, iI t2), (4, .ptr 132 0), (6, .ptr 148 0), (8, iI t8)] [qB 132 [iI b132_0, iI b132_1, iI b132_2, iI b132_3, iI b132_4], qB 148 [iI b148_0, iI b148_1, iI b148_2, iI b148_3, iI b148_4, iI b148_5, .bool b148_6, iI b148_7, iI b148_8]] := by
 induction fuel with
 | zero => intro t0 t2 b132_0 b132_1 b132_2 b132_3 b132_4 b148_0 b148_1 b148_2 b148_3 b148_4 b148_5 b148_6 b148_7 b148_8 t8 h; cases h
 | succ fuel ih =>
  intro t0 t2 b132_0 b132_1 b132_2 b132_3 b132_4 b148_0 b148_1 b148_2 b148_3 b148_4 b148_5 b148_6 b148_7 b148_8 t8 h
  exact
   br h (fun h0 h =>
    bd h fun v1 h1 h =>
    z.j [(2, [(4, oT), (6, oR (d90 v1))])] 3 [0, 2, 4, 6, 8, 16] [(132, 132), (148, 148)] (o2 (Le.tt h0) (c90 gx0 h1)) (g32_2 gx0 z @ih h)) fun h0 h =>
   z.j [(2, [(4, oF)])] 3 [0, 2, 4, 6, 8, 16] [(132, 132), (148, 148)] (o1 (Le.ff h0)) (g32_2 gx0 z @ih h)
theorem c32 {N} (gx0 : Bool) {x0 x1 x2 r} (h : L_ref10_FindEntry N x0 x1 x2 = some r) : Con Tryz.prog 32 [sS gx0 eEntry x0, .agg [iI x1.Src, iI x1.Dst, iI x1.Proto, iI x1.Sport, iI x1.Dport], iI x2] [] (d32 r) [] :=
 ci ok mix Tryz.f32 fun z =>
 z.j [] 7 [0, 2, 4, 6, 8] [(132, 132), (148, 148)] o0 (g32_1 gx0 z N h)
def L_ref10_ConfMay_5 (N : Nat) (r2 : Int → (List GSite) → Int → Option (Bool)) (r4 : Int → (List GSite) → Int → Int → Bool → Int → (List GBack) → Int → Option (Bool)) (b108_0 : Int) (b108_1 : (List GSite)) (t3 b132_0 : Int) (b132_1 : Bool) (b132_2 : Int) (b132_3 : (List GBack)) (t5 : Int) (t78 : Bool) : Option (Bool) :=
 bif t78 then
  some false
 else
  r4 b108_0 b108_1 t3 b132_0 b132_1 b132_2 b132_3 (IntKind.i64.wrap (t5 + 1))
def L_ref10_ConfMay_4 (N : Nat) (r2 : Int → (List GSite) → Int → Option (Bool)) : Nat → Int → (List GSite) → Int → Int → Bool → Int → (List GBack) → Int → Option (Bool)
  | 0, _, _, _, _, _, _, _, _ => none
  | fuel + 1, b108_0, b108_1, t3, b132_0, b132_1, b132_2, b132_3, t5 =>
  bif (decide (t5 < (b132_3.length : Int))) then
   if 0 ≤ t5 ∧ t5 < ((b132_3.length : Nat) : Int) then
   bif (decide ((b132_3.getD t5.toNat default).Weight < 0)) then
    L_ref10_ConfMay_5 N r2 (L_ref10_ConfMay_4 N r2 fuel) b108_0 b108_1 t3 b132_0 b132_1 b132_2 b132_3 t5 true
   else
    if 0 ≤ t5 ∧ t5 < ((b132_3.length : Nat) : Int) then
    L_ref10_ConfMay_5 N r2 (L_ref10_ConfMay_4 N r2 fuel) b108_0 b108_1 t3 b132_0 b132_1 b132_2 b132_3 t5 (decide ((b132_3.getD t5.toNat default).Weight > 16))
    else none
   else none
  else
   r2 b108_0 b108_1 (IntKind.i64.wrap (t3 + 1))
def L_ref10_ConfMay_3 (N : Nat) (r2 : Int → (List GSite) → Int → Option (Bool)) (b108_0 : Int) (b108_1 : (List GSite)) (t3 b132_0 : Int) (b132_1 : Bool) (b132_2 : Int) (b132_3 : (List GBack)) (t55 : Bool) : Option (Bool) :=
 bif t55 then
  some false
 else
  L_ref10_ConfMay_4 N r2 N b108_0 b108_1 t3 b132_0 b132_1 b132_2 b132_3 0
def L_ref10_ConfMay_2 (N : Nat) : Nat → Int → (List GSite) → Int → Option (Bool)
  | 0, _, _, _ => none
  | fuel + 1, b108_0, b108_1, t3 =>
  bif (decide (t3 < (b108_1.length : Int))) then
   if 0 ≤ t3 ∧ t3 < ((b108_1.length : Nat) : Int) then
   bif (decide ((b108_1.getD t3.toNat default).Weight < 0)) then
    L_ref10_ConfMay_3 N (L_ref10_ConfMay_2 N fuel) b108_0 b108_1 t3 ((b108_1.getD t3.toNat default).Weight) ((b108_1.getD t3.toNat default).Drain) ((b108_1.getD t3.toNat default).Cap) ((b108_1.getD t3.toNat default).Backs) true
   else
    bif (decide ((b108_1.getD t3.toNat default).Weight > 16)) then
     L_ref10_ConfMay_3 N (L_ref10_ConfMay_2 N fuel) b108_0 b108_1 t3 ((b108_1.getD t3.toNat default).Weight) ((b108_1.getD t3.toNat default).Drain) ((b108_1.getD t3.toNat default).Cap) ((b108_1.getD t3.toNat default).Backs) true
    else
     bif (decide ((b108_1.getD t3.toNat default).Cap < 0)) then
      L_ref10_ConfMay_3 N (L_ref10_ConfMay_2 N fuel) b108_0 b108_1 t3 ((b108_1.getD t3.toNat default).Weight) ((b108_1.getD t3.toNat default).Drain) ((b108_1.getD t3.toNat default).Cap) ((b108_1.getD t3.toNat default).Backs) true
     else
      bif (decide ((b108_1.getD t3.toNat default).Cap > 8)) then
       L_ref10_ConfMay_3 N (L_ref10_ConfMay_2 N fuel) b108_0 b108_1 t3 ((b108_1.getD t3.toNat default).Weight) ((b108_1.getD t3.toNat default).Drain) ((b108_1.getD t3.toNat default).Cap) ((b108_1.getD t3.toNat default).Backs) true
      else
       via ((((b108_1.getD t3.toNat default).Backs).length : Int) : Int) fun v1 =>
       L_ref10_ConfMay_3 N (L_ref10_ConfMay_2 N fuel) b108_0 b108_1 t3 ((b108_1.getD t3.toNat default).Weight) ((b108_1.getD t3.toNat default).Drain) ((b108_1.getD t3.toNat default).Cap) ((b108_1.getD t3.toNat default).Backs) (decide (v1 > 4))
   else none
  else
   some true
def L_ref10_ConfMay_1 (N : Nat) (b108_0 : Int) (b108_1 : (List GSite)) (t19 : Bool) : Option (Bool) :=
 bif t19 then
  some false
 else
  L_ref10_ConfMay_2 N N b108_0 b108_1 0
def L_ref10_ConfMay (N : Nat) (x0 : GConfig) : Option (Bool) :=
 bif (decide (x0.Version < 0)) then
  L_ref10_ConfMay_1 N x0.Version x0.Sites true
 else
  bif (decide (x0.Version > 1048576)) then
   L_ref10_ConfMay_1 N x0.Version x0.Sites true
  else
   L_ref10_ConfMay_1 N x0.Version x0.Sites (decide ((x0.Sites.length : Int) > 3))
def d88 (r : Bool) : D := .bool r
theorem g88_5 {N} (gx0 : Bool) {r} (z : Z Tryz.prog ty 88 Tryz.f88 (Fi [] (d88 r) [])) {r2 : Int → (List GSite) → Int → Option (Bool)} {r4 : Int → (List GSite) → Int → Int → Bool → Int → (List GBack) → Int → Option (Bool)} (hr2 : ∀ {b108_0 b108_1 t3}, r2 b108_0 b108_1 t3 = some r → z.G [.c 75, .l 75, .b 0, .c 15] [(1, .ptr 108 0), (3, iI t3)] [qB 108 [iI b108_0, sS gx0 (eSite gx0) b108_1]]) (hr4 : ∀ {b108_0 b108_1 t3 b132_0 b132_1 b132_2 b132_3 t5}, r4 b108_0 b108_1 t3 b132_0 b132_1 b132_2 b132_3 t5 = some r → z.G [.c 20043, .l 20043, .b 2, .b 1, .c 459, .l 75, .b 0, .c 15] [(1, .ptr 108 0), (3, iI t3), (4, .ptr 132 0), (5, iI t5)] [qB 108 [iI b108_0, sS gx0 (eSite gx0) b108_1], qB 132 [iI b132_0, .bool b132_1, iI b132_2, sS gx0 eBack b132_3]]) {b108_0 b108_1 t3 b132_0 b132_1 b132_2 b132_3 t5 t78} (h : L_ref10_ConfMay_5 N r2 r4 b108_0 b108_1 t3 b132_0 b132_1 b132_2 b132_3 t5 t78 = some r) : z.G [.c 413259, .b 3, .c 118347, .l 20043, .b 2, .b 1, .c 459, .l 75, .b 0, .c 15] [(1, .ptr 108 0), (3, iI t3), (4, .ptr 132 0), (5, iI t5), (78, .bool t78)] [qB 108 [iI b108_0, sS gx0 (eSite gx0) b108_1], qB 132 [iI b132_0, .bool b132_1, iI b132_2, sS gx0 eBack b132_3]] :=
 by
  cases t78 with
  | true => exact brT h fun h => (
   z.r [] 3 o0 h)
  | false => exact brF h fun h => (
   z.j [] 5 [1, 3, 4, 5] [(108, 108), (132, 132)] o0 (hr4 h))
theorem g88_4 {N} (gx0 : Bool) {r} (z : Z Tryz.prog ty 88 Tryz.f88 (Fi [] (d88 r) [])) {r2 : Int → (List GSite) → Int → Option (Bool)} (hr2 : ∀ {b108_0 b108_1 t3}, r2 b108_0 b108_1 t3 = some r → z.G [.c 75, .l 75, .b 0, .c 15] [(1, .ptr 108 0), (3, iI t3)] [qB 108 [iI b108_0, sS gx0 (eSite gx0) b108_1]]) (fuel) : ∀ {b108_0 b108_1 t3 b132_0 b132_1 b132_2 b132_3 t5}, L_ref10_ConfMay_4 N r2 fuel b108_0 b108_1 t3 b132_0 b132_1 b132_2 b132_3 t5 = some r → z.G [.c 20043, .l 20043, .b 2, .b 1, .c 459, .l 75, .b 0, .c 15] [(1, .ptr 108 0), (3, iI t3), (4, .ptr 132 0), (5, iI t5)] [qB 108 [iI b108_0, sS gx0 (eSite gx0) b108_1], qB 132 [iI b132_0, .bool b132_1, iI b132_2, sS gx0 eBack b132_3]] := by
 induction fuel with
 | zero => intro b108_0 b108_1 t3 b132_0 b132_1 b132_2 b132_3 t5 h; cases h
 | succ fuel ih =>
  intro b108_0 b108_1 t3 b132_0 b132_1 b132_2 b132_3 t5 h
  exact
   br h (fun h0 h =>
    ck h fun h1 h =>
    z.s [(10, [(4, oT)])] 8 (o1 (Le.tt h0)) <|
    br h (fun h2 h =>
     z.j [(12, [(3, oC (.ip gx0 [iI ((b132_3.getD t5.toNat default).Weight), .bool ((b132_3.getD t5.toNat default).Drain)])), (7, oT)])] 1 [1, 3, 4, 5, 78] [(108, 108), (132, 132)] (o3 h1 (Le.iptl (g := gx0) (eL_at (xs := b132_3) eBack_len (ixl h1))) (Le.tt h2)) (g88_5 gx0 z @hr2 @ih h)) fun h2 h =>
    ck h fun h3 h =>
    z.j [(12, [(3, oC (.ip gx0 [iI ((b132_3.getD t5.toNat default).Weight), .bool ((b132_3.getD t5.toNat default).Drain)])), (7, oF), (11, oC (.ip gx0 [iI ((b132_3.getD t5.toNat default).Weight), .bool ((b132_3.getD t5.toNat default).Drain)]))])] 1 [1, 3, 4, 5, 78] [(108, 108), (132, 132)] (o5 h1 (Le.iptl (g := gx0) (eL_at (xs := b132_3) eBack_len (ixl h1))) (Le.ff h2) h3 (o1 (Le.iptl (g := gx0) (eL_at (xs := b132_3) eBack_len (ixl h3))))) (g88_5 gx0 z @hr2 @ih h)) fun h0 h =>
   z.j [(10, [(4, oF)])] 8 [1, 3] [(108, 108)] (o1 (Le.ff h0)) (hr2 h)
theorem g88_3 {N} (gx0 : Bool) {r} (z : Z Tryz.prog ty 88 Tryz.f88 (Fi [] (d88 r) [])) {r2 : Int → (List GSite) → Int → Option (Bool)} (hr2 : ∀ {b108_0 b108_1 t3}, r2 b108_0 b108_1 t3 = some r → z.G [.c 75, .l 75, .b 0, .c 15] [(1, .ptr 108 0), (3, iI t3)] [qB 108 [iI b108_0, sS gx0 (eSite gx0) b108_1]]) {b108_0 b108_1 t3 b132_0 b132_1 b132_2 b132_3 t55} (h : L_ref10_ConfMay_3 N r2 b108_0 b108_1 t3 b132_0 b132_1 b132_2 b132_3 t55 = some r) : z.G [.c 6731, .c 3659, .b 1, .c 459, .l 75, .b 0, .c 15] [(1, .ptr 108 0), (3, iI t3), (4, .ptr 132 0), (55, .bool t55)] [qB 108 [iI b108_0, sS gx0 (eSite gx0) b108_1], qB 132 [iI b132_0, .bool b132_1, iI b132_2, sS gx0 eBack b132_3]] :=
 by
  cases t55 with
  | true => exact brT h fun h => (
   z.r [] 3 o0 h)
  | false => exact brF h fun h => (
   z.j [] 6 [1, 3, 4, 5] [(108, 108), (132, 132)] o0 (g88_4 gx0 z @hr2 N h))
theorem g88_2 {N} (gx0 : Bool) {r} (z : Z Tryz.prog ty 88 Tryz.f88 (Fi [] (d88 r) [])) (fuel) : ∀ {b108_0 b108_1 t3}, L_ref10_ConfMay_2 N fuel b108_0 b108_1 t3 = some r → z.G [.c 75, .l 75, .b 0, .c 15] [(1, .ptr 108 0), (3, iI t3)] [qB 108 [iI b108_0, sS gx0 (eSite gx0) b108_1]] := by
 induction fuel with
 | zero => intro b108_0 b108_1 t3 h; cases h
 | succ fuel ih =>
  intro b108_0 b108_1 t3 h
  exact
   br h (fun h0 h =>
    ck h fun h1 h =>
    z.s [(4, [(4, oT)]), (6, [(3, oC (.ip gx0 [iI ((b108_1.getD t3.toNat default).Weight), .bool ((b108_1.getD t3.toNat default).Drain), iI ((b108_1.getD t3.toNat default).Cap), sS gx0 eBack ((b108_1.getD t3.toNat default).Backs)]))])] 11 (o3 (Le.tt h0) h1 (Le.iptl (g := gx0) (eL_at (xs := b108_1) (eSite_len gx0) (ixl h1)))) <|
    br h (fun h2 h =>
     z.j [(7, [(3, oT)])] 1 [1, 3, 4, 55] [(108, 108), (132, 132)] (o1 (Le.tt h2)) (g88_3 gx0 z @ih h)) fun h2 h =>
    br h (fun h3 h =>
     z.j [(7, [(3, oF), (8, oT)])] 1 [1, 3, 4, 55] [(108, 108), (132, 132)] (o2 (Le.ff h2) (Le.tt h3)) (g88_3 gx0 z @ih h)) fun h3 h =>
    br h (fun h4 h =>
     z.j [(7, [(3, oF), (8, oF), (13, oT)])] 1 [1, 3, 4, 55] [(108, 108), (132, 132)] (o3 (Le.ff h2) (Le.ff h3) (Le.tt h4)) (g88_3 gx0 z @ih h)) fun h4 h =>
    br h (fun h5 h =>
     z.j [(7, [(3, oF), (8, oF), (13, oF), (18, oT)])] 1 [1, 3, 4, 55] [(108, 108), (132, 132)] (o4 (Le.ff h2) (Le.ff h3) (Le.ff h4) (Le.tt h5)) (g88_3 gx0 z @ih h)) fun h5 h =>
    vi h fun v1 h6 h =>
    z.j [(7, [(3, oF), (8, oF), (13, oF), (18, oF), (21, oC (.int .i64 v1))])] 1 [1, 3, 4, 55] [(108, 108), (132, 132)] (o5 (Le.ff h2) (Le.ff h3) (Le.ff h4) (Le.ff h5) (o1 (Le.int (k := .i64) h6))) (g88_3 gx0 z @ih h)) fun h0 h =>
   z.r [(4, [(4, oF)])] 7 (o1 (Le.ff h0)) h
theorem g88_1 {N} (gx0 : Bool) {r} (z : Z Tryz.prog ty 88 Tryz.f88 (Fi [] (d88 r) [])) {b108_0 b108_1 t19} (h : L_ref10_ConfMay_1 N b108_0 b108_1 t19 = some r) : z.G [.c 13, .c 7] [(1, .ptr 108 0), (19, .bool t19)] [qB 108 [iI b108_0, sS gx0 (eSite gx0) b108_1]] :=
 by
  cases t19 with
  | true => exact brT h fun h => (
   z.r [] 3 o0 h)
  | false => exact brF h fun h => (
   z.j [] 7 [1, 3] [(108, 108)] o0 (g88_2 gx0 z N h))
theorem c88 {N} (gx0 : Bool) {x0 r} (h : L_ref10_ConfMay N x0 = some r) : Con Tryz.prog 88 [.agg [iI x0.Version, sS gx0 (eSite gx0) x0.Sites]] [] (d88 r) [] :=
 ci ok mix Tryz.f88 fun z =>
 br h (fun h0 h =>
  z.j [(1, [(3, oT)])] 5 [1, 19] [(108, 108)] (o1 (Le.tt h0)) (g88_1 gx0 z h)) fun h0 h =>
 br h (fun h1 h =>
  z.j [(1, [(3, oF), (8, oT)])] 5 [1, 19] [(108, 108)] (o2 (Le.ff h0) (Le.tt h1)) (g88_1 gx0 z h)) fun h1 h =>
 z.j [(1, [(3, oF), (8, oF)])] 5 [1, 19] [(108, 108)] (o2 (Le.ff h0) (Le.ff h1)) (g88_1 gx0 z h)
def L_ref10_HealthMay_1 (N : Nat) (t2 : Bool) : Option (Bool) :=
 some t2
def L_ref10_HealthMay_2 (N : Nat) (t2 : Bool) : Option (Bool) :=
 some t2
def L_ref10_HealthMay (N : Nat) (x0 : GHealth) : Option (Bool) :=
 bif x0.Up then
  bif (decide (x0.Count ≥ 0)) then
   L_ref10_HealthMay_1 N (decide (x0.Count < 3))
  else
   L_ref10_HealthMay_1 N false
 else
  bif (decide (x0.Count ≥ 0)) then
   L_ref10_HealthMay_2 N (decide (x0.Count < 3))
  else
   L_ref10_HealthMay_2 N false
def d150 (r : Bool) : D := .bool r
theorem g150_1 {N} {r} (z : Z Tryz.prog ty 150 Tryz.f150 (Fi [] (d150 r) [])) {t2} (h : L_ref10_HealthMay_1 N t2 = some r) : z.G [.c 53, .c 7] [(2, .bool t2)] [] :=
 z.r [] 0 o0 h
theorem g150_2 {N} {r} (z : Z Tryz.prog ty 150 Tryz.f150 (Fi [] (d150 r) [])) {t2} (h : L_ref10_HealthMay_2 N t2 = some r) : z.G [.c 15] [(2, .bool t2)] [] :=
 z.r [] 0 o0 h
theorem c150 {N} {x0 r} (h : L_ref10_HealthMay N x0 = some r) : Con Tryz.prog 150 [.agg [.bool x0.Up, iI x0.Count]] [] (d150 r) [] :=
 ci ok mix Tryz.f150 fun z =>
 br h (fun h0 h =>
  z.s [(1, [(1, oT)])] 7 (o2 (List.cons_ne_nil _ _ : ([.bool x0.Up, iI x0.Count] : List D) ≠ []) (Le.tt h0)) <|
  br h (fun h1 h =>
   z.j [(2, [(3, oT)])] 1 [2] [] (o1 (Le.tt h1)) (g150_1 z h)) fun h1 h =>
  z.j [(2, [(3, oF)])] 1 [2] [] (o1 (Le.ff h1)) (g150_1 z h)) fun h0 h =>
 z.s [(1, [(1, oF)])] 8 (o2 (List.cons_ne_nil _ _ : ([.bool x0.Up, iI x0.Count] : List D) ≠ []) (Le.ff h0)) <|
 br h (fun h1 h =>
  z.j [(3, [(3, oT)])] 1 [2] [] (o1 (Le.tt h1)) (g150_2 z h)) fun h1 h =>
 z.j [(3, [(3, oF)])] 1 [2] [] (o1 (Le.ff h1)) (g150_2 z h)
def L_ref10_healthsMay_1 (N : Nat) : Nat → (List GHealth) → Int → Int → Option (Bool)
  | 0, _, _, _ => none
  | fuel + 1, t0, t1, t5 =>
  bif (decide (t5 < (t0.length : Int))) then
   if 0 ≤ t5 ∧ t5 < ((t0.length : Nat) : Int) then
   (L_ref10_HealthMay N (t0.getD t5.toNat default)).bind fun v1 =>
   bif (!v1) then
    some false
   else
    L_ref10_healthsMay_1 N fuel t0 t1 (IntKind.i64.wrap (t5 + 1))
   else none
  else
   some ((t0.length : Int) == t1)
def L_ref10_healthsMay (N : Nat) (x0 : (List GHealth)) (x1 : Int) : Option (Bool) :=
 L_ref10_healthsMay_1 N N x0 x1 0
def d140 (r : Bool) : D := .bool r
theorem g140_1 {N} (gx0 : Bool) {r} (z : Z Tryz.prog ty 140 Tryz.f140 (Fi [] (d140 r) [])) (fuel) : ∀ {t0 t1 t5}, L_ref10_healthsMay_1 N fuel t0 t1 t5 = some r → z.G [.c 37, .l 37, .b 0, .c 7] [(0, sS gx0 eHealth t0), (1, iI t1), (5, iI t5)] [] := by
 induction fuel with
 | zero => intro t0 t1 t5 h; cases h
 | succ fuel ih =>
  intro t0 t1 t5 h
  exact
   br h (fun h0 h =>
    ck h fun h1 h =>
    bd h fun v1 h2 h =>
    z.s [(2, [(3, oT)])] 8 (o1 (Le.tt h0)) <|
    br h (fun h3 h =>
     z.r [(4, [(2, oC (.ip gx0 [.bool ((t0.getD t5.toNat default).Up), iI ((t0.getD t5.toNat default).Count)])), (4, oR (d150 v1)), (5, oT)])] 4 (o4 h1 (Le.iptl (g := gx0) (eL_at (xs := t0) eHealth_len (ixl h1))) (c150 h2) (Le.tt h3)) h) fun h3 h =>
    z.j [(4, [(2, oC (.ip gx0 [.bool ((t0.getD t5.toNat default).Up), iI ((t0.getD t5.toNat default).Count)])), (4, oR (d150 v1)), (5, oF)])] 6 [0, 1, 5] [] (o4 h1 (Le.iptl (g := gx0) (eL_at (xs := t0) eHealth_len (ixl h1))) (c150 h2) (Le.ff h3)) (ih h)) fun h0 h =>
   z.r [(2, [(3, oF)])] 7 (o1 (Le.ff h0)) h
theorem c140 {N} (gx0 : Bool) {x0 x1 r} (h : L_ref10_healthsMay N x0 x1 = some r) : Con Tryz.prog 140 [sS gx0 eHealth x0, iI x1] [] (d140 r) [] :=
 ci ok mix Tryz.f140 fun z =>
 z.j [] 7 [0, 1, 5] [] o0 (g140_1 gx0 z N h)
def L_ref1_ReportMay_1 (N : Nat) (t2 : Bool) : Option (Bool) :=
 some t2
def L_ref1_ReportMay (N : Nat) (x0 : GReport) : Option (Bool) :=
 bif (decide (x0.Site ≥ 0)) then
  bif (decide (x0.Site < 3)) then
   bif (decide (x0.Serial ≥ 0)) then
    bif (decide (x0.Serial < 65536)) then
     (L_ref1_within N x0.Load 8).bind fun v1 =>
     bif v1 then
      (L_ref1_within N x0.Cap 8).bind fun v2 =>
      L_ref1_ReportMay_1 N v2
     else
      L_ref1_ReportMay_1 N false
    else
     L_ref1_ReportMay_1 N false
   else
    L_ref1_ReportMay_1 N false
  else
   L_ref1_ReportMay_1 N false
 else
  L_ref1_ReportMay_1 N false
def d120 (r : Bool) : D := .bool r
theorem g120_1 {N} {r} (z : Z Tryz.prog ty 120 Tryz.f120 (Fi [] (d120 r) [])) {t2} (h : L_ref1_ReportMay_1 N t2 = some r) : z.G [.c 7] [(2, .bool t2)] [] :=
 z.r [] 0 o0 h
theorem c120 {N} {x0 r} (h : L_ref1_ReportMay N x0 = some r) : Con Tryz.prog 120 [.agg [iI x0.Site, iI x0.Serial, iI x0.Load, iI x0.Cap]] [] (d120 r) [] :=
 ci ok mix Tryz.f120 fun z =>
 br h (fun h0 h =>
  br h (fun h1 h =>
   br h (fun h2 h =>
    br h (fun h3 h =>
     bd h fun v1 h4 h =>
     br h (fun h5 h =>
      bd h fun v2 h6 h =>
      z.j [(1, [(3, oT), (8, oT), (13, oT), (18, oT), (21, oR (d137 v1)), (23, oT), (26, oR (d137 v2))])] 4 [2] [] (o5 (Le.tt h0) (Le.tt h1) (Le.tt h2) (Le.tt h3) (o3 (c137 h4) (Le.tt h5) (c137 h6))) (g120_1 z h)) fun h5 h =>
     z.j [(1, [(3, oT), (8, oT), (13, oT), (18, oT), (21, oR (d137 v1)), (23, oF)])] 4 [2] [] (o5 (Le.tt h0) (Le.tt h1) (Le.tt h2) (Le.tt h3) (o2 (c137 h4) (Le.ff h5))) (g120_1 z h)) fun h3 h =>
    z.j [(1, [(3, oT), (8, oT), (13, oT), (18, oF)])] 4 [2] [] (o4 (Le.tt h0) (Le.tt h1) (Le.tt h2) (Le.ff h3)) (g120_1 z h)) fun h2 h =>
   z.j [(1, [(3, oT), (8, oT), (13, oF)])] 4 [2] [] (o3 (Le.tt h0) (Le.tt h1) (Le.ff h2)) (g120_1 z h)) fun h1 h =>
  z.j [(1, [(3, oT), (8, oF)])] 4 [2] [] (o2 (Le.tt h0) (Le.ff h1)) (g120_1 z h)) fun h0 h =>
 z.j [(1, [(3, oF)])] 4 [2] [] (o1 (Le.ff h0)) (g120_1 z h)
def L_ref10_ViewMay_3 (N : Nat) (r1 : (List GSeen) → Int → Option (Bool)) (t0 : (List GSeen)) (t3 : Int) (t49 : Bool) : Option (Bool) :=
 bif t49 then
  some false
 else
  r1 t0 (IntKind.i64.wrap (t3 + 1))
def L_ref10_ViewMay_2 (N : Nat) (r1 : (List GSeen) → Int → Option (Bool)) (t0 : (List GSeen)) (t3 b132_0 b132_1 b132_2 b132_3 b132_4 : Int) (t5 : Bool) : Option (Bool) :=
 bif (!t5) then
  bif (decide (b132_4 < 0)) then
   L_ref10_ViewMay_3 N r1 t0 t3 true
  else
   bif (decide (b132_4 > 1048576)) then
    L_ref10_ViewMay_3 N r1 t0 t3 true
   else
    (L_ref1_ReportMay N (GReport.mk b132_0 b132_1 b132_2 b132_3)).bind fun v1 =>
    bif (!v1) then
     L_ref10_ViewMay_3 N r1 t0 t3 true
    else
     L_ref10_ViewMay_3 N r1 t0 t3 (b132_0 != t3)
 else
  L_ref10_ViewMay_3 N r1 t0 t3 false
def L_ref10_ViewMay_1 (N : Nat) : Nat → (List GSeen) → Int → Option (Bool)
  | 0, _, _ => none
  | fuel + 1, t0, t3 =>
  bif (decide (t3 < (t0.length : Int))) then
   if 0 ≤ t3 ∧ t3 < ((t0.length : Nat) : Int) then
   bif ((t0.getD t3.toNat default).At == (-1)) then
    via (((((t0.getD t3.toNat default).Report).Site == (0 : Int)) && ((((t0.getD t3.toNat default).Report).Serial == (0 : Int)) && ((((t0.getD t3.toNat default).Report).Load == (0 : Int)) && ((((t0.getD t3.toNat default).Report).Cap == (0 : Int)) && true)))) : Bool) fun v1 =>
    L_ref10_ViewMay_2 N (L_ref10_ViewMay_1 N fuel) t0 t3 (((t0.getD t3.toNat default).Report).Site) (((t0.getD t3.toNat default).Report).Serial) (((t0.getD t3.toNat default).Report).Load) (((t0.getD t3.toNat default).Report).Cap) ((t0.getD t3.toNat default).At) v1
   else
    L_ref10_ViewMay_2 N (L_ref10_ViewMay_1 N fuel) t0 t3 (((t0.getD t3.toNat default).Report).Site) (((t0.getD t3.toNat default).Report).Serial) (((t0.getD t3.toNat default).Report).Load) (((t0.getD t3.toNat default).Report).Cap) ((t0.getD t3.toNat default).At) false
   else none
  else
   some ((t0.length : Int) == 3)
def L_ref10_ViewMay (N : Nat) (x0 : (List GSeen)) : Option (Bool) :=
 L_ref10_ViewMay_1 N N x0 0
def d170 (r : Bool) : D := .bool r
theorem g170_3 {N} (gx0 : Bool) {r} (z : Z Tryz.prog ty 170 Tryz.f170 (Fi [] (d170 r) [])) {r1 : (List GSeen) → Int → Option (Bool)} (hr1 : ∀ {t0 t3}, r1 t0 t3 = some r → z.G [.c 37, .l 37, .b 0, .c 7] [(0, sS gx0 eSeen t0), (3, iI t3)] []) {t0 t3 t49} (h : L_ref10_ViewMay_3 N r1 t0 t3 t49 = some r) : z.G [.c 3877, .b 1, .c 229, .l 37, .b 0, .c 7] [(0, sS gx0 eSeen t0), (3, iI t3), (49, .bool t49)] [] :=
 by
  cases t49 with
  | true => exact brT h fun h => (
   z.r [] 3 o0 h)
  | false => exact brF h fun h => (
   z.j [] 5 [0, 3] [] o0 (hr1 h))
theorem g170_2 {N} (gx0 : Bool) {r} (z : Z Tryz.prog ty 170 Tryz.f170 (Fi [] (d170 r) [])) {r1 : (List GSeen) → Int → Option (Bool)} (hr1 : ∀ {t0 t3}, r1 t0 t3 = some r → z.G [.c 37, .l 37, .b 0, .c 7] [(0, sS gx0 eSeen t0), (3, iI t3)] []) {t0 t3 b132_0 b132_1 b132_2 b132_3 b132_4 t5} (h : L_ref10_ViewMay_2 N r1 t0 t3 b132_0 b132_1 b132_2 b132_3 b132_4 t5 = some r) : z.G [.c 1829, .b 1, .c 229, .l 37, .b 0, .c 7] [(0, sS gx0 eSeen t0), (3, iI t3), (4, .ptr 132 0), (5, .bool t5)] [qB 132 [iI b132_0, iI b132_1, iI b132_2, iI b132_3, iI b132_4]] :=
 br h (fun h0 h =>
  br h (fun h1 h =>
   z.j [(6, [(2, oT), (6, oT)])] 2 [0, 3, 49] [] (o2 (Le.tt h0) (Le.tt h1)) (g170_3 gx0 z @hr1 h)) fun h1 h =>
  br h (fun h2 h =>
   z.j [(6, [(2, oT), (6, oF), (11, oT)])] 2 [0, 3, 49] [] (o3 (Le.tt h0) (Le.ff h1) (Le.tt h2)) (g170_3 gx0 z @hr1 h)) fun h2 h =>
  bd h fun v1 h3 h =>
  br h (fun h4 h =>
   z.j [(6, [(2, oT), (6, oF), (11, oF), (14, oR (d120 v1)), (17, oT)])] 2 [0, 3, 49] [] (o5 (Le.tt h0) (Le.ff h1) (Le.ff h2) (c120 h3) (o1 (Le.tt h4))) (g170_3 gx0 z @hr1 h)) fun h4 h =>
  z.j [(6, [(2, oT), (6, oF), (11, oF), (14, oR (d120 v1)), (17, oF)])] 2 [0, 3, 49] [] (o5 (Le.tt h0) (Le.ff h1) (Le.ff h2) (c120 h3) (o1 (Le.ff h4))) (g170_3 gx0 z @hr1 h)) fun h0 h =>
 z.j [(6, [(2, oF)])] 2 [0, 3, 49] [] (o1 (Le.ff h0)) (g170_3 gx0 z @hr1 h)
theorem g170_1 {N} (gx0 : Bool) {r} (z : Z Tryz.prog ty 170 Tryz.f170 (Fi [] (d170 r) [])) (fuel) : ∀ {t0 t3}, L_ref10_ViewMay_1 N fuel t0 t3 = some r → z.G [.c 37, .l 37, .b 0, .c 7] [(0, sS gx0 eSeen t0), (3, iI t3)] [] := by
 induction fuel with
 | zero => intro t0 t3 h; cases h
 | succ fuel ih =>
  intro t0 t3 h
  exact
   br h (fun h0 h =>
    ck h fun h1 h =>
    z.s [(2, [(3, oT)]), (4, [(2, oC (.ip gx0 [iI (((t0.getD t3.toNat default).Report).Site), iI (((t0.getD t3.toNat default).Report).Serial), iI (((t0.getD t3.toNat default).Report).Load), iI (((t0.getD t3.toNat default).Report).Cap), iI ((t0.getD t3.toNat default).At)]))])] 10 (o3 (Le.tt h0) h1 (Le.iptl (g := gx0) (eL_at (xs := t0) eSeen_len (ixl h1)))) <|
    br h (fun h2 h =>
     vi h fun v1 h3 h =>
     z.j [(5, [(3, oT), (7, oC (.bool v1))])] 1 [0, 3, 4, 5] [(132, 132)] (o2 (Le.tt h2) (Le.boo h3)) (g170_2 gx0 z @ih h)) fun h2 h =>
    z.j [(5, [(3, oF)])] 1 [0, 3, 4, 5] [(132, 132)] (o1 (Le.ff h2)) (g170_2 gx0 z @ih h)) fun h0 h =>
   z.r [(2, [(3, oF)])] 7 (o1 (Le.ff h0)) h
theorem c170 {N} (gx0 : Bool) {x0 r} (h : L_ref10_ViewMay N x0 = some r) : Con Tryz.prog 170 [sS gx0 eSeen x0] [] (d170 r) [] :=
 ci ok mix Tryz.f170 fun z =>
 z.j [] 7 [0, 3] [] o0 (g170_1 gx0 z N h)
def L_ref10_spareMay_1 (N : Nat) (t2 : Bool) : Option (Bool) :=
 some t2
def L_ref10_spareMay (N : Nat) (x0 : GNode) : Option (Bool) :=
 (L_ref10_ConfMay N x0.Config).bind fun v1 =>
 bif v1 then
  bif (decide (x0.Id ≥ 0)) then
   bif (decide (x0.Id < 3)) then
    (L_ref10_healthsMay N x0.Health 4).bind fun v2 =>
    bif v2 then
     (L_ref10_ViewMay N x0.Seen).bind fun v3 =>
     bif v3 then
      (L_ref10_CacheMay N x0.Flows).bind fun v4 =>
      L_ref10_spareMay_1 N v4
     else
      L_ref10_spareMay_1 N false
    else
     L_ref10_spareMay_1 N false
   else
    L_ref10_spareMay_1 N false
  else
   L_ref10_spareMay_1 N false
 else
  L_ref10_spareMay_1 N false
def d115 (r : Bool) : D := .bool r
theorem g115_1 {N} (gx0 : Bool) {r} (z : Z Tryz.prog ty 115 Tryz.f115 (Fi [] (d115 r) [])) {t2} (h : L_ref10_spareMay_1 N t2 = some r) : z.G [.c 7] [(2, .bool t2)] [] :=
 z.r [] 0 o0 h
theorem c115 {N} (gx0 : Bool) {x0 r} (h : L_ref10_spareMay N x0 = some r) : Con Tryz.prog 115 [.agg [iI x0.Id, iI x0.Config.Version, sS gx0 (eSite gx0) x0.Config.Sites, sS gx0 eHealth x0.Health, sS gx0 eSeen x0.Seen, sS gx0 eEntry x0.Flows, iI x0.Serial]] [] (d115 r) [] :=
 ci ok mix Tryz.f115 fun z =>
 bd h fun v1 h0 h =>
 br h (fun h1 h =>
  br h (fun h2 h =>
   br h (fun h3 h =>
    bd h fun v2 h4 h =>
    br h (fun h5 h =>
     bd h fun v3 h6 h =>
     br h (fun h7 h =>
      bd h fun v4 h8 h =>
      z.j [(1, [(2, oR (d88 v1)), (3, oT), (8, oT), (13, oT), (16, oR (d140 v2)), (18, oT), (21, oR (d170 v3)), (23, oT), (26, oR (d90 v4))])] 4 [2] [] (o5 (c88 gx0 h0) (Le.tt h1) (Le.tt h2) (Le.tt h3) (o5 (c140 gx0 h4) (Le.tt h5) (c170 gx0 h6) (Le.tt h7) (o1 (c90 gx0 h8)))) (g115_1 gx0 z h)) fun h7 h =>
     z.j [(1, [(2, oR (d88 v1)), (3, oT), (8, oT), (13, oT), (16, oR (d140 v2)), (18, oT), (21, oR (d170 v3)), (23, oF)])] 4 [2] [] (o5 (c88 gx0 h0) (Le.tt h1) (Le.tt h2) (Le.tt h3) (o4 (c140 gx0 h4) (Le.tt h5) (c170 gx0 h6) (Le.ff h7))) (g115_1 gx0 z h)) fun h5 h =>
    z.j [(1, [(2, oR (d88 v1)), (3, oT), (8, oT), (13, oT), (16, oR (d140 v2)), (18, oF)])] 4 [2] [] (o5 (c88 gx0 h0) (Le.tt h1) (Le.tt h2) (Le.tt h3) (o2 (c140 gx0 h4) (Le.ff h5))) (g115_1 gx0 z h)) fun h3 h =>
   z.j [(1, [(2, oR (d88 v1)), (3, oT), (8, oT), (13, oF)])] 4 [2] [] (o4 (c88 gx0 h0) (Le.tt h1) (Le.tt h2) (Le.ff h3)) (g115_1 gx0 z h)) fun h2 h =>
  z.j [(1, [(2, oR (d88 v1)), (3, oT), (8, oF)])] 4 [2] [] (o3 (c88 gx0 h0) (Le.tt h1) (Le.ff h2)) (g115_1 gx0 z h)) fun h1 h =>
 z.j [(1, [(2, oR (d88 v1)), (3, oF)])] 4 [2] [] (o2 (c88 gx0 h0) (Le.ff h1)) (g115_1 gx0 z h)
def L_ref10_Has_1 (N : Nat) (t6 : Bool) : Option (Bool) :=
 some t6
def L_ref10_Has (N : Nat) (x0 : GConfig) (x1 x2 : Int) : Option (Bool) :=
 (L_ref10_ConfMay N x0).bind fun v1 =>
 bif v1 then
  bif (decide (x1 ≥ 0)) then
   bif (decide (x1 < (x0.Sites.length : Int))) then
    bif (x2 == (-1)) then
     L_ref10_Has_1 N true
    else
     bif (decide (x2 ≥ 0)) then
      if 0 ≤ x1 ∧ x1 < ((x0.Sites.length : Nat) : Int) then
      via ((((x0.Sites.getD x1.toNat default).Backs).length : Int) : Int) fun v2 =>
      L_ref10_Has_1 N (decide (x2 < v2))
      else none
     else
      L_ref10_Has_1 N false
   else
    L_ref10_Has_1 N false
  else
   L_ref10_Has_1 N false
 else
  L_ref10_Has_1 N false
def d70 (r : Bool) : D := .bool r
theorem g70_1 {N} (gx0 : Bool) {r} (z : Z Tryz.prog ty 70 Tryz.f70 (Fi [] (d70 r) [])) {t6} (h : L_ref10_Has_1 N t6 = some r) : z.G [.c 7] [(6, .bool t6)] [] :=
 z.r [] 0 o0 h
theorem c70 {N} (gx0 : Bool) {x0 x1 x2 r} (h : L_ref10_Has N x0 x1 x2 = some r) : Con Tryz.prog 70 [.agg [iI x0.Version, sS gx0 (eSite gx0) x0.Sites], iI x1, iI x2] [] (d70 r) [] :=
 ci ok mix Tryz.f70 fun z =>
 bd h fun v1 h0 h =>
 br h (fun h1 h =>
  br h (fun h2 h =>
   br h (fun h3 h =>
    br h (fun h4 h =>
     z.j [(1, [(1, oR (d88 v1)), (2, oT), (6, oT), (13, oT), (16, oT)])] 4 [6] [] (o5 (c88 gx0 h0) (Le.tt h1) (Le.tt h2) (Le.tt h3) (o1 (Le.tt h4))) (g70_1 gx0 z h)) fun h4 h =>
    br h (fun h5 h =>
     ck h fun h6 h =>
     vi h fun v2 h7 h =>
     z.j [(1, [(1, oR (d88 v1)), (2, oT), (6, oT), (13, oT), (16, oF), (19, oT), (24, oC (.ip gx0 [iI ((x0.Sites.getD x1.toNat default).Weight), .bool ((x0.Sites.getD x1.toNat default).Drain), iI ((x0.Sites.getD x1.toNat default).Cap), sS gx0 eBack ((x0.Sites.getD x1.toNat default).Backs)])), (27, oC (.int .i64 v2))])] 4 [6] [] (o5 (c88 gx0 h0) (Le.tt h1) (Le.tt h2) (Le.tt h3) (o5 (Le.ff h4) (Le.tt h5) h6 (Le.iptl (g := gx0) (eL_at (xs := x0.Sites) (eSite_len gx0) (ixl h6))) (o1 (Le.int (k := .i64) h7)))) (g70_1 gx0 z h)) fun h5 h =>
    z.j [(1, [(1, oR (d88 v1)), (2, oT), (6, oT), (13, oT), (16, oF), (19, oF)])] 4 [6] [] (o5 (c88 gx0 h0) (Le.tt h1) (Le.tt h2) (Le.tt h3) (o2 (Le.ff h4) (Le.ff h5))) (g70_1 gx0 z h)) fun h3 h =>
   z.j [(1, [(1, oR (d88 v1)), (2, oT), (6, oT), (13, oF)])] 4 [6] [] (o4 (c88 gx0 h0) (Le.tt h1) (Le.tt h2) (Le.ff h3)) (g70_1 gx0 z h)) fun h2 h =>
  z.j [(1, [(1, oR (d88 v1)), (2, oT), (6, oF)])] 4 [6] [] (o3 (c88 gx0 h0) (Le.tt h1) (Le.ff h2)) (g70_1 gx0 z h)) fun h1 h =>
 z.j [(1, [(1, oR (d88 v1)), (2, oF)])] 4 [6] [] (o2 (c88 gx0 h0) (Le.ff h1)) (g70_1 gx0 z h)
def L_ref10_BacksOf_4 (N : Nat) (r2 : (List GHealth) → (List GCandidate) → (List GBack) → Int → Option ((List GCandidate) × Int)) (t2 : (List GHealth)) (b636 : (List GCandidate)) (t9 : (List GBack)) (t10 : Int) : Option ((List GCandidate) × Int) :=
 r2 t2 b636 t9 (IntKind.i64.wrap (t10 + 1))
def L_ref10_BacksOf_3 (N : Nat) (r2 : (List GHealth) → (List GCandidate) → (List GBack) → Int → Option ((List GCandidate) × Int)) (t2 : (List GHealth)) (b164 : (List GCandidate)) (t9 : (List GBack)) (t10 : Int) (t57 : Bool) : Option ((List GCandidate) × Int) :=
 bif t57 then
  if 0 ≤ t10 ∧ t10 < ((t9.length : Nat) : Int) then
  if growOk 16 (b164.length + 1) then
  L_ref10_BacksOf_4 N r2 t2 (b164 ++ [(GCandidate.mk t10 ((t9.getD t10.toNat default).Weight))]) t9 t10
  else none
  else none
 else
  L_ref10_BacksOf_4 N r2 t2 b164 t9 t10
def L_ref10_BacksOf_2 (N : Nat) : Nat → (List GHealth) → (List GCandidate) → (List GBack) → Int → Option ((List GCandidate) × Int)
  | 0, _, _, _, _ => none
  | fuel + 1, t2, b164, t9, t10 =>
  bif (decide (t10 < (t9.length : Int))) then
   if 0 ≤ t10 ∧ t10 < ((t2.length : Nat) : Int) then
   bif (t2.getD t10.toNat default).Up then
    if 0 ≤ t10 ∧ t10 < ((t9.length : Nat) : Int) then
    bif (!((t9.getD t10.toNat default).Drain)) then
     if 0 ≤ t10 ∧ t10 < ((t9.length : Nat) : Int) then
     L_ref10_BacksOf_3 N (L_ref10_BacksOf_2 N fuel) t2 b164 t9 t10 (decide ((t9.getD t10.toNat default).Weight > 0))
     else none
    else
     L_ref10_BacksOf_3 N (L_ref10_BacksOf_2 N fuel) t2 b164 t9 t10 false
    else none
   else
    L_ref10_BacksOf_3 N (L_ref10_BacksOf_2 N fuel) t2 b164 t9 t10 false
   else none
  else
   some (b164, 0)
def L_ref10_BacksOf_1 (N : Nat) (t1 : Int) (t2 : (List GHealth)) (b124_0 : Int) (b124_1 : (List GSite)) (t24 : Bool) : Option ((List GCandidate) × Int) :=
 bif t24 then
  some ([], 1300)
 else
  if 0 ≤ t1 ∧ t1 < ((b124_1.length : Nat) : Int) then
  L_ref10_BacksOf_2 N N t2 ([]) ((b124_1.getD t1.toNat default).Backs) 0
  else none
def L_ref10_BacksOf (N : Nat) (x0 : GConfig) (x1 : Int) (x2 : (List GHealth)) : Option ((List GCandidate) × Int) :=
 (L_ref10_ConfMay N x0).bind fun v1 =>
 bif (!v1) then
  L_ref10_BacksOf_1 N x1 x2 x0.Version x0.Sites true
 else
  (L_ref10_healthsMay N x2 4).bind fun v2 =>
  bif (!v2) then
   L_ref10_BacksOf_1 N x1 x2 x0.Version x0.Sites true
  else
   (L_ref10_Has N x0 x1 (-1)).bind fun v3 =>
   L_ref10_BacksOf_1 N x1 x2 x0.Version x0.Sites (!v3)
def d116 (r : (List GCandidate) × Int) : D := .tup [sS true eCandidate r.1, iI r.2]
theorem g116_4 {N} (gx0 gx2 : Bool) {r} (z : Z Tryz.prog ty 116 Tryz.f116 (Fi [] (d116 r) [])) {r2 : (List GHealth) → (List GCandidate) → (List GBack) → Int → Option ((List GCandidate) × Int)} (hr2 : ∀ {t2 b164 t9 t10}, r2 t2 b164 t9 t10 = some r → z.G [.c 303, .l 303, .b 0, .c 63] [(2, sS gx2 eHealth t2), (8, rR 164 b164), (9, sS gx0 eBack t9), (10, iI t10)] [pB 164 2 (eL eCandidate b164)]) {t2 b636 t9 t10} (h : L_ref10_BacksOf_4 N r2 t2 b636 t9 t10 = some r) : z.G [.b 1, .c 1839, .l 303, .b 0, .c 63] [(2, sS gx2 eHealth t2), (8, rR 636 b636), (9, sS gx0 eBack t9), (10, iI t10)] [pB 636 2 (eL eCandidate b636)] :=
 z.j [] 3 [2, 8, 9, 10] [(636, 164)] o0 (hr2 h)
theorem g116_3 {N} (gx0 gx2 : Bool) {r} (z : Z Tryz.prog ty 116 Tryz.f116 (Fi [] (d116 r) [])) {r2 : (List GHealth) → (List GCandidate) → (List GBack) → Int → Option ((List GCandidate) × Int)} (hr2 : ∀ {t2 b164 t9 t10}, r2 t2 b164 t9 t10 = some r → z.G [.c 303, .l 303, .b 0, .c 63] [(2, sS gx2 eHealth t2), (8, rR 164 b164), (9, sS gx0 eBack t9), (10, iI t10)] [pB 164 2 (eL eCandidate b164)]) {t2 b164 t9 t10 t57} (h : L_ref10_BacksOf_3 N r2 t2 b164 t9 t10 t57 = some r) : z.G [.c 6447, .b 1, .c 1839, .l 303, .b 0, .c 63] [(2, sS gx2 eHealth t2), (8, rR 164 b164), (9, sS gx0 eBack t9), (10, iI t10), (57, .bool t57)] [pB 164 2 (eL eCandidate b164)] :=
 by
  cases t57 with
  | true => exact brT h fun h => (
   ck h fun h1 h =>
   ck h fun h2 h =>
   z.j [(9, [(4, oC (.ip gx0 [iI ((t9.getD t10.toNat default).Weight), .bool ((t9.getD t10.toNat default).Drain)])), (9, { cv := some (.ref 636 0 (b164 ++ [(GCandidate.mk t10 ((t9.getD t10.toNat default).Weight))]).length (b164 ++ [(GCandidate.mk t10 ((t9.getD t10.toNat default).Weight))]).length), cb := [(636, eL eCandidate (b164 ++ [(GCandidate.mk t10 ((t9.getD t10.toNat default).Weight))]))] })])] 2 [2, 8, 9, 10] [(636, 636)] (o5 h1 (Le.iptl (g := gx0) (eL_at (xs := t9) eBack_len (ixl h1))) (by decide : 1 * 2 ≤ 2) (ap_len (xs := b164) eCandidate_len) (o3 h2 (Le.apr (b := 636) (by first | rfl | (simp only [List.length_append, List.length_take, List.length_drop]; omega) | simp : (b164 ++ [(GCandidate.mk t10 ((t9.getD t10.toNat default).Weight))]).length = b164.length + 1)) (ap_one (xs := b164) eCandidate_len (y := (GCandidate.mk t10 ((t9.getD t10.toNat default).Weight))) (cs := [iI t10, iI ((t9.getD t10.toNat default).Weight)]) rfl))) (g116_4 gx0 gx2 z @hr2 h))
  | false => exact brF h fun h => (
   z.j [] 2 [2, 8, 9, 10] [(164, 636)] o0 (g116_4 gx0 gx2 z @hr2 h))
theorem g116_2 {N} (gx0 gx2 : Bool) {r} (z : Z Tryz.prog ty 116 Tryz.f116 (Fi [] (d116 r) [])) (fuel) : ∀ {t2 b164 t9 t10}, L_ref10_BacksOf_2 N fuel t2 b164 t9 t10 = some r → z.G [.c 303, .l 303, .b 0, .c 63] [(2, sS gx2 eHealth t2), (8, rR 164 b164), (9, sS gx0 eBack t9), (10, iI t10)] [pB 164 2 (eL eCandidate b164)] := by
 induction fuel with
 | zero => intro t2 b164 t9 t10 h; cases h
 | succ fuel ih =>
  intro t2 b164 t9 t10 h
  exact
   br h (fun h0 h =>
    ck h fun h1 h =>
    z.s [(6, [(3, oT)])] 8 (o1 (Le.tt h0)) <|
    br h (fun h2 h =>
     ck h fun h3 h =>
     br h (fun h4 h =>
      ck h fun h5 h =>
      z.j [(8, [(2, oC (.ip gx2 [.bool ((t2.getD t10.toNat default).Up), iI ((t2.getD t10.toNat default).Count)])), (5, oT), (8, oC (.ip gx0 [iI ((t9.getD t10.toNat default).Weight), .bool ((t9.getD t10.toNat default).Drain)])), (13, oT), (16, oC (.ip gx0 [iI ((t9.getD t10.toNat default).Weight), .bool ((t9.getD t10.toNat default).Drain)]))])] 1 [2, 8, 9, 10, 57] [(164, 164)] (o5 h1 (Le.iptl (g := gx2) (eL_at (xs := t2) eHealth_len (ixl h1))) (Le.tt h2) h3 (o4 (Le.iptl (g := gx0) (eL_at (xs := t9) eBack_len (ixl h3))) (Le.tt h4) h5 (Le.iptl (g := gx0) (eL_at (xs := t9) eBack_len (ixl h5))))) (g116_3 gx0 gx2 z @ih h)) fun h4 h =>
     z.j [(8, [(2, oC (.ip gx2 [.bool ((t2.getD t10.toNat default).Up), iI ((t2.getD t10.toNat default).Count)])), (5, oT), (8, oC (.ip gx0 [iI ((t9.getD t10.toNat default).Weight), .bool ((t9.getD t10.toNat default).Drain)])), (13, oF)])] 1 [2, 8, 9, 10, 57] [(164, 164)] (o5 h1 (Le.iptl (g := gx2) (eL_at (xs := t2) eHealth_len (ixl h1))) (Le.tt h2) h3 (o2 (Le.iptl (g := gx0) (eL_at (xs := t9) eBack_len (ixl h3))) (Le.ff h4))) (g116_3 gx0 gx2 z @ih h)) fun h2 h =>
    z.j [(8, [(2, oC (.ip gx2 [.bool ((t2.getD t10.toNat default).Up), iI ((t2.getD t10.toNat default).Count)])), (5, oF)])] 1 [2, 8, 9, 10, 57] [(164, 164)] (o3 h1 (Le.iptl (g := gx2) (eL_at (xs := t2) eHealth_len (ixl h1))) (Le.ff h2)) (g116_3 gx0 gx2 z @ih h)) fun h0 h =>
   z.r [(6, [(3, oF)]), (10, [(1, { frz := true })])] 7 (o1 (Le.ff h0)) h
theorem g116_1 {N} (gx0 gx2 : Bool) {r} (z : Z Tryz.prog ty 116 Tryz.f116 (Fi [] (d116 r) [])) {t1 t2 b124_0 b124_1 t24} (h : L_ref10_BacksOf_1 N t1 t2 b124_0 b124_1 t24 = some r) : z.G [.c 13, .c 7] [(1, iI t1), (2, sS gx2 eHealth t2), (3, .ptr 124 0), (24, .bool t24)] [qB 124 [iI b124_0, sS gx0 (eSite gx0) b124_1]] :=
 by
  cases t24 with
  | true => exact brT h fun h => (
   z.rl [] 3 (.tup [.nils, iI 1300]) o0 h (Le.tup ((.cons (Le.nils (g := true)) (.cons (Le.of rfl) .nil)))))
  | false => exact brF h fun h => (
   ck h fun h1 h =>
   z.j [(3, [(0, { own := some (2) })]), (4, [(3, oC (.ip gx0 [iI ((b124_1.getD t1.toNat default).Weight), .bool ((b124_1.getD t1.toNat default).Drain), iI ((b124_1.getD t1.toNat default).Cap), sS gx0 eBack ((b124_1.getD t1.toNat default).Backs)]))])] 11 [2, 8, 9, 10] [(164, 164)] (o2 h1 (Le.iptl (g := gx0) (eL_at (xs := b124_1) (eSite_len gx0) (ixl h1)))) (g116_2 gx0 gx2 z N h))
theorem c116 {N} (gx0 gx2 : Bool) {x0 x1 x2 r} (h : L_ref10_BacksOf N x0 x1 x2 = some r) : Con Tryz.prog 116 [.agg [iI x0.Version, sS gx0 (eSite gx0) x0.Sites], iI x1, sS gx2 eHealth x2] [] (d116 r) [] :=
 ci ok mix Tryz.f116 fun z =>
 bd h fun v1 h0 h =>
 br h (fun h1 h =>
  z.j [(1, [(1, oR (d88 v1)), (3, oT)])] 5 [1, 2, 3, 24] [(124, 124)] (o2 (c88 gx0 h0) (Le.tt h1)) (g116_1 gx0 gx2 z h)) fun h1 h =>
 bd h fun v2 h2 h =>
 br h (fun h3 h =>
  z.j [(1, [(1, oR (d88 v1)), (3, oF), (5, oR (d140 v2)), (8, oT)])] 5 [1, 2, 3, 24] [(124, 124)] (o4 (c88 gx0 h0) (Le.ff h1) (c140 gx2 h2) (Le.tt h3)) (g116_1 gx0 gx2 z h)) fun h3 h =>
 bd h fun v3 h4 h =>
 z.j [(1, [(1, oR (d88 v1)), (3, oF), (5, oR (d140 v2)), (8, oF), (11, oR (d70 v3))])] 5 [1, 2, 3, 24] [(124, 124)] (o5 (c88 gx0 h0) (Le.ff h1) (c140 gx2 h2) (Le.ff h3) (o1 (c70 gx0 h4))) (g116_1 gx0 gx2 z h)
def L_ref10_Load_2 (N : Nat) (r1 : Int → Int → (List GSite) → (List GHealth) → (List GSeen) → (List GEntry) → Int → Int → Int → Option (Int)) (b108_0 b108_1 : Int) (b108_2 : (List GSite)) (b108_3 : (List GHealth)) (b108_4 : (List GSeen)) (b108_5 : (List GEntry)) (b108_6 t3 t4 : Int) : Option (Int) :=
 r1 b108_0 b108_1 b108_2 b108_3 b108_4 b108_5 b108_6 t3 (IntKind.i64.wrap (t4 + 1))
def L_ref10_Load_1 (N : Nat) : Nat → Int → Int → (List GSite) → (List GHealth) → (List GSeen) → (List GEntry) → Int → Int → Int → Option (Int)
  | 0, _, _, _, _, _, _, _, _, _ => none
  | fuel + 1, b108_0, b108_1, b108_2, b108_3, b108_4, b108_5, b108_6, t3, t4 =>
  bif (decide (t4 < (b108_5.length : Int))) then
   if 0 ≤ t4 ∧ t4 < ((b108_5.length : Nat) : Int) then
   bif (!((b108_5.getD t4.toNat default).Away)) then
    L_ref10_Load_2 N (L_ref10_Load_1 N fuel) b108_0 b108_1 b108_2 b108_3 b108_4 b108_5 b108_6 (IntKind.i64.wrap (t3 + 1)) t4
   else
    L_ref10_Load_2 N (L_ref10_Load_1 N fuel) b108_0 b108_1 b108_2 b108_3 b108_4 b108_5 b108_6 t3 t4
   else none
  else
   some t3
def L_ref10_Load (N : Nat) (x0 : GNode) : Option (Int) :=
 L_ref10_Load_1 N N x0.Id x0.Config.Version x0.Config.Sites x0.Health x0.Seen x0.Flows x0.Serial 0 0
def d111 (r : Int) : D := iI r
theorem g111_2 {N} (gx0 : Bool) {r} (z : Z Tryz.prog ty 111 Tryz.f111 (Fi [] (d111 r) [])) {r1 : Int → Int → (List GSite) → (List GHealth) → (List GSeen) → (List GEntry) → Int → Int → Int → Option (Int)} (hr1 : ∀ {b108_0 b108_1 b108_2 b108_3 b108_4 b108_5 b108_6 t3 t4}, r1 b108_0 b108_1 b108_2 b108_3 b108_4 b108_5 b108_6 t3 t4 = some r → z.G [.c 75, .l 75, .b 0, .c 15] [(1, .ptr 108 0), (3, iI t3), (4, iI t4)] [qB 108 [iI b108_0, iI b108_1, sS gx0 (eSite gx0) b108_2, sS gx0 eHealth b108_3, sS gx0 eSeen b108_4, sS gx0 eEntry b108_5, iI b108_6]]) {b108_0 b108_1 b108_2 b108_3 b108_4 b108_5 b108_6 t3 t4} (h : L_ref10_Load_2 N r1 b108_0 b108_1 b108_2 b108_3 b108_4 b108_5 b108_6 t3 t4 = some r) : z.G [.b 1, .c 459, .l 75, .b 0, .c 15] [(1, .ptr 108 0), (3, iI t3), (4, iI t4)] [qB 108 [iI b108_0, iI b108_1, sS gx0 (eSite gx0) b108_2, sS gx0 eHealth b108_3, sS gx0 eSeen b108_4, sS gx0 eEntry b108_5, iI b108_6]] :=
 z.j [] 3 [1, 3, 4] [(108, 108)] o0 (hr1 h)
theorem g111_1 {N} (gx0 : Bool) {r} (z : Z Tryz.prog ty 111 Tryz.f111 (Fi [] (d111 r) [])) (fuel) : ∀ {b108_0 b108_1 b108_2 b108_3 b108_4 b108_5 b108_6 t3 t4}, L_ref10_Load_1 N fuel b108_0 b108_1 b108_2 b108_3 b108_4 b108_5 b108_6 t3 t4 = some r → z.G [.c 75, .l 75, .b 0, .c 15] [(1, .ptr 108 0), (3, iI t3), (4, iI t4)] [qB 108 [iI b108_0, iI b108_1, sS gx0 (eSite gx0) b108_2, sS gx0 eHealth b108_3, sS gx0 eSeen b108_4, sS gx0 eEntry b108_5, iI b108_6]] := by
 induction fuel with
 | zero => intro b108_0 b108_1 b108_2 b108_3 b108_4 b108_5 b108_6 t3 t4 h; cases h
 | succ fuel ih =>
  intro b108_0 b108_1 b108_2 b108_3 b108_4 b108_5 b108_6 t3 t4 h
  exact
   br h (fun h0 h =>
    ck h fun h1 h =>
    z.s [(3, [(4, oT)])] 8 (o1 (Le.tt h0)) <|
    br h (fun h2 h =>
     z.j [(5, [(3, oC (.ip gx0 [iI (((b108_5.getD t4.toNat default).Flow).Src), iI (((b108_5.getD t4.toNat default).Flow).Dst), iI (((b108_5.getD t4.toNat default).Flow).Proto), iI (((b108_5.getD t4.toNat default).Flow).Sport), iI (((b108_5.getD t4.toNat default).Flow).Dport), iI ((b108_5.getD t4.toNat default).To), .bool ((b108_5.getD t4.toNat default).Away), iI ((b108_5.getD t4.toNat default).Phase), iI ((b108_5.getD t4.toNat default).Used)])), (6, oT)])] 3 [1, 3, 4] [(108, 108)] (o3 h1 (Le.iptl (g := gx0) (eL_at (xs := b108_5) eEntry_len (ixl h1))) (Le.tt h2)) (g111_2 gx0 z @ih h)) fun h2 h =>
    z.j [(5, [(3, oC (.ip gx0 [iI (((b108_5.getD t4.toNat default).Flow).Src), iI (((b108_5.getD t4.toNat default).Flow).Dst), iI (((b108_5.getD t4.toNat default).Flow).Proto), iI (((b108_5.getD t4.toNat default).Flow).Sport), iI (((b108_5.getD t4.toNat default).Flow).Dport), iI ((b108_5.getD t4.toNat default).To), .bool ((b108_5.getD t4.toNat default).Away), iI ((b108_5.getD t4.toNat default).Phase), iI ((b108_5.getD t4.toNat default).Used)])), (6, oF)])] 3 [1, 3, 4] [(108, 108)] (o3 h1 (Le.iptl (g := gx0) (eL_at (xs := b108_5) eEntry_len (ixl h1))) (Le.ff h2)) (g111_2 gx0 z @ih h)) fun h0 h =>
   z.r [(3, [(4, oF)])] 7 (o1 (Le.ff h0)) h
theorem c111 {N} (gx0 : Bool) {x0 r} (h : L_ref10_Load N x0 = some r) : Con Tryz.prog 111 [.agg [iI x0.Id, iI x0.Config.Version, sS gx0 (eSite gx0) x0.Config.Sites, sS gx0 eHealth x0.Health, sS gx0 eSeen x0.Seen, sS gx0 eEntry x0.Flows, iI x0.Serial]] [] (d111 r) [] :=
 ci ok mix Tryz.f111 fun z =>
 z.j [] 9 [1, 3, 4] [(108, 108)] o0 (g111_1 gx0 z N h)
def L_ref10_Full_1 (N : Nat) (t2 : Bool) (t3 : Int) : Option (Bool × Int) :=
 some (t2, t3)
def L_ref10_Full (N : Nat) (x0 : GNode) : Option (Bool × Int) :=
 (L_ref10_spareMay N x0).bind fun v1 =>
 bif (!v1) then
  some (false, 1700)
 else
  (L_ref10_Has N x0.Config x0.Id (-1)).bind fun v2 =>
  bif (!v2) then
   some (true, 0)
  else
   if 0 ≤ x0.Id ∧ x0.Id < ((x0.Config.Sites.length : Nat) : Int) then
   (L_ref10_BacksOf N x0.Config x0.Id x0.Health).bind fun v3 =>
   bif (x0.Config.Sites.getD x0.Id.toNat default).Drain then
    L_ref10_Full_1 N true 0
   else
    bif ((v3.1.length : Int) == 0) then
     L_ref10_Full_1 N true 0
    else
     (L_ref10_Load N x0).bind fun v4 =>
     via ((x0.Config.Sites.getD x0.Id.toNat default).Cap : Int) fun v5 =>
     L_ref10_Full_1 N (decide (v4 ≥ v5)) 0
   else none
def d50 (r : Bool × Int) : D := .tup [.bool r.1, iI r.2]
theorem g50_1 {N} (gx0 : Bool) {r} (z : Z Tryz.prog ty 50 Tryz.f50 (Fi [] (d50 r) [])) {t2 t3} (h : L_ref10_Full_1 N t2 t3 = some r) : z.G [.c 127] [(2, .bool t2), (3, iI t3)] [] :=
 z.r [] 0 o0 h
theorem c50 {N} (gx0 : Bool) {x0 r} (h : L_ref10_Full N x0 = some r) : Con Tryz.prog 50 [.agg [iI x0.Id, iI x0.Config.Version, sS gx0 (eSite gx0) x0.Config.Sites, sS gx0 eHealth x0.Health, sS gx0 eSeen x0.Seen, sS gx0 eEntry x0.Flows, iI x0.Serial]] [] (d50 r) [] :=
 ci ok mix Tryz.f50 fun z =>
 bd h fun v1 h0 h =>
 br h (fun h1 h =>
  z.r [(1, [(1, oR (d115 v1)), (2, oT)])] 8 (o2 (c115 gx0 h0) (Le.tt h1)) h) fun h1 h =>
 bd h fun v2 h2 h =>
 z.s [(1, [(1, oR (d115 v1)), (2, oF)])] 9 (o2 (c115 gx0 h0) (Le.ff h1)) <|
 br h (fun h3 h =>
  z.r [(3, [(4, oR (d70 v2)), (5, oT)])] 4 (o2 (c70 gx0 h2) (Le.tt h3)) h) fun h3 h =>
 ck h fun h4 h =>
 bd h fun v3 h5 h =>
 z.s [(3, [(4, oR (d70 v2)), (5, oF)]), (5, [(5, oC (.ip gx0 [iI ((x0.Config.Sites.getD x0.Id.toNat default).Weight), .bool ((x0.Config.Sites.getD x0.Id.toNat default).Drain), iI ((x0.Config.Sites.getD x0.Id.toNat default).Cap), sS gx0 eBack ((x0.Config.Sites.getD x0.Id.toNat default).Backs)]))]), (6, [(6, oR (d116 v3))])] 8 (o5 (c70 gx0 h2) (Le.ff h3) h4 (Le.iptl (g := gx0) (eL_at (xs := x0.Config.Sites) (eSite_len gx0) (ixl h4))) (o1 (c116 gx0 gx0 h5))) <|
 br h (fun h6 h =>
  z.j [(7, [(2, oT)])] 1 [2, 3] [] (o1 (Le.tt h6)) (g50_1 gx0 z h)) fun h6 h =>
 br h (fun h7 h =>
  z.j [(7, [(2, oF), (7, oT)])] 1 [2, 3] [] (o2 (Le.ff h6) (Le.tt h7)) (g50_1 gx0 z h)) fun h7 h =>
 bd h fun v4 h8 h =>
 vi h fun v5 h9 h =>
 z.j [(7, [(2, oF), (7, oF), (9, oR (d111 v4)), (11, oC (.int .i64 v5))])] 1 [2, 3] [] (o5 (Le.ff h6) (Le.ff h7) (c111 gx0 h8) (List.cons_ne_nil _ _ : ([iI ((x0.Config.Sites.getD x0.Id.toNat default).Cap), sS gx0 eBack ((x0.Config.Sites.getD x0.Id.toNat default).Backs)] : List D) ≠ []) (o1 (Le.int (k := .i64) h9))) (g50_1 gx0 z h)
def L_law20_SiteOnce_4 (N : Nat) (t6 : Bool) : Option (Bool) :=
 some t6
def L_law20_SiteOnce_5 (N : Nat) (t6 : Bool) : Option (Bool) :=
 some t6
def L_law20_SiteOnce_3 (N : Nat) (t1 : Int) (t2 : ByteArray) (b124_0 b124_1 : Int) (b124_2 : (List GSite)) (b124_3 : (List GHealth)) (b124_4 : (List GSeen)) (b124_5 : (List GEntry)) (b124_6 b180_0 b180_1 b180_2 b180_3 b180_4 : Int) (b180_5 : ByteArray) (b196_0 b196_1 b196_2 b196_3 b196_4 : Int) (b196_5 : ByteArray) (t14 t15 t16 : Int) (t94 : Bool) : Option (Bool) :=
 bif t94 then
  some false
 else
  bif (t14 == 2) then
   bif (t15 == b124_0) then
    bif (b196_2 == 3) then
     bif (b196_3 == 0) then
      bif (b196_4 == 0) then
       bif (decide (b124_0 ≥ 0)) then
        bif (decide ((b124_2.length : Int) > b124_0)) then
         if 0 ≤ b124_0 ∧ b124_0 < ((b124_2.length : Nat) : Int) then
         via ((((b124_2.getD b124_0.toNat default).Backs).length : Int) : Int) fun v1 =>
         bif (decide (t16 < v1)) then
          bif (decide (t16 < (b124_3.length : Int))) then
           if 0 ≤ t16 ∧ t16 < ((b124_3.length : Nat) : Int) then
           L_law20_SiteOnce_4 N ((b124_3.getD t16.toNat default).Up)
           else none
          else
           L_law20_SiteOnce_4 N false
         else
          L_law20_SiteOnce_4 N false
         else none
        else
         L_law20_SiteOnce_4 N false
       else
        L_law20_SiteOnce_4 N false
      else
       L_law20_SiteOnce_4 N false
     else
      L_law20_SiteOnce_4 N false
    else
     L_law20_SiteOnce_4 N false
   else
    L_law20_SiteOnce_4 N false
  else
   (L_ref1_FlowOf N b180_5).bind fun v1 =>
   (L_ref10_FindEntry N b124_5 v1.1 t1).bind fun v2 =>
   (L_ref10_Full N (GNode.mk b124_0 (GConfig.mk b124_1 b124_2) b124_3 b124_4 b124_5 b124_6)).bind fun v3 =>
   bif (b180_2 == 1) then
    bif (t15 != b124_0) then
     bif (b196_2 == 2) then
      bif (b196_3 == 1) then
       bif (b196_4 == (IntKind.i64.wrap (b124_0 + 1))) then
        bif (b196_5.toList == t2.toList) then
         bif v3.1 then
          L_law20_SiteOnce_5 N true
         else
          bif v2.2 then
           bif v2.1.Away then
            L_law20_SiteOnce_5 N (v2.1.To == t15)
           else
            L_law20_SiteOnce_5 N false
          else
           L_law20_SiteOnce_5 N false
        else
         L_law20_SiteOnce_5 N false
       else
        L_law20_SiteOnce_5 N false
      else
       L_law20_SiteOnce_5 N false
     else
      L_law20_SiteOnce_5 N false
    else
     L_law20_SiteOnce_5 N false
   else
    L_law20_SiteOnce_5 N false
def L_law20_SiteOnce_2 (N : Nat) (t1 : Int) (t2 : ByteArray) (b124_0 b124_1 : Int) (b124_2 : (List GSite)) (b124_3 : (List GHealth)) (b124_4 : (List GSeen)) (b124_5 : (List GEntry)) (b124_6 b180_0 b180_1 b180_2 b180_3 b180_4 : Int) (b180_5 : ByteArray) (b196_0 b196_1 b196_2 b196_3 b196_4 : Int) (b196_5 : ByteArray) (t80 : Bool) : Option (Bool) :=
 bif t80 then
  some false
 else
  (L_ref1_Whose N b196_1).bind fun v1 =>
  bif (!v1.2.2.2) then
   L_law20_SiteOnce_3 N t1 t2 b124_0 b124_1 b124_2 b124_3 b124_4 b124_5 b124_6 b180_0 b180_1 b180_2 b180_3 b180_4 b180_5 b196_0 b196_1 b196_2 b196_3 b196_4 b196_5 v1.1 v1.2.1 v1.2.2.1 true
  else
   L_law20_SiteOnce_3 N t1 t2 b124_0 b124_1 b124_2 b124_3 b124_4 b124_5 b124_6 b180_0 b180_1 b180_2 b180_3 b180_4 b180_5 b196_0 b196_1 b196_2 b196_3 b196_4 b196_5 v1.1 v1.2.1 v1.2.2.1 (v1.1 == 0)
def L_law20_SiteOnce_1 (N : Nat) (t1 : Int) (t2 : ByteArray) (b124_0 b124_1 : Int) (b124_2 : (List GSite)) (b124_3 : (List GHealth)) (b124_4 : (List GSeen)) (b124_5 : (List GEntry)) (b124_6 : Int) (b164_0 : (List ByteArray)) (b164_1 : (List GEvent)) (t43 : Bool) : Option (Bool) :=
 bif t43 then
  some ((b164_0.length : Int) == 0)
 else
  (L_ref1_Pop N t2).bind fun v1 =>
  if 0 ≤ (0 : Int) ∧ (0 : Int) < ((b164_0.length : Nat) : Int) then
  (L_ref1_Pop N (b164_0.getD (Int.toNat 0) default)).bind fun v2 =>
  bif (v1.2 != 0) then
   L_law20_SiteOnce_2 N t1 t2 b124_0 b124_1 b124_2 b124_3 b124_4 b124_5 b124_6 v1.1.Src v1.1.Dst v1.1.Tier v1.1.Marker v1.1.Origin v1.1.Body v2.1.Src v2.1.Dst v2.1.Tier v2.1.Marker v2.1.Origin v2.1.Body true
  else
   bif (v2.2 != 0) then
    L_law20_SiteOnce_2 N t1 t2 b124_0 b124_1 b124_2 b124_3 b124_4 b124_5 b124_6 v1.1.Src v1.1.Dst v1.1.Tier v1.1.Marker v1.1.Origin v1.1.Body v2.1.Src v2.1.Dst v2.1.Tier v2.1.Marker v2.1.Origin v2.1.Body true
   else
    bif ((b164_0.length : Int) != 1) then
     L_law20_SiteOnce_2 N t1 t2 b124_0 b124_1 b124_2 b124_3 b124_4 b124_5 b124_6 v1.1.Src v1.1.Dst v1.1.Tier v1.1.Marker v1.1.Origin v1.1.Body v2.1.Src v2.1.Dst v2.1.Tier v2.1.Marker v2.1.Origin v2.1.Body true
    else
     via ((IntKind.i64.wrap ((167903232 : Int) + b124_0)) : Int) fun v3 =>
     L_law20_SiteOnce_2 N t1 t2 b124_0 b124_1 b124_2 b124_3 b124_4 b124_5 b124_6 v1.1.Src v1.1.Dst v1.1.Tier v1.1.Marker v1.1.Origin v1.1.Body v2.1.Src v2.1.Dst v2.1.Tier v2.1.Marker v2.1.Origin v2.1.Body (v2.1.Src != v3)
  else none
def L_law20_SiteOnce (N : Nat) (x0 : GNode) (x1 : Int) (x2 : ByteArray) : Option (Bool) :=
 (L_law20_awake N).bind fun v1 =>
 bif (!v1) then
  some false
 else
  (L_site_Take N x0 x1 x2).bind fun v2 =>
  (L_law0_Num N v2.2.2).bind fun v3 =>
  bif (v3 != 0) then
   L_law20_SiteOnce_1 N x1 x2 x0.Id x0.Config.Version x0.Config.Sites x0.Health x0.Seen x0.Flows x0.Serial v2.2.1.Sent v2.2.1.Events true
  else
   L_law20_SiteOnce_1 N x1 x2 x0.Id x0.Config.Version x0.Config.Sites x0.Health x0.Seen x0.Flows x0.Serial v2.2.1.Sent v2.2.1.Events ((v2.2.1.Sent.length : Int) == 0)
def d11 (r : Bool) : D := .bool r
theorem g11_4 {N} (gx0 : Bool) {r} (z : Z Tryz.prog ty 11 Tryz.f11 (Fi [] (d11 r) [])) {t6} (h : L_law20_SiteOnce_4 N t6 = some r) : z.G [.c 13823, .c 2047] [(6, .bool t6)] [] :=
 z.r [] 0 o0 h
theorem g11_5 {N} (gx0 : Bool) {r} (z : Z Tryz.prog ty 11 Tryz.f11 (Fi [] (d11 r) [])) {t6} (h : L_law20_SiteOnce_5 N t6 = some r) : z.G [.c 32767] [(6, .bool t6)] [] :=
 z.r [] 0 o0 h
theorem g11_3 {N} (gx0 : Bool) {r} (z : Z Tryz.prog ty 11 Tryz.f11 (Fi [] (d11 r) [])) {t1 t2 b124_0 b124_1 b124_2 b124_3 b124_4 b124_5 b124_6 b180_0 b180_1 b180_2 b180_3 b180_4 b180_5 b196_0 b196_1 b196_2 b196_3 b196_4 b196_5 t14 t15 t16 t94} (h : L_law20_SiteOnce_3 N t1 t2 b124_0 b124_1 b124_2 b124_3 b124_4 b124_5 b124_6 b180_0 b180_1 b180_2 b180_3 b180_4 b180_5 b196_0 b196_1 b196_2 b196_3 b196_4 b196_5 t14 t15 t16 t94 = some r) : z.G [.c 1791, .c 1023] [(1, iI t1), (2, .str t2), (3, .ptr 124 0), (10, .ptr 180 0), (12, .ptr 196 0), (14, iI t14), (15, iI t15), (16, iI t16), (94, .bool t94)] [qB 124 [iI b124_0, iI b124_1, sS gx0 (eSite gx0) b124_2, sS gx0 eHealth b124_3, sS gx0 eSeen b124_4, sS gx0 eEntry b124_5, iI b124_6], qB 180 [iI b180_0, iI b180_1, iI b180_2, iI b180_3, iI b180_4, .str b180_5], qB 196 [iI b196_0, iI b196_1, iI b196_2, iI b196_3, iI b196_4, .str b196_5]] :=
 by
  cases t94 with
  | true => exact brT h fun h => (
   z.r [] 3 o0 h)
  | false => exact brF h fun h => (
   br h (fun h1 h =>
    z.s [(13, [(1, oT)])] 7 (o1 (Le.tt h1)) <|
    br h (fun h2 h =>
     br h (fun h3 h =>
      br h (fun h4 h =>
       br h (fun h5 h =>
        br h (fun h6 h =>
         br h (fun h7 h =>
          ck h fun h8 h =>
          vi h fun v1 h9 h =>
          br h (fun h10 h =>
           br h (fun h11 h =>
            ck h fun h12 h =>
            z.j [(14, [(4, oT), (9, oT), (14, oT), (19, oT), (24, oT), (33, oT), (40, oC (.ip gx0 [iI ((b124_2.getD b124_0.toNat default).Weight), .bool ((b124_2.getD b124_0.toNat default).Drain), iI ((b124_2.getD b124_0.toNat default).Cap), sS gx0 eBack ((b124_2.getD b124_0.toNat default).Backs)])), (43, oC (.int .i64 v1)), (46, oT), (53, oT), (57, oC (.ip gx0 [.bool ((b124_3.getD t16.toNat default).Up), iI ((b124_3.getD t16.toNat default).Count)]))])] 1 [6] [] (o5 (Le.tt h2) (Le.tt h3) (Le.tt h4) (Le.tt h5) (o5 (Le.tt h6) (Le.tt h7) h8 (Le.iptl (g := gx0) (eL_at (xs := b124_2) (eSite_len gx0) (ixl h8))) (o5 (Le.int (k := .i64) h9) (Le.tt h10) (Le.tt h11) h12 (o1 (Le.iptl (g := gx0) (eL_at (xs := b124_3) eHealth_len (ixl h12))))))) (g11_4 gx0 z h)) fun h11 h =>
           z.j [(14, [(4, oT), (9, oT), (14, oT), (19, oT), (24, oT), (33, oT), (40, oC (.ip gx0 [iI ((b124_2.getD b124_0.toNat default).Weight), .bool ((b124_2.getD b124_0.toNat default).Drain), iI ((b124_2.getD b124_0.toNat default).Cap), sS gx0 eBack ((b124_2.getD b124_0.toNat default).Backs)])), (43, oC (.int .i64 v1)), (46, oT), (53, oF)])] 1 [6] [] (o5 (Le.tt h2) (Le.tt h3) (Le.tt h4) (Le.tt h5) (o5 (Le.tt h6) (Le.tt h7) h8 (Le.iptl (g := gx0) (eL_at (xs := b124_2) (eSite_len gx0) (ixl h8))) (o3 (Le.int (k := .i64) h9) (Le.tt h10) (Le.ff h11)))) (g11_4 gx0 z h)) fun h10 h =>
          z.j [(14, [(4, oT), (9, oT), (14, oT), (19, oT), (24, oT), (33, oT), (40, oC (.ip gx0 [iI ((b124_2.getD b124_0.toNat default).Weight), .bool ((b124_2.getD b124_0.toNat default).Drain), iI ((b124_2.getD b124_0.toNat default).Cap), sS gx0 eBack ((b124_2.getD b124_0.toNat default).Backs)])), (43, oC (.int .i64 v1)), (46, oF)])] 1 [6] [] (o5 (Le.tt h2) (Le.tt h3) (Le.tt h4) (Le.tt h5) (o5 (Le.tt h6) (Le.tt h7) h8 (Le.iptl (g := gx0) (eL_at (xs := b124_2) (eSite_len gx0) (ixl h8))) (o2 (Le.int (k := .i64) h9) (Le.ff h10)))) (g11_4 gx0 z h)) fun h7 h =>
         z.j [(14, [(4, oT), (9, oT), (14, oT), (19, oT), (24, oT), (33, oF)])] 1 [6] [] (o5 (Le.tt h2) (Le.tt h3) (Le.tt h4) (Le.tt h5) (o2 (Le.tt h6) (Le.ff h7))) (g11_4 gx0 z h)) fun h6 h =>
        z.j [(14, [(4, oT), (9, oT), (14, oT), (19, oT), (24, oF)])] 1 [6] [] (o5 (Le.tt h2) (Le.tt h3) (Le.tt h4) (Le.tt h5) (o1 (Le.ff h6))) (g11_4 gx0 z h)) fun h5 h =>
       z.j [(14, [(4, oT), (9, oT), (14, oT), (19, oF)])] 1 [6] [] (o4 (Le.tt h2) (Le.tt h3) (Le.tt h4) (Le.ff h5)) (g11_4 gx0 z h)) fun h4 h =>
      z.j [(14, [(4, oT), (9, oT), (14, oF)])] 1 [6] [] (o3 (Le.tt h2) (Le.tt h3) (Le.ff h4)) (g11_4 gx0 z h)) fun h3 h =>
     z.j [(14, [(4, oT), (9, oF)])] 1 [6] [] (o2 (Le.tt h2) (Le.ff h3)) (g11_4 gx0 z h)) fun h2 h =>
    z.j [(14, [(4, oF)])] 1 [6] [] (o1 (Le.ff h2)) (g11_4 gx0 z h)) fun h1 h =>
   bd h fun v1 h2 h =>
   bd h fun v2 h3 h =>
   bd h fun v3 h4 h =>
   z.s [(13, [(1, oF)]), (15, [(2, oR (d31 v1))]), (16, [(4, oR (d32 v2))]), (17, [(1, oR (d50 v3))])] 14 (o4 (Le.ff h1) (c31 h2) (c32 gx0 h3) (c50 gx0 h4)) <|
   br h (fun h5 h =>
    br h (fun h6 h =>
     br h (fun h7 h =>
      br h (fun h8 h =>
       br h (fun h9 h =>
        br h (fun h10 h =>
         br h (fun h11 h =>
          z.j [(18, [(3, oT), (9, oT), (14, oT), (19, oT), (27, oT), (33, oT), (35, oT)])] 1 [6] [] (o5 (Le.tt h5) (Le.tt h6) (Le.tt h7) (Le.tt h8) (o3 (Le.tt h9) (Le.tt h10) (Le.tt h11))) (g11_5 gx0 z h)) fun h11 h =>
         br h (fun h12 h =>
          br h (fun h13 h =>
           z.j [(18, [(3, oT), (9, oT), (14, oT), (19, oT), (27, oT), (33, oT), (35, oF), (37, oT), (41, oT)])] 1 [6] [] (o5 (Le.tt h5) (Le.tt h6) (Le.tt h7) (Le.tt h8) (o5 (Le.tt h9) (Le.tt h10) (Le.ff h11) (Le.tt h12) (o1 (Le.tt h13)))) (g11_5 gx0 z h)) fun h13 h =>
          z.j [(18, [(3, oT), (9, oT), (14, oT), (19, oT), (27, oT), (33, oT), (35, oF), (37, oT), (41, oF)])] 1 [6] [] (o5 (Le.tt h5) (Le.tt h6) (Le.tt h7) (Le.tt h8) (o5 (Le.tt h9) (Le.tt h10) (Le.ff h11) (Le.tt h12) (o1 (Le.ff h13)))) (g11_5 gx0 z h)) fun h12 h =>
         z.j [(18, [(3, oT), (9, oT), (14, oT), (19, oT), (27, oT), (33, oT), (35, oF), (37, oF)])] 1 [6] [] (o5 (Le.tt h5) (Le.tt h6) (Le.tt h7) (Le.tt h8) (o4 (Le.tt h9) (Le.tt h10) (Le.ff h11) (Le.ff h12))) (g11_5 gx0 z h)) fun h10 h =>
        z.j [(18, [(3, oT), (9, oT), (14, oT), (19, oT), (27, oT), (33, oF)])] 1 [6] [] (o5 (Le.tt h5) (Le.tt h6) (Le.tt h7) (Le.tt h8) (o2 (Le.tt h9) (Le.ff h10))) (g11_5 gx0 z h)) fun h9 h =>
       z.j [(18, [(3, oT), (9, oT), (14, oT), (19, oT), (27, oF)])] 1 [6] [] (o5 (Le.tt h5) (Le.tt h6) (Le.tt h7) (Le.tt h8) (o1 (Le.ff h9))) (g11_5 gx0 z h)) fun h8 h =>
      z.j [(18, [(3, oT), (9, oT), (14, oT), (19, oF)])] 1 [6] [] (o4 (Le.tt h5) (Le.tt h6) (Le.tt h7) (Le.ff h8)) (g11_5 gx0 z h)) fun h7 h =>
     z.j [(18, [(3, oT), (9, oT), (14, oF)])] 1 [6] [] (o3 (Le.tt h5) (Le.tt h6) (Le.ff h7)) (g11_5 gx0 z h)) fun h6 h =>
    z.j [(18, [(3, oT), (9, oF)])] 1 [6] [] (o2 (Le.tt h5) (Le.ff h6)) (g11_5 gx0 z h)) fun h5 h =>
   z.j [(18, [(3, oF)])] 1 [6] [] (o1 (Le.ff h5)) (g11_5 gx0 z h))
theorem g11_2 {N} (gx0 : Bool) {r} (z : Z Tryz.prog ty 11 Tryz.f11 (Fi [] (d11 r) [])) {t1 t2 b124_0 b124_1 b124_2 b124_3 b124_4 b124_5 b124_6 b180_0 b180_1 b180_2 b180_3 b180_4 b180_5 b196_0 b196_1 b196_2 b196_3 b196_4 b196_5 t80} (h : L_law20_SiteOnce_2 N t1 t2 b124_0 b124_1 b124_2 b124_3 b124_4 b124_5 b124_6 b180_0 b180_1 b180_2 b180_3 b180_4 b180_5 b196_0 b196_1 b196_2 b196_3 b196_4 b196_5 t80 = some r) : z.G [.c 447, .c 255] [(1, iI t1), (2, .str t2), (3, .ptr 124 0), (10, .ptr 180 0), (12, .ptr 196 0), (80, .bool t80)] [qB 124 [iI b124_0, iI b124_1, sS gx0 (eSite gx0) b124_2, sS gx0 eHealth b124_3, sS gx0 eSeen b124_4, sS gx0 eEntry b124_5, iI b124_6], qB 180 [iI b180_0, iI b180_1, iI b180_2, iI b180_3, iI b180_4, .str b180_5], qB 196 [iI b196_0, iI b196_1, iI b196_2, iI b196_3, iI b196_4, .str b196_5]] :=
 by
  cases t80 with
  | true => exact brT h fun h => (
   z.r [] 3 o0 h)
  | false => exact brF h fun h => (
   bd h fun v1 h1 h =>
   z.s [(10, [(2, oR (d37 v1))])] 6 (o1 (c37 h1)) <|
   br h (fun h2 h =>
    z.j [(11, [(2, oT)])] 1 [1, 2, 3, 10, 12, 14, 15, 16, 94] [(124, 124), (180, 180), (196, 196)] (o1 (Le.tt h2)) (g11_3 gx0 z h)) fun h2 h =>
   z.j [(11, [(2, oF)])] 1 [1, 2, 3, 10, 12, 14, 15, 16, 94] [(124, 124), (180, 180), (196, 196)] (o1 (Le.ff h2)) (g11_3 gx0 z h))
theorem g11_1 {N} (gx0 : Bool) {r} (z : Z Tryz.prog ty 11 Tryz.f11 (Fi [] (d11 r) [])) {t1 t2 b124_0 b124_1 b124_2 b124_3 b124_4 b124_5 b124_6 b164_0 b164_1 t43} (h : L_law20_SiteOnce_1 N t1 t2 b124_0 b124_1 b124_2 b124_3 b124_4 b124_5 b124_6 b164_0 b164_1 t43 = some r) : z.G [.c 55, .c 31] [(1, iI t1), (2, .str t2), (3, .ptr 124 0), (8, .ptr 164 0), (43, .bool t43)] [qB 124 [iI b124_0, iI b124_1, sS gx0 (eSite gx0) b124_2, sS gx0 eHealth b124_3, sS gx0 eSeen b124_4, sS gx0 eEntry b124_5, iI b124_6], qB 164 [sS true eStr b164_0, sS true eEvent b164_1]] :=
 by
  cases t43 with
  | true => exact brT h fun h => (
   z.r [] 3 o0 h)
  | false => exact brF h fun h => (
   bd h fun v1 h1 h =>
   ck h fun h2 h =>
   bd h fun v2 h3 h =>
   z.s [(6, [(1, oR (d33 v1))]), (7, [(2, oC (.ip true [.str (b164_0.getD (Int.toNat 0) default)])), (4, oR (d33 v2))])] 8 (o4 (c33 h1) h2 (Le.iptl (g := true) (eL_at (xs := b164_0) eStr_len (ixl h2))) (c33 h3)) <|
   br h (fun h4 h =>
    z.j [(8, [(2, oT)])] 1 [1, 2, 3, 10, 12, 80] [(124, 124), (180, 180), (196, 196)] (o1 (Le.tt h4)) (g11_2 gx0 z h)) fun h4 h =>
   br h (fun h5 h =>
    z.j [(8, [(2, oF), (6, oT)])] 1 [1, 2, 3, 10, 12, 80] [(124, 124), (180, 180), (196, 196)] (o2 (Le.ff h4) (Le.tt h5)) (g11_2 gx0 z h)) fun h5 h =>
   br h (fun h6 h =>
    z.j [(8, [(2, oF), (6, oF), (12, oT)])] 1 [1, 2, 3, 10, 12, 80] [(124, 124), (180, 180), (196, 196)] (o3 (Le.ff h4) (Le.ff h5) (Le.tt h6)) (g11_2 gx0 z h)) fun h6 h =>
   vi h fun v3 h7 h =>
   z.j [(8, [(2, oF), (6, oF), (12, oF), (17, oC (.int .i64 v3))])] 1 [1, 2, 3, 10, 12, 80] [(124, 124), (180, 180), (196, 196)] (o4 (Le.ff h4) (Le.ff h5) (Le.ff h6) (Le.int (k := .i64) h7)) (g11_2 gx0 z h))
theorem c11 {N} (gx0 : Bool) {x0 x1 x2 r} (h : L_law20_SiteOnce N x0 x1 x2 = some r) : Con Tryz.prog 11 [.agg [iI x0.Id, iI x0.Config.Version, sS gx0 (eSite gx0) x0.Config.Sites, sS gx0 eHealth x0.Health, sS gx0 eSeen x0.Seen, sS gx0 eEntry x0.Flows, iI x0.Serial], iI x1, .str x2] [] (d11 r) [] :=
 ci ok mix Tryz.f11 fun z =>
 bd h fun v1 h0 h =>
 br h (fun h1 h =>
  z.r [(1, [(0, oR (d49 v1)), (1, oT)])] 8 (o2 (c49 h0) (Le.tt h1)) h) fun h1 h =>
 bd h fun v2 h2 h =>
 bd h fun v3 h3 h =>
 z.s [(1, [(0, oR (d49 v1)), (1, oF)]), (3, [(3, oR (d39 v2))])] 11 (o3 (c49 h0) (Le.ff h1) (c39 gx0 h2)) <|
 br h (fun h4 h =>
  z.j [(4, [(1, oR (d25 v3)), (3, oT)])] 1 [1, 2, 3, 8, 43] [(124, 124), (164, 164)] (o2 (c25 h3) (Le.tt h4)) (g11_1 gx0 z h)) fun h4 h =>
 z.j [(4, [(1, oR (d25 v3)), (3, oF)])] 1 [1, 2, 3, 8, 43] [(124, 124), (164, 164)] (o2 (c25 h3) (Le.ff h4)) (g11_1 gx0 z h)
def L_law19_given (N : Nat) : Option (GConfig) :=
 some (GConfig.mk 3 ([(GSite.mk 2 false 2 ([(GBack.mk 1 false), (GBack.mk 3 false)])), (GSite.mk 1 false 4 ([(GBack.mk 1 false)]))]))
def d34 (r : GConfig) : D := .agg [iI r.Version, sS true (eSite true) r.Sites]
theorem c34 {N} {r} (h : L_law19_given N = some r) : Con Tryz.prog 34 [] [] (d34 r) [] :=
 ci ok mix Tryz.f34 fun z =>
 z.rl [(1, [(3, { frz := true }), (6, { frz := true }), (8, { frz := true })])] 4 (.agg [iI 3, .sl true (eL (eSite true) ([(GSite.mk 2 false 2 ([(GBack.mk 1 false), (GBack.mk 3 false)])), (GSite.mk 1 false 4 ([(GBack.mk 1 false)]))])) 2 2]) o0 h (Le.agg ((.cons (Le.of rfl) (.cons (Le.sln (g := true) (cs := (eL (eSite true) ([(GSite.mk 2 false 2 ([(GBack.mk 1 false), (GBack.mk 3 false)])), (GSite.mk 1 false 4 ([(GBack.mk 1 false)]))]))) (n := 2) (c := 2) (k := ([(GSite.mk 2 false 2 ([(GBack.mk 1 false), (GBack.mk 3 false)])), (GSite.mk 1 false 4 ([(GBack.mk 1 false)]))]).length) (by first | rfl | omega | simp) (by first | rfl | omega | simp)) .nil))))
def L_edge_May_2 (N : Nat) (r1 : Int → Int → (List GSite) → (List GHealth) → (List GEntry) → (List GEntry) → Int → Int → Option (Bool)) (b108_0 b108_1 : Int) (b108_2 : (List GSite)) (b108_3 : (List GHealth)) (b108_4 t6 : (List GEntry)) (t7 t8 : Int) (t19 : Bool) : Option (Bool) :=
 bif t19 then
  some false
 else
  r1 b108_0 b108_1 b108_2 b108_3 b108_4 t6 t7 (IntKind.i64.wrap (t8 + 1))
def L_edge_May_3 (N : Nat) (t2 : Bool) : Option (Bool) :=
 some t2
def L_edge_May_1 (N : Nat) : Nat → Int → Int → (List GSite) → (List GHealth) → (List GEntry) → (List GEntry) → Int → Int → Option (Bool)
  | 0, _, _, _, _, _, _, _, _ => none
  | fuel + 1, b108_0, b108_1, b108_2, b108_3, b108_4, t6, t7, t8 =>
  bif (decide (t8 < t7)) then
   if 0 ≤ t8 ∧ t8 < ((t6.length : Nat) : Int) then
   bif (t6.getD t8.toNat default).Away then
    L_edge_May_2 N (L_edge_May_1 N fuel) b108_0 b108_1 b108_2 b108_3 b108_4 t6 t7 t8 true
   else
    (L_report_Site N ((t6.getD t8.toNat default).To)).bind fun v1 =>
    L_edge_May_2 N (L_edge_May_1 N fuel) b108_0 b108_1 b108_2 b108_3 b108_4 t6 t7 t8 (!v1)
   else none
  else
   bif (decide (b108_0 ≥ 0)) then
    bif (decide (b108_0 < 2)) then
     (L_conf_May N (GConfig.mk b108_1 b108_2)).bind fun v1 =>
     bif v1 then
      (L_health_All N b108_3 3).bind fun v2 =>
      bif v2 then
       (L_cache_May N b108_4).bind fun v3 =>
       L_edge_May_3 N v3
      else
       L_edge_May_3 N false
     else
      L_edge_May_3 N false
    else
     L_edge_May_3 N false
   else
    L_edge_May_3 N false
def L_edge_May (N : Nat) (x0 : GEdge) : Option (Bool) :=
 L_edge_May_1 N N x0.Id x0.Config.Version x0.Config.Sites x0.Health x0.Flows x0.Flows (x0.Flows.length : Int) 0
def d26 (r : Bool) : D := .bool r
theorem g26_2 {N} (gx0 : Bool) {r} (z : Z Tryz.prog ty 26 Tryz.f26 (Fi [] (d26 r) [])) {r1 : Int → Int → (List GSite) → (List GHealth) → (List GEntry) → (List GEntry) → Int → Int → Option (Bool)} (hr1 : ∀ {b108_0 b108_1 b108_2 b108_3 b108_4 t6 t7 t8}, r1 b108_0 b108_1 b108_2 b108_3 b108_4 t6 t7 t8 = some r → z.G [.c 37, .l 37, .b 0, .c 7] [(1, .ptr 108 0), (6, sS gx0 eEntry t6), (7, iI t7), (8, iI t8)] [qB 108 [iI b108_0, iI b108_1, sS gx0 (eSite gx0) b108_2, sS gx0 eHealth b108_3, sS gx0 eEntry b108_4]]) {b108_0 b108_1 b108_2 b108_3 b108_4 t6 t7 t8 t19} (h : L_edge_May_2 N r1 b108_0 b108_1 b108_2 b108_3 b108_4 t6 t7 t8 t19 = some r) : z.G [.c 3685, .b 1, .c 485, .l 37, .b 0, .c 7] [(1, .ptr 108 0), (6, sS gx0 eEntry t6), (7, iI t7), (8, iI t8), (19, .bool t19)] [qB 108 [iI b108_0, iI b108_1, sS gx0 (eSite gx0) b108_2, sS gx0 eHealth b108_3, sS gx0 eEntry b108_4]] :=
 by
  cases t19 with
  | true => exact brT h fun h => (
   z.r [] 3 o0 h)
  | false => exact brF h fun h => (
   z.j [] 5 [1, 6, 7, 8] [(108, 108)] o0 (hr1 h))
theorem g26_3 {N} (gx0 : Bool) {r} (z : Z Tryz.prog ty 26 Tryz.f26 (Fi [] (d26 r) [])) {t2} (h : L_edge_May_3 N t2 = some r) : z.G [.c 15] [(2, .bool t2)] [] :=
 z.r [] 0 o0 h
theorem g26_1 {N} (gx0 : Bool) {r} (z : Z Tryz.prog ty 26 Tryz.f26 (Fi [] (d26 r) [])) (fuel) : ∀ {b108_0 b108_1 b108_2 b108_3 b108_4 t6 t7 t8}, L_edge_May_1 N fuel b108_0 b108_1 b108_2 b108_3 b108_4 t6 t7 t8 = some r → z.G [.c 37, .l 37, .b 0, .c 7] [(1, .ptr 108 0), (6, sS gx0 eEntry t6), (7, iI t7), (8, iI t8)] [qB 108 [iI b108_0, iI b108_1, sS gx0 (eSite gx0) b108_2, sS gx0 eHealth b108_3, sS gx0 eEntry b108_4]] := by
 induction fuel with
 | zero => intro b108_0 b108_1 b108_2 b108_3 b108_4 t6 t7 t8 h; cases h
 | succ fuel ih =>
  intro b108_0 b108_1 b108_2 b108_3 b108_4 t6 t7 t8 h
  exact
   br h (fun h0 h =>
    ck h fun h1 h =>
    z.s [(2, [(0, oT)]), (3, [(0, oC (.ip gx0 [iI (((t6.getD t8.toNat default).Flow).Src), iI (((t6.getD t8.toNat default).Flow).Dst), iI (((t6.getD t8.toNat default).Flow).Proto), iI (((t6.getD t8.toNat default).Flow).Sport), iI (((t6.getD t8.toNat default).Flow).Dport), iI ((t6.getD t8.toNat default).To), .bool ((t6.getD t8.toNat default).Away), iI ((t6.getD t8.toNat default).Phase), iI ((t6.getD t8.toNat default).Used)]))])] 10 (o3 (Le.tt h0) h1 (Le.iptl (g := gx0) (eL_at (xs := t6) eEntry_len (ixl h1)))) <|
    br h (fun h2 h =>
     z.j [(4, [(2, oT)])] 1 [1, 6, 7, 8, 19] [(108, 108)] (o1 (Le.tt h2)) (g26_2 gx0 z @ih h)) fun h2 h =>
    bd h fun v1 h3 h =>
    z.j [(4, [(2, oF), (5, oR (d84 v1))])] 1 [1, 6, 7, 8, 19] [(108, 108)] (o2 (Le.ff h2) (c84 h3)) (g26_2 gx0 z @ih h)) fun h0 h =>
   z.s [(2, [(0, oF)])] 6 (o1 (Le.ff h0)) <|
   br h (fun h1 h =>
    br h (fun h2 h =>
     bd h fun v1 h3 h =>
     br h (fun h4 h =>
      bd h fun v2 h5 h =>
      br h (fun h6 h =>
       bd h fun v3 h7 h =>
       z.j [(7, [(3, oT), (8, oT), (11, oR (d85 v1)), (13, oT), (16, oR (d86 v2)), (18, oT), (21, oR (d87 v3))])] 1 [2] [] (o5 (Le.tt h1) (Le.tt h2) (c85 gx0 h3) (Le.tt h4) (o3 (c86 gx0 h5) (Le.tt h6) (c87 gx0 h7))) (g26_3 gx0 z h)) fun h6 h =>
      z.j [(7, [(3, oT), (8, oT), (11, oR (d85 v1)), (13, oT), (16, oR (d86 v2)), (18, oF)])] 1 [2] [] (o5 (Le.tt h1) (Le.tt h2) (c85 gx0 h3) (Le.tt h4) (o2 (c86 gx0 h5) (Le.ff h6))) (g26_3 gx0 z h)) fun h4 h =>
     z.j [(7, [(3, oT), (8, oT), (11, oR (d85 v1)), (13, oF)])] 1 [2] [] (o4 (Le.tt h1) (Le.tt h2) (c85 gx0 h3) (Le.ff h4)) (g26_3 gx0 z h)) fun h2 h =>
    z.j [(7, [(3, oT), (8, oF)])] 1 [2] [] (o2 (Le.tt h1) (Le.ff h2)) (g26_3 gx0 z h)) fun h1 h =>
   z.j [(7, [(3, oF)])] 1 [2] [] (o1 (Le.ff h1)) (g26_3 gx0 z h)
theorem c26 {N} (gx0 : Bool) {x0 r} (h : L_edge_May N x0 = some r) : Con Tryz.prog 26 [.agg [iI x0.Id, iI x0.Config.Version, sS gx0 (eSite gx0) x0.Config.Sites, sS gx0 eHealth x0.Health, sS gx0 eEntry x0.Flows]] [] (d26 r) [] :=
 ci ok mix Tryz.f26 fun z =>
 z.j [] 7 [1, 6, 7, 8] [(108, 108)] o0 (g26_1 gx0 z N h)
def L_edge_New (N : Nat) (x0 : Int) (x1 : GConfig) : Option (GEdge × Int) :=
 (L_conf_Copy N x1).bind fun v1 =>
 (L_health_New N).bind fun v2 =>
 (L_slices_Repeat_api_Health_api_Health N ([v2]) 3).bind fun v3 =>
 (L_edge_May N (GEdge.mk x0 v1 v3 ([]))).bind fun v4 =>
 bif (!v4) then
  some ((GEdge.mk 0 (GConfig.mk 0 ([])) ([]) ([])), 1900)
 else
  some ((GEdge.mk x0 v1 v3 ([])), 0)
def d21 (r : GEdge × Int) : D := .tup [.agg [iI r.1.Id, iI r.1.Config.Version, sS true (eSite true) r.1.Config.Sites, sS true eHealth r.1.Health, sS true eEntry r.1.Flows], iI r.2]
theorem c21 {N} (gx1 : Bool) {x0 x1 r} (h : L_edge_New N x0 x1 = some r) : Con Tryz.prog 21 [iI x0, .agg [iI x1.Version, sS gx1 (eSite gx1) x1.Sites]] [] (d21 r) [] :=
 ci ok mix Tryz.f21 fun z =>
 bd h fun v1 h0 h =>
 bd h fun v2 h1 h =>
 bd h fun v3 h2 h =>
 bd h fun v4 h3 h =>
 z.s [(1, [(2, oR (d76 v1)), (3, oR (d78 v2)), (5, oR (d77 v3))])] 6 (o3 (c76 gx1 h0) (c78 h1) (c77 false h2)) <|
 br h (fun h4 h =>
  z.rl [(2, [(1, oR (d26 v4)), (2, oT)])] 4 (.tup [.agg [iI 0, iI 0, .nils, .nils, .nils], iI 1900]) (o2 ((c26 true h3).le ((.cons (Le.agg ((.cons (Le.rfl) (.cons (Le.rfl) (.cons (Le.rfl) (.cons (Le.rfl) (.cons (Le.nils) .nil))))))) .nil))) (Le.tt h4)) h (Le.tup ((.cons (Le.agg ((.cons (Le.of rfl) (.cons (Le.of rfl) (.cons (Le.nils (g := true)) (.cons (Le.nils (g := true)) (.cons (Le.nils (g := true)) .nil))))))) (.cons (Le.of rfl) .nil))))) fun h4 h =>
 z.rl [(2, [(1, oR (d26 v4)), (2, oF)])] 5 (.tup [.agg [iI x0, iI v1.Version, sS true (eSite true) v1.Sites, sS true eHealth v3, .nils], iI 0]) (o2 ((c26 true h3).le ((.cons (Le.agg ((.cons (Le.rfl) (.cons (Le.rfl) (.cons (Le.rfl) (.cons (Le.rfl) (.cons (Le.nils) .nil))))))) .nil))) (Le.ff h4)) h (Le.tup ((.cons (Le.agg ((.cons (Le.of rfl) (.cons (Le.of rfl) (.cons (Le.of rfl) (.cons (Le.of rfl) (.cons (Le.nils (g := true)) .nil))))))) (.cons (Le.of rfl) .nil))))
def L_law19_said (N : Nat) (x0 x1 : Int) (x2 : ByteArray) : Option (ByteArray) :=
 via ((if decide (60 < (x2.size : Int)) then 60 else (x2.size : Int)) : Int) fun v1 =>
 if 0 ≤ v1 ∧ v1 ≤ (x2.size : Int) ∧ 0 ≤ (0 : Int) ∧ (0 : Int) ≤ v1 then
 (L_ref1_PacketOf N (GFlow.mk (bAnd .i64 x0 65535) 167772161 6 7 80) (bAnd .i64 x1 63) (x2.extract 0 v1.toNat)).bind fun v2 =>
 some v2.1
 else none
def d35 (r : ByteArray) : D := .str r
theorem c35 {N} {x0 x1 x2 r} (h : L_law19_said N x0 x1 x2 = some r) : Con Tryz.prog 35 [iI x0, iI x1, .str x2] [] (d35 r) [] :=
 ci ok mix Tryz.f35 fun z =>
 vi h fun v1 h0 h =>
 ck h fun h1 h =>
 bd h fun v2 h2 h =>
 z.r [(2, [(6, oC (.int .i64 v1)), (8, oR (d99 v2))])] 8 (o3 (Le.int (k := .i64) h0) h1 (c99 h2)) h
def L_edge_Copy (N : Nat) (x0 : GEdge) : Option (GEdge) :=
 (L_conf_Copy N x0.Config).bind fun v1 =>
 (L_slices_Clone_api_Health_api_Health_v3 N x0.Health).bind fun v2 =>
 (L_slices_Clone_api_Entry_api_Entry_v3 N x0.Flows).bind fun v3 =>
 some (GEdge.mk x0.Id v1 v2 v3)
def d60 (r : GEdge) : D := .agg [iI r.Id, iI r.Config.Version, sS true (eSite true) r.Config.Sites, sS true eHealth r.Health, sS true eEntry r.Flows]
theorem c60 {N} (gx0 : Bool) {x0 r} (h : L_edge_Copy N x0 = some r) : Con Tryz.prog 60 [.agg [iI x0.Id, iI x0.Config.Version, sS gx0 (eSite gx0) x0.Config.Sites, sS gx0 eHealth x0.Health, sS gx0 eEntry x0.Flows]] [] (d60 r) [] :=
 ci ok mix Tryz.f60 fun z =>
 bd h fun v1 h0 h =>
 bd h fun v2 h1 h =>
 bd h fun v3 h2 h =>
 z.r [(1, [(2, oR (d76 v1)), (5, oR (d123c3 v2)), (8, oR (d124c3 v3))])] 6 (o3 (c76 gx0 h0) (c123c3 gx0 h1) (c124c3 gx0 h2)) h
def L_cand_Sites_2 (N : Nat) : Nat → (List GHealth) → (List GCandidate) → (List GSite) → Int → Int → Option ((List GCandidate) × Int)
  | 0, _, _, _, _, _ => none
  | fuel + 1, t1, b148, t18, t19, t20 =>
  bif (decide (t20 < t19)) then
   if 0 ≤ t20 ∧ t20 < ((t18.length : Nat) : Int) then
   if 0 ≤ t20 ∧ t20 < ((t1.length : Nat) : Int) then
   (L_cand_add N b148 t20 ((t18.getD t20.toNat default).Weight) ((t18.getD t20.toNat default).Drain) (t1.getD t20.toNat default)).bind fun v1 =>
   bif v1.2.2 then
    if v1.2.1.length = b148.length then
    L_cand_Sites_2 N fuel t1 v1.2.1 t18 t19 (IntKind.i64.wrap (t20 + 1))
    else none
   else
    L_cand_Sites_2 N fuel t1 v1.1 t18 t19 (IntKind.i64.wrap (t20 + 1))
   else none
   else none
  else
   some (b148, 0)
def L_cand_Sites_1 (N : Nat) (t1 : (List GHealth)) (b116_0 : Int) (b116_1 : (List GSite)) (t16 : Bool) : Option ((List GCandidate) × Int) :=
 bif t16 then
  some ([], 1300)
 else
  L_cand_Sites_2 N N t1 ([]) b116_1 (b116_1.length : Int) 0
def L_cand_Sites (N : Nat) (x0 : GConfig) (x1 : (List GHealth)) : Option ((List GCandidate) × Int) :=
 (L_conf_May N x0).bind fun v1 =>
 bif (!v1) then
  L_cand_Sites_1 N x1 x0.Version x0.Sites true
 else
  (L_health_All N x1 3).bind fun v2 =>
  L_cand_Sites_1 N x1 x0.Version x0.Sites (!v2)
def d131 (r : (List GCandidate) × Int) : D := .tup [sS true eCandidate r.1, iI r.2]
theorem g131_2 {N} (gx0 gx1 : Bool) {r} (z : Z Tryz.prog ty 131 Tryz.f131 (Fi [] (d131 r) [])) (fuel) : ∀ {t1 b148 t18 t19 t20}, L_cand_Sites_2 N fuel t1 b148 t18 t19 t20 = some r → z.G [.c 151, .l 151, .b 0, .c 31] [(1, sS gx1 eHealth t1), (6, rR 148 b148), (18, sS gx0 (eSite gx0) t18), (19, iI t19), (20, iI t20)] [pB 148 2 (eL eCandidate b148)] := by
 induction fuel with
 | zero => intro t1 b148 t18 t19 t20 h; cases h
 | succ fuel ih =>
  intro t1 b148 t18 t19 t20 h
  exact
   br h (fun h0 h =>
    ck h fun h1 h =>
    ck h fun h2 h =>
    bd h fun v1 h3 h =>
    z.s [(5, [(0, oT)]), (6, [(1, oC (.ip gx0 [iI ((t18.getD t20.toNat default).Weight), .bool ((t18.getD t20.toNat default).Drain), iI ((t18.getD t20.toNat default).Cap), sS gx0 eBack ((t18.getD t20.toNat default).Backs)]))])] 9 (o3 (Le.tt h0) h1 (Le.iptl (g := gx0) (eL_at (xs := t18) (eSite_len gx0) (ixl h1)))) <|
    br h (fun h4 h =>
     ck h fun h5 h =>
     z.j [(7, [(8, oC (.ip gx1 [.bool ((t1.getD t20.toNat default).Up), iI ((t1.getD t20.toNat default).Count)])), (10, { ρ := [148], r := d181_0 v1, H := h181_0 v1 })])] 4 [1, 6, 18, 19, 20] [(148, 148)] (o3 h2 (Le.iptl (g := gx1) (eL_at (xs := t1) eHealth_len (ixl h2))) (c181_0 h3 h4)) (ih h)) fun h4 h =>
    z.j [(7, [(8, oC (.ip gx1 [.bool ((t1.getD t20.toNat default).Up), iI ((t1.getD t20.toNat default).Count)])), (10, { ρ := [148], r := d181_1 v1, H := h181_1 v1 })])] 4 [1, 6, 18, 19, 20] [(380, 148)] (o3 h2 (Le.iptl (g := gx1) (eL_at (xs := t1) eHealth_len (ixl h2))) (c181_1 h3 h4)) (ih h)) fun h0 h =>
   z.r [(5, [(0, oF)]), (9, [(1, { frz := true })])] 7 (o1 (Le.ff h0)) h
theorem g131_1 {N} (gx0 gx1 : Bool) {r} (z : Z Tryz.prog ty 131 Tryz.f131 (Fi [] (d131 r) [])) {t1 b116_0 b116_1 t16} (h : L_cand_Sites_1 N t1 b116_0 b116_1 t16 = some r) : z.G [.c 13, .c 7] [(1, sS gx1 eHealth t1), (2, .ptr 116 0), (16, .bool t16)] [qB 116 [iI b116_0, sS gx0 (eSite gx0) b116_1]] :=
 by
  cases t16 with
  | true => exact brT h fun h => (
   z.rl [] 3 (.tup [.nils, iI 1300]) o0 h (Le.tup ((.cons (Le.nils (g := true)) (.cons (Le.of rfl) .nil)))))
  | false => exact brF h fun h => (
   z.j [(3, [(0, { own := some (2) })])] 9 [1, 6, 18, 19, 20] [(148, 148)] o0 (g131_2 gx0 gx1 z N h))
theorem c131 {N} (gx0 gx1 : Bool) {x0 x1 r} (h : L_cand_Sites N x0 x1 = some r) : Con Tryz.prog 131 [.agg [iI x0.Version, sS gx0 (eSite gx0) x0.Sites], sS gx1 eHealth x1] [] (d131 r) [] :=
 ci ok mix Tryz.f131 fun z =>
 bd h fun v1 h0 h =>
 br h (fun h1 h =>
  z.j [(1, [(1, oR (d85 v1)), (3, oT)])] 5 [1, 2, 16] [(116, 116)] (o2 (c85 gx0 h0) (Le.tt h1)) (g131_1 gx0 gx1 z h)) fun h1 h =>
 bd h fun v2 h2 h =>
 z.j [(1, [(1, oR (d85 v1)), (3, oF), (5, oR (d86 v2))])] 5 [1, 2, 16] [(116, 116)] (o3 (c85 gx0 h0) (Le.ff h1) (c86 gx1 h2)) (g131_1 gx0 gx1 z h)
def L_edge_pinned_1 (N : Nat) (t0 : GEdge) (b140_0 b140_1 b140_2 b140_3 b140_4 b148_0 b148_1 b148_2 b148_3 b148_4 b148_5 : Int) (b148_6 : Bool) (b148_7 b148_8 b164_0 b164_1 b164_2 b164_3 b164_4 b164_5 : Int) (b164_6 : Bool) (b164_7 b164_8 : Int) (t44 : Bool) : Option (GEntry × Bool) :=
 bif t44 then
  some ((GEntry.mk (GFlow.mk b164_0 b164_1 b164_2 b164_3 b164_4) b164_5 b164_6 b164_7 b164_8), true)
 else
  (L_cand_Sites N t0.Config t0.Health).bind fun v1 =>
  (L_edge_Choose N v1.1 0 (GFlow.mk b140_0 b140_1 b140_2 b140_3 b140_4)).bind fun v2 =>
  some ((GEntry.mk (GFlow.mk b140_0 b140_1 b140_2 b140_3 b140_4) v2.1 false 0 0), v2.2)
def L_edge_pinned (N : Nat) (x0 : GEdge) (x1 : Int) (x2 : GFlow) : Option (GEntry × Bool) :=
 (L_cache_Find N x0.Flows x2 x1).bind fun v1 =>
 bif v1.2 then
  (L_conf_Has N x0.Config v1.1.To (-1)).bind fun v2 =>
  bif v2 then
   if 0 ≤ v1.1.To ∧ v1.1.To < ((x0.Health.length : Nat) : Int) then
   L_edge_pinned_1 N x0 x2.Src x2.Dst x2.Proto x2.Sport x2.Dport 0 0 0 0 0 0 false 0 0 v1.1.Flow.Src v1.1.Flow.Dst v1.1.Flow.Proto v1.1.Flow.Sport v1.1.Flow.Dport v1.1.To v1.1.Away v1.1.Phase v1.1.Used ((x0.Health.getD v1.1.To.toNat default).Up)
   else none
  else
   L_edge_pinned_1 N x0 x2.Src x2.Dst x2.Proto x2.Sport x2.Dport 0 0 0 0 0 0 false 0 0 v1.1.Flow.Src v1.1.Flow.Dst v1.1.Flow.Proto v1.1.Flow.Sport v1.1.Flow.Dport v1.1.To v1.1.Away v1.1.Phase v1.1.Used false
 else
  L_edge_pinned_1 N x0 x2.Src x2.Dst x2.Proto x2.Sport x2.Dport 0 0 0 0 0 0 false 0 0 v1.1.Flow.Src v1.1.Flow.Dst v1.1.Flow.Proto v1.1.Flow.Sport v1.1.Flow.Dport v1.1.To v1.1.Away v1.1.Phase v1.1.Used false
def d64 (r : GEntry × Bool) : D := .tup [.agg [iI r.1.Flow.Src, iI r.1.Flow.Dst, iI r.1.Flow.Proto, iI r.1.Flow.Sport, iI r.1.Flow.Dport, iI r.1.To, .bool r.1.Away, iI r.1.Phase, iI r.1.Used], .bool r.2]
theorem g64_1 {N} (gx0 : Bool) {r} (z : Z Tryz.prog ty 64 Tryz.f64 (Fi [] (d64 r) [])) {t0 b140_0 b140_1 b140_2 b140_3 b140_4 b148_0 b148_1 b148_2 b148_3 b148_4 b148_5 b148_6 b148_7 b148_8 b164_0 b164_1 b164_2 b164_3 b164_4 b164_5 b164_6 b164_7 b164_8 t44} (h : L_edge_pinned_1 N t0 b140_0 b140_1 b140_2 b140_3 b140_4 b148_0 b148_1 b148_2 b148_3 b148_4 b148_5 b148_6 b148_7 b148_8 b164_0 b164_1 b164_2 b164_3 b164_4 b164_5 b164_6 b164_7 b164_8 t44 = some r) : z.G [.c 27, .c 15] [(0, .ip gx0 [iI t0.Id, iI t0.Config.Version, sS true (eSite true) t0.Config.Sites, sS true eHealth t0.Health, sS true eEntry t0.Flows]), (5, .ptr 140 0), (6, .ptr 148 0), (8, .ptr 164 0), (44, .bool t44)] [qB 140 [iI b140_0, iI b140_1, iI b140_2, iI b140_3, iI b140_4], qB 148 [iI b148_0, iI b148_1, iI b148_2, iI b148_3, iI b148_4, iI b148_5, .bool b148_6, iI b148_7, iI b148_8], qB 164 [iI b164_0, iI b164_1, iI b164_2, iI b164_3, iI b164_4, iI b164_5, .bool b164_6, iI b164_7, iI b164_8]] :=
 by
  cases t44 with
  | true => exact brT h fun h => (
   z.r [] 3 o0 h)
  | false => exact brF h fun h => (
   bd h fun v1 h1 h =>
   bd h fun v2 h2 h =>
   z.r [(4, [(8, oR (d131 v1))]), (5, [(2, oR (d132 v2))])] 8 (o2 (c131 true true h1) (c132 true h2)) h)
theorem c64 {N} (gx0 : Bool) {x0 x1 x2 r} (h : L_edge_pinned N x0 x1 x2 = some r) : Con Tryz.prog 64 [.ip gx0 [iI x0.Id, iI x0.Config.Version, sS true (eSite true) x0.Config.Sites, sS true eHealth x0.Health, sS true eEntry x0.Flows], iI x1, .agg [iI x2.Src, iI x2.Dst, iI x2.Proto, iI x2.Sport, iI x2.Dport]] [] (d64 r) [] :=
 ci ok mix Tryz.f64 fun z =>
 bd h fun v1 h0 h =>
 z.s [(1, [(6, oR (d129 v1))])] 6 (o1 (c129 true h0)) <|
 br h (fun h1 h =>
  bd h fun v2 h2 h =>
  br h (fun h3 h =>
   ck h fun h4 h =>
   z.j [(2, [(1, oT), (8, oR (d130 v2)), (10, oT), (17, oC (.ip true [.bool ((x0.Health.getD v1.1.To.toNat default).Up), iI ((x0.Health.getD v1.1.To.toNat default).Count)]))])] 1 [0, 5, 6, 8, 44] [(140, 140), (148, 148), (164, 164)] (o5 (Le.tt h1) (c130 h2) (Le.tt h3) h4 (o1 (Le.iptl (g := true) (eL_at (xs := x0.Health) eHealth_len (ixl h4))))) (g64_1 gx0 z h)) fun h3 h =>
  z.j [(2, [(1, oT), (8, oR (d130 v2)), (10, oF)])] 1 [0, 5, 6, 8, 44] [(140, 140), (148, 148), (164, 164)] (o3 (Le.tt h1) (c130 h2) (Le.ff h3)) (g64_1 gx0 z h)) fun h1 h =>
 z.j [(2, [(1, oF)])] 1 [0, 5, 6, 8, 44] [(140, 140), (148, 148), (164, 164)] (o1 (Le.ff h1)) (g64_1 gx0 z h)
def L_edge_Take_1 (N : Nat) (t1 : Int) (t2 : ByteArray) (b124_0 b124_1 : Int) (b124_2 : (List GSite)) (b124_3 : (List GHealth)) (b124_4 : (List GEntry)) (b148_0 b148_1 : Int) (t24 : Bool) : Option (GEdge × GOut × Int) :=
 bif t24 then
  some ((GEdge.mk 0 (GConfig.mk 0 ([])) ([]) ([])), (GOut.mk ([]) ([])), 1900)
 else
  (L_edge_Copy N (GEdge.mk b124_0 (GConfig.mk b124_1 b124_2) b124_3 b124_4)).bind fun v1 =>
  (L_flow_Of N t2).bind fun v2 =>
  bif (v2.2.2 != 0) then
   (L_event_Of N v2.2.2).bind fun v3 =>
   (L_event_Teller_Alone N (Gevent_Teller.mk 0 0 v1.Id) v3 v2.1).bind fun v4 =>
   some (v1, v4, 0)
  else
   (L_edge_pinned N v1 t1 v2.1).bind fun v3 =>
   bif (!v3.2) then
    (L_event_Teller_Alone N (Gevent_Teller.mk 0 0 v1.Id) 5 v2.1).bind fun v4 =>
    some (v1, v4, 0)
   else
    (L_addr_Address N 0 0 v1.Id).bind fun v4 =>
    (L_addr_Address N 1 v3.1.To 0).bind fun v5 =>
    (L_edge_Sent N (Gevent_Teller.mk 0 0 v1.Id) (GOuter.mk v4.1 v5.1 1 0 0 t2) v1.Flows v3.1 v2.2.1.Flags t1).bind fun v6 =>
    some ((GEdge.mk v1.Id v1.Config v1.Health v6.1), v6.2, 0)
def L_edge_Take (N : Nat) (x0 : GEdge) (x1 : Int) (x2 : ByteArray) : Option (GEdge × GOut × Int) :=
 (L_edge_May N x0).bind fun v1 =>
 bif (!v1) then
  L_edge_Take_1 N x1 x2 x0.Id x0.Config.Version x0.Config.Sites x0.Health x0.Flows 0 0 true
 else
  (L_conf_Time N x1).bind fun v2 =>
  L_edge_Take_1 N x1 x2 x0.Id x0.Config.Version x0.Config.Sites x0.Health x0.Flows 0 0 (!v2)
def d19 (r : GEdge × GOut × Int) : D := .tup [.agg [iI r.1.Id, iI r.1.Config.Version, sS true (eSite true) r.1.Config.Sites, sS true eHealth r.1.Health, sS true eEntry r.1.Flows], .agg [sS true eStr r.2.1.Sent, sS true eEvent r.2.1.Events], iI r.2.2]
theorem g19_1 {N} (gx0 : Bool) {r} (z : Z Tryz.prog ty 19 Tryz.f19 (Fi [] (d19 r) [])) {t1 t2 b124_0 b124_1 b124_2 b124_3 b124_4 b148_0 b148_1 t24} (h : L_edge_Take_1 N t1 t2 b124_0 b124_1 b124_2 b124_3 b124_4 b148_0 b148_1 t24 = some r) : z.G [.c 13, .c 7] [(1, iI t1), (2, .str t2), (3, .ptr 124 0), (6, .ptr 148 0), (7, .ptr 156 0), (24, .bool t24)] [qB 124 [iI b124_0, iI b124_1, sS gx0 (eSite gx0) b124_2, sS gx0 eHealth b124_3, sS gx0 eEntry b124_4], qB 148 [iI b148_0, iI b148_1, .nils, .nils, .nils], qB 156 [.nils, .nils]] :=
 by
  cases t24 with
  | true => exact brT h fun h => (
   z.rl [] 3 (.tup [.agg [iI 0, iI 0, .nils, .nils, .nils], .agg [.nils, .nils], iI 1900]) o0 h (Le.tup ((.cons (Le.agg ((.cons (Le.of rfl) (.cons (Le.of rfl) (.cons (Le.nils (g := true)) (.cons (Le.nils (g := true)) (.cons (Le.nils (g := true)) .nil))))))) (.cons (Le.agg ((.cons (Le.nils (g := true)) (.cons (Le.nils (g := true)) .nil)))) (.cons (Le.of rfl) .nil))))))
  | false => exact brF h fun h => (
   bd h fun v1 h1 h =>
   bd h fun v2 h2 h =>
   z.s [(3, [(1, oR (d60 v1))]), (5, [(1, oR (d61 v2))])] 10 (o2 (c60 gx0 h1) (c61 h2)) <|
   br h (fun h3 h =>
    bd h fun v3 h4 h =>
    bd h fun v4 h5 h =>
    z.r [(6, [(1, oT)]), (7, [(3, oR (d63 v3)), (5, oR (d62 v4))])] 4 (o3 (Le.tt h3) (c63 h4) (c62 h5)) h) fun h3 h =>
   bd h fun v3 h4 h =>
   z.s [(6, [(1, oF)]), (8, [(2, oR (d64 v3))])] 7 (o2 (Le.ff h3) (c64 false h4)) <|
   br h (fun h5 h =>
    bd h fun v4 h6 h =>
    z.r [(9, [(1, oT)]), (10, [(3, oR (d62 v4))])] 4 (o2 (Le.tt h5) (c62 h6)) h) fun h5 h =>
   bd h fun v4 h6 h =>
   bd h fun v5 h7 h =>
   bd h fun v6 h8 h =>
   z.r [(9, [(1, oF)]), (12, [(2, oR (d65 v4))]), (13, [(2, oR (d65 v5))]), (15, [(8, oR (d66 v6))])] 15 (o4 (Le.ff h5) (c65 h6) (c65 h7) (c66 h8)) h)
theorem c19 {N} (gx0 : Bool) {x0 x1 x2 r} (h : L_edge_Take N x0 x1 x2 = some r) : Con Tryz.prog 19 [.agg [iI x0.Id, iI x0.Config.Version, sS gx0 (eSite gx0) x0.Config.Sites, sS gx0 eHealth x0.Health, sS gx0 eEntry x0.Flows], iI x1, .str x2] [] (d19 r) [] :=
 ci ok mix Tryz.f19 fun z =>
 bd h fun v1 h0 h =>
 br h (fun h1 h =>
  z.j [(1, [(1, oR (d26 v1)), (3, oT)])] 5 [1, 2, 3, 6, 7, 24] [(124, 124), (148, 148), (156, 156)] (o2 (c26 gx0 h0) (Le.tt h1)) (g19_1 gx0 z h)) fun h1 h =>
 bd h fun v2 h2 h =>
 z.j [(1, [(1, oR (d26 v1)), (3, oF), (5, oR (d59 v2))])] 5 [1, 2, 3, 6, 7, 24] [(124, 124), (148, 148), (156, 156)] (o3 (c26 gx0 h0) (Le.ff h1) (c59 h2)) (g19_1 gx0 z h)
def L_ref10_News_1 (N : Nat) : Nat → Int → (List GHealth) → Int → Option ((List GHealth))
  | 0, _, _, _ => none
  | fuel + 1, t0, b124, t4 =>
  bif (decide (t4 < t0)) then
   if growOk 16 (b124.length + 1) then
   L_ref10_News_1 N fuel t0 (b124 ++ [(GHealth.mk true 0)]) (IntKind.i64.wrap (t4 + 1))
   else none
  else
   some b124
def L_ref10_News (N : Nat) (x0 : Int) : Option ((List GHealth)) :=
 L_ref10_News_1 N N x0 ([]) 0
def d80 (r : (List GHealth)) : D := sS true eHealth r
theorem g80_1 {N} {r} (z : Z Tryz.prog ty 80 Tryz.f80 (Fi [] (d80 r) [])) (fuel) : ∀ {t0 b124 t4}, L_ref10_News_1 N fuel t0 b124 t4 = some r → z.G [.c 75, .l 75, .b 0, .c 15] [(0, iI t0), (3, rR 124 b124), (4, iI t4)] [pB 124 2 (eL eHealth b124)] := by
 induction fuel with
 | zero => intro t0 b124 t4 h; cases h
 | succ fuel ih =>
  intro t0 b124 t4 h
  exact
   br h (fun h0 h =>
    ck h fun h1 h =>
    z.j [(3, [(2, oT)]), (5, [(3, { cv := some (.ref 204 0 (b124 ++ [(GHealth.mk true 0)]).length (b124 ++ [(GHealth.mk true 0)]).length), cb := [(204, eL eHealth (b124 ++ [(GHealth.mk true 0)]))] })])] 11 [0, 3, 4] [(204, 124)] (o5 (Le.tt h0) (by decide : 1 * 2 ≤ 2) (ap_len (xs := b124) eHealth_len) h1 (o2 (Le.apr (b := 204) (by first | rfl | (simp only [List.length_append, List.length_take, List.length_drop]; omega) | simp : (b124 ++ [(GHealth.mk true 0)]).length = b124.length + 1)) (ap_one (xs := b124) eHealth_len (y := (GHealth.mk true 0)) (cs := [.bool true, iI 0]) rfl))) (ih h)) fun h0 h =>
   z.r [(3, [(2, oF)]), (6, [(1, { frz := true })])] 7 (o1 (Le.ff h0)) h
theorem c80 {N} {x0 r} (h : L_ref10_News N x0 = some r) : Con Tryz.prog 80 [iI x0] [] (d80 r) [] :=
 ci ok mix Tryz.f80 fun z =>
 z.j [(1, [(0, { own := some (2) })])] 9 [0, 3, 4] [(124, 124)] o0 (g80_1 z N h)
def L_law0_SameBacks_1 (N : Nat) : Nat → (List GBack) → (List GBack) → Int → Option (Bool)
  | 0, _, _, _ => none
  | fuel + 1, t0, t1, t5 =>
  bif (decide (t5 < (t0.length : Int))) then
   if 0 ≤ t5 ∧ t5 < ((t0.length : Nat) : Int) then
   if 0 ≤ t5 ∧ t5 < ((t1.length : Nat) : Int) then
   bif (!(((t0.getD t5.toNat default).Weight == (t1.getD t5.toNat default).Weight) && (((t0.getD t5.toNat default).Drain == (t1.getD t5.toNat default).Drain) && true))) then
    some false
   else
    L_law0_SameBacks_1 N fuel t0 t1 (IntKind.i64.wrap (t5 + 1))
   else none
   else none
  else
   some true
def L_law0_SameBacks (N : Nat) (x0 x1 : (List GBack)) : Option (Bool) :=
 bif ((x0.length : Int) != (x1.length : Int)) then
  some false
 else
  L_law0_SameBacks_1 N N x0 x1 0
def d145 (r : Bool) : D := .bool r
theorem g145_1 {N} (gx0 gx1 : Bool) {r} (z : Z Tryz.prog ty 145 Tryz.f145 (Fi [] (d145 r) [])) (fuel) : ∀ {t0 t1 t5}, L_law0_SameBacks_1 N fuel t0 t1 t5 = some r → z.G [.c 75, .l 75, .b 0, .c 15] [(0, sS gx0 eBack t0), (1, sS gx1 eBack t1), (5, iI t5)] [] := by
 induction fuel with
 | zero => intro t0 t1 t5 h; cases h
 | succ fuel ih =>
  intro t0 t1 t5 h
  exact
   br h (fun h0 h =>
    ck h fun h1 h =>
    ck h fun h2 h =>
    z.s [(4, [(3, oT)])] 8 (o1 (Le.tt h0)) <|
    br h (fun h3 h =>
     z.r [(6, [(2, oC (.ip gx0 [iI ((t0.getD t5.toNat default).Weight), .bool ((t0.getD t5.toNat default).Drain)])), (6, oC (.ip gx1 [iI ((t1.getD t5.toNat default).Weight), .bool ((t1.getD t5.toNat default).Drain)])), (8, oT)])] 4 (o5 h1 (Le.iptl (g := gx0) (eL_at (xs := t0) eBack_len (ixl h1))) h2 (Le.iptl (g := gx1) (eL_at (xs := t1) eBack_len (ixl h2))) (o1 (Le.tt h3))) h) fun h3 h =>
    z.j [(6, [(2, oC (.ip gx0 [iI ((t0.getD t5.toNat default).Weight), .bool ((t0.getD t5.toNat default).Drain)])), (6, oC (.ip gx1 [iI ((t1.getD t5.toNat default).Weight), .bool ((t1.getD t5.toNat default).Drain)])), (8, oF)])] 6 [0, 1, 5] [] (o5 h1 (Le.iptl (g := gx0) (eL_at (xs := t0) eBack_len (ixl h1))) h2 (Le.iptl (g := gx1) (eL_at (xs := t1) eBack_len (ixl h2))) (o1 (Le.ff h3))) (ih h)) fun h0 h =>
   z.r [(4, [(3, oF)])] 7 (o1 (Le.ff h0)) h
theorem c145 {N} (gx0 gx1 : Bool) {x0 x1 r} (h : L_law0_SameBacks N x0 x1 = some r) : Con Tryz.prog 145 [sS gx0 eBack x0, sS gx1 eBack x1] [] (d145 r) [] :=
 ci ok mix Tryz.f145 fun z =>
 br h (fun h0 h =>
  z.r [(1, [(4, oT)])] 8 (o1 (Le.tt h0)) h) fun h0 h =>
 z.j [(1, [(4, oF)])] 12 [0, 1, 5] [] (o1 (Le.ff h0)) (g145_1 gx0 gx1 z N h)
def L_law0_SameConfig_3 (N : Nat) (r2 : Int → (List GSite) → Int → (List GSite) → Int → Option (Bool)) (b116_0 : Int) (b116_1 : (List GSite)) (b124_0 : Int) (b124_1 : (List GSite)) (t5 : Int) (t65 : Bool) : Option (Bool) :=
 bif t65 then
  some false
 else
  r2 b116_0 b116_1 b124_0 b124_1 (IntKind.i64.wrap (t5 + 1))
def L_law0_SameConfig_2 (N : Nat) : Nat → Int → (List GSite) → Int → (List GSite) → Int → Option (Bool)
  | 0, _, _, _, _, _ => none
  | fuel + 1, b116_0, b116_1, b124_0, b124_1, t5 =>
  bif (decide (t5 < (b116_1.length : Int))) then
   if 0 ≤ t5 ∧ t5 < ((b116_1.length : Nat) : Int) then
   if 0 ≤ t5 ∧ t5 < ((b124_1.length : Nat) : Int) then
   bif ((b116_1.getD t5.toNat default).Weight != (b124_1.getD t5.toNat default).Weight) then
    L_law0_SameConfig_3 N (L_law0_SameConfig_2 N fuel) b116_0 b116_1 b124_0 b124_1 t5 true
   else
    bif (!((b116_1.getD t5.toNat default).Drain == (b124_1.getD t5.toNat default).Drain)) then
     L_law0_SameConfig_3 N (L_law0_SameConfig_2 N fuel) b116_0 b116_1 b124_0 b124_1 t5 true
    else
     bif ((b116_1.getD t5.toNat default).Cap != (b124_1.getD t5.toNat default).Cap) then
      L_law0_SameConfig_3 N (L_law0_SameConfig_2 N fuel) b116_0 b116_1 b124_0 b124_1 t5 true
     else
      (L_law0_SameBacks N ((b116_1.getD t5.toNat default).Backs) ((b124_1.getD t5.toNat default).Backs)).bind fun v1 =>
      L_law0_SameConfig_3 N (L_law0_SameConfig_2 N fuel) b116_0 b116_1 b124_0 b124_1 t5 (!v1)
   else none
   else none
  else
   some true
def L_law0_SameConfig_1 (N : Nat) (b116_0 : Int) (b116_1 : (List GSite)) (b124_0 : Int) (b124_1 : (List GSite)) (t21 : Bool) : Option (Bool) :=
 bif t21 then
  some false
 else
  L_law0_SameConfig_2 N N b116_0 b116_1 b124_0 b124_1 0
def L_law0_SameConfig (N : Nat) (x0 x1 : GConfig) : Option (Bool) :=
 bif (x0.Version != x1.Version) then
  L_law0_SameConfig_1 N x0.Version x0.Sites x1.Version x1.Sites true
 else
  L_law0_SameConfig_1 N x0.Version x0.Sites x1.Version x1.Sites ((x0.Sites.length : Int) != (x1.Sites.length : Int))
def d81 (r : Bool) : D := .bool r
theorem g81_3 {N} (gx0 gx1 : Bool) {r} (z : Z Tryz.prog ty 81 Tryz.f81 (Fi [] (d81 r) [])) {r2 : Int → (List GSite) → Int → (List GSite) → Int → Option (Bool)} (hr2 : ∀ {b116_0 b116_1 b124_0 b124_1 t5}, r2 b116_0 b116_1 b124_0 b124_1 t5 = some r → z.G [.c 75, .l 75, .b 0, .c 15] [(2, .ptr 116 0), (3, .ptr 124 0), (5, iI t5)] [qB 116 [iI b116_0, sS gx0 (eSite gx0) b116_1], qB 124 [iI b124_0, sS gx1 (eSite gx1) b124_1]]) {b116_0 b116_1 b124_0 b124_1 t5 t65} (h : L_law0_SameConfig_3 N r2 b116_0 b116_1 b124_0 b124_1 t5 t65 = some r) : z.G [.c 3659, .b 1, .c 459, .l 75, .b 0, .c 15] [(2, .ptr 116 0), (3, .ptr 124 0), (5, iI t5), (65, .bool t65)] [qB 116 [iI b116_0, sS gx0 (eSite gx0) b116_1], qB 124 [iI b124_0, sS gx1 (eSite gx1) b124_1]] :=
 by
  cases t65 with
  | true => exact brT h fun h => (
   z.r [] 3 o0 h)
  | false => exact brF h fun h => (
   z.j [] 5 [2, 3, 5] [(116, 116), (124, 124)] o0 (hr2 h))
theorem g81_2 {N} (gx0 gx1 : Bool) {r} (z : Z Tryz.prog ty 81 Tryz.f81 (Fi [] (d81 r) [])) (fuel) : ∀ {b116_0 b116_1 b124_0 b124_1 t5}, L_law0_SameConfig_2 N fuel b116_0 b116_1 b124_0 b124_1 t5 = some r → z.G [.c 75, .l 75, .b 0, .c 15] [(2, .ptr 116 0), (3, .ptr 124 0), (5, iI t5)] [qB 116 [iI b116_0, sS gx0 (eSite gx0) b116_1], qB 124 [iI b124_0, sS gx1 (eSite gx1) b124_1]] := by
 induction fuel with
 | zero => intro b116_0 b116_1 b124_0 b124_1 t5 h; cases h
 | succ fuel ih =>
  intro b116_0 b116_1 b124_0 b124_1 t5 h
  exact
   br h (fun h0 h =>
    ck h fun h1 h =>
    ck h fun h2 h =>
    z.s [(4, [(4, oT)]), (6, [(3, oC (.ip gx0 [iI ((b116_1.getD t5.toNat default).Weight), .bool ((b116_1.getD t5.toNat default).Drain), iI ((b116_1.getD t5.toNat default).Cap), sS gx0 eBack ((b116_1.getD t5.toNat default).Backs)])), (8, oC (.ip gx1 [iI ((b124_1.getD t5.toNat default).Weight), .bool ((b124_1.getD t5.toNat default).Drain), iI ((b124_1.getD t5.toNat default).Cap), sS gx1 eBack ((b124_1.getD t5.toNat default).Backs)]))])] 10 (o5 (Le.tt h0) h1 (Le.iptl (g := gx0) (eL_at (xs := b116_1) (eSite_len gx0) (ixl h1))) h2 (o1 (Le.iptl (g := gx1) (eL_at (xs := b124_1) (eSite_len gx1) (ixl h2))))) <|
    br h (fun h3 h =>
     z.j [(7, [(5, oT)])] 1 [2, 3, 5, 65] [(116, 116), (124, 124)] (o1 (Le.tt h3)) (g81_3 gx0 gx1 z @ih h)) fun h3 h =>
    br h (fun h4 h =>
     z.j [(7, [(5, oF), (12, oT)])] 1 [2, 3, 5, 65] [(116, 116), (124, 124)] (o2 (Le.ff h3) (Le.tt h4)) (g81_3 gx0 gx1 z @ih h)) fun h4 h =>
    br h (fun h5 h =>
     z.j [(7, [(5, oF), (12, oF), (19, oT)])] 1 [2, 3, 5, 65] [(116, 116), (124, 124)] (o3 (Le.ff h3) (Le.ff h4) (Le.tt h5)) (g81_3 gx0 gx1 z @ih h)) fun h5 h =>
    bd h fun v1 h6 h =>
    z.j [(7, [(5, oF), (12, oF), (19, oF), (24, oR (d145 v1))])] 1 [2, 3, 5, 65] [(116, 116), (124, 124)] (o4 (Le.ff h3) (Le.ff h4) (Le.ff h5) (c145 gx0 gx1 h6)) (g81_3 gx0 gx1 z @ih h)) fun h0 h =>
   z.r [(4, [(4, oF)])] 7 (o1 (Le.ff h0)) h
theorem g81_1 {N} (gx0 gx1 : Bool) {r} (z : Z Tryz.prog ty 81 Tryz.f81 (Fi [] (d81 r) [])) {b116_0 b116_1 b124_0 b124_1 t21} (h : L_law0_SameConfig_1 N b116_0 b116_1 b124_0 b124_1 t21 = some r) : z.G [.c 13, .c 7] [(2, .ptr 116 0), (3, .ptr 124 0), (21, .bool t21)] [qB 116 [iI b116_0, sS gx0 (eSite gx0) b116_1], qB 124 [iI b124_0, sS gx1 (eSite gx1) b124_1]] :=
 by
  cases t21 with
  | true => exact brT h fun h => (
   z.r [] 3 o0 h)
  | false => exact brF h fun h => (
   z.j [] 7 [2, 3, 5] [(116, 116), (124, 124)] o0 (g81_2 gx0 gx1 z N h))
theorem c81 {N} (gx0 gx1 : Bool) {x0 x1 r} (h : L_law0_SameConfig N x0 x1 = some r) : Con Tryz.prog 81 [.agg [iI x0.Version, sS gx0 (eSite gx0) x0.Sites], .agg [iI x1.Version, sS gx1 (eSite gx1) x1.Sites]] [] (d81 r) [] :=
 ci ok mix Tryz.f81 fun z =>
 br h (fun h0 h =>
  z.j [(1, [(5, oT)])] 5 [2, 3, 21] [(116, 116), (124, 124)] (o1 (Le.tt h0)) (g81_1 gx0 gx1 z h)) fun h0 h =>
 z.j [(1, [(5, oF)])] 5 [2, 3, 21] [(116, 116), (124, 124)] (o1 (Le.ff h0)) (g81_1 gx0 gx1 z h)
def L_law0_SameHealths_1 (N : Nat) : Nat → (List GHealth) → (List GHealth) → Int → Option (Bool)
  | 0, _, _, _ => none
  | fuel + 1, t0, t1, t5 =>
  bif (decide (t5 < (t0.length : Int))) then
   if 0 ≤ t5 ∧ t5 < ((t0.length : Nat) : Int) then
   if 0 ≤ t5 ∧ t5 < ((t1.length : Nat) : Int) then
   bif (!(((t0.getD t5.toNat default).Up == (t1.getD t5.toNat default).Up) && (((t0.getD t5.toNat default).Count == (t1.getD t5.toNat default).Count) && true))) then
    some false
   else
    L_law0_SameHealths_1 N fuel t0 t1 (IntKind.i64.wrap (t5 + 1))
   else none
   else none
  else
   some true
def L_law0_SameHealths (N : Nat) (x0 x1 : (List GHealth)) : Option (Bool) :=
 bif ((x0.length : Int) != (x1.length : Int)) then
  some false
 else
  L_law0_SameHealths_1 N N x0 x1 0
def d82 (r : Bool) : D := .bool r
theorem g82_1 {N} (gx0 gx1 : Bool) {r} (z : Z Tryz.prog ty 82 Tryz.f82 (Fi [] (d82 r) [])) (fuel) : ∀ {t0 t1 t5}, L_law0_SameHealths_1 N fuel t0 t1 t5 = some r → z.G [.c 75, .l 75, .b 0, .c 15] [(0, sS gx0 eHealth t0), (1, sS gx1 eHealth t1), (5, iI t5)] [] := by
 induction fuel with
 | zero => intro t0 t1 t5 h; cases h
 | succ fuel ih =>
  intro t0 t1 t5 h
  exact
   br h (fun h0 h =>
    ck h fun h1 h =>
    ck h fun h2 h =>
    z.s [(4, [(3, oT)])] 8 (o1 (Le.tt h0)) <|
    br h (fun h3 h =>
     z.r [(6, [(2, oC (.ip gx0 [.bool ((t0.getD t5.toNat default).Up), iI ((t0.getD t5.toNat default).Count)])), (6, oC (.ip gx1 [.bool ((t1.getD t5.toNat default).Up), iI ((t1.getD t5.toNat default).Count)])), (8, oT)])] 4 (o5 h1 (Le.iptl (g := gx0) (eL_at (xs := t0) eHealth_len (ixl h1))) h2 (Le.iptl (g := gx1) (eL_at (xs := t1) eHealth_len (ixl h2))) (o1 (Le.tt h3))) h) fun h3 h =>
    z.j [(6, [(2, oC (.ip gx0 [.bool ((t0.getD t5.toNat default).Up), iI ((t0.getD t5.toNat default).Count)])), (6, oC (.ip gx1 [.bool ((t1.getD t5.toNat default).Up), iI ((t1.getD t5.toNat default).Count)])), (8, oF)])] 6 [0, 1, 5] [] (o5 h1 (Le.iptl (g := gx0) (eL_at (xs := t0) eHealth_len (ixl h1))) h2 (Le.iptl (g := gx1) (eL_at (xs := t1) eHealth_len (ixl h2))) (o1 (Le.ff h3))) (ih h)) fun h0 h =>
   z.r [(4, [(3, oF)])] 7 (o1 (Le.ff h0)) h
theorem c82 {N} (gx0 gx1 : Bool) {x0 x1 r} (h : L_law0_SameHealths N x0 x1 = some r) : Con Tryz.prog 82 [sS gx0 eHealth x0, sS gx1 eHealth x1] [] (d82 r) [] :=
 ci ok mix Tryz.f82 fun z =>
 br h (fun h0 h =>
  z.r [(1, [(4, oT)])] 8 (o1 (Le.tt h0)) h) fun h0 h =>
 z.j [(1, [(4, oF)])] 12 [0, 1, 5] [] (o1 (Le.ff h0)) (g82_1 gx0 gx1 z N h)
def L_law0_SameEntrys_1 (N : Nat) : Nat → (List GEntry) → (List GEntry) → Int → Option (Bool)
  | 0, _, _, _ => none
  | fuel + 1, t0, t1, t5 =>
  bif (decide (t5 < (t0.length : Int))) then
   if 0 ≤ t5 ∧ t5 < ((t0.length : Nat) : Int) then
   if 0 ≤ t5 ∧ t5 < ((t1.length : Nat) : Int) then
   bif (!((((t0.getD t5.toNat default).Flow).Src == ((t1.getD t5.toNat default).Flow).Src) && ((((t0.getD t5.toNat default).Flow).Dst == ((t1.getD t5.toNat default).Flow).Dst) && ((((t0.getD t5.toNat default).Flow).Proto == ((t1.getD t5.toNat default).Flow).Proto) && ((((t0.getD t5.toNat default).Flow).Sport == ((t1.getD t5.toNat default).Flow).Sport) && ((((t0.getD t5.toNat default).Flow).Dport == ((t1.getD t5.toNat default).Flow).Dport) && (((t0.getD t5.toNat default).To == (t1.getD t5.toNat default).To) && (((t0.getD t5.toNat default).Away == (t1.getD t5.toNat default).Away) && (((t0.getD t5.toNat default).Phase == (t1.getD t5.toNat default).Phase) && (((t0.getD t5.toNat default).Used == (t1.getD t5.toNat default).Used) && true)))))))))) then
    some false
   else
    L_law0_SameEntrys_1 N fuel t0 t1 (IntKind.i64.wrap (t5 + 1))
   else none
   else none
  else
   some true
def L_law0_SameEntrys (N : Nat) (x0 x1 : (List GEntry)) : Option (Bool) :=
 bif ((x0.length : Int) != (x1.length : Int)) then
  some false
 else
  L_law0_SameEntrys_1 N N x0 x1 0
def d57 (r : Bool) : D := .bool r
theorem g57_1 {N} (gx0 gx1 : Bool) {r} (z : Z Tryz.prog ty 57 Tryz.f57 (Fi [] (d57 r) [])) (fuel) : ∀ {t0 t1 t5}, L_law0_SameEntrys_1 N fuel t0 t1 t5 = some r → z.G [.c 75, .l 75, .b 0, .c 15] [(0, sS gx0 eEntry t0), (1, sS gx1 eEntry t1), (5, iI t5)] [] := by
 induction fuel with
 | zero => intro t0 t1 t5 h; cases h
 | succ fuel ih =>
  intro t0 t1 t5 h
  exact
   br h (fun h0 h =>
    ck h fun h1 h =>
    ck h fun h2 h =>
    z.s [(4, [(3, oT)])] 8 (o1 (Le.tt h0)) <|
    br h (fun h3 h =>
     z.r [(6, [(2, oC (.ip gx0 [iI (((t0.getD t5.toNat default).Flow).Src), iI (((t0.getD t5.toNat default).Flow).Dst), iI (((t0.getD t5.toNat default).Flow).Proto), iI (((t0.getD t5.toNat default).Flow).Sport), iI (((t0.getD t5.toNat default).Flow).Dport), iI ((t0.getD t5.toNat default).To), .bool ((t0.getD t5.toNat default).Away), iI ((t0.getD t5.toNat default).Phase), iI ((t0.getD t5.toNat default).Used)])), (6, oC (.ip gx1 [iI (((t1.getD t5.toNat default).Flow).Src), iI (((t1.getD t5.toNat default).Flow).Dst), iI (((t1.getD t5.toNat default).Flow).Proto), iI (((t1.getD t5.toNat default).Flow).Sport), iI (((t1.getD t5.toNat default).Flow).Dport), iI ((t1.getD t5.toNat default).To), .bool ((t1.getD t5.toNat default).Away), iI ((t1.getD t5.toNat default).Phase), iI ((t1.getD t5.toNat default).Used)])), (8, oT)])] 4 (o5 h1 (Le.iptl (g := gx0) (eL_at (xs := t0) eEntry_len (ixl h1))) h2 (Le.iptl (g := gx1) (eL_at (xs := t1) eEntry_len (ixl h2))) (o1 (Le.tt h3))) h) fun h3 h =>
    z.j [(6, [(2, oC (.ip gx0 [iI (((t0.getD t5.toNat default).Flow).Src), iI (((t0.getD t5.toNat default).Flow).Dst), iI (((t0.getD t5.toNat default).Flow).Proto), iI (((t0.getD t5.toNat default).Flow).Sport), iI (((t0.getD t5.toNat default).Flow).Dport), iI ((t0.getD t5.toNat default).To), .bool ((t0.getD t5.toNat default).Away), iI ((t0.getD t5.toNat default).Phase), iI ((t0.getD t5.toNat default).Used)])), (6, oC (.ip gx1 [iI (((t1.getD t5.toNat default).Flow).Src), iI (((t1.getD t5.toNat default).Flow).Dst), iI (((t1.getD t5.toNat default).Flow).Proto), iI (((t1.getD t5.toNat default).Flow).Sport), iI (((t1.getD t5.toNat default).Flow).Dport), iI ((t1.getD t5.toNat default).To), .bool ((t1.getD t5.toNat default).Away), iI ((t1.getD t5.toNat default).Phase), iI ((t1.getD t5.toNat default).Used)])), (8, oF)])] 6 [0, 1, 5] [] (o5 h1 (Le.iptl (g := gx0) (eL_at (xs := t0) eEntry_len (ixl h1))) h2 (Le.iptl (g := gx1) (eL_at (xs := t1) eEntry_len (ixl h2))) (o1 (Le.ff h3))) (ih h)) fun h0 h =>
   z.r [(4, [(3, oF)])] 7 (o1 (Le.ff h0)) h
theorem c57 {N} (gx0 gx1 : Bool) {x0 x1 r} (h : L_law0_SameEntrys N x0 x1 = some r) : Con Tryz.prog 57 [sS gx0 eEntry x0, sS gx1 eEntry x1] [] (d57 r) [] :=
 ci ok mix Tryz.f57 fun z =>
 br h (fun h0 h =>
  z.r [(1, [(4, oT)])] 8 (o1 (Le.tt h0)) h) fun h0 h =>
 z.j [(1, [(4, oF)])] 12 [0, 1, 5] [] (o1 (Le.ff h0)) (g57_1 gx0 gx1 z N h)
def L_law0_SameEdge_1 (N : Nat) (t4 : Bool) : Option (Bool) :=
 some t4
def L_law0_SameEdge (N : Nat) (x0 x1 : GEdge) : Option (Bool) :=
 bif (x0.Id == x1.Id) then
  (L_law0_SameConfig N x0.Config x1.Config).bind fun v1 =>
  bif v1 then
   (L_law0_SameHealths N x0.Health x1.Health).bind fun v2 =>
   bif v2 then
    (L_law0_SameEntrys N x0.Flows x1.Flows).bind fun v3 =>
    L_law0_SameEdge_1 N v3
   else
    L_law0_SameEdge_1 N false
  else
   L_law0_SameEdge_1 N false
 else
  L_law0_SameEdge_1 N false
def d23 (r : Bool) : D := .bool r
theorem g23_1 {N} (gx0 gx1 : Bool) {r} (z : Z Tryz.prog ty 23 Tryz.f23 (Fi [] (d23 r) [])) {t4} (h : L_law0_SameEdge_1 N t4 = some r) : z.G [.c 7] [(4, .bool t4)] [] :=
 z.r [] 0 o0 h
theorem c23 {N} (gx0 gx1 : Bool) {x0 x1 r} (h : L_law0_SameEdge N x0 x1 = some r) : Con Tryz.prog 23 [.agg [iI x0.Id, iI x0.Config.Version, sS gx0 (eSite gx0) x0.Config.Sites, sS gx0 eHealth x0.Health, sS gx0 eEntry x0.Flows], .agg [iI x1.Id, iI x1.Config.Version, sS gx1 (eSite gx1) x1.Config.Sites, sS gx1 eHealth x1.Health, sS gx1 eEntry x1.Flows]] [] (d23 r) [] :=
 ci ok mix Tryz.f23 fun z =>
 br h (fun h0 h =>
  bd h fun v1 h1 h =>
  br h (fun h2 h =>
   bd h fun v2 h3 h =>
   br h (fun h4 h =>
    bd h fun v3 h5 h =>
    z.j [(1, [(5, oT), (10, oR (d81 v1)), (12, oT), (17, oR (d82 v2)), (19, oT), (24, oR (d57 v3))])] 4 [4] [] (o5 (Le.tt h0) (c81 gx0 gx1 h1) (Le.tt h2) (c82 gx0 gx1 h3) (o2 (Le.tt h4) (c57 gx0 gx1 h5))) (g23_1 gx0 gx1 z h)) fun h4 h =>
   z.j [(1, [(5, oT), (10, oR (d81 v1)), (12, oT), (17, oR (d82 v2)), (19, oF)])] 4 [4] [] (o5 (Le.tt h0) (c81 gx0 gx1 h1) (Le.tt h2) (c82 gx0 gx1 h3) (o1 (Le.ff h4))) (g23_1 gx0 gx1 z h)) fun h2 h =>
  z.j [(1, [(5, oT), (10, oR (d81 v1)), (12, oF)])] 4 [4] [] (o3 (Le.tt h0) (c81 gx0 gx1 h1) (Le.ff h2)) (g23_1 gx0 gx1 z h)) fun h0 h =>
 z.j [(1, [(5, oF)])] 4 [4] [] (o1 (Le.ff h0)) (g23_1 gx0 gx1 z h)
end Go.Proofs.YtmhlgpdoedbedaaGreat.Lf
