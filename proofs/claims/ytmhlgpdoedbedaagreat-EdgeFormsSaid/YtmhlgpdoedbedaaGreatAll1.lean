/- What functions compute, and that they do. -/
import Derived.Test.YtmhlgpdoedbedaaGreatAll0
namespace Go.Proofs.YtmhlgpdoedbedaaGreat.Lf
set_option linter.unusedVariables false
set_option linter.unusedSimpArgs false
set_option maxRecDepth 20000
open Go Go.RowKit Go.Proofs Go.Proofs.YtmhlgpdoedbedaaGreat.Sv
/-! ### wharfage/maglev.May -/
def L_maglev_May_2 (N : Nat) (r1 : (List GCandidate) → (List GCandidate) → Int → Int → Option (Bool)) (t0 t5 : (List GCandidate)) (t6 t7 : Int) (t36 : Bool) : Option (Bool) :=
  bif t36 then
    some false
  else
    r1 t0 t5 t6 (IntKind.i64.wrap (t7 + 1))
def L_maglev_May_1 (N : Nat) : Nat → (List GCandidate) → (List GCandidate) → Int → Int → Option (Bool)
  | 0, _, _, _, _ => none
  | fuel + 1, t0, t5, t6, t7 =>
    bif (decide (t7 < t6)) then
      if 0 ≤ t7 ∧ t7 < ((t5.length : Nat) : Int) then
      (L_ip_In N ((t5.getD t7.toNat default).Id) 8).bind fun v1 =>
      bif (!v1) then
        L_maglev_May_2 N (L_maglev_May_1 N fuel) t0 t5 t6 t7 true
      else
        (L_maglev_Weight N ((t5.getD t7.toNat default).Weight)).bind fun v2 =>
        bif (!v2) then
          L_maglev_May_2 N (L_maglev_May_1 N fuel) t0 t5 t6 t7 true
        else
          bif (decide (t7 > 0)) then
            if 0 ≤ (IntKind.i64.wrap (t7 - 1)) ∧ (IntKind.i64.wrap (t7 - 1)) < ((t0.length : Nat) : Int) then
            via ((t0.getD (IntKind.i64.wrap (t7 - 1)).toNat default).Id : Int) fun v3 =>
            L_maglev_May_2 N (L_maglev_May_1 N fuel) t0 t5 t6 t7 (decide (v3 ≥ (t5.getD t7.toNat default).Id))
            else none
          else
            L_maglev_May_2 N (L_maglev_May_1 N fuel) t0 t5 t6 t7 false
      else none
    else
      some (decide ((t0.length : Int) ≤ 16))
def L_maglev_May (N : Nat) (x0 : (List GCandidate)) : Option (Bool) :=
  L_maglev_May_1 N N x0 x0 (x0.length : Int) 0
def d_maglev_May (r : Bool) : D := .bool r
theorem g_maglev_May_2 (gx0 : Bool) {c : Cx} (hc : Is c Tryz.prog ty 228 41) (N : Nat) {r : Bool} (hfin : c.Fin [] (d_maglev_May r) []) (r1 : (List GCandidate) → (List GCandidate) → Int → Int → Option (Bool)) (hr1 : ∀ (t0 t5 : (List GCandidate)) (t6 t7 : Int), r1 t0 t5 t6 t7 = some r → c.Goes (items (bodyOf Tryz.f228) [.c 37, .l 37, .b 0, .c 7]) ⟨[(0, .sl gx0 (eL eCandidate t0) t0.length t0.length), (5, .sl gx0 (eL eCandidate t5) t5.length t5.length), (6, .int .i64 t6), (7, .int .i64 t7)], []⟩) (t0 t5 : (List GCandidate)) (t6 t7 : Int) (t36 : Bool) (h : L_maglev_May_2 N r1 t0 t5 t6 t7 t36 = some r) : c.Goes (items (bodyOf Tryz.f228) [.c 3685, .b 1, .c 485, .l 37, .b 0, .c 7]) ⟨[(0, .sl gx0 (eL eCandidate t0) t0.length t0.length), (5, .sl gx0 (eL eCandidate t5) t5.length t5.length), (6, .int .i64 t6), (7, .int .i64 t7), (36, .bool t36)], []⟩ := by
  unfold L_maglev_May_2 at h
  rcases brk h with ⟨h0, k0⟩ | ⟨h0, k0⟩
  · subst h0
    replace h := k0
    exact hc.rt hfin (fn := Tryz.f228) (by kernel_rfl) (orc := []) (m := 3) (by kernel_rfl) .nil h Le.rfl rfl
  · subst h0
    replace h := k0
    exact hc.jump (orc := []) (m := 5) (kt := [0, 5, 6, 7]) (kh := []) (by kernel_rfl) .nil (hr1 t0 t5 t6 (IntKind.i64.wrap (t7 + 1)) h)

theorem g_maglev_May_1 (gx0 : Bool) {c : Cx} (hc : Is c Tryz.prog ty 228 41) (N : Nat) {r : Bool} (hfin : c.Fin [] (d_maglev_May r) []) : ∀ (fuel : Nat) (t0 t5 : (List GCandidate)) (t6 t7 : Int), L_maglev_May_1 N fuel t0 t5 t6 t7 = some r → c.Goes (items (bodyOf Tryz.f228) [.c 37, .l 37, .b 0, .c 7]) ⟨[(0, .sl gx0 (eL eCandidate t0) t0.length t0.length), (5, .sl gx0 (eL eCandidate t5) t5.length t5.length), (6, .int .i64 t6), (7, .int .i64 t7)], []⟩ := by
  intro fuel
  induction fuel with
  | zero => intro t0 t5 t6 t7 h; simp [L_maglev_May_1] at h
  | succ fuel ih =>
    intro t0 t5 t6 t7 h
    unfold L_maglev_May_1 at h
    rcases brk h with ⟨h0, h⟩ | ⟨h0, h⟩
    · obtain ⟨h1, h⟩ := chk h
      obtain ⟨v1, h2, h⟩ := bind_of h
      rcases brk h with ⟨h3, h⟩ | ⟨h3, h⟩
      · exact hc.jump (orc := [(2, [(0, oT)]), (3, [(1, oC (.ip gx0 [.int .i64 ((t5.getD t7.toNat default).Id), .int .i64 ((t5.getD t7.toNat default).Weight)]))]), (4, [(2, oR (d_ip_In v1)), (4, oT)])]) (m := 11) (kt := [0, 5, 6, 7, 36]) (kh := []) (by kernel_rfl) (.cons (Le.tt h0) (.cons (h1) (.cons (Le.iptl (g := gx0) (eL_at (xs := t5) eCandidate_len (ixl h1))) (.cons (c_ip_In N ((t5.getD t7.toNat default).Id) 8 h2) (.cons (Le.tt h3) .nil))))) (g_maglev_May_2 gx0 hc N hfin (L_maglev_May_1 N fuel) ih t0 t5 t6 t7 true h)
      · obtain ⟨v2, h4, h⟩ := bind_of h
        rcases brk h with ⟨h5, h⟩ | ⟨h5, h⟩
        · exact hc.jump (orc := [(2, [(0, oT)]), (3, [(1, oC (.ip gx0 [.int .i64 ((t5.getD t7.toNat default).Id), .int .i64 ((t5.getD t7.toNat default).Weight)]))]), (4, [(2, oR (d_ip_In v1)), (4, oF), (7, oR (d_maglev_Weight v2)), (10, oT)])]) (m := 11) (kt := [0, 5, 6, 7, 36]) (kh := []) (by kernel_rfl) (.cons (Le.tt h0) (.cons (h1) (.cons (Le.iptl (g := gx0) (eL_at (xs := t5) eCandidate_len (ixl h1))) (.cons (c_ip_In N ((t5.getD t7.toNat default).Id) 8 h2) (.cons (Le.ff h3) (.cons (c_maglev_Weight N ((t5.getD t7.toNat default).Weight) h4) (.cons (Le.tt h5) .nil))))))) (g_maglev_May_2 gx0 hc N hfin (L_maglev_May_1 N fuel) ih t0 t5 t6 t7 true h)
        · rcases brk h with ⟨h6, h⟩ | ⟨h6, h⟩
          · obtain ⟨h7, h⟩ := chk h
            obtain ⟨v3, h8, h⟩ := via_some h
            exact hc.jump (orc := [(2, [(0, oT)]), (3, [(1, oC (.ip gx0 [.int .i64 ((t5.getD t7.toNat default).Id), .int .i64 ((t5.getD t7.toNat default).Weight)]))]), (4, [(2, oR (d_ip_In v1)), (4, oF), (7, oR (d_maglev_Weight v2)), (10, oF), (13, oT), (17, oC (.ip gx0 [.int .i64 ((t0.getD (IntKind.i64.wrap (t7 - 1)).toNat default).Id), .int .i64 ((t0.getD (IntKind.i64.wrap (t7 - 1)).toNat default).Weight)])), (19, oC (.int .i64 v3))])]) (m := 11) (kt := [0, 5, 6, 7, 36]) (kh := []) (by kernel_rfl) (.cons (Le.tt h0) (.cons (h1) (.cons (Le.iptl (g := gx0) (eL_at (xs := t5) eCandidate_len (ixl h1))) (.cons (c_ip_In N ((t5.getD t7.toNat default).Id) 8 h2) (.cons (Le.ff h3) (.cons (c_maglev_Weight N ((t5.getD t7.toNat default).Weight) h4) (.cons (Le.ff h5) (.cons (Le.tt h6) (.cons (h7) (.cons (Le.iptl (g := gx0) (eL_at (xs := t0) eCandidate_len (ixl h7))) (.cons ((List.cons_ne_nil _ _ : ([.int .i64 ((t0.getD (IntKind.i64.wrap (t7 - 1)).toNat default).Id), .int .i64 ((t0.getD (IntKind.i64.wrap (t7 - 1)).toNat default).Weight)] : List D) ≠ [])) (.cons (Le.int (k := .i64) h8) .nil)))))))))))) (g_maglev_May_2 gx0 hc N hfin (L_maglev_May_1 N fuel) ih t0 t5 t6 t7 (decide (v3 ≥ (t5.getD t7.toNat default).Id)) h)
          · exact hc.jump (orc := [(2, [(0, oT)]), (3, [(1, oC (.ip gx0 [.int .i64 ((t5.getD t7.toNat default).Id), .int .i64 ((t5.getD t7.toNat default).Weight)]))]), (4, [(2, oR (d_ip_In v1)), (4, oF), (7, oR (d_maglev_Weight v2)), (10, oF), (13, oF)])]) (m := 11) (kt := [0, 5, 6, 7, 36]) (kh := []) (by kernel_rfl) (.cons (Le.tt h0) (.cons (h1) (.cons (Le.iptl (g := gx0) (eL_at (xs := t5) eCandidate_len (ixl h1))) (.cons (c_ip_In N ((t5.getD t7.toNat default).Id) 8 h2) (.cons (Le.ff h3) (.cons (c_maglev_Weight N ((t5.getD t7.toNat default).Weight) h4) (.cons (Le.ff h5) (.cons (Le.ff h6) .nil)))))))) (g_maglev_May_2 gx0 hc N hfin (L_maglev_May_1 N fuel) ih t0 t5 t6 t7 false h)
    · exact hc.rt hfin (fn := Tryz.f228) (by kernel_rfl) (orc := [(2, [(0, oF)])]) (m := 7) (by kernel_rfl) (.cons (Le.ff h0) .nil) h Le.rfl rfl

theorem g_maglev_May_0 (gx0 : Bool) {c : Cx} (hc : Is c Tryz.prog ty 228 41) (N : Nat) {r : Bool} (hfin : c.Fin [] (d_maglev_May r) []) (x0 : (List GCandidate)) (h : L_maglev_May N x0 = some r) : c.Goes (items (bodyOf Tryz.f228) [.c 1]) ⟨[(0, .sl gx0 (eL eCandidate x0) x0.length x0.length)], []⟩ := by
  unfold L_maglev_May at h
  exact hc.jump (orc := []) (m := 7) (kt := [0, 5, 6, 7]) (kh := []) (by kernel_rfl) .nil (g_maglev_May_1 gx0 hc N hfin N x0 x0 (x0.length : Int) 0 h)

theorem c_maglev_May (N : Nat) (gx0 : Bool) (x0 : (List GCandidate)) {r : Bool} (h : L_maglev_May N x0 = some r) : Con Tryz.prog 228 [.sl gx0 (eL eCandidate x0) x0.length x0.length] [] (d_maglev_May r) [] :=
  con_in ok mix (fn := Tryz.f228) (by kernel_rfl) (by kernel_rfl) fun hc hfin => g_maglev_May_0 gx0 hc N hfin x0 h
/-! ### wharfage/maglev.repeat[int] -/
def L_maglev_repeat_int_1 (N : Nat) : Nat → Int → (List Int) → Int → Int → Option ((List Int))
  | 0, _, _, _, _ => none
  | fuel + 1, t0, b164, t10, t11 =>
    bif (decide (t11 < t10)) then
      if 0 ≤ t11 ∧ t11 < ((b164.length : Nat) : Int) then
      L_maglev_repeat_int_1 N fuel t0 (b164.set t11.toNat t0) t10 (IntKind.i64.wrap (t11 + 1))
      else none
    else
      some b164
def L_maglev_repeat_int (N : Nat) (x0 x1 : Int) : Option ((List Int)) :=
  if 0 ≤ x1 ∧ x1 ≤ x1 ∧ ((8 : Nat) : Int) * x1 ≤ 140737488355328 ∧ x1 ≤ 4611686018427387904 then
  via (((List.replicate (Int.toNat x1) (0 : Int)).length : Int) : Int) fun v1 =>
  L_maglev_repeat_int_1 N N x0 (List.replicate (Int.toNat x1) (0 : Int)) v1 0
  else none
def d_maglev_repeat_int (r : (List Int)) : D := .sl true (eL (eInt .i64) r) r.length r.length
theorem g_maglev_repeat_int_1 {c : Cx} (hc : Is c Tryz.prog ty 229 20) (N : Nat) {r : (List Int)} (hfin : c.Fin [] (d_maglev_repeat_int r) []) : ∀ (fuel : Nat) (t0 : Int) (b164 : (List Int)) (t10 t11 : Int), L_maglev_repeat_int_1 N fuel t0 b164 t10 t11 = some r → c.Goes (items (bodyOf Tryz.f229) [.c 75, .l 75, .b 0, .c 15]) ⟨[(0, .int .i64 t0), (5, .ref 164 0 b164.length b164.length), (10, .int .i64 t10), (11, .int .i64 t11)], [(164, some ⟨true, 1, (eL (eInt .i64) b164)⟩)]⟩ := by
  intro fuel
  induction fuel with
  | zero => intro t0 b164 t10 t11 h; simp [L_maglev_repeat_int_1] at h
  | succ fuel ih =>
    intro t0 b164 t10 t11 h
    unfold L_maglev_repeat_int_1 at h
    rcases brk h with ⟨h0, h⟩ | ⟨h0, h⟩
    · obtain ⟨h1, h⟩ := chk h
      exact hc.jumpL (orc := [(3, [(0, oT)]), (5, [(3, oC (.ptr 164 (t11.toNat * 1 + 0))), (4, { cb := [(164, eL (eInt .i64) (b164.set t11.toNat t0))] })])]) (m := 13) (kt := [0, 5, 10, 11]) (kh := [(164, 164)]) (by kernel_rfl) (.cons (Le.tt h0) (.cons (h1) (.cons (Le.pt (b := 164) (k := t11.toNat * 1)) (.cons (st_need (xs := b164) (eInt_len .i64) (ixl h1) (o := 0) (k := 1) (vs := [.int .i64 t0]) (p := true) (by decide) rfl rfl) (.cons (st_set (xs := b164) (eInt_len .i64) (ixl h1) (o := 0) (vs := [.int .i64 t0]) (y := t0) (Nat.le_of_ble_eq_true rfl) rfl) .nil))))) (.cons (Le.rfl) (.cons (Le.rfs (b := 164) (by first | rfl | omega | (simp only [List.length_append, List.length_take, List.length_drop]; omega) | simp : b164.length = (b164.set t11.toNat t0).length) (by first | rfl | omega | (simp only [List.length_append, List.length_take, List.length_drop]; omega) | simp : b164.length = (b164.set t11.toNat t0).length)) (.cons (Le.rfl) (.cons (Le.rfl) .nil)))) (ih t0 (b164.set t11.toNat t0) t10 (IntKind.i64.wrap (t11 + 1)) h)
    · exact hc.rt hfin (fn := Tryz.f229) (by kernel_rfl) (orc := [(3, [(0, oF)]), (7, [(1, { frz := true })])]) (m := 7) (by kernel_rfl) (.cons (Le.ff h0) .nil) h Le.rfl rfl

theorem g_maglev_repeat_int_0 {c : Cx} (hc : Is c Tryz.prog ty 229 20) (N : Nat) {r : (List Int)} (hfin : c.Fin [] (d_maglev_repeat_int r) []) (x0 x1 : Int) (h : L_maglev_repeat_int N x0 x1 = some r) : c.Goes (items (bodyOf Tryz.f229) [.c 1]) ⟨[(0, .int .i64 x0), (1, .int .i64 x1)], []⟩ := by
  unfold L_maglev_repeat_int at h
  obtain ⟨h0, h⟩ := chk h
  obtain ⟨v1, h1, h⟩ := via_some h
  exact hc.jump (orc := [(1, [(1, { cv := some (.ref 164 0 (List.replicate (Int.toNat x1) (0 : Int)).length (List.replicate (Int.toNat x1) (0 : Int)).length), cb := [(164, eL (eInt .i64) (List.replicate (Int.toNat x1) (0 : Int)))] })]), (2, [(1, oC (.int .i64 v1))])]) (m := 9) (kt := [0, 5, 10, 11]) (kh := [(164, 164)]) (by kernel_rfl) (.cons (h0) (.cons (Le.apr (b := 164) (by first | rfl | simp : (List.replicate (Int.toNat x1) (0 : Int)).length = (Int.toNat x1))) (.cons (repD_eq (e := (eInt .i64)) (z := 0) (cs := [.int .i64 0]) rfl (Int.toNat x1)) (.cons (Le.int (k := .i64) h1) .nil)))) (g_maglev_repeat_int_1 hc N hfin N x0 (List.replicate (Int.toNat x1) (0 : Int)) v1 0 h)

theorem c_maglev_repeat_int (N : Nat) (x0 x1 : Int) {r : (List Int)} (h : L_maglev_repeat_int N x0 x1 = some r) : Con Tryz.prog 229 [.int .i64 x0, .int .i64 x1] [] (d_maglev_repeat_int r) [] :=
  con_in ok mix (fn := Tryz.f229) (by kernel_rfl) (by kernel_rfl) fun hc hfin => g_maglev_repeat_int_0 hc N hfin x0 x1 h
/-! ### wharfage/hash.Mix -/
def L_hash_Mix_1 (N : Nat) (t0 t1 : Int) (t13 : Bool) : Option (Int × Int) :=
  bif t13 then
    some (0, 800)
  else
    (L_hash_mix N (IntKind.u32.wrap t0) (IntKind.u32.wrap t1)).bind fun v1 =>
    some ((IntKind.i64.wrap v1), 0)
def L_hash_Mix (N : Nat) (x0 x1 : Int) : Option (Int × Int) :=
  (L_ip_In N x0 32).bind fun v1 =>
  bif (!v1) then
    L_hash_Mix_1 N x0 x1 true
  else
    (L_ip_In N x1 32).bind fun v2 =>
    L_hash_Mix_1 N x0 x1 (!v2)
def d_hash_Mix (r : Int × Int) : D := .tup [.int .i64 r.1, .int .i64 r.2]
theorem g_hash_Mix_1 {c : Cx} (hc : Is c Tryz.prog ty 234 20) (N : Nat) {r : Int × Int} (hfin : c.Fin [] (d_hash_Mix r) []) (t0 t1 : Int) (t13 : Bool) (h : L_hash_Mix_1 N t0 t1 t13 = some r) : c.Goes (items (bodyOf Tryz.f234) [.c 13, .c 7]) ⟨[(0, .int .i64 t0), (1, .int .i64 t1), (13, .bool t13)], []⟩ := by
  unfold L_hash_Mix_1 at h
  rcases brk h with ⟨h0, k0⟩ | ⟨h0, k0⟩
  · subst h0
    replace h := k0
    exact hc.rt hfin (fn := Tryz.f234) (by kernel_rfl) (orc := []) (m := 3) (by kernel_rfl) .nil h Le.rfl rfl
  · subst h0
    replace h := k0
    obtain ⟨v1, h1, h⟩ := bind_of h
    exact hc.rt hfin (fn := Tryz.f234) (by kernel_rfl) (orc := [(3, [(4, oR (d_hash_mix v1))])]) (m := 4) (by kernel_rfl) (.cons (c_hash_mix N (IntKind.u32.wrap t0) (IntKind.u32.wrap t1) h1) .nil) h Le.rfl rfl

theorem g_hash_Mix_0 {c : Cx} (hc : Is c Tryz.prog ty 234 20) (N : Nat) {r : Int × Int} (hfin : c.Fin [] (d_hash_Mix r) []) (x0 x1 : Int) (h : L_hash_Mix N x0 x1 = some r) : c.Goes (items (bodyOf Tryz.f234) [.c 1]) ⟨[(0, .int .i64 x0), (1, .int .i64 x1)], []⟩ := by
  unfold L_hash_Mix at h
  obtain ⟨v1, h0, h⟩ := bind_of h
  rcases brk h with ⟨h1, h⟩ | ⟨h1, h⟩
  · exact hc.jump (orc := [(1, [(1, oR (d_ip_In v1)), (3, oT)])]) (m := 5) (kt := [0, 1, 13]) (kh := []) (by kernel_rfl) (.cons (c_ip_In N x0 32 h0) (.cons (Le.tt h1) .nil)) (g_hash_Mix_1 hc N hfin x0 x1 true h)
  · obtain ⟨v2, h2, h⟩ := bind_of h
    exact hc.jump (orc := [(1, [(1, oR (d_ip_In v1)), (3, oF), (5, oR (d_ip_In v2))])]) (m := 5) (kt := [0, 1, 13]) (kh := []) (by kernel_rfl) (.cons (c_ip_In N x0 32 h0) (.cons (Le.ff h1) (.cons (c_ip_In N x1 32 h2) .nil))) (g_hash_Mix_1 hc N hfin x0 x1 (!v2) h)

theorem c_hash_Mix (N : Nat) (x0 x1 : Int) {r : Int × Int} (h : L_hash_Mix N x0 x1 = some r) : Con Tryz.prog 234 [.int .i64 x0, .int .i64 x1] [] (d_hash_Mix r) [] :=
  con_in ok mix (fn := Tryz.f234) (by kernel_rfl) (by kernel_rfl) fun hc hfin => g_hash_Mix_0 hc N hfin x0 x1 h
/-! ### wharfage/maglev.begin -/
def L_maglev_begin (N : Nat) (x0 : Int) : Option (Gmaglev_walk) :=
  (L_hash_Mix N 1 x0).bind fun v1 =>
  (L_hash_Mix N 2 x0).bind fun v2 =>
  via ((IntKind.i64.wrap ((1 : Int) + (v2.1.tmod 30))) : Int) fun v3 =>
  some (Gmaglev_walk.mk (v1.1.tmod 31) v3)
def d_maglev_begin (r : Gmaglev_walk) : D := .agg [.int .i64 r.at_, .int .i64 r.step_]
theorem g_maglev_begin_0 {c : Cx} (hc : Is c Tryz.prog ty 230 23) (N : Nat) {r : Gmaglev_walk} (hfin : c.Fin [] (d_maglev_begin r) []) (x0 : Int) (h : L_maglev_begin N x0 = some r) : c.Goes (items (bodyOf Tryz.f230) [.c 1]) ⟨[(0, .int .i64 x0)], []⟩ := by
  unfold L_maglev_begin at h
  obtain ⟨v1, h0, h⟩ := bind_of h
  obtain ⟨v2, h1, h⟩ := bind_of h
  obtain ⟨v3, h2, h⟩ := via_some h
  exact hc.rt hfin (fn := Tryz.f230) (by kernel_rfl) (orc := [(1, [(1, oR (d_hash_Mix v1))]), (2, [(1, oR (d_hash_Mix v2))]), (3, [(4, oC (.int .i64 v3))])]) (m := 8) (by kernel_rfl) (.cons (c_hash_Mix N 1 x0 h0) (.cons (c_hash_Mix N 2 x0 h1) (.cons ((by decide : (31:Int) ≠ 0)) (.cons ((by decide : (30:Int) ≠ 0)) (.cons (Le.int (k := .i64) h2) .nil))))) h Le.rfl rfl

theorem c_maglev_begin (N : Nat) (x0 : Int) {r : Gmaglev_walk} (h : L_maglev_begin N x0 = some r) : Con Tryz.prog 230 [.int .i64 x0] [] (d_maglev_begin r) [] :=
  con_in ok mix (fn := Tryz.f230) (by kernel_rfl) (by kernel_rfl) fun hc hfin => g_maglev_begin_0 hc N hfin x0 h
/-! ### (*wharfage/maglev.walk).next -/
def L_maglev_walk_next (N : Nat) (x0i : Nat) (x0 : (List Gmaglev_walk)) : Option ((List Gmaglev_walk)) :=
  if 0 ≤ ((x0i : Nat) : Int) ∧ ((x0i : Nat) : Int) < ((x0.length : Nat) : Int) then
  via ((IntKind.i64.wrap ((x0.getD x0i default).at_ + (x0.getD x0i default).step_)) : Int) fun v1 =>
  some (x0.set x0i (Gmaglev_walk.mk (v1.tmod 31) ((x0.getD x0i default).step_)))
  else none
def d_maglev_walk_next (r : (List Gmaglev_walk)) : D := .tup []
def h_maglev_walk_next (r : (List Gmaglev_walk)) : List (Nat × Option Blk) := [(0, some ⟨true, 2, (eL emaglev_walk r)⟩)]
theorem g_maglev_walk_next_0 {c : Cx} (hc : Is c Tryz.prog ty 235 15) (N : Nat) {r : (List Gmaglev_walk)} {C0 : List D} (hfin : c.Fin [(0, ⟨true, 2, C0⟩)] (d_maglev_walk_next r) (h_maglev_walk_next r)) (x0i : Nat) (x0 : (List Gmaglev_walk)) (h : L_maglev_walk_next N x0i x0 = some r) : c.Goes (items (bodyOf Tryz.f235) [.c 1]) ⟨[(0, .ptr 0 (x0i * 2 + 0))], [(0, some ⟨true, 2, (eL emaglev_walk x0)⟩)]⟩ := by
  unfold L_maglev_walk_next at h
  obtain ⟨h0, h⟩ := chk h
  obtain ⟨v1, h1, h⟩ := via_some h
  have h := Option.some.inj h
  subst h
  refine hc.retB hfin [] (fn := Tryz.f235) (by kernel_rfl) (orc := [(0, [(4, oC (.int .i64 ((x0.getD x0i default).at_))), (8, oC (.int .i64 ((x0.getD x0i default).step_))), (9, oC (.int .i64 v1)), (13, { cb := [(0, eL emaglev_walk (x0.set x0i (Gmaglev_walk.mk (v1.tmod 31) ((x0.getD x0i default).step_))))] })])]) (m := 1) (d := .tup []) (by kernel_rfl) (.cons (ld_ne (xs := x0) emaglev_walk_len (ixl h0) (o := 0) (by decide)) (.cons (Le.of (ld_hd (xs := x0) emaglev_walk_len (ixl h0) (o := 0) (by decide))) (.cons (ld_ne (xs := x0) emaglev_walk_len (ixl h0) (o := 1) (by decide)) (.cons (Le.of (ld_hd (xs := x0) emaglev_walk_len (ixl h0) (o := 1) (by decide))) (.cons (Le.int (k := .i64) h1) (.cons ((by decide : (31:Int) ≠ 0)) (.cons (st_need (xs := x0) emaglev_walk_len (ixl h0) (o := 0) (k := 1) (vs := [.int .i64 (v1.tmod 31)]) (p := true) (by decide) rfl rfl) (.cons (st_set (xs := x0) emaglev_walk_len (ixl h0) (o := 0) (vs := [.int .i64 (v1.tmod 31)]) (y := (Gmaglev_walk.mk (v1.tmod 31) ((x0.getD x0i default).step_))) (Nat.le_of_ble_eq_true rfl) rfl) .nil)))))))) (Le.of (by kernel_rfl)) (by kernel_rfl)

theorem c_maglev_walk_next (N : Nat) (x0i : Nat) (x0 : (List Gmaglev_walk)) {r : (List Gmaglev_walk)} (h : L_maglev_walk_next N x0i x0 = some r) : Con Tryz.prog 235 [.ptr 0 (x0i * 2 + 0)] [(0, ⟨true, 2, (eL emaglev_walk x0)⟩)] (d_maglev_walk_next r) (h_maglev_walk_next r) :=
  con_in ok mix (fn := Tryz.f235) (by kernel_rfl) (by kernel_rfl) fun hc hfin => g_maglev_walk_next_0 hc N hfin x0i x0 h
/-! ### wharfage/maglev.repeat[int] -/
def L_maglev_repeat_int_v1_1 (N : Nat) : Nat → Int → (List Int) → Int → Int → Option ((List Int))
  | 0, _, _, _, _ => none
  | fuel + 1, t0, b164, t10, t11 =>
    bif (decide (t11 < t10)) then
      if 0 ≤ t11 ∧ t11 < ((b164.length : Nat) : Int) then
      L_maglev_repeat_int_v1_1 N fuel t0 (b164.set t11.toNat t0) t10 (IntKind.i64.wrap (t11 + 1))
      else none
    else
      some b164
def L_maglev_repeat_int_v1 (N : Nat) (x0 x1 : Int) : Option ((List Int)) :=
  if 0 ≤ x1 ∧ x1 ≤ x1 ∧ ((8 : Nat) : Int) * x1 ≤ 140737488355328 ∧ x1 ≤ 4611686018427387904 then
  via (((List.replicate (Int.toNat x1) (0 : Int)).length : Int) : Int) fun v1 =>
  L_maglev_repeat_int_v1_1 N N x0 (List.replicate (Int.toNat x1) (0 : Int)) v1 0
  else none
def d_maglev_repeat_int_v1 (r : (List Int)) : D := .ref 1000 0 r.length r.length
def h_maglev_repeat_int_v1 (r : (List Int)) : List (Nat × Option Blk) := [(1000, some ⟨true, 1, (eL (eInt .i64) r)⟩)]
theorem g_maglev_repeat_int_v1_1 {c : Cx} (hc : Is c Tryz.prog ty 229 20) (N : Nat) {r : (List Int)} (hfin : c.Fin [] (d_maglev_repeat_int_v1 r) (h_maglev_repeat_int_v1 r)) : ∀ (fuel : Nat) (t0 : Int) (b164 : (List Int)) (t10 t11 : Int), L_maglev_repeat_int_v1_1 N fuel t0 b164 t10 t11 = some r → c.Goes (items (bodyOf Tryz.f229) [.c 75, .l 75, .b 0, .c 15]) ⟨[(0, .int .i64 t0), (5, .ref 164 0 b164.length b164.length), (10, .int .i64 t10), (11, .int .i64 t11)], [(164, some ⟨true, 1, (eL (eInt .i64) b164)⟩)]⟩ := by
  intro fuel
  induction fuel with
  | zero => intro t0 b164 t10 t11 h; simp [L_maglev_repeat_int_v1_1] at h
  | succ fuel ih =>
    intro t0 b164 t10 t11 h
    unfold L_maglev_repeat_int_v1_1 at h
    rcases brk h with ⟨h0, h⟩ | ⟨h0, h⟩
    · obtain ⟨h1, h⟩ := chk h
      exact hc.jumpL (orc := [(3, [(0, oT)]), (5, [(3, oC (.ptr 164 (t11.toNat * 1 + 0))), (4, { cb := [(164, eL (eInt .i64) (b164.set t11.toNat t0))] })])]) (m := 13) (kt := [0, 5, 10, 11]) (kh := [(164, 164)]) (by kernel_rfl) (.cons (Le.tt h0) (.cons (h1) (.cons (Le.pt (b := 164) (k := t11.toNat * 1)) (.cons (st_need (xs := b164) (eInt_len .i64) (ixl h1) (o := 0) (k := 1) (vs := [.int .i64 t0]) (p := true) (by decide) rfl rfl) (.cons (st_set (xs := b164) (eInt_len .i64) (ixl h1) (o := 0) (vs := [.int .i64 t0]) (y := t0) (Nat.le_of_ble_eq_true rfl) rfl) .nil))))) (.cons (Le.rfl) (.cons (Le.rfs (b := 164) (by first | rfl | omega | (simp only [List.length_append, List.length_take, List.length_drop]; omega) | simp : b164.length = (b164.set t11.toNat t0).length) (by first | rfl | omega | (simp only [List.length_append, List.length_take, List.length_drop]; omega) | simp : b164.length = (b164.set t11.toNat t0).length)) (.cons (Le.rfl) (.cons (Le.rfl) .nil)))) (ih t0 (b164.set t11.toNat t0) t10 (IntKind.i64.wrap (t11 + 1)) h)
    · have h := Option.some.inj h
      subst h
      refine hc.retB hfin [(1000, 164)] (fn := Tryz.f229) (by kernel_rfl) (orc := [(3, [(0, oF)])]) (m := 7) (d := .ref 164 0 b164.length b164.length) (by kernel_rfl) (.cons (Le.ff h0) .nil) (Le.of (by kernel_rfl)) (by kernel_rfl)

theorem g_maglev_repeat_int_v1_0 {c : Cx} (hc : Is c Tryz.prog ty 229 20) (N : Nat) {r : (List Int)} (hfin : c.Fin [] (d_maglev_repeat_int_v1 r) (h_maglev_repeat_int_v1 r)) (x0 x1 : Int) (h : L_maglev_repeat_int_v1 N x0 x1 = some r) : c.Goes (items (bodyOf Tryz.f229) [.c 1]) ⟨[(0, .int .i64 x0), (1, .int .i64 x1)], []⟩ := by
  unfold L_maglev_repeat_int_v1 at h
  obtain ⟨h0, h⟩ := chk h
  obtain ⟨v1, h1, h⟩ := via_some h
  exact hc.jump (orc := [(1, [(1, { cv := some (.ref 164 0 (List.replicate (Int.toNat x1) (0 : Int)).length (List.replicate (Int.toNat x1) (0 : Int)).length), cb := [(164, eL (eInt .i64) (List.replicate (Int.toNat x1) (0 : Int)))] })]), (2, [(1, oC (.int .i64 v1))])]) (m := 9) (kt := [0, 5, 10, 11]) (kh := [(164, 164)]) (by kernel_rfl) (.cons (h0) (.cons (Le.apr (b := 164) (by first | rfl | simp : (List.replicate (Int.toNat x1) (0 : Int)).length = (Int.toNat x1))) (.cons (repD_eq (e := (eInt .i64)) (z := 0) (cs := [.int .i64 0]) rfl (Int.toNat x1)) (.cons (Le.int (k := .i64) h1) .nil)))) (g_maglev_repeat_int_v1_1 hc N hfin N x0 (List.replicate (Int.toNat x1) (0 : Int)) v1 0 h)

theorem c_maglev_repeat_int_v1 (N : Nat) (x0 x1 : Int) {r : (List Int)} (h : L_maglev_repeat_int_v1 N x0 x1 = some r) : Con Tryz.prog 229 [.int .i64 x0, .int .i64 x1] [] (d_maglev_repeat_int_v1 r) (h_maglev_repeat_int_v1 r) :=
  con_in ok mix (fn := Tryz.f229) (by kernel_rfl) (by kernel_rfl) fun hc hfin => g_maglev_repeat_int_v1_0 hc N hfin x0 x1 h
/-! ### (*wharfage/maglev.walk).take -/
def L_maglev_walk_take_1 (N : Nat) : Nat → Nat → (List Gmaglev_walk) → (List Int) → Int → Option ((List Gmaglev_walk) × (List Int))
  | 0, _, _, _, _ => none
  | fuel + 1, t0i, b0, b1, t2 =>
    if 0 ≤ ((t0i : Nat) : Int) ∧ ((t0i : Nat) : Int) < ((b0.length : Nat) : Int) then
    if 0 ≤ (b0.getD t0i default).at_ ∧ (b0.getD t0i default).at_ < ((b1.length : Nat) : Int) then
    bif ((b1.getD ((b0.getD t0i default).at_).toNat default) != (-1)) then
      (L_maglev_walk_next N t0i b0).bind fun v1 =>
      if v1.length = b0.length then
      L_maglev_walk_take_1 N fuel t0i v1 b1 t2
      else none
    else
      if 0 ≤ (b0.getD t0i default).at_ ∧ (b0.getD t0i default).at_ < ((b1.length : Nat) : Int) then
      some (b0, (b1.set ((b0.getD t0i default).at_).toNat t2))
      else none
    else none
    else none
def L_maglev_walk_take (N : Nat) (x0i : Nat) (x0 : (List Gmaglev_walk)) (x1 : (List Int)) (x2 : Int) : Option ((List Gmaglev_walk) × (List Int)) :=
  if 0 ≤ ((x0i : Nat) : Int) ∧ ((x0i : Nat) : Int) < ((x0.length : Nat) : Int) then
  L_maglev_walk_take_1 N N x0i x0 x1 x2
  else none
def d_maglev_walk_take (r : (List Gmaglev_walk) × (List Int)) : D := .tup []
def h_maglev_walk_take (r : (List Gmaglev_walk) × (List Int)) : List (Nat × Option Blk) := [(0, some ⟨true, 2, (eL emaglev_walk r.1)⟩), (1, some ⟨true, 1, (eL (eInt .i64) r.2)⟩)]
theorem g_maglev_walk_take_1 {c : Cx} (hc : Is c Tryz.prog ty 231 23) (N : Nat) {r : (List Gmaglev_walk) × (List Int)} {C0 : List D} {C1 : List D} (hfin : c.Fin [(0, ⟨true, 2, C0⟩), (1, ⟨true, 1, C1⟩)] (d_maglev_walk_take r) (h_maglev_walk_take r)) : ∀ (fuel : Nat) (t0i : Nat) (b0 : (List Gmaglev_walk)) (b1 : (List Int)) (t2 : Int), L_maglev_walk_take_1 N fuel t0i b0 b1 t2 = some r → c.Goes (items (bodyOf Tryz.f231) [.c 8, .l 8, .b 0, .c 3]) ⟨[(0, .ptr 0 (t0i * 2 + 0)), (1, .ref 1 0 b1.length b1.length), (2, .int .i64 t2)], [(0, some ⟨true, 2, (eL emaglev_walk b0)⟩), (1, some ⟨true, 1, (eL (eInt .i64) b1)⟩)]⟩ := by
  intro fuel
  induction fuel with
  | zero => intro t0i b0 b1 t2 h; simp [L_maglev_walk_take_1] at h
  | succ fuel ih =>
    intro t0i b0 b1 t2 h
    unfold L_maglev_walk_take_1 at h
    obtain ⟨h0, h⟩ := chk h
    obtain ⟨h1, h⟩ := chk h
    rcases brk h with ⟨h2, h⟩ | ⟨h2, h⟩
    · obtain ⟨v1, h3, h⟩ := bind_of h
      obtain ⟨h4, h⟩ := chk h
      exact hc.jump (orc := [(0, [(4, oC (.int .i64 ((b0.getD t0i default).at_))), (5, oC (.ptr 1 (((b0.getD t0i default).at_).toNat * 1 + 0))), (6, oC (.int .i64 (b1.getD ((b0.getD t0i default).at_).toNat default))), (7, oT)]), (1, [(1, { ρ := [0], r := d_maglev_walk_next v1, H := h_maglev_walk_next v1 })])]) (m := 9) (kt := [0, 1, 2]) (kh := [(0, 0), (1, 1)]) (by kernel_rfl) (.cons (ld_ne (xs := b0) emaglev_walk_len (ixl h0) (o := 0) (by decide)) (.cons (Le.of (ld_hd (xs := b0) emaglev_walk_len (ixl h0) (o := 0) (by decide))) (.cons (h1) (.cons (Le.pt (b := 1) (k := ((b0.getD t0i default).at_).toNat * 1)) (.cons (ld_ne (xs := b1) (eInt_len .i64) (ixl h1) (o := 0) (by decide)) (.cons (Le.of (ld_hd (xs := b1) (eInt_len .i64) (ixl h1) (o := 0) (by decide))) (.cons (Le.tt h2) (.cons (c_maglev_walk_next N t0i b0 h3) .nil)))))))) (ih t0i v1 b1 t2 h)
    · obtain ⟨h3, h⟩ := chk h
      have h := Option.some.inj h
      subst h
      refine hc.retB hfin [] (fn := Tryz.f231) (by kernel_rfl) (orc := [(0, [(4, oC (.int .i64 ((b0.getD t0i default).at_))), (5, oC (.ptr 1 (((b0.getD t0i default).at_).toNat * 1 + 0))), (6, oC (.int .i64 (b1.getD ((b0.getD t0i default).at_).toNat default))), (7, oF)]), (2, [(4, oC (.int .i64 ((b0.getD t0i default).at_))), (6, oC (.ptr 1 (((b0.getD t0i default).at_).toNat * 1 + 0))), (7, { cb := [(1, eL (eInt .i64) (b1.set ((b0.getD t0i default).at_).toNat t2))] })])]) (m := 6) (d := .tup []) (by kernel_rfl) (.cons (ld_ne (xs := b0) emaglev_walk_len (ixl h0) (o := 0) (by decide)) (.cons (Le.of (ld_hd (xs := b0) emaglev_walk_len (ixl h0) (o := 0) (by decide))) (.cons (h1) (.cons (Le.pt (b := 1) (k := ((b0.getD t0i default).at_).toNat * 1)) (.cons (ld_ne (xs := b1) (eInt_len .i64) (ixl h1) (o := 0) (by decide)) (.cons (Le.of (ld_hd (xs := b1) (eInt_len .i64) (ixl h1) (o := 0) (by decide))) (.cons (Le.ff h2) (.cons (ld_ne (xs := b0) emaglev_walk_len (ixl h0) (o := 0) (by decide)) (.cons (Le.of (ld_hd (xs := b0) emaglev_walk_len (ixl h0) (o := 0) (by decide))) (.cons (h3) (.cons (Le.pt (b := 1) (k := ((b0.getD t0i default).at_).toNat * 1)) (.cons (st_need (xs := b1) (eInt_len .i64) (ixl h3) (o := 0) (k := 1) (vs := [.int .i64 t2]) (p := true) (by decide) rfl rfl) (.cons (st_set (xs := b1) (eInt_len .i64) (ixl h3) (o := 0) (vs := [.int .i64 t2]) (y := t2) (Nat.le_of_ble_eq_true rfl) rfl) .nil))))))))))))) (Le.of (by kernel_rfl)) (by kernel_rfl)

theorem g_maglev_walk_take_0 {c : Cx} (hc : Is c Tryz.prog ty 231 23) (N : Nat) {r : (List Gmaglev_walk) × (List Int)} {C0 : List D} {C1 : List D} (hfin : c.Fin [(0, ⟨true, 2, C0⟩), (1, ⟨true, 1, C1⟩)] (d_maglev_walk_take r) (h_maglev_walk_take r)) (x0i : Nat) (x0 : (List Gmaglev_walk)) (x1 : (List Int)) (x2 : Int) (h : L_maglev_walk_take N x0i x0 x1 x2 = some r) : c.Goes (items (bodyOf Tryz.f231) [.c 1]) ⟨[(0, .ptr 0 (x0i * 2 + 0)), (1, .ref 1 0 x1.length x1.length), (2, .int .i64 x2)], [(0, some ⟨true, 2, (eL emaglev_walk x0)⟩), (1, some ⟨true, 1, (eL (eInt .i64) x1)⟩)]⟩ := by
  unfold L_maglev_walk_take at h
  obtain ⟨h0, h⟩ := chk h
  exact hc.jump (orc := []) (m := 3) (kt := [0, 1, 2]) (kh := [(0, 0), (1, 1)]) (by kernel_rfl) .nil (g_maglev_walk_take_1 hc N hfin N x0i x0 x1 x2 h)

theorem c_maglev_walk_take (N : Nat) (x0i : Nat) (x0 : (List Gmaglev_walk)) (x1 : (List Int)) (x2 : Int) {r : (List Gmaglev_walk) × (List Int)} (h : L_maglev_walk_take N x0i x0 x1 x2 = some r) : Con Tryz.prog 231 [.ptr 0 (x0i * 2 + 0), .ref 1 0 x1.length x1.length, .int .i64 x2] [(0, ⟨true, 2, (eL emaglev_walk x0)⟩), (1, ⟨true, 1, (eL (eInt .i64) x1)⟩)] (d_maglev_walk_take r) (h_maglev_walk_take r) :=
  con_in ok mix (fn := Tryz.f231) (by kernel_rfl) (by kernel_rfl) fun hc hfin => g_maglev_walk_take_0 hc N hfin x0i x0 x1 x2 h
/-! ### wharfage/maglev.Build -/
def L_maglev_Build_4 (N : Nat) (r2 : (List GCandidate) → (List Int) → (List Gmaglev_walk) → Int → Option ((List Int) × Int)) (r3 : (List GCandidate) → (List Int) → (List Gmaglev_walk) → Int → (List GCandidate) → Int → Int → Option ((List Int) × Int)) : Nat → (List GCandidate) → (List Int) → (List Gmaglev_walk) → Int → Int → Int → Int → Int → (List GCandidate) → Int → Int → Option ((List Int) × Int)
  | 0, _, _, _, _, _, _, _, _, _, _, _ => none
  | fuel + 1, t0, b244, b140, t8, t9, b180_0, b180_1, t11, t34, t35, t36 =>
    bif (decide (t11 > 0)) then
      if 0 ≤ t9 ∧ t9 < ((b140.length : Nat) : Int) then
      (L_maglev_walk_take N t9.toNat b140 b244 b180_0).bind fun v1 =>
      if v1.1.length = b140.length then
      if v1.2.length = b244.length then
      L_maglev_Build_4 N r2 r3 fuel t0 v1.2 v1.1 (IntKind.i64.wrap (t8 - 1)) t9 b180_0 b180_1 (IntKind.i64.wrap (t11 - 1)) t34 t35 t36
      else none
      else none
      else none
    else
      r3 t0 b244 b140 t8 t34 t35 (IntKind.i64.wrap (t36 + 1))
def L_maglev_Build_3 (N : Nat) (r2 : (List GCandidate) → (List Int) → (List Gmaglev_walk) → Int → Option ((List Int) × Int)) : Nat → (List GCandidate) → (List Int) → (List Gmaglev_walk) → Int → (List GCandidate) → Int → Int → Option ((List Int) × Int)
  | 0, _, _, _, _, _, _, _ => none
  | fuel + 1, t0, b244, b140, t8, t34, t35, t36 =>
    bif (decide (t36 < t35)) then
      if 0 ≤ t36 ∧ t36 < ((t34.length : Nat) : Int) then
      via ((if decide (t8 < (t34.getD t36.toNat default).Weight) then t8 else (t34.getD t36.toNat default).Weight) : Int) fun v1 =>
      L_maglev_Build_4 N r2 (L_maglev_Build_3 N r2 fuel) N t0 b244 b140 t8 t36 ((t34.getD t36.toNat default).Id) ((t34.getD t36.toNat default).Weight) v1 t34 t35 t36
      else none
    else
      r2 t0 b244 b140 t8
def L_maglev_Build_2 (N : Nat) : Nat → (List GCandidate) → (List Int) → (List Gmaglev_walk) → Int → Option ((List Int) × Int)
  | 0, _, _, _, _ => none
  | fuel + 1, t0, b244, b140, t8 =>
    bif (decide (t8 > 0)) then
      L_maglev_Build_3 N (L_maglev_Build_2 N fuel) N t0 b244 b140 t8 t0 (t0.length : Int) 0
    else
      some (b244, 0)
def L_maglev_Build_1 (N : Nat) : Nat → (List GCandidate) → (List Int) → (List Gmaglev_walk) → (List GCandidate) → Int → Int → Option ((List Int) × Int)
  | 0, _, _, _, _, _, _ => none
  | fuel + 1, t0, b244, b140, t19, t20, t21 =>
    bif (decide (t21 < t20)) then
      if 0 ≤ t21 ∧ t21 < ((t19.length : Nat) : Int) then
      (L_maglev_begin N ((t19.getD t21.toNat default).Id)).bind fun v1 =>
      if growOk 16 (b140.length + 1) then
      L_maglev_Build_1 N fuel t0 b244 (b140 ++ [v1]) t19 t20 (IntKind.i64.wrap (t21 + 1))
      else none
      else none
    else
      L_maglev_Build_2 N N t0 b244 b140 31
def L_maglev_Build (N : Nat) (x0 : (List GCandidate)) : Option ((List Int) × Int) :=
  (L_maglev_May N x0).bind fun v1 =>
  bif (!v1) then
    some ([], 900)
  else
    bif ((x0.length : Int) == 0) then
      some ([], 0)
    else
      (L_maglev_repeat_int_v1 N (-1) 31).bind fun v2 =>
      L_maglev_Build_1 N N x0 v2 ([]) x0 (x0.length : Int) 0
def d_maglev_Build (r : (List Int) × Int) : D := .tup [.sl true (eL (eInt .i64) r.1) r.1.length r.1.length, .int .i64 r.2]
theorem g_maglev_Build_4 (gx0 : Bool) {c : Cx} (hc : Is c Tryz.prog ty 216 60) (N : Nat) {r : (List Int) × Int} (hfin : c.Fin [] (d_maglev_Build r) []) (r2 : (List GCandidate) → (List Int) → (List Gmaglev_walk) → Int → Option ((List Int) × Int)) (hr2 : ∀ (t0 : (List GCandidate)) (b244 : (List Int)) (b140 : (List Gmaglev_walk)) (t8 : Int), r2 t0 b244 b140 t8 = some r → c.Goes (items (bodyOf Tryz.f216) [.c 1215, .l 1215, .b 2, .c 255]) ⟨[(0, .sl gx0 (eL eCandidate t0) t0.length t0.length), (4, .ref 244 0 b244.length b244.length), (5, .ref 140 0 b140.length b140.length), (8, .int .i64 t8)], [(244, some ⟨true, 1, (eL (eInt .i64) b244)⟩), (140, some ⟨true, 2, (eL emaglev_walk b140)⟩)]⟩) (r3 : (List GCandidate) → (List Int) → (List Gmaglev_walk) → Int → (List GCandidate) → Int → Int → Option ((List Int) × Int)) (hr3 : ∀ (t0 : (List GCandidate)) (b244 : (List Int)) (b140 : (List Gmaglev_walk)) (t8 : Int) (t34 : (List GCandidate)) (t35 t36 : Int), r3 t0 b244 b140 t8 t34 t35 t36 = some r → c.Goes (items (bodyOf Tryz.f216) [.c 38079, .l 38079, .b 4, .b 3, .l 1215, .b 2, .c 255]) ⟨[(0, .sl gx0 (eL eCandidate t0) t0.length t0.length), (4, .ref 244 0 b244.length b244.length), (5, .ref 140 0 b140.length b140.length), (8, .int .i64 t8), (34, .sl gx0 (eL eCandidate t34) t34.length t34.length), (35, .int .i64 t35), (36, .int .i64 t36)], [(244, some ⟨true, 1, (eL (eInt .i64) b244)⟩), (140, some ⟨true, 2, (eL emaglev_walk b140)⟩)]⟩) : ∀ (fuel : Nat) (t0 : (List GCandidate)) (b244 : (List Int)) (b140 : (List Gmaglev_walk)) (t8 t9 b180_0 b180_1 t11 : Int) (t34 : (List GCandidate)) (t35 t36 : Int), L_maglev_Build_4 N r2 r3 fuel t0 b244 b140 t8 t9 b180_0 b180_1 t11 t34 t35 t36 = some r → c.Goes (items (bodyOf Tryz.f216) [.c 10065087, .l 10065087, .b 6, .b 5, .c 496831, .l 38079, .b 4, .b 3, .l 1215, .b 2, .c 255]) ⟨[(0, .sl gx0 (eL eCandidate t0) t0.length t0.length), (4, .ref 244 0 b244.length b244.length), (5, .ref 140 0 b140.length b140.length), (8, .int .i64 t8), (9, .int .i64 t9), (10, .ptr 180 0), (11, .int .i64 t11), (34, .sl gx0 (eL eCandidate t34) t34.length t34.length), (35, .int .i64 t35), (36, .int .i64 t36)], [(244, some ⟨true, 1, (eL (eInt .i64) b244)⟩), (140, some ⟨true, 2, (eL emaglev_walk b140)⟩), (180, some ⟨false, 0, [.int .i64 b180_0, .int .i64 b180_1]⟩)]⟩ := by
  intro fuel
  induction fuel with
  | zero => intro t0 b244 b140 t8 t9 b180_0 b180_1 t11 t34 t35 t36 h; simp [L_maglev_Build_4] at h
  | succ fuel ih =>
    intro t0 b244 b140 t8 t9 b180_0 b180_1 t11 t34 t35 t36 h
    unfold L_maglev_Build_4 at h
    rcases brk h with ⟨h0, h⟩ | ⟨h0, h⟩
    · obtain ⟨h1, h⟩ := chk h
      obtain ⟨v1, h2, h⟩ := bind_of h
      obtain ⟨h3, h⟩ := chk h
      obtain ⟨h4, h⟩ := chk h
      exact hc.jumpL (orc := [(18, [(1, oT)]), (20, [(2, oC (.ptr 140 (t9.toNat * 2 + 0))), (6, { ρ := [140, 244], r := d_maglev_walk_take v1, H := h_maglev_walk_take v1 })])]) (m := 13) (kt := [0, 4, 5, 8, 9, 10, 11, 34, 35, 36]) (kh := [(244, 244), (140, 140), (180, 180)]) (by kernel_rfl) (.cons (Le.tt h0) (.cons (h1) (.cons (Le.pt (b := 140) (k := t9.toNat * 2)) (.cons (c_maglev_walk_take N t9.toNat b140 b244 b180_0 h2) .nil)))) (.cons (Le.rfl) (.cons (Le.rfs (b := 244) (by first | rfl | omega | (simp only [List.length_append, List.length_take, List.length_drop]; omega) | simp : b244.length = v1.2.length) (by first | rfl | omega | (simp only [List.length_append, List.length_take, List.length_drop]; omega) | simp : b244.length = v1.2.length)) (.cons (Le.rfs (b := 140) (by first | rfl | omega | (simp only [List.length_append, List.length_take, List.length_drop]; omega) | simp : b140.length = v1.1.length) (by first | rfl | omega | (simp only [List.length_append, List.length_take, List.length_drop]; omega) | simp : b140.length = v1.1.length)) (.cons (Le.rfl) (.cons (Le.rfl) (.cons (Le.rfl) (.cons (Le.rfl) (.cons (Le.rfl) (.cons (Le.rfl) (.cons (Le.rfl) .nil)))))))))) (ih t0 v1.2 v1.1 (IntKind.i64.wrap (t8 - 1)) t9 b180_0 b180_1 (IntKind.i64.wrap (t11 - 1)) t34 t35 t36 h)
    · exact hc.jump (orc := [(18, [(1, oF)])]) (m := 8) (kt := [0, 4, 5, 8, 34, 35, 36]) (kh := [(244, 244), (140, 140)]) (by kernel_rfl) (.cons (Le.ff h0) .nil) (hr3 t0 b244 b140 t8 t34 t35 (IntKind.i64.wrap (t36 + 1)) h)

theorem g_maglev_Build_3 (gx0 : Bool) {c : Cx} (hc : Is c Tryz.prog ty 216 60) (N : Nat) {r : (List Int) × Int} (hfin : c.Fin [] (d_maglev_Build r) []) (r2 : (List GCandidate) → (List Int) → (List Gmaglev_walk) → Int → Option ((List Int) × Int)) (hr2 : ∀ (t0 : (List GCandidate)) (b244 : (List Int)) (b140 : (List Gmaglev_walk)) (t8 : Int), r2 t0 b244 b140 t8 = some r → c.Goes (items (bodyOf Tryz.f216) [.c 1215, .l 1215, .b 2, .c 255]) ⟨[(0, .sl gx0 (eL eCandidate t0) t0.length t0.length), (4, .ref 244 0 b244.length b244.length), (5, .ref 140 0 b140.length b140.length), (8, .int .i64 t8)], [(244, some ⟨true, 1, (eL (eInt .i64) b244)⟩), (140, some ⟨true, 2, (eL emaglev_walk b140)⟩)]⟩) : ∀ (fuel : Nat) (t0 : (List GCandidate)) (b244 : (List Int)) (b140 : (List Gmaglev_walk)) (t8 : Int) (t34 : (List GCandidate)) (t35 t36 : Int), L_maglev_Build_3 N r2 fuel t0 b244 b140 t8 t34 t35 t36 = some r → c.Goes (items (bodyOf Tryz.f216) [.c 38079, .l 38079, .b 4, .b 3, .l 1215, .b 2, .c 255]) ⟨[(0, .sl gx0 (eL eCandidate t0) t0.length t0.length), (4, .ref 244 0 b244.length b244.length), (5, .ref 140 0 b140.length b140.length), (8, .int .i64 t8), (34, .sl gx0 (eL eCandidate t34) t34.length t34.length), (35, .int .i64 t35), (36, .int .i64 t36)], [(244, some ⟨true, 1, (eL (eInt .i64) b244)⟩), (140, some ⟨true, 2, (eL emaglev_walk b140)⟩)]⟩ := by
  intro fuel
  induction fuel with
  | zero => intro t0 b244 b140 t8 t34 t35 t36 h; simp [L_maglev_Build_3] at h
  | succ fuel ih =>
    intro t0 b244 b140 t8 t34 t35 t36 h
    unfold L_maglev_Build_3 at h
    rcases brk h with ⟨h0, h⟩ | ⟨h0, h⟩
    · obtain ⟨h1, h⟩ := chk h
      obtain ⟨v1, h2, h⟩ := via_some h
      exact hc.jump (orc := [(15, [(0, oT)]), (16, [(1, oC (.ip gx0 [.int .i64 ((t34.getD t36.toNat default).Id), .int .i64 ((t34.getD t36.toNat default).Weight)]))]), (17, [(3, oC (.int .i64 v1))])]) (m := 13) (kt := [0, 4, 5, 8, 9, 10, 11, 34, 35, 36]) (kh := [(244, 244), (140, 140), (180, 180)]) (by kernel_rfl) (.cons (Le.tt h0) (.cons (h1) (.cons (Le.iptl (g := gx0) (eL_at (xs := t34) eCandidate_len (ixl h1))) (.cons (Le.int (k := .i64) h2) .nil)))) (g_maglev_Build_4 gx0 hc N hfin r2 hr2 (L_maglev_Build_3 N r2 fuel) ih N t0 b244 b140 t8 t36 ((t34.getD t36.toNat default).Id) ((t34.getD t36.toNat default).Weight) v1 t34 t35 t36 h)
    · exact hc.jump (orc := [(15, [(0, oF)])]) (m := 7) (kt := [0, 4, 5, 8]) (kh := [(244, 244), (140, 140)]) (by kernel_rfl) (.cons (Le.ff h0) .nil) (hr2 t0 b244 b140 t8 h)

theorem g_maglev_Build_2 (gx0 : Bool) {c : Cx} (hc : Is c Tryz.prog ty 216 60) (N : Nat) {r : (List Int) × Int} (hfin : c.Fin [] (d_maglev_Build r) []) : ∀ (fuel : Nat) (t0 : (List GCandidate)) (b244 : (List Int)) (b140 : (List Gmaglev_walk)) (t8 : Int), L_maglev_Build_2 N fuel t0 b244 b140 t8 = some r → c.Goes (items (bodyOf Tryz.f216) [.c 1215, .l 1215, .b 2, .c 255]) ⟨[(0, .sl gx0 (eL eCandidate t0) t0.length t0.length), (4, .ref 244 0 b244.length b244.length), (5, .ref 140 0 b140.length b140.length), (8, .int .i64 t8)], [(244, some ⟨true, 1, (eL (eInt .i64) b244)⟩), (140, some ⟨true, 2, (eL emaglev_walk b140)⟩)]⟩ := by
  intro fuel
  induction fuel with
  | zero => intro t0 b244 b140 t8 h; simp [L_maglev_Build_2] at h
  | succ fuel ih =>
    intro t0 b244 b140 t8 h
    unfold L_maglev_Build_2 at h
    rcases brk h with ⟨h0, h⟩ | ⟨h0, h⟩
    · exact hc.jump (orc := [(13, [(1, oT)])]) (m := 10) (kt := [0, 4, 5, 8, 34, 35, 36]) (kh := [(244, 244), (140, 140)]) (by kernel_rfl) (.cons (Le.tt h0) .nil) (g_maglev_Build_3 gx0 hc N hfin (L_maglev_Build_2 N fuel) ih N t0 b244 b140 t8 t0 (t0.length : Int) 0 h)
    · exact hc.rt hfin (fn := Tryz.f216) (by kernel_rfl) (orc := [(13, [(1, oF)]), (23, [(1, { frz := true })])]) (m := 7) (by kernel_rfl) (.cons (Le.ff h0) .nil) h Le.rfl rfl

theorem g_maglev_Build_1 (gx0 : Bool) {c : Cx} (hc : Is c Tryz.prog ty 216 60) (N : Nat) {r : (List Int) × Int} (hfin : c.Fin [] (d_maglev_Build r) []) : ∀ (fuel : Nat) (t0 : (List GCandidate)) (b244 : (List Int)) (b140 : (List Gmaglev_walk)) (t19 : (List GCandidate)) (t20 t21 : Int), L_maglev_Build_1 N fuel t0 b244 b140 t19 t20 t21 = some r → c.Goes (items (bodyOf Tryz.f216) [.c 607, .l 607, .b 0, .c 127]) ⟨[(0, .sl gx0 (eL eCandidate t0) t0.length t0.length), (4, .ref 244 0 b244.length b244.length), (5, .ref 140 0 b140.length b140.length), (19, .sl gx0 (eL eCandidate t19) t19.length t19.length), (20, .int .i64 t20), (21, .int .i64 t21)], [(244, some ⟨true, 1, (eL (eInt .i64) b244)⟩), (140, some ⟨true, 2, (eL emaglev_walk b140)⟩)]⟩ := by
  intro fuel
  induction fuel with
  | zero => intro t0 b244 b140 t19 t20 t21 h; simp [L_maglev_Build_1] at h
  | succ fuel ih =>
    intro t0 b244 b140 t19 t20 t21 h
    unfold L_maglev_Build_1 at h
    rcases brk h with ⟨h0, h⟩ | ⟨h0, h⟩
    · obtain ⟨h1, h⟩ := chk h
      obtain ⟨v1, h2, h⟩ := bind_of h
      obtain ⟨h3, h⟩ := chk h
      exact hc.jump (orc := [(8, [(0, oT)]), (9, [(0, oC (.ip gx0 [.int .i64 ((t19.getD t21.toNat default).Id), .int .i64 ((t19.getD t21.toNat default).Weight)]))]), (10, [(3, oR (d_maglev_begin v1)), (5, { cv := some (.ref 340 0 (b140 ++ [v1]).length (b140 ++ [v1]).length), cb := [(340, eL emaglev_walk (b140 ++ [v1]))] })])]) (m := 13) (kt := [0, 4, 5, 19, 20, 21]) (kh := [(244, 244), (340, 140)]) (by kernel_rfl) (.cons (Le.tt h0) (.cons (h1) (.cons (Le.iptl (g := gx0) (eL_at (xs := t19) eCandidate_len (ixl h1))) (.cons (c_maglev_begin N ((t19.getD t21.toNat default).Id) h2) (.cons ((by decide : 1 * 2 ≤ 2)) (.cons (ap_len (xs := b140) emaglev_walk_len) (.cons (h3) (.cons (Le.apr (b := 340) (by first | rfl | (simp only [List.length_append, List.length_take, List.length_drop]; omega) | simp : (b140 ++ [v1]).length = b140.length + 1)) (.cons (ap_one (xs := b140) emaglev_walk_len (y := v1) (cs := [.int .i64 v1.at_, .int .i64 v1.step_]) rfl) .nil))))))))) (ih t0 b244 (b140 ++ [v1]) t19 t20 (IntKind.i64.wrap (t21 + 1)) h)
    · exact hc.jump (orc := [(8, [(0, oF)])]) (m := 10) (kt := [0, 4, 5, 8]) (kh := [(244, 244), (140, 140)]) (by kernel_rfl) (.cons (Le.ff h0) .nil) (g_maglev_Build_2 gx0 hc N hfin N t0 b244 b140 31 h)

theorem g_maglev_Build_0 (gx0 : Bool) {c : Cx} (hc : Is c Tryz.prog ty 216 60) (N : Nat) {r : (List Int) × Int} (hfin : c.Fin [] (d_maglev_Build r) []) (x0 : (List GCandidate)) (h : L_maglev_Build N x0 = some r) : c.Goes (items (bodyOf Tryz.f216) [.c 1]) ⟨[(0, .sl gx0 (eL eCandidate x0) x0.length x0.length)], []⟩ := by
  unfold L_maglev_Build at h
  obtain ⟨v1, h0, h⟩ := bind_of h
  rcases brk h with ⟨h1, h⟩ | ⟨h1, h⟩
  · exact hc.rt hfin (fn := Tryz.f216) (by kernel_rfl) (orc := [(1, [(1, oR (d_maglev_May v1)), (2, oT)])]) (m := 8) (d := .tup [.nils, .int .i64 900]) (by kernel_rfl) (.cons (c_maglev_May N gx0 x0 h0) (.cons (Le.tt h1) .nil)) h (Le.tup ((.cons (Le.nils (g := true)) (.cons (Le.of rfl) .nil)))) rfl
  · rcases brk h with ⟨h2, h⟩ | ⟨h2, h⟩
    · exact hc.rt hfin (fn := Tryz.f216) (by kernel_rfl) (orc := [(1, [(1, oR (d_maglev_May v1)), (2, oF)]), (3, [(2, oT)])]) (m := 13) (d := .tup [.nils, .int .i64 0]) (by kernel_rfl) (.cons (c_maglev_May N gx0 x0 h0) (.cons (Le.ff h1) (.cons (Le.tt h2) .nil))) h (Le.tup ((.cons (Le.nils (g := true)) (.cons (Le.of rfl) .nil)))) rfl
    · obtain ⟨v2, h3, h⟩ := bind_of h
      exact hc.jump (orc := [(1, [(1, oR (d_maglev_May v1)), (2, oF)]), (3, [(2, oF)]), (5, [(0, { r := d_maglev_repeat_int_v1 v2, H := h_maglev_repeat_int_v1 v2 })]), (6, [(0, { own := some (2) })])]) (m := 21) (kt := [0, 4, 5, 19, 20, 21]) (kh := [(244, 244), (140, 140)]) (by kernel_rfl) (.cons (c_maglev_May N gx0 x0 h0) (.cons (Le.ff h1) (.cons (Le.ff h2) (.cons (c_maglev_repeat_int_v1 N (-1) 31 h3) .nil)))) (g_maglev_Build_1 gx0 hc N hfin N x0 v2 ([]) x0 (x0.length : Int) 0 h)

theorem c_maglev_Build (N : Nat) (gx0 : Bool) (x0 : (List GCandidate)) {r : (List Int) × Int} (h : L_maglev_Build N x0 = some r) : Con Tryz.prog 216 [.sl gx0 (eL eCandidate x0) x0.length x0.length] [] (d_maglev_Build r) [] :=
  con_in ok mix (fn := Tryz.f216) (by kernel_rfl) (by kernel_rfl) fun hc hfin => g_maglev_Build_0 gx0 hc N hfin x0 h
/-! ### wharfage/maglev.Pick -/
def L_maglev_Pick_1 (N : Nat) (t1 : Int) (t7 : (List Int)) (t14 : Bool) : Option (Int × Bool × Int) :=
  bif t14 then
    some (0, false, 900)
  else
    bif ((t7.length : Int) == 0) then
      some (0, false, 0)
    else
      if 0 ≤ (t1.tmod 31) ∧ (t1.tmod 31) < ((t7.length : Nat) : Int) then
      some ((t7.getD (t1.tmod 31).toNat default), true, 0)
      else none
def L_maglev_Pick (N : Nat) (x0 : (List GCandidate)) (x1 : Int) : Option (Int × Bool × Int) :=
  (L_maglev_Build N x0).bind fun v1 =>
  bif (v1.2 != 0) then
    L_maglev_Pick_1 N x1 v1.1 true
  else
    L_maglev_Pick_1 N x1 v1.1 (decide (x1 < 0))
def d_maglev_Pick (r : Int × Bool × Int) : D := .tup [.int .i64 r.1, .bool r.2.1, .int .i64 r.2.2]
theorem g_maglev_Pick_1 (gx0 : Bool) {c : Cx} (hc : Is c Tryz.prog ty 183 30) (N : Nat) {r : Int × Bool × Int} (hfin : c.Fin [] (d_maglev_Pick r) []) (t1 : Int) (t7 : (List Int)) (t14 : Bool) (h : L_maglev_Pick_1 N t1 t7 t14 = some r) : c.Goes (items (bodyOf Tryz.f183) [.c 51, .b 0, .c 15]) ⟨[(1, .int .i64 t1), (7, .sl true (eL (eInt .i64) t7) t7.length t7.length), (14, .bool t14)], []⟩ := by
  unfold L_maglev_Pick_1 at h
  rcases brk h with ⟨h0, k0⟩ | ⟨h0, k0⟩
  · subst h0
    replace h := k0
    exact hc.rt hfin (fn := Tryz.f183) (by kernel_rfl) (orc := []) (m := 3) (by kernel_rfl) .nil h Le.rfl rfl
  · subst h0
    replace h := k0
    rcases brk h with ⟨h1, h⟩ | ⟨h1, h⟩
    · exact hc.rt hfin (fn := Tryz.f183) (by kernel_rfl) (orc := [(4, [(3, oT)])]) (m := 6) (by kernel_rfl) (.cons (Le.tt h1) .nil) h Le.rfl rfl
    · obtain ⟨h2, h⟩ := chk h
      exact hc.rt hfin (fn := Tryz.f183) (by kernel_rfl) (orc := [(4, [(3, oF)]), (6, [(3, oC (.ip true [.int .i64 (t7.getD (t1.tmod 31).toNat default)]))])]) (m := 8) (by kernel_rfl) (.cons (Le.ff h1) (.cons ((by decide : (31:Int) ≠ 0)) (.cons (h2) (.cons (Le.iptl (g := true) (eL_at (xs := t7) (eInt_len .i64) (ixl h2))) .nil)))) h Le.rfl rfl

theorem g_maglev_Pick_0 (gx0 : Bool) {c : Cx} (hc : Is c Tryz.prog ty 183 30) (N : Nat) {r : Int × Bool × Int} (hfin : c.Fin [] (d_maglev_Pick r) []) (x0 : (List GCandidate)) (x1 : Int) (h : L_maglev_Pick N x0 x1 = some r) : c.Goes (items (bodyOf Tryz.f183) [.c 1]) ⟨[(0, .sl gx0 (eL eCandidate x0) x0.length x0.length), (1, .int .i64 x1)], []⟩ := by
  unfold L_maglev_Pick at h
  obtain ⟨v1, h0, h⟩ := bind_of h
  rcases brk h with ⟨h1, h⟩ | ⟨h1, h⟩
  · exact hc.jump (orc := [(1, [(1, oR (d_maglev_Build v1))]), (2, [(2, oT)])]) (m := 8) (kt := [1, 7, 14]) (kh := []) (by kernel_rfl) (.cons (c_maglev_Build N gx0 x0 h0) (.cons (Le.tt h1) .nil)) (g_maglev_Pick_1 gx0 hc N hfin x1 v1.1 true h)
  · exact hc.jump (orc := [(1, [(1, oR (d_maglev_Build v1))]), (2, [(2, oF)])]) (m := 8) (kt := [1, 7, 14]) (kh := []) (by kernel_rfl) (.cons (c_maglev_Build N gx0 x0 h0) (.cons (Le.ff h1) .nil)) (g_maglev_Pick_1 gx0 hc N hfin x1 v1.1 (decide (x1 < 0)) h)

theorem c_maglev_Pick (N : Nat) (gx0 : Bool) (x0 : (List GCandidate)) (x1 : Int) {r : Int × Bool × Int} (h : L_maglev_Pick N x0 x1 = some r) : Con Tryz.prog 183 [.sl gx0 (eL eCandidate x0) x0.length x0.length, .int .i64 x1] [] (d_maglev_Pick r) [] :=
  con_in ok mix (fn := Tryz.f183) (by kernel_rfl) (by kernel_rfl) fun hc hfin => g_maglev_Pick_0 gx0 hc N hfin x0 x1 h
/-! ### wharfage/edge.Choose -/
def L_edge_Choose (N : Nat) (x0 : (List GCandidate)) (x1 : Int) (x2 : GFlow) : Option (Int × Bool) :=
  (L_hash_Flow N x1 x2).bind fun v1 =>
  (L_maglev_Pick N x0 v1.1).bind fun v2 =>
  some (v2.1, v2.2.1)
def d_edge_Choose (r : Int × Bool) : D := .tup [.int .i64 r.1, .bool r.2]
theorem g_edge_Choose_0 (gx0 : Bool) {c : Cx} (hc : Is c Tryz.prog ty 132 28) (N : Nat) {r : Int × Bool} (hfin : c.Fin [] (d_edge_Choose r) []) (x0 : (List GCandidate)) (x1 : Int) (x2 : GFlow) (h : L_edge_Choose N x0 x1 x2 = some r) : c.Goes (items (bodyOf Tryz.f132) [.c 1]) ⟨[(0, .sl gx0 (eL eCandidate x0) x0.length x0.length), (1, .int .i64 x1), (2, .agg [.int .i64 x2.Src, .int .i64 x2.Dst, .int .i64 x2.Proto, .int .i64 x2.Sport, .int .i64 x2.Dport])], []⟩ := by
  unfold L_edge_Choose at h
  obtain ⟨v1, h0, h⟩ := bind_of h
  obtain ⟨v2, h1, h⟩ := bind_of h
  exact hc.rt hfin (fn := Tryz.f132) (by kernel_rfl) (orc := [(1, [(2, oR (d_hash_Flow v1))]), (2, [(2, oR (d_maglev_Pick v2))])]) (m := 8) (by kernel_rfl) (.cons (c_hash_Flow N x1 x2 h0) (.cons (c_maglev_Pick N gx0 x0 v1.1 h1) .nil)) h Le.rfl rfl

theorem c_edge_Choose (N : Nat) (gx0 : Bool) (x0 : (List GCandidate)) (x1 : Int) (x2 : GFlow) {r : Int × Bool} (h : L_edge_Choose N x0 x1 x2 = some r) : Con Tryz.prog 132 [.sl gx0 (eL eCandidate x0) x0.length x0.length, .int .i64 x1, .agg [.int .i64 x2.Src, .int .i64 x2.Dst, .int .i64 x2.Proto, .int .i64 x2.Sport, .int .i64 x2.Dport]] [] (d_edge_Choose r) [] :=
  con_in ok mix (fn := Tryz.f132) (by kernel_rfl) (by kernel_rfl) fun hc hfin => g_edge_Choose_0 gx0 hc N hfin x0 x1 x2 h
/-! ### wharfage/edge.pinned -/
def L_edge_pinned_1 (N : Nat) (t0 : GEdge) (b140_0 b140_1 b140_2 b140_3 b140_4 b148_0 b148_1 b148_2 b148_3 b148_4 b148_5 : Int) (b148_6 : Bool) (b148_7 b148_8 b164_0 b164_1 b164_2 b164_3 b164_4 b164_5 : Int) (b164_6 : Bool) (b164_7 b164_8 : Int) (t44 : Bool) : Option (GEntry × Bool) :=
  bif t44 then
    some ((GEntry.mk (GFlow.mk b164_0 b164_1 b164_2 b164_3 b164_4) b164_5 b164_6 b164_7 b164_8), true)
  else
    (L_cand_Sites N t0.Config t0.Health).bind fun v1 =>
    (L_edge_Choose N v1.1 0 (GFlow.mk b140_0 b140_1 b140_2 b140_3 b140_4)).bind fun v2 =>
    some ((GEntry.mk (GFlow.mk b140_0 b140_1 b140_2 b140_3 b140_4) v2.1 false 0 0), v2.2)
def L_edge_pinned (N : Nat) (x0 : GEdge) (x1 : Int) (x2 : GFlow) : Option (GEntry × Bool) :=
  (L_cache_Find N x0.Flows x2 x1).bind fun v1 =>
  bif v1.2 then
    (L_conf_Has N x0.Config v1.1.To (-1)).bind fun v2 =>
    bif v2 then
      if 0 ≤ v1.1.To ∧ v1.1.To < ((x0.Health.length : Nat) : Int) then
      L_edge_pinned_1 N x0 x2.Src x2.Dst x2.Proto x2.Sport x2.Dport 0 0 0 0 0 0 false 0 0 v1.1.Flow.Src v1.1.Flow.Dst v1.1.Flow.Proto v1.1.Flow.Sport v1.1.Flow.Dport v1.1.To v1.1.Away v1.1.Phase v1.1.Used ((x0.Health.getD v1.1.To.toNat default).Up)
      else none
    else
      L_edge_pinned_1 N x0 x2.Src x2.Dst x2.Proto x2.Sport x2.Dport 0 0 0 0 0 0 false 0 0 v1.1.Flow.Src v1.1.Flow.Dst v1.1.Flow.Proto v1.1.Flow.Sport v1.1.Flow.Dport v1.1.To v1.1.Away v1.1.Phase v1.1.Used false
  else
    L_edge_pinned_1 N x0 x2.Src x2.Dst x2.Proto x2.Sport x2.Dport 0 0 0 0 0 0 false 0 0 v1.1.Flow.Src v1.1.Flow.Dst v1.1.Flow.Proto v1.1.Flow.Sport v1.1.Flow.Dport v1.1.To v1.1.Away v1.1.Phase v1.1.Used false
def d_edge_pinned (r : GEntry × Bool) : D := .tup [.agg [.int .i64 r.1.Flow.Src, .int .i64 r.1.Flow.Dst, .int .i64 r.1.Flow.Proto, .int .i64 r.1.Flow.Sport, .int .i64 r.1.Flow.Dport, .int .i64 r.1.To, .bool r.1.Away, .int .i64 r.1.Phase, .int .i64 r.1.Used], .bool r.2]
theorem g_edge_pinned_1 (gx0 : Bool) {c : Cx} (hc : Is c Tryz.prog ty 64 68) (N : Nat) {r : GEntry × Bool} (hfin : c.Fin [] (d_edge_pinned r) []) (t0 : GEdge) (b140_0 b140_1 b140_2 b140_3 b140_4 b148_0 b148_1 b148_2 b148_3 b148_4 b148_5 : Int) (b148_6 : Bool) (b148_7 b148_8 b164_0 b164_1 b164_2 b164_3 b164_4 b164_5 : Int) (b164_6 : Bool) (b164_7 b164_8 : Int) (t44 : Bool) (h : L_edge_pinned_1 N t0 b140_0 b140_1 b140_2 b140_3 b140_4 b148_0 b148_1 b148_2 b148_3 b148_4 b148_5 b148_6 b148_7 b148_8 b164_0 b164_1 b164_2 b164_3 b164_4 b164_5 b164_6 b164_7 b164_8 t44 = some r) : c.Goes (items (bodyOf Tryz.f64) [.c 27, .c 15]) ⟨[(0, .ip gx0 [.int .i64 t0.Id, .int .i64 t0.Config.Version, .sl true (eL (eSite true) t0.Config.Sites) t0.Config.Sites.length t0.Config.Sites.length, .sl true (eL eHealth t0.Health) t0.Health.length t0.Health.length, .sl true (eL eEntry t0.Flows) t0.Flows.length t0.Flows.length]), (5, .ptr 140 0), (6, .ptr 148 0), (8, .ptr 164 0), (44, .bool t44)], [(140, some ⟨false, 0, [.int .i64 b140_0, .int .i64 b140_1, .int .i64 b140_2, .int .i64 b140_3, .int .i64 b140_4]⟩), (148, some ⟨false, 0, [.int .i64 b148_0, .int .i64 b148_1, .int .i64 b148_2, .int .i64 b148_3, .int .i64 b148_4, .int .i64 b148_5, .bool b148_6, .int .i64 b148_7, .int .i64 b148_8]⟩), (164, some ⟨false, 0, [.int .i64 b164_0, .int .i64 b164_1, .int .i64 b164_2, .int .i64 b164_3, .int .i64 b164_4, .int .i64 b164_5, .bool b164_6, .int .i64 b164_7, .int .i64 b164_8]⟩)]⟩ := by
  unfold L_edge_pinned_1 at h
  rcases brk h with ⟨h0, k0⟩ | ⟨h0, k0⟩
  · subst h0
    replace h := k0
    exact hc.rt hfin (fn := Tryz.f64) (by kernel_rfl) (orc := []) (m := 3) (by kernel_rfl) .nil h Le.rfl rfl
  · subst h0
    replace h := k0
    obtain ⟨v1, h1, h⟩ := bind_of h
    obtain ⟨v2, h2, h⟩ := bind_of h
    exact hc.rt hfin (fn := Tryz.f64) (by kernel_rfl) (orc := [(4, [(8, oR (d_cand_Sites v1))]), (5, [(2, oR (d_edge_Choose v2))])]) (m := 8) (by kernel_rfl) (.cons (c_cand_Sites N true true t0.Config t0.Health h1) (.cons (c_edge_Choose N true v1.1 0 (GFlow.mk b140_0 b140_1 b140_2 b140_3 b140_4) h2) .nil)) h Le.rfl rfl

theorem g_edge_pinned_0 (gx0 : Bool) {c : Cx} (hc : Is c Tryz.prog ty 64 68) (N : Nat) {r : GEntry × Bool} (hfin : c.Fin [] (d_edge_pinned r) []) (x0 : GEdge) (x1 : Int) (x2 : GFlow) (h : L_edge_pinned N x0 x1 x2 = some r) : c.Goes (items (bodyOf Tryz.f64) [.c 1]) ⟨[(0, .ip gx0 [.int .i64 x0.Id, .int .i64 x0.Config.Version, .sl true (eL (eSite true) x0.Config.Sites) x0.Config.Sites.length x0.Config.Sites.length, .sl true (eL eHealth x0.Health) x0.Health.length x0.Health.length, .sl true (eL eEntry x0.Flows) x0.Flows.length x0.Flows.length]), (1, .int .i64 x1), (2, .agg [.int .i64 x2.Src, .int .i64 x2.Dst, .int .i64 x2.Proto, .int .i64 x2.Sport, .int .i64 x2.Dport])], []⟩ := by
  unfold L_edge_pinned at h
  obtain ⟨v1, h0, h⟩ := bind_of h
  rcases brk h with ⟨h1, h⟩ | ⟨h1, h⟩
  · obtain ⟨v2, h2, h⟩ := bind_of h
    rcases brk h with ⟨h3, h⟩ | ⟨h3, h⟩
    · obtain ⟨h4, h⟩ := chk h
      exact hc.jump (orc := [(1, [(6, oR (d_cache_Find v1))]), (2, [(1, oT), (8, oR (d_conf_Has v2)), (10, oT), (17, oC (.ip true [.bool ((x0.Health.getD v1.1.To.toNat default).Up), .int .i64 ((x0.Health.getD v1.1.To.toNat default).Count)]))])]) (m := 7) (kt := [0, 5, 6, 8, 44]) (kh := [(140, 140), (148, 148), (164, 164)]) (by kernel_rfl) (.cons (c_cache_Find N true x0.Flows x2 x1 h0) (.cons (Le.tt h1) (.cons (c_conf_Has N x0.Config v1.1.To (-1) h2) (.cons (Le.tt h3) (.cons (h4) (.cons (Le.iptl (g := true) (eL_at (xs := x0.Health) eHealth_len (ixl h4))) .nil)))))) (g_edge_pinned_1 gx0 hc N hfin x0 x2.Src x2.Dst x2.Proto x2.Sport x2.Dport 0 0 0 0 0 0 false 0 0 v1.1.Flow.Src v1.1.Flow.Dst v1.1.Flow.Proto v1.1.Flow.Sport v1.1.Flow.Dport v1.1.To v1.1.Away v1.1.Phase v1.1.Used ((x0.Health.getD v1.1.To.toNat default).Up) h)
    · exact hc.jump (orc := [(1, [(6, oR (d_cache_Find v1))]), (2, [(1, oT), (8, oR (d_conf_Has v2)), (10, oF)])]) (m := 7) (kt := [0, 5, 6, 8, 44]) (kh := [(140, 140), (148, 148), (164, 164)]) (by kernel_rfl) (.cons (c_cache_Find N true x0.Flows x2 x1 h0) (.cons (Le.tt h1) (.cons (c_conf_Has N x0.Config v1.1.To (-1) h2) (.cons (Le.ff h3) .nil)))) (g_edge_pinned_1 gx0 hc N hfin x0 x2.Src x2.Dst x2.Proto x2.Sport x2.Dport 0 0 0 0 0 0 false 0 0 v1.1.Flow.Src v1.1.Flow.Dst v1.1.Flow.Proto v1.1.Flow.Sport v1.1.Flow.Dport v1.1.To v1.1.Away v1.1.Phase v1.1.Used false h)
  · exact hc.jump (orc := [(1, [(6, oR (d_cache_Find v1))]), (2, [(1, oF)])]) (m := 7) (kt := [0, 5, 6, 8, 44]) (kh := [(140, 140), (148, 148), (164, 164)]) (by kernel_rfl) (.cons (c_cache_Find N true x0.Flows x2 x1 h0) (.cons (Le.ff h1) .nil)) (g_edge_pinned_1 gx0 hc N hfin x0 x2.Src x2.Dst x2.Proto x2.Sport x2.Dport 0 0 0 0 0 0 false 0 0 v1.1.Flow.Src v1.1.Flow.Dst v1.1.Flow.Proto v1.1.Flow.Sport v1.1.Flow.Dport v1.1.To v1.1.Away v1.1.Phase v1.1.Used false h)

theorem c_edge_pinned (N : Nat) (gx0 : Bool) (x0 : GEdge) (x1 : Int) (x2 : GFlow) {r : GEntry × Bool} (h : L_edge_pinned N x0 x1 x2 = some r) : Con Tryz.prog 64 [.ip gx0 [.int .i64 x0.Id, .int .i64 x0.Config.Version, .sl true (eL (eSite true) x0.Config.Sites) x0.Config.Sites.length x0.Config.Sites.length, .sl true (eL eHealth x0.Health) x0.Health.length x0.Health.length, .sl true (eL eEntry x0.Flows) x0.Flows.length x0.Flows.length], .int .i64 x1, .agg [.int .i64 x2.Src, .int .i64 x2.Dst, .int .i64 x2.Proto, .int .i64 x2.Sport, .int .i64 x2.Dport]] [] (d_edge_pinned r) [] :=
  con_in ok mix (fn := Tryz.f64) (by kernel_rfl) (by kernel_rfl) fun hc hfin => g_edge_pinned_0 gx0 hc N hfin x0 x1 x2 h
/-! ### wharfage/addr.below -/
def L_addr_below_1 (N : Nat) (t4 : Bool) : Option (Bool) :=
  some t4
def L_addr_below (N : Nat) (x0 x1 : Int) : Option (Bool) :=
  bif (decide (x0 ≥ 0)) then
    L_addr_below_1 N (decide (x0 < x1))
  else
    L_addr_below_1 N false
def d_addr_below (r : Bool) : D := .bool r
theorem g_addr_below_1 {c : Cx} (hc : Is c Tryz.prog ty 133 12) (N : Nat) {r : Bool} (hfin : c.Fin [] (d_addr_below r) []) (t4 : Bool) (h : L_addr_below_1 N t4 = some r) : c.Goes (items (bodyOf Tryz.f133) [.c 7]) ⟨[(4, .bool t4)], []⟩ := by
  unfold L_addr_below_1 at h
  exact hc.rt hfin (fn := Tryz.f133) (by kernel_rfl) (orc := []) (m := 0) (by kernel_rfl) .nil h Le.rfl rfl

theorem g_addr_below_0 {c : Cx} (hc : Is c Tryz.prog ty 133 12) (N : Nat) {r : Bool} (hfin : c.Fin [] (d_addr_below r) []) (x0 x1 : Int) (h : L_addr_below N x0 x1 = some r) : c.Goes (items (bodyOf Tryz.f133) [.c 1]) ⟨[(0, .int .i64 x0), (1, .int .i64 x1)], []⟩ := by
  unfold L_addr_below at h
  rcases brk h with ⟨h0, h⟩ | ⟨h0, h⟩
  · exact hc.jump (orc := [(1, [(2, oT)])]) (m := 4) (kt := [4]) (kh := []) (by kernel_rfl) (.cons (Le.tt h0) .nil) (g_addr_below_1 hc N hfin (decide (x0 < x1)) h)
  · exact hc.jump (orc := [(1, [(2, oF)])]) (m := 4) (kt := [4]) (kh := []) (by kernel_rfl) (.cons (Le.ff h0) .nil) (g_addr_below_1 hc N hfin false h)

theorem c_addr_below (N : Nat) (x0 x1 : Int) {r : Bool} (h : L_addr_below N x0 x1 = some r) : Con Tryz.prog 133 [.int .i64 x0, .int .i64 x1] [] (d_addr_below r) [] :=
  con_in ok mix (fn := Tryz.f133) (by kernel_rfl) (by kernel_rfl) fun hc hfin => g_addr_below_0 hc N hfin x0 x1 h
/-! ### wharfage/addr.Address -/
def L_addr_Address_3 (N : Nat) (t1 t2 : Int) (t34 : Bool) : Option (Int × Int) :=
  bif t34 then
    via ((IntKind.i64.wrap ((167968768 : Int) + (IntKind.i64.wrap ((256 : Int) * t1)))) : Int) fun v1 =>
    some ((IntKind.i64.wrap (v1 + t2)), 0)
  else
    some (0, 500)
def L_addr_Address_2 (N : Nat) (t0 t1 t2 : Int) (t21 : Bool) : Option (Int × Int) :=
  bif t21 then
    some ((IntKind.i64.wrap ((167903232 : Int) + t1)), 0)
  else
    bif (t0 == 2) then
      (L_addr_below N t1 3).bind fun v1 =>
      bif v1 then
        (L_addr_below N t2 4).bind fun v2 =>
        L_addr_Address_3 N t1 t2 v2
      else
        L_addr_Address_3 N t1 t2 false
    else
      L_addr_Address_3 N t1 t2 false
def L_addr_Address_1 (N : Nat) (t0 t1 t2 : Int) (t8 : Bool) : Option (Int × Int) :=
  bif t8 then
    some ((IntKind.i64.wrap ((167837696 : Int) + t2)), 0)
  else
    bif (t0 == 1) then
      (L_addr_below N t1 3).bind fun v1 =>
      bif v1 then
        L_addr_Address_2 N t0 t1 t2 (t2 == 0)
      else
        L_addr_Address_2 N t0 t1 t2 false
    else
      L_addr_Address_2 N t0 t1 t2 false
def L_addr_Address (N : Nat) (x0 x1 x2 : Int) : Option (Int × Int) :=
  bif (x0 == 0) then
    bif (x1 == 0) then
      (L_addr_below N x2 2).bind fun v1 =>
      L_addr_Address_1 N x0 x1 x2 v1
    else
      L_addr_Address_1 N x0 x1 x2 false
  else
    L_addr_Address_1 N x0 x1 x2 false
def d_addr_Address (r : Int × Int) : D := .tup [.int .i64 r.1, .int .i64 r.2]
theorem g_addr_Address_3 {c : Cx} (hc : Is c Tryz.prog ty 65 50) (N : Nat) {r : Int × Int} (hfin : c.Fin [] (d_addr_Address r) []) (t1 t2 : Int) (t34 : Bool) (h : L_addr_Address_3 N t1 t2 t34 = some r) : c.Goes (items (bodyOf Tryz.f65) [.c 505, .b 0, .c 7]) ⟨[(1, .int .i64 t1), (2, .int .i64 t2), (34, .bool t34)], []⟩ := by
  unfold L_addr_Address_3 at h
  rcases brk h with ⟨h0, k0⟩ | ⟨h0, k0⟩
  · subst h0
    replace h := k0
    obtain ⟨v1, h1, h⟩ := via_some h
    exact hc.rt hfin (fn := Tryz.f65) (by kernel_rfl) (orc := [(6, [(2, oC (.int .i64 v1))])]) (m := 3) (by kernel_rfl) (.cons (Le.int (k := .i64) h1) .nil) h Le.rfl rfl
  · subst h0
    replace h := k0
    exact hc.rt hfin (fn := Tryz.f65) (by kernel_rfl) (orc := []) (m := 5) (by kernel_rfl) .nil h Le.rfl rfl

theorem g_addr_Address_2 {c : Cx} (hc : Is c Tryz.prog ty 65 50) (N : Nat) {r : Int × Int} (hfin : c.Fin [] (d_addr_Address r) []) (t0 t1 t2 : Int) (t21 : Bool) (h : L_addr_Address_2 N t0 t1 t2 t21 = some r) : c.Goes (items (bodyOf Tryz.f65) [.c 121, .b 0, .c 7]) ⟨[(0, .int .i64 t0), (1, .int .i64 t1), (2, .int .i64 t2), (21, .bool t21)], []⟩ := by
  unfold L_addr_Address_2 at h
  rcases brk h with ⟨h0, k0⟩ | ⟨h0, k0⟩
  · subst h0
    replace h := k0
    exact hc.rt hfin (fn := Tryz.f65) (by kernel_rfl) (orc := []) (m := 3) (by kernel_rfl) .nil h Le.rfl rfl
  · subst h0
    replace h := k0
    rcases brk h with ⟨h1, h⟩ | ⟨h1, h⟩
    · obtain ⟨v1, h2, h⟩ := bind_of h
      rcases brk h with ⟨h3, h⟩ | ⟨h3, h⟩
      · obtain ⟨v2, h4, h⟩ := bind_of h
        exact hc.jump (orc := [(5, [(2, oT), (4, oR (d_addr_below v1)), (6, oT), (8, oR (d_addr_below v2))])]) (m := 3) (kt := [1, 2, 34]) (kh := []) (by kernel_rfl) (.cons (Le.tt h1) (.cons (c_addr_below N t1 3 h2) (.cons (Le.tt h3) (.cons (c_addr_below N t2 4 h4) .nil)))) (g_addr_Address_3 hc N hfin t1 t2 v2 h)
      · exact hc.jump (orc := [(5, [(2, oT), (4, oR (d_addr_below v1)), (6, oF)])]) (m := 3) (kt := [1, 2, 34]) (kh := []) (by kernel_rfl) (.cons (Le.tt h1) (.cons (c_addr_below N t1 3 h2) (.cons (Le.ff h3) .nil))) (g_addr_Address_3 hc N hfin t1 t2 false h)
    · exact hc.jump (orc := [(5, [(2, oF)])]) (m := 3) (kt := [1, 2, 34]) (kh := []) (by kernel_rfl) (.cons (Le.ff h1) .nil) (g_addr_Address_3 hc N hfin t1 t2 false h)

theorem g_addr_Address_1 {c : Cx} (hc : Is c Tryz.prog ty 65 50) (N : Nat) {r : Int × Int} (hfin : c.Fin [] (d_addr_Address r) []) (t0 t1 t2 : Int) (t8 : Bool) (h : L_addr_Address_1 N t0 t1 t2 t8 = some r) : c.Goes (items (bodyOf Tryz.f65) [.c 25, .b 0, .c 7]) ⟨[(0, .int .i64 t0), (1, .int .i64 t1), (2, .int .i64 t2), (8, .bool t8)], []⟩ := by
  unfold L_addr_Address_1 at h
  rcases brk h with ⟨h0, k0⟩ | ⟨h0, k0⟩
  · subst h0
    replace h := k0
    exact hc.rt hfin (fn := Tryz.f65) (by kernel_rfl) (orc := []) (m := 3) (by kernel_rfl) .nil h Le.rfl rfl
  · subst h0
    replace h := k0
    rcases brk h with ⟨h1, h⟩ | ⟨h1, h⟩
    · obtain ⟨v1, h2, h⟩ := bind_of h
      rcases brk h with ⟨h3, h⟩ | ⟨h3, h⟩
      · exact hc.jump (orc := [(3, [(2, oT), (4, oR (d_addr_below v1)), (6, oT)])]) (m := 3) (kt := [0, 1, 2, 21]) (kh := []) (by kernel_rfl) (.cons (Le.tt h1) (.cons (c_addr_below N t1 3 h2) (.cons (Le.tt h3) .nil))) (g_addr_Address_2 hc N hfin t0 t1 t2 (t2 == 0) h)
      · exact hc.jump (orc := [(3, [(2, oT), (4, oR (d_addr_below v1)), (6, oF)])]) (m := 3) (kt := [0, 1, 2, 21]) (kh := []) (by kernel_rfl) (.cons (Le.tt h1) (.cons (c_addr_below N t1 3 h2) (.cons (Le.ff h3) .nil))) (g_addr_Address_2 hc N hfin t0 t1 t2 false h)
    · exact hc.jump (orc := [(3, [(2, oF)])]) (m := 3) (kt := [0, 1, 2, 21]) (kh := []) (by kernel_rfl) (.cons (Le.ff h1) .nil) (g_addr_Address_2 hc N hfin t0 t1 t2 false h)

theorem g_addr_Address_0 {c : Cx} (hc : Is c Tryz.prog ty 65 50) (N : Nat) {r : Int × Int} (hfin : c.Fin [] (d_addr_Address r) []) (x0 x1 x2 : Int) (h : L_addr_Address N x0 x1 x2 = some r) : c.Goes (items (bodyOf Tryz.f65) [.c 1]) ⟨[(0, .int .i64 x0), (1, .int .i64 x1), (2, .int .i64 x2)], []⟩ := by
  unfold L_addr_Address at h
  rcases brk h with ⟨h0, h⟩ | ⟨h0, h⟩
  · rcases brk h with ⟨h1, h⟩ | ⟨h1, h⟩
    · obtain ⟨v1, h2, h⟩ := bind_of h
      exact hc.jump (orc := [(1, [(2, oT), (6, oT), (8, oR (d_addr_below v1))])]) (m := 6) (kt := [0, 1, 2, 8]) (kh := []) (by kernel_rfl) (.cons (Le.tt h0) (.cons (Le.tt h1) (.cons (c_addr_below N x2 2 h2) .nil))) (g_addr_Address_1 hc N hfin x0 x1 x2 v1 h)
    · exact hc.jump (orc := [(1, [(2, oT), (6, oF)])]) (m := 6) (kt := [0, 1, 2, 8]) (kh := []) (by kernel_rfl) (.cons (Le.tt h0) (.cons (Le.ff h1) .nil)) (g_addr_Address_1 hc N hfin x0 x1 x2 false h)
  · exact hc.jump (orc := [(1, [(2, oF)])]) (m := 6) (kt := [0, 1, 2, 8]) (kh := []) (by kernel_rfl) (.cons (Le.ff h0) .nil) (g_addr_Address_1 hc N hfin x0 x1 x2 false h)

theorem c_addr_Address (N : Nat) (x0 x1 x2 : Int) {r : Int × Int} (h : L_addr_Address N x0 x1 x2 = some r) : Con Tryz.prog 65 [.int .i64 x0, .int .i64 x1, .int .i64 x2] [] (d_addr_Address r) [] :=
  con_in ok mix (fn := Tryz.f65) (by kernel_rfl) (by kernel_rfl) fun hc hfin => g_addr_Address_0 hc N hfin x0 x1 x2 h
/-! ### wharfage/addr.Whose -/
def L_addr_Whose_1 (N : Nat) (t8 : Int) (t23 : Bool) : Option (Int × Int × Int × Bool) :=
  bif t23 then
    some (2, (IntKind.i64.wrap (t8.tdiv 256)), (t8.tmod 256), true)
  else
    some (0, 0, 0, false)
def L_addr_Whose (N : Nat) (x0 : Int) : Option (Int × Int × Int × Bool) :=
  (L_addr_below N (IntKind.i64.wrap (x0 - 167837696)) 2).bind fun v1 =>
  bif v1 then
    some (0, 0, (IntKind.i64.wrap (x0 - 167837696)), true)
  else
    (L_addr_below N (IntKind.i64.wrap (x0 - 167903232)) 3).bind fun v2 =>
    bif v2 then
      some (1, (IntKind.i64.wrap (x0 - 167903232)), 0, true)
    else
      (L_addr_below N (IntKind.i64.wrap (x0 - 167968768)) 768).bind fun v3 =>
      bif v3 then
        via (((IntKind.i64.wrap (x0 - 167968768)).tmod 256) : Int) fun v4 =>
        L_addr_Whose_1 N (IntKind.i64.wrap (x0 - 167968768)) (decide (v4 < 4))
      else
        L_addr_Whose_1 N (IntKind.i64.wrap (x0 - 167968768)) false
def d_addr_Whose (r : Int × Int × Int × Bool) : D := .tup [.int .i64 r.1, .int .i64 r.2.1, .int .i64 r.2.2.1, .bool r.2.2.2]
theorem g_addr_Whose_1 {c : Cx} (hc : Is c Tryz.prog ty 206 35) (N : Nat) {r : Int × Int × Int × Bool} (hfin : c.Fin [] (d_addr_Whose r) []) (t8 : Int) (t23 : Bool) (h : L_addr_Whose_1 N t8 t23 = some r) : c.Goes (items (bodyOf Tryz.f206) [.c 1011, .b 0, .c 15]) ⟨[(8, .int .i64 t8), (23, .bool t23)], []⟩ := by
  unfold L_addr_Whose_1 at h
  rcases brk h with ⟨h0, k0⟩ | ⟨h0, k0⟩
  · subst h0
    replace h := k0
    exact hc.rt hfin (fn := Tryz.f206) (by kernel_rfl) (orc := []) (m := 3) (by kernel_rfl) (.cons ((by decide : (256:Int) ≠ 0)) (.cons ((by decide : (256:Int) ≠ 0)) .nil)) h Le.rfl rfl
  · subst h0
    replace h := k0
    exact hc.rt hfin (fn := Tryz.f206) (by kernel_rfl) (orc := []) (m := 5) (by kernel_rfl) .nil h Le.rfl rfl

theorem g_addr_Whose_0 {c : Cx} (hc : Is c Tryz.prog ty 206 35) (N : Nat) {r : Int × Int × Int × Bool} (hfin : c.Fin [] (d_addr_Whose r) []) (x0 : Int) (h : L_addr_Whose N x0 = some r) : c.Goes (items (bodyOf Tryz.f206) [.c 1]) ⟨[(0, .int .i64 x0)], []⟩ := by
  unfold L_addr_Whose at h
  obtain ⟨v1, h0, h⟩ := bind_of h
  rcases brk h with ⟨h1, h⟩ | ⟨h1, h⟩
  · exact hc.rt hfin (fn := Tryz.f206) (by kernel_rfl) (orc := [(2, [(1, oR (d_addr_below v1)), (2, oT)])]) (m := 11) (by kernel_rfl) (.cons (c_addr_below N (IntKind.i64.wrap (x0 - 167837696)) 2 h0) (.cons (Le.tt h1) .nil)) h Le.rfl rfl
  · obtain ⟨v2, h2, h⟩ := bind_of h
    rcases brk h with ⟨h3, h⟩ | ⟨h3, h⟩
    · exact hc.rt hfin (fn := Tryz.f206) (by kernel_rfl) (orc := [(2, [(1, oR (d_addr_below v1)), (2, oF)]), (4, [(1, oR (d_addr_below v2)), (2, oT)])]) (m := 14) (by kernel_rfl) (.cons (c_addr_below N (IntKind.i64.wrap (x0 - 167837696)) 2 h0) (.cons (Le.ff h1) (.cons (c_addr_below N (IntKind.i64.wrap (x0 - 167903232)) 3 h2) (.cons (Le.tt h3) .nil)))) h Le.rfl rfl
    · obtain ⟨v3, h4, h⟩ := bind_of h
      rcases brk h with ⟨h5, h⟩ | ⟨h5, h⟩
      · obtain ⟨v4, h6, h⟩ := via_some h
        exact hc.jump (orc := [(2, [(1, oR (d_addr_below v1)), (2, oF)]), (4, [(1, oR (d_addr_below v2)), (2, oF)]), (6, [(1, oR (d_addr_below v3)), (2, oT), (4, oC (.int .i64 v4))])]) (m := 14) (kt := [8, 23]) (kh := []) (by kernel_rfl) (.cons (c_addr_below N (IntKind.i64.wrap (x0 - 167837696)) 2 h0) (.cons (Le.ff h1) (.cons (c_addr_below N (IntKind.i64.wrap (x0 - 167903232)) 3 h2) (.cons (Le.ff h3) (.cons (c_addr_below N (IntKind.i64.wrap (x0 - 167968768)) 768 h4) (.cons (Le.tt h5) (.cons ((by decide : (256:Int) ≠ 0)) (.cons (Le.int (k := .i64) h6) .nil)))))))) (g_addr_Whose_1 hc N hfin (IntKind.i64.wrap (x0 - 167968768)) (decide (v4 < 4)) h)
      · exact hc.jump (orc := [(2, [(1, oR (d_addr_below v1)), (2, oF)]), (4, [(1, oR (d_addr_below v2)), (2, oF)]), (6, [(1, oR (d_addr_below v3)), (2, oF)])]) (m := 14) (kt := [8, 23]) (kh := []) (by kernel_rfl) (.cons (c_addr_below N (IntKind.i64.wrap (x0 - 167837696)) 2 h0) (.cons (Le.ff h1) (.cons (c_addr_below N (IntKind.i64.wrap (x0 - 167903232)) 3 h2) (.cons (Le.ff h3) (.cons (c_addr_below N (IntKind.i64.wrap (x0 - 167968768)) 768 h4) (.cons (Le.ff h5) .nil)))))) (g_addr_Whose_1 hc N hfin (IntKind.i64.wrap (x0 - 167968768)) false h)

theorem c_addr_Whose (N : Nat) (x0 : Int) {r : Int × Int × Int × Bool} (h : L_addr_Whose N x0 = some r) : Con Tryz.prog 206 [.int .i64 x0] [] (d_addr_Whose r) [] :=
  con_in ok mix (fn := Tryz.f206) (by kernel_rfl) (by kernel_rfl) fun hc hfin => g_addr_Whose_0 hc N hfin x0 h
/-! ### wharfage/gue.node -/
def L_gue_node (N : Nat) (x0 : Int) : Option (Bool) :=
  (L_addr_Whose N x0).bind fun v1 =>
  some v1.2.2.2
def d_gue_node (r : Bool) : D := .bool r
theorem g_gue_node_0 {c : Cx} (hc : Is c Tryz.prog ty 217 15) (N : Nat) {r : Bool} (hfin : c.Fin [] (d_gue_node r) []) (x0 : Int) (h : L_gue_node N x0 = some r) : c.Goes (items (bodyOf Tryz.f217) [.c 1]) ⟨[(0, .int .i64 x0)], []⟩ := by
  unfold L_gue_node at h
  obtain ⟨v1, h0, h⟩ := bind_of h
  exact hc.rt hfin (fn := Tryz.f217) (by kernel_rfl) (orc := [(1, [(1, oR (d_addr_Whose v1))])]) (m := 6) (by kernel_rfl) (.cons (c_addr_Whose N x0 h0) .nil) h Le.rfl rfl

theorem c_gue_node (N : Nat) (x0 : Int) {r : Bool} (h : L_gue_node N x0 = some r) : Con Tryz.prog 217 [.int .i64 x0] [] (d_gue_node r) [] :=
  con_in ok mix (fn := Tryz.f217) (by kernel_rfl) (by kernel_rfl) fun hc hfin => g_gue_node_0 hc N hfin x0 h
/-! ### wharfage/gue.May -/
def L_gue_May_1 (N : Nat) (t2 : Bool) : Option (Bool) :=
  some t2
def L_gue_May (N : Nat) (x0 : GOuter) : Option (Bool) :=
  (L_gue_node N x0.Src).bind fun v1 =>
  bif v1 then
    (L_gue_node N x0.Dst).bind fun v2 =>
    bif v2 then
      bif (decide (x0.Tier ≥ 1)) then
        bif (decide (x0.Tier ≤ 4)) then
          (L_ip_In N x0.Marker 8).bind fun v3 =>
          bif v3 then
            (L_ip_In N x0.Origin 8).bind fun v4 =>
            bif v4 then
              L_gue_May_1 N (decide ((x0.Body.size : Int) ≤ 512))
            else
              L_gue_May_1 N false
          else
            L_gue_May_1 N false
        else
          L_gue_May_1 N false
      else
        L_gue_May_1 N false
    else
      L_gue_May_1 N false
  else
    L_gue_May_1 N false
def d_gue_May (r : Bool) : D := .bool r
theorem g_gue_May_1 {c : Cx} (hc : Is c Tryz.prog ty 184 37) (N : Nat) {r : Bool} (hfin : c.Fin [] (d_gue_May r) []) (t2 : Bool) (h : L_gue_May_1 N t2 = some r) : c.Goes (items (bodyOf Tryz.f184) [.c 7]) ⟨[(2, .bool t2)], []⟩ := by
  unfold L_gue_May_1 at h
  exact hc.rt hfin (fn := Tryz.f184) (by kernel_rfl) (orc := []) (m := 0) (by kernel_rfl) .nil h Le.rfl rfl

theorem g_gue_May_0 {c : Cx} (hc : Is c Tryz.prog ty 184 37) (N : Nat) {r : Bool} (hfin : c.Fin [] (d_gue_May r) []) (x0 : GOuter) (h : L_gue_May N x0 = some r) : c.Goes (items (bodyOf Tryz.f184) [.c 1]) ⟨[(0, .agg [.int .i64 x0.Src, .int .i64 x0.Dst, .int .i64 x0.Tier, .int .i64 x0.Marker, .int .i64 x0.Origin, .str x0.Body])], []⟩ := by
  unfold L_gue_May at h
  obtain ⟨v1, h0, h⟩ := bind_of h
  rcases brk h with ⟨h1, h⟩ | ⟨h1, h⟩
  · obtain ⟨v2, h2, h⟩ := bind_of h
    rcases brk h with ⟨h3, h⟩ | ⟨h3, h⟩
    · rcases brk h with ⟨h4, h⟩ | ⟨h4, h⟩
      · rcases brk h with ⟨h5, h⟩ | ⟨h5, h⟩
        · obtain ⟨v3, h6, h⟩ := bind_of h
          rcases brk h with ⟨h7, h⟩ | ⟨h7, h⟩
          · obtain ⟨v4, h8, h⟩ := bind_of h
            rcases brk h with ⟨h9, h⟩ | ⟨h9, h⟩
            · exact hc.jump (orc := [(1, [(2, oR (d_gue_node v1)), (3, oT), (6, oR (d_gue_node v2)), (8, oT), (13, oT), (18, oT), (21, oR (d_ip_In v3)), (23, oT), (26, oR (d_ip_In v4)), (28, oT)])]) (m := 4) (kt := [2]) (kh := []) (by kernel_rfl) (.cons (c_gue_node N x0.Src h0) (.cons (Le.tt h1) (.cons (c_gue_node N x0.Dst h2) (.cons (Le.tt h3) (.cons (Le.tt h4) (.cons (Le.tt h5) (.cons (c_ip_In N x0.Marker 8 h6) (.cons (Le.tt h7) (.cons (c_ip_In N x0.Origin 8 h8) (.cons (Le.tt h9) .nil)))))))))) (g_gue_May_1 hc N hfin (decide ((x0.Body.size : Int) ≤ 512)) h)
            · exact hc.jump (orc := [(1, [(2, oR (d_gue_node v1)), (3, oT), (6, oR (d_gue_node v2)), (8, oT), (13, oT), (18, oT), (21, oR (d_ip_In v3)), (23, oT), (26, oR (d_ip_In v4)), (28, oF)])]) (m := 4) (kt := [2]) (kh := []) (by kernel_rfl) (.cons (c_gue_node N x0.Src h0) (.cons (Le.tt h1) (.cons (c_gue_node N x0.Dst h2) (.cons (Le.tt h3) (.cons (Le.tt h4) (.cons (Le.tt h5) (.cons (c_ip_In N x0.Marker 8 h6) (.cons (Le.tt h7) (.cons (c_ip_In N x0.Origin 8 h8) (.cons (Le.ff h9) .nil)))))))))) (g_gue_May_1 hc N hfin false h)
          · exact hc.jump (orc := [(1, [(2, oR (d_gue_node v1)), (3, oT), (6, oR (d_gue_node v2)), (8, oT), (13, oT), (18, oT), (21, oR (d_ip_In v3)), (23, oF)])]) (m := 4) (kt := [2]) (kh := []) (by kernel_rfl) (.cons (c_gue_node N x0.Src h0) (.cons (Le.tt h1) (.cons (c_gue_node N x0.Dst h2) (.cons (Le.tt h3) (.cons (Le.tt h4) (.cons (Le.tt h5) (.cons (c_ip_In N x0.Marker 8 h6) (.cons (Le.ff h7) .nil)))))))) (g_gue_May_1 hc N hfin false h)
        · exact hc.jump (orc := [(1, [(2, oR (d_gue_node v1)), (3, oT), (6, oR (d_gue_node v2)), (8, oT), (13, oT), (18, oF)])]) (m := 4) (kt := [2]) (kh := []) (by kernel_rfl) (.cons (c_gue_node N x0.Src h0) (.cons (Le.tt h1) (.cons (c_gue_node N x0.Dst h2) (.cons (Le.tt h3) (.cons (Le.tt h4) (.cons (Le.ff h5) .nil)))))) (g_gue_May_1 hc N hfin false h)
      · exact hc.jump (orc := [(1, [(2, oR (d_gue_node v1)), (3, oT), (6, oR (d_gue_node v2)), (8, oT), (13, oF)])]) (m := 4) (kt := [2]) (kh := []) (by kernel_rfl) (.cons (c_gue_node N x0.Src h0) (.cons (Le.tt h1) (.cons (c_gue_node N x0.Dst h2) (.cons (Le.tt h3) (.cons (Le.ff h4) .nil))))) (g_gue_May_1 hc N hfin false h)
    · exact hc.jump (orc := [(1, [(2, oR (d_gue_node v1)), (3, oT), (6, oR (d_gue_node v2)), (8, oF)])]) (m := 4) (kt := [2]) (kh := []) (by kernel_rfl) (.cons (c_gue_node N x0.Src h0) (.cons (Le.tt h1) (.cons (c_gue_node N x0.Dst h2) (.cons (Le.ff h3) .nil)))) (g_gue_May_1 hc N hfin false h)
  · exact hc.jump (orc := [(1, [(2, oR (d_gue_node v1)), (3, oF)])]) (m := 4) (kt := [2]) (kh := []) (by kernel_rfl) (.cons (c_gue_node N x0.Src h0) (.cons (Le.ff h1) .nil)) (g_gue_May_1 hc N hfin false h)

theorem c_gue_May (N : Nat) (x0 : GOuter) {r : Bool} (h : L_gue_May N x0 = some r) : Con Tryz.prog 184 [.agg [.int .i64 x0.Src, .int .i64 x0.Dst, .int .i64 x0.Tier, .int .i64 x0.Marker, .int .i64 x0.Origin, .str x0.Body]] [] (d_gue_May r) [] :=
  con_in ok mix (fn := Tryz.f184) (by kernel_rfl) (by kernel_rfl) fun hc hfin => g_gue_May_0 hc N hfin x0 h
/-! ### wharfage/ip.May -/
def L_ip_May_1 (N : Nat) (t2 : Bool) : Option (Bool) :=
  some t2
def L_ip_May (N : Nat) (x0 : GIp) : Option (Bool) :=
  (L_ip_In N x0.Src 32).bind fun v1 =>
  bif v1 then
    (L_ip_In N x0.Dst 32).bind fun v2 =>
    bif v2 then
      (L_ip_In N x0.Proto 8).bind fun v3 =>
      bif v3 then
        (L_ip_In N x0.Ttl 8).bind fun v4 =>
        bif v4 then
          (L_ip_In N x0.Id 16).bind fun v5 =>
          bif v5 then
            L_ip_May_1 N (decide ((x0.Body.size : Int) ≤ 492))
          else
            L_ip_May_1 N false
        else
          L_ip_May_1 N false
      else
        L_ip_May_1 N false
    else
      L_ip_May_1 N false
  else
    L_ip_May_1 N false
def d_ip_May (r : Bool) : D := .bool r
theorem g_ip_May_1 {c : Cx} (hc : Is c Tryz.prog ty 218 32) (N : Nat) {r : Bool} (hfin : c.Fin [] (d_ip_May r) []) (t2 : Bool) (h : L_ip_May_1 N t2 = some r) : c.Goes (items (bodyOf Tryz.f218) [.c 7]) ⟨[(2, .bool t2)], []⟩ := by
  unfold L_ip_May_1 at h
  exact hc.rt hfin (fn := Tryz.f218) (by kernel_rfl) (orc := []) (m := 0) (by kernel_rfl) .nil h Le.rfl rfl

theorem g_ip_May_0 {c : Cx} (hc : Is c Tryz.prog ty 218 32) (N : Nat) {r : Bool} (hfin : c.Fin [] (d_ip_May r) []) (x0 : GIp) (h : L_ip_May N x0 = some r) : c.Goes (items (bodyOf Tryz.f218) [.c 1]) ⟨[(0, .agg [.int .i64 x0.Src, .int .i64 x0.Dst, .int .i64 x0.Proto, .int .i64 x0.Ttl, .int .i64 x0.Id, .str x0.Body])], []⟩ := by
  unfold L_ip_May at h
  obtain ⟨v1, h0, h⟩ := bind_of h
  rcases brk h with ⟨h1, h⟩ | ⟨h1, h⟩
  · obtain ⟨v2, h2, h⟩ := bind_of h
    rcases brk h with ⟨h3, h⟩ | ⟨h3, h⟩
    · obtain ⟨v3, h4, h⟩ := bind_of h
      rcases brk h with ⟨h5, h⟩ | ⟨h5, h⟩
      · obtain ⟨v4, h6, h⟩ := bind_of h
        rcases brk h with ⟨h7, h⟩ | ⟨h7, h⟩
        · obtain ⟨v5, h8, h⟩ := bind_of h
          rcases brk h with ⟨h9, h⟩ | ⟨h9, h⟩
          · exact hc.jump (orc := [(1, [(2, oR (d_ip_In v1)), (3, oT), (6, oR (d_ip_In v2)), (8, oT), (11, oR (d_ip_In v3)), (13, oT), (16, oR (d_ip_In v4)), (18, oT), (21, oR (d_ip_In v5)), (23, oT)])]) (m := 4) (kt := [2]) (kh := []) (by kernel_rfl) (.cons (c_ip_In N x0.Src 32 h0) (.cons (Le.tt h1) (.cons (c_ip_In N x0.Dst 32 h2) (.cons (Le.tt h3) (.cons (c_ip_In N x0.Proto 8 h4) (.cons (Le.tt h5) (.cons (c_ip_In N x0.Ttl 8 h6) (.cons (Le.tt h7) (.cons (c_ip_In N x0.Id 16 h8) (.cons (Le.tt h9) .nil)))))))))) (g_ip_May_1 hc N hfin (decide ((x0.Body.size : Int) ≤ 492)) h)
          · exact hc.jump (orc := [(1, [(2, oR (d_ip_In v1)), (3, oT), (6, oR (d_ip_In v2)), (8, oT), (11, oR (d_ip_In v3)), (13, oT), (16, oR (d_ip_In v4)), (18, oT), (21, oR (d_ip_In v5)), (23, oF)])]) (m := 4) (kt := [2]) (kh := []) (by kernel_rfl) (.cons (c_ip_In N x0.Src 32 h0) (.cons (Le.tt h1) (.cons (c_ip_In N x0.Dst 32 h2) (.cons (Le.tt h3) (.cons (c_ip_In N x0.Proto 8 h4) (.cons (Le.tt h5) (.cons (c_ip_In N x0.Ttl 8 h6) (.cons (Le.tt h7) (.cons (c_ip_In N x0.Id 16 h8) (.cons (Le.ff h9) .nil)))))))))) (g_ip_May_1 hc N hfin false h)
        · exact hc.jump (orc := [(1, [(2, oR (d_ip_In v1)), (3, oT), (6, oR (d_ip_In v2)), (8, oT), (11, oR (d_ip_In v3)), (13, oT), (16, oR (d_ip_In v4)), (18, oF)])]) (m := 4) (kt := [2]) (kh := []) (by kernel_rfl) (.cons (c_ip_In N x0.Src 32 h0) (.cons (Le.tt h1) (.cons (c_ip_In N x0.Dst 32 h2) (.cons (Le.tt h3) (.cons (c_ip_In N x0.Proto 8 h4) (.cons (Le.tt h5) (.cons (c_ip_In N x0.Ttl 8 h6) (.cons (Le.ff h7) .nil)))))))) (g_ip_May_1 hc N hfin false h)
      · exact hc.jump (orc := [(1, [(2, oR (d_ip_In v1)), (3, oT), (6, oR (d_ip_In v2)), (8, oT), (11, oR (d_ip_In v3)), (13, oF)])]) (m := 4) (kt := [2]) (kh := []) (by kernel_rfl) (.cons (c_ip_In N x0.Src 32 h0) (.cons (Le.tt h1) (.cons (c_ip_In N x0.Dst 32 h2) (.cons (Le.tt h3) (.cons (c_ip_In N x0.Proto 8 h4) (.cons (Le.ff h5) .nil)))))) (g_ip_May_1 hc N hfin false h)
    · exact hc.jump (orc := [(1, [(2, oR (d_ip_In v1)), (3, oT), (6, oR (d_ip_In v2)), (8, oF)])]) (m := 4) (kt := [2]) (kh := []) (by kernel_rfl) (.cons (c_ip_In N x0.Src 32 h0) (.cons (Le.tt h1) (.cons (c_ip_In N x0.Dst 32 h2) (.cons (Le.ff h3) .nil)))) (g_ip_May_1 hc N hfin false h)
  · exact hc.jump (orc := [(1, [(2, oR (d_ip_In v1)), (3, oF)])]) (m := 4) (kt := [2]) (kh := []) (by kernel_rfl) (.cons (c_ip_In N x0.Src 32 h0) (.cons (Le.ff h1) .nil)) (g_ip_May_1 hc N hfin false h)

theorem c_ip_May (N : Nat) (x0 : GIp) {r : Bool} (h : L_ip_May N x0 = some r) : Con Tryz.prog 218 [.agg [.int .i64 x0.Src, .int .i64 x0.Dst, .int .i64 x0.Proto, .int .i64 x0.Ttl, .int .i64 x0.Id, .str x0.Body]] [] (d_ip_May r) [] :=
  con_in ok mix (fn := Tryz.f218) (by kernel_rfl) (by kernel_rfl) fun hc hfin => g_ip_May_0 hc N hfin x0 h
/-! ### wharfage/ip.head -/
def L_ip_head (N : Nat) (x0 : GIp) (x1 : Int) : Option (ByteArray) :=
  (L_ip_Bytes N 69 1).bind fun v1 =>
  (L_ip_Bytes N 0 1).bind fun v2 =>
  if ((v1.size + v2.size : Nat) : Int) ≤ 9223372036854775807 then
  via ((IntKind.i64.wrap ((20 : Int) + (x0.Body.size : Int))) : Int) fun v3 =>
  (L_ip_Bytes N v3 2).bind fun v4 =>
  if (((v1 ++ v2).size + v4.size : Nat) : Int) ≤ 9223372036854775807 then
  (L_ip_Bytes N x0.Id 2).bind fun v5 =>
  if ((((v1 ++ v2) ++ v4).size + v5.size : Nat) : Int) ≤ 9223372036854775807 then
  (L_ip_Bytes N 64 1).bind fun v6 =>
  if (((((v1 ++ v2) ++ v4) ++ v5).size + v6.size : Nat) : Int) ≤ 9223372036854775807 then
  (L_ip_Bytes N 0 1).bind fun v7 =>
  if ((((((v1 ++ v2) ++ v4) ++ v5) ++ v6).size + v7.size : Nat) : Int) ≤ 9223372036854775807 then
  (L_ip_Bytes N x0.Ttl 1).bind fun v8 =>
  if (((((((v1 ++ v2) ++ v4) ++ v5) ++ v6) ++ v7).size + v8.size : Nat) : Int) ≤ 9223372036854775807 then
  via (((((((v1 ++ v2) ++ v4) ++ v5) ++ v6) ++ v7) ++ v8) : ByteArray) fun v9 =>
  (L_ip_Bytes N x0.Proto 1).bind fun v10 =>
  if ((v9.size + v10.size : Nat) : Int) ≤ 9223372036854775807 then
  (L_ip_Bytes N x1 2).bind fun v11 =>
  if (((v9 ++ v10).size + v11.size : Nat) : Int) ≤ 9223372036854775807 then
  (L_ip_Bytes N x0.Src 4).bind fun v12 =>
  if ((((v9 ++ v10) ++ v11).size + v12.size : Nat) : Int) ≤ 9223372036854775807 then
  (L_ip_Bytes N x0.Dst 4).bind fun v13 =>
  if (((((v9 ++ v10) ++ v11) ++ v12).size + v13.size : Nat) : Int) ≤ 9223372036854775807 then
  some ((((v9 ++ v10) ++ v11) ++ v12) ++ v13)
  else none
  else none
  else none
  else none
  else none
  else none
  else none
  else none
  else none
  else none
def d_ip_head (r : ByteArray) : D := .str r
theorem g_ip_head_0 (gx0 : Bool) {c : Cx} (hc : Is c Tryz.prog ty 219 53) (N : Nat) {r : ByteArray} (hfin : c.Fin [] (d_ip_head r) []) (x0 : GIp) (x1 : Int) (h : L_ip_head N x0 x1 = some r) : c.Goes (items (bodyOf Tryz.f219) [.c 1]) ⟨[(0, .ip gx0 [.int .i64 x0.Src, .int .i64 x0.Dst, .int .i64 x0.Proto, .int .i64 x0.Ttl, .int .i64 x0.Id, .str x0.Body]), (1, .int .i64 x1)], []⟩ := by
  unfold L_ip_head at h
  obtain ⟨v1, h0, h⟩ := bind_of h
  obtain ⟨v2, h1, h⟩ := bind_of h
  obtain ⟨h2, h⟩ := chk h
  obtain ⟨v3, h3, h⟩ := via_some h
  obtain ⟨v4, h4, h⟩ := bind_of h
  obtain ⟨h5, h⟩ := chk h
  obtain ⟨v5, h6, h⟩ := bind_of h
  obtain ⟨h7, h⟩ := chk h
  obtain ⟨v6, h8, h⟩ := bind_of h
  obtain ⟨h9, h⟩ := chk h
  obtain ⟨v7, h10, h⟩ := bind_of h
  obtain ⟨h11, h⟩ := chk h
  obtain ⟨v8, h12, h⟩ := bind_of h
  obtain ⟨h13, h⟩ := chk h
  obtain ⟨v9, h14, h⟩ := via_some h
  obtain ⟨v10, h15, h⟩ := bind_of h
  obtain ⟨h16, h⟩ := chk h
  obtain ⟨v11, h17, h⟩ := bind_of h
  obtain ⟨h18, h⟩ := chk h
  obtain ⟨v12, h19, h⟩ := bind_of h
  obtain ⟨h20, h⟩ := chk h
  obtain ⟨v13, h21, h⟩ := bind_of h
  obtain ⟨h22, h⟩ := chk h
  exact hc.rt hfin (fn := Tryz.f219) (by kernel_rfl) (orc := [(1, [(0, oR (d_ip_Bytes v1)), (1, oR (d_ip_Bytes v2)), (8, oC (.int .i64 v3)), (9, oR (d_ip_Bytes v4)), (15, oR (d_ip_Bytes v5)), (17, oR (d_ip_Bytes v6)), (19, oR (d_ip_Bytes v7)), (25, oR (d_ip_Bytes v8)), (26, oC (.str v9)), (31, oR (d_ip_Bytes v10)), (34, oR (d_ip_Bytes v11)), (40, oR (d_ip_Bytes v12)), (46, oR (d_ip_Bytes v13))])]) (m := 4) (by kernel_rfl) (.cons (c_ip_Bytes N 69 1 h0) (.cons (c_ip_Bytes N 0 1 h1) (.cons (h2) (.cons (Le.int (k := .i64) h3) (.cons (c_ip_Bytes N v3 2 h4) (.cons (h5) (.cons (c_ip_Bytes N x0.Id 2 h6) (.cons (h7) (.cons (c_ip_Bytes N 64 1 h8) (.cons (h9) (.cons (c_ip_Bytes N 0 1 h10) (.cons (h11) (.cons (c_ip_Bytes N x0.Ttl 1 h12) (.cons (h13) (.cons (Le.str h14) (.cons (c_ip_Bytes N x0.Proto 1 h15) (.cons (h16) (.cons (c_ip_Bytes N x1 2 h17) (.cons (h18) (.cons (c_ip_Bytes N x0.Src 4 h19) (.cons (h20) (.cons (c_ip_Bytes N x0.Dst 4 h21) (.cons (h22) .nil))))))))))))))))))))))) h Le.rfl rfl

theorem c_ip_head (N : Nat) (gx0 : Bool) (x0 : GIp) (x1 : Int) {r : ByteArray} (h : L_ip_head N x0 x1 = some r) : Con Tryz.prog 219 [.ip gx0 [.int .i64 x0.Src, .int .i64 x0.Dst, .int .i64 x0.Proto, .int .i64 x0.Ttl, .int .i64 x0.Id, .str x0.Body], .int .i64 x1] [] (d_ip_head r) [] :=
  con_in ok mix (fn := Tryz.f219) (by kernel_rfl) (by kernel_rfl) fun hc hfin => g_ip_head_0 gx0 hc N hfin x0 x1 h
/-! ### wharfage/ip.Put -/
def L_ip_Put (N : Nat) (x0 : GIp) : Option (ByteArray × Int) :=
  (L_ip_May N x0).bind fun v1 =>
  bif (!v1) then
    some (ByteArray.empty, 200)
  else
    (L_ip_head N x0 0).bind fun v2 =>
    (L_sum_Sum N v2).bind fun v3 =>
    (L_ip_head N x0 (IntKind.i64.wrap ((65535 : Int) - v3))).bind fun v4 =>
    if ((v4.size + x0.Body.size : Nat) : Int) ≤ 9223372036854775807 then
    some ((v4 ++ x0.Body), 0)
    else none
def d_ip_Put (r : ByteArray × Int) : D := .tup [.str r.1, .int .i64 r.2]
theorem g_ip_Put_0 {c : Cx} (hc : Is c Tryz.prog ty 186 14) (N : Nat) {r : ByteArray × Int} (hfin : c.Fin [] (d_ip_Put r) []) (x0 : GIp) (h : L_ip_Put N x0 = some r) : c.Goes (items (bodyOf Tryz.f186) [.c 1]) ⟨[(0, .agg [.int .i64 x0.Src, .int .i64 x0.Dst, .int .i64 x0.Proto, .int .i64 x0.Ttl, .int .i64 x0.Id, .str x0.Body])], []⟩ := by
  unfold L_ip_Put at h
  obtain ⟨v1, h0, h⟩ := bind_of h
  rcases brk h with ⟨h1, h⟩ | ⟨h1, h⟩
  · exact hc.rt hfin (fn := Tryz.f186) (by kernel_rfl) (orc := [(1, [(1, oR (d_ip_May v1)), (2, oT)])]) (m := 8) (by kernel_rfl) (.cons (c_ip_May N x0 h0) (.cons (Le.tt h1) .nil)) h Le.rfl rfl
  · obtain ⟨v2, h2, h⟩ := bind_of h
    obtain ⟨v3, h3, h⟩ := bind_of h
    obtain ⟨v4, h4, h⟩ := bind_of h
    obtain ⟨h5, h⟩ := chk h
    exact hc.rt hfin (fn := Tryz.f186) (by kernel_rfl) (orc := [(1, [(1, oR (d_ip_May v1)), (2, oF)]), (3, [(0, oR (d_ip_head v2)), (1, oR (d_sum_Sum v3)), (3, oR (d_ip_head v4))])]) (m := 9) (by kernel_rfl) (.cons (c_ip_May N x0 h0) (.cons (Le.ff h1) (.cons (c_ip_head N false x0 0 h2) (.cons (c_sum_Sum N v2 h3) (.cons (c_ip_head N false x0 (IntKind.i64.wrap ((65535 : Int) - v3)) h4) (.cons (h5) .nil)))))) h Le.rfl rfl

theorem c_ip_Put (N : Nat) (x0 : GIp) {r : ByteArray × Int} (h : L_ip_Put N x0 = some r) : Con Tryz.prog 186 [.agg [.int .i64 x0.Src, .int .i64 x0.Dst, .int .i64 x0.Proto, .int .i64 x0.Ttl, .int .i64 x0.Id, .str x0.Body]] [] (d_ip_Put r) [] :=
  con_in ok mix (fn := Tryz.f186) (by kernel_rfl) (by kernel_rfl) fun hc hfin => g_ip_Put_0 hc N hfin x0 h
/-! ### wharfage/gue.Push -/
def L_gue_Push (N : Nat) (x0 : GOuter) : Option (ByteArray × Int) :=
  (L_gue_May N x0).bind fun v1 =>
  bif (!v1) then
    some (ByteArray.empty, 600)
  else
    via ((IntKind.i64.wrap ((36 : Int) + (x0.Body.size : Int))) : Int) fun v2 =>
    bif (decide (v2 > 360)) then
      some (ByteArray.empty, 601)
    else
      (L_ip_Bytes N 0 1).bind fun v3 =>
      (L_ip_Bytes N x0.Tier 1).bind fun v4 =>
      if ((v3.size + v4.size : Nat) : Int) ≤ 9223372036854775807 then
      (L_ip_Bytes N x0.Marker 1).bind fun v5 =>
      if (((v3 ++ v4).size + v5.size : Nat) : Int) ≤ 9223372036854775807 then
      (L_ip_Bytes N x0.Origin 1).bind fun v6 =>
      if ((((v3 ++ v4) ++ v5).size + v6.size : Nat) : Int) ≤ 9223372036854775807 then
      (L_ip_Bytes N (x0.Body.size : Int) 2).bind fun v7 =>
      if (((((v3 ++ v4) ++ v5) ++ v6).size + v7.size : Nat) : Int) ≤ 9223372036854775807 then
      (L_ip_Bytes N 0 2).bind fun v8 =>
      if ((((((v3 ++ v4) ++ v5) ++ v6) ++ v7).size + v8.size : Nat) : Int) ≤ 9223372036854775807 then
      if (((((((v3 ++ v4) ++ v5) ++ v6) ++ v7) ++ v8).size + x0.Body.size : Nat) : Int) ≤ 9223372036854775807 then
      via (((((((v3 ++ v4) ++ v5) ++ v6) ++ v7) ++ v8) ++ x0.Body) : ByteArray) fun v9 =>
      (L_ip_Bytes N 61440 2).bind fun v10 =>
      (L_ip_Bytes N 6080 2).bind fun v11 =>
      if ((v10.size + v11.size : Nat) : Int) ≤ 9223372036854775807 then
      via ((IntKind.i64.wrap ((8 : Int) + (v9.size : Int))) : Int) fun v12 =>
      (L_ip_Bytes N v12 2).bind fun v13 =>
      if (((v10 ++ v11).size + v13.size : Nat) : Int) ≤ 9223372036854775807 then
      (L_ip_Bytes N 0 2).bind fun v14 =>
      if ((((v10 ++ v11) ++ v13).size + v14.size : Nat) : Int) ≤ 9223372036854775807 then
      if (((((v10 ++ v11) ++ v13) ++ v14).size + v9.size : Nat) : Int) ≤ 9223372036854775807 then
      (L_ip_Put N (GIp.mk x0.Src x0.Dst 17 64 0 ((((v10 ++ v11) ++ v13) ++ v14) ++ v9))).bind fun v15 =>
      some (v15.1, v15.2)
      else none
      else none
      else none
      else none
      else none
      else none
      else none
      else none
      else none
      else none
def d_gue_Push (r : ByteArray × Int) : D := .tup [.str r.1, .int .i64 r.2]
theorem g_gue_Push_0 {c : Cx} (hc : Is c Tryz.prog ty 134 60) (N : Nat) {r : ByteArray × Int} (hfin : c.Fin [] (d_gue_Push r) []) (x0 : GOuter) (h : L_gue_Push N x0 = some r) : c.Goes (items (bodyOf Tryz.f134) [.c 1]) ⟨[(0, .agg [.int .i64 x0.Src, .int .i64 x0.Dst, .int .i64 x0.Tier, .int .i64 x0.Marker, .int .i64 x0.Origin, .str x0.Body])], []⟩ := by
  unfold L_gue_Push at h
  obtain ⟨v1, h0, h⟩ := bind_of h
  rcases brk h with ⟨h1, h⟩ | ⟨h1, h⟩
  · exact hc.rt hfin (fn := Tryz.f134) (by kernel_rfl) (orc := [(1, [(1, oR (d_gue_May v1)), (3, oT)])]) (m := 9) (by kernel_rfl) (.cons (c_gue_May N x0 h0) (.cons (Le.tt h1) .nil)) h Le.rfl rfl
  · obtain ⟨v2, h2, h⟩ := via_some h
    rcases brk h with ⟨h3, h⟩ | ⟨h3, h⟩
    · exact hc.rt hfin (fn := Tryz.f134) (by kernel_rfl) (orc := [(1, [(1, oR (d_gue_May v1)), (3, oF)]), (3, [(3, oC (.int .i64 v2)), (5, oT)])]) (m := 12) (by kernel_rfl) (.cons (c_gue_May N x0 h0) (.cons (Le.ff h1) (.cons (Le.int (k := .i64) h2) (.cons (Le.tt h3) .nil)))) h Le.rfl rfl
    · obtain ⟨v3, h4, h⟩ := bind_of h
      obtain ⟨v4, h5, h⟩ := bind_of h
      obtain ⟨h6, h⟩ := chk h
      obtain ⟨v5, h7, h⟩ := bind_of h
      obtain ⟨h8, h⟩ := chk h
      obtain ⟨v6, h9, h⟩ := bind_of h
      obtain ⟨h10, h⟩ := chk h
      obtain ⟨v7, h11, h⟩ := bind_of h
      obtain ⟨h12, h⟩ := chk h
      obtain ⟨v8, h13, h⟩ := bind_of h
      obtain ⟨h14, h⟩ := chk h
      obtain ⟨h15, h⟩ := chk h
      obtain ⟨v9, h16, h⟩ := via_some h
      obtain ⟨v10, h17, h⟩ := bind_of h
      obtain ⟨v11, h18, h⟩ := bind_of h
      obtain ⟨h19, h⟩ := chk h
      obtain ⟨v12, h20, h⟩ := via_some h
      obtain ⟨v13, h21, h⟩ := bind_of h
      obtain ⟨h22, h⟩ := chk h
      obtain ⟨v14, h23, h⟩ := bind_of h
      obtain ⟨h24, h⟩ := chk h
      obtain ⟨h25, h⟩ := chk h
      obtain ⟨v15, h26, h⟩ := bind_of h
      exact hc.rt hfin (fn := Tryz.f134) (by kernel_rfl) (orc := [(1, [(1, oR (d_gue_May v1)), (3, oF)]), (3, [(3, oC (.int .i64 v2)), (5, oF)]), (5, [(0, oR (d_ip_Bytes v3)), (3, oR (d_ip_Bytes v4)), (7, oR (d_ip_Bytes v5)), (11, oR (d_ip_Bytes v6)), (16, oR (d_ip_Bytes v7)), (18, oR (d_ip_Bytes v8)), (22, oC (.str v9))]), (6, [(0, oR (d_ip_Bytes v10)), (1, oR (d_ip_Bytes v11)), (5, oC (.int .i64 v12)), (6, oR (d_ip_Bytes v13)), (8, oR (d_ip_Bytes v14))]), (7, [(8, oR (d_ip_Put v15))])]) (m := 18) (by kernel_rfl) (.cons (c_gue_May N x0 h0) (.cons (Le.ff h1) (.cons (Le.int (k := .i64) h2) (.cons (Le.ff h3) (.cons (c_ip_Bytes N 0 1 h4) (.cons (c_ip_Bytes N x0.Tier 1 h5) (.cons (h6) (.cons (c_ip_Bytes N x0.Marker 1 h7) (.cons (h8) (.cons (c_ip_Bytes N x0.Origin 1 h9) (.cons (h10) (.cons (c_ip_Bytes N (x0.Body.size : Int) 2 h11) (.cons (h12) (.cons (c_ip_Bytes N 0 2 h13) (.cons (h14) (.cons (h15) (.cons (Le.str h16) (.cons (c_ip_Bytes N 61440 2 h17) (.cons (c_ip_Bytes N 6080 2 h18) (.cons (h19) (.cons (Le.int (k := .i64) h20) (.cons (c_ip_Bytes N v12 2 h21) (.cons (h22) (.cons (c_ip_Bytes N 0 2 h23) (.cons (h24) (.cons (h25) (.cons (c_ip_Put N (GIp.mk x0.Src x0.Dst 17 64 0 ((((v10 ++ v11) ++ v13) ++ v14) ++ v9)) h26) .nil))))))))))))))))))))))))))) h Le.rfl rfl

theorem c_gue_Push (N : Nat) (x0 : GOuter) {r : ByteArray × Int} (h : L_gue_Push N x0 = some r) : Con Tryz.prog 134 [.agg [.int .i64 x0.Src, .int .i64 x0.Dst, .int .i64 x0.Tier, .int .i64 x0.Marker, .int .i64 x0.Origin, .str x0.Body]] [] (d_gue_Push r) [] :=
  con_in ok mix (fn := Tryz.f134) (by kernel_rfl) (by kernel_rfl) fun hc hfin => g_gue_Push_0 hc N hfin x0 h
/-! ### wharfage/track.Flags -/
def L_track_Flags (N : Nat) (x0 : Int) : Option (Bool) :=
  (L_ip_In N x0 6).bind fun v1 =>
  some v1
def d_track_Flags (r : Bool) : D := .bool r
theorem g_track_Flags_0 {c : Cx} (hc : Is c Tryz.prog ty 220 5) (N : Nat) {r : Bool} (hfin : c.Fin [] (d_track_Flags r) []) (x0 : Int) (h : L_track_Flags N x0 = some r) : c.Goes (items (bodyOf Tryz.f220) [.c 1]) ⟨[(0, .int .i64 x0)], []⟩ := by
  unfold L_track_Flags at h
  obtain ⟨v1, h0, h⟩ := bind_of h
  exact hc.rt hfin (fn := Tryz.f220) (by kernel_rfl) (orc := [(1, [(1, oR (d_ip_In v1))])]) (m := 4) (by kernel_rfl) (.cons (c_ip_In N x0 6 h0) .nil) h Le.rfl rfl

theorem c_track_Flags (N : Nat) (x0 : Int) {r : Bool} (h : L_track_Flags N x0 = some r) : Con Tryz.prog 220 [.int .i64 x0] [] (d_track_Flags r) [] :=
  con_in ok mix (fn := Tryz.f220) (by kernel_rfl) (by kernel_rfl) fun hc hfin => g_track_Flags_0 hc N hfin x0 h
/-! ### wharfage/track.Step$1 -/
def L_track_Step_f1 (N : Nat) (x0 x1_0 : Int) : Option (Bool) :=
  some ((bAnd .i64 x1_0 x0) != 0)
def d_track_Step_f1 (r : Bool) : D := .bool r
theorem g_track_Step_f1_0 (gx1 : Bool) {c : Cx} (hc : Is c Tryz.prog ty 221 8) (N : Nat) {r : Bool} (hfin : c.Fin [] (d_track_Step_f1 r) []) (x0 x1_0 : Int) (h : L_track_Step_f1 N x0 x1_0 = some r) : c.Goes (items (bodyOf Tryz.f221) [.c 1]) ⟨[(0, .int .i64 x0), (1, .ip gx1 [.int .i64 x1_0])], []⟩ := by
  unfold L_track_Step_f1 at h
  exact hc.rt hfin (fn := Tryz.f221) (by kernel_rfl) (orc := []) (m := 4) (by kernel_rfl) .nil h Le.rfl rfl

theorem c_track_Step_f1 (N : Nat) (gx1 : Bool) (x0 x1_0 : Int) {r : Bool} (h : L_track_Step_f1 N x0 x1_0 = some r) : Con Tryz.prog 221 [.int .i64 x0, .ip gx1 [.int .i64 x1_0]] [] (d_track_Step_f1 r) [] :=
  con_in ok mix (fn := Tryz.f221) (by kernel_rfl) (by kernel_rfl) fun hc hfin => g_track_Step_f1_0 gx1 hc N hfin x0 x1_0 h
/-! ### wharfage/track.Step -/
def L_track_Step_2 (N : Nat) (t0 b124_0 : Int) (t19 : Bool) : Option (Int × Int) :=
  bif t19 then
    some (0, 0)
  else
    (L_track_Step_f1 N 1 b124_0).bind fun v1 =>
    bif v1 then
      via ((if decide (2 < (IntKind.i64.wrap (t0 + 1))) then 2 else (IntKind.i64.wrap (t0 + 1))) : Int) fun v2 =>
      some (v2, 0)
    else
      some (t0, 0)
def L_track_Step_1 (N : Nat) (t0 b124_0 : Int) (t14 : Bool) : Option (Int × Int) :=
  bif t14 then
    some (0, 1400)
  else
    (L_track_Step_f1 N 4 b124_0).bind fun v1 =>
    bif v1 then
      some (2, 0)
    else
      (L_track_Step_f1 N 2 b124_0).bind fun v2 =>
      bif v2 then
        (L_track_Step_f1 N 16 b124_0).bind fun v3 =>
        L_track_Step_2 N t0 b124_0 (!v3)
      else
        L_track_Step_2 N t0 b124_0 false
def L_track_Step (N : Nat) (x0 x1 : Int) : Option (Int × Int) :=
  (L_track_May N x0).bind fun v1 =>
  bif (!v1) then
    L_track_Step_1 N x0 x1 true
  else
    (L_track_Flags N x1).bind fun v2 =>
    L_track_Step_1 N x0 x1 (!v2)
def d_track_Step (r : Int × Int) : D := .tup [.int .i64 r.1, .int .i64 r.2]
theorem g_track_Step_2 {c : Cx} (hc : Is c Tryz.prog ty 187 34) (N : Nat) {r : Int × Int} (hfin : c.Fin [] (d_track_Step r) []) (t0 b124_0 : Int) (t19 : Bool) (h : L_track_Step_2 N t0 b124_0 t19 = some r) : c.Goes (items (bodyOf Tryz.f187) [.c 487, .b 0, .c 31]) ⟨[(0, .int .i64 t0), (6, .fn 221 [.ptr 124 0]), (19, .bool t19)], [(124, some ⟨false, 0, [.int .i64 b124_0]⟩)]⟩ := by
  unfold L_track_Step_2 at h
  rcases brk h with ⟨h0, k0⟩ | ⟨h0, k0⟩
  · subst h0
    replace h := k0
    exact hc.rt hfin (fn := Tryz.f187) (by kernel_rfl) (orc := []) (m := 3) (by kernel_rfl) .nil h Le.rfl rfl
  · subst h0
    replace h := k0
    obtain ⟨v1, h1, h⟩ := bind_of h
    rcases brk h with ⟨h2, h⟩ | ⟨h2, h⟩
    · obtain ⟨v2, h3, h⟩ := via_some h
      exact hc.rt hfin (fn := Tryz.f187) (by kernel_rfl) (orc := [(8, [(1, oR (d_track_Step_f1 v1)), (2, oT)]), (9, [(2, oC (.int .i64 v2))])]) (m := 6) (by kernel_rfl) (.cons (c_track_Step_f1 N false 1 b124_0 h1) (.cons (Le.tt h2) (.cons (Le.int (k := .i64) h3) .nil))) h Le.rfl rfl
    · exact hc.rt hfin (fn := Tryz.f187) (by kernel_rfl) (orc := [(8, [(1, oR (d_track_Step_f1 v1)), (2, oF)])]) (m := 8) (by kernel_rfl) (.cons (c_track_Step_f1 N false 1 b124_0 h1) (.cons (Le.ff h2) .nil)) h Le.rfl rfl

theorem g_track_Step_1 {c : Cx} (hc : Is c Tryz.prog ty 187 34) (N : Nat) {r : Int × Int} (hfin : c.Fin [] (d_track_Step r) []) (t0 b124_0 : Int) (t14 : Bool) (h : L_track_Step_1 N t0 b124_0 t14 = some r) : c.Goes (items (bodyOf Tryz.f187) [.c 13, .c 7]) ⟨[(0, .int .i64 t0), (3, .ptr 124 0), (14, .bool t14)], [(124, some ⟨false, 0, [.int .i64 b124_0]⟩)]⟩ := by
  unfold L_track_Step_1 at h
  rcases brk h with ⟨h0, k0⟩ | ⟨h0, k0⟩
  · subst h0
    replace h := k0
    exact hc.rt hfin (fn := Tryz.f187) (by kernel_rfl) (orc := []) (m := 3) (by kernel_rfl) .nil h Le.rfl rfl
  · subst h0
    replace h := k0
    obtain ⟨v1, h1, h⟩ := bind_of h
    rcases brk h with ⟨h2, h⟩ | ⟨h2, h⟩
    · exact hc.rt hfin (fn := Tryz.f187) (by kernel_rfl) (orc := [(4, [(1, oR (d_track_Step_f1 v1)), (2, oT)])]) (m := 11) (by kernel_rfl) (.cons (c_track_Step_f1 N false 4 b124_0 h1) (.cons (Le.tt h2) .nil)) h Le.rfl rfl
    · obtain ⟨v2, h3, h⟩ := bind_of h
      rcases brk h with ⟨h4, h⟩ | ⟨h4, h⟩
      · obtain ⟨v3, h5, h⟩ := bind_of h
        exact hc.jump (orc := [(4, [(1, oR (d_track_Step_f1 v1)), (2, oF)]), (6, [(1, oR (d_track_Step_f1 v2)), (2, oT), (4, oR (d_track_Step_f1 v3))])]) (m := 11) (kt := [0, 6, 19]) (kh := [(124, 124)]) (by kernel_rfl) (.cons (c_track_Step_f1 N false 4 b124_0 h1) (.cons (Le.ff h2) (.cons (c_track_Step_f1 N false 2 b124_0 h3) (.cons (Le.tt h4) (.cons (c_track_Step_f1 N false 16 b124_0 h5) .nil))))) (g_track_Step_2 hc N hfin t0 b124_0 (!v3) h)
      · exact hc.jump (orc := [(4, [(1, oR (d_track_Step_f1 v1)), (2, oF)]), (6, [(1, oR (d_track_Step_f1 v2)), (2, oF)])]) (m := 11) (kt := [0, 6, 19]) (kh := [(124, 124)]) (by kernel_rfl) (.cons (c_track_Step_f1 N false 4 b124_0 h1) (.cons (Le.ff h2) (.cons (c_track_Step_f1 N false 2 b124_0 h3) (.cons (Le.ff h4) .nil)))) (g_track_Step_2 hc N hfin t0 b124_0 false h)

theorem g_track_Step_0 {c : Cx} (hc : Is c Tryz.prog ty 187 34) (N : Nat) {r : Int × Int} (hfin : c.Fin [] (d_track_Step r) []) (x0 x1 : Int) (h : L_track_Step N x0 x1 = some r) : c.Goes (items (bodyOf Tryz.f187) [.c 1]) ⟨[(0, .int .i64 x0), (1, .int .i64 x1)], []⟩ := by
  unfold L_track_Step at h
  obtain ⟨v1, h0, h⟩ := bind_of h
  rcases brk h with ⟨h1, h⟩ | ⟨h1, h⟩
  · exact hc.jump (orc := [(1, [(1, oR (d_track_May v1)), (3, oT)])]) (m := 5) (kt := [0, 3, 14]) (kh := [(124, 124)]) (by kernel_rfl) (.cons (c_track_May N x0 h0) (.cons (Le.tt h1) .nil)) (g_track_Step_1 hc N hfin x0 x1 true h)
  · obtain ⟨v2, h2, h⟩ := bind_of h
    exact hc.jump (orc := [(1, [(1, oR (d_track_May v1)), (3, oF), (5, oR (d_track_Flags v2))])]) (m := 5) (kt := [0, 3, 14]) (kh := [(124, 124)]) (by kernel_rfl) (.cons (c_track_May N x0 h0) (.cons (Le.ff h1) (.cons (c_track_Flags N x1 h2) .nil))) (g_track_Step_1 hc N hfin x0 x1 (!v2) h)

theorem c_track_Step (N : Nat) (x0 x1 : Int) {r : Int × Int} (h : L_track_Step N x0 x1 = some r) : Con Tryz.prog 187 [.int .i64 x0, .int .i64 x1] [] (d_track_Step r) [] :=
  con_in ok mix (fn := Tryz.f187) (by kernel_rfl) (by kernel_rfl) fun hc hfin => g_track_Step_0 hc N hfin x0 x1 h
/-! ### wharfage/entry.Use -/
def L_entry_Use_2 (N : Nat) (b124_0 b124_1 b124_2 b124_3 b124_4 b124_5 : Int) (b124_6 : Bool) (b124_7 b124_8 b148_0 b148_1 b148_2 b148_3 b148_4 b148_5 : Int) (b148_6 : Bool) (b148_7 b148_8 : Int) : Option (GEntry × Int) :=
  some ((GEntry.mk (GFlow.mk b124_0 b124_1 b124_2 b124_3 b124_4) b124_5 b124_6 b124_7 b124_8), 0)
def L_entry_Use_1 (N : Nat) (t2 b124_0 b124_1 b124_2 b124_3 b124_4 b124_5 : Int) (b124_6 : Bool) (b124_7 b124_8 b148_0 b148_1 b148_2 b148_3 b148_4 b148_5 : Int) (b148_6 : Bool) (b148_7 b148_8 t8 : Int) (t28 : Bool) : Option (GEntry × Int) :=
  bif t28 then
    some ((GEntry.mk (GFlow.mk 0 0 0 0 0) 0 false 0 0), 1500)
  else
    bif (b124_2 == 6) then
      L_entry_Use_2 N b124_0 b124_1 b124_2 b124_3 b124_4 b124_5 b124_6 t8 t2 b148_0 b148_1 b148_2 b148_3 b148_4 b148_5 b148_6 b148_7 b148_8
    else
      L_entry_Use_2 N b124_0 b124_1 b124_2 b124_3 b124_4 b124_5 b124_6 b124_7 t2 b148_0 b148_1 b148_2 b148_3 b148_4 b148_5 b148_6 b148_7 b148_8
def L_entry_Use (N : Nat) (x0 : GEntry) (x1 x2 : Int) : Option (GEntry × Int) :=
  (L_track_Step N x0.Phase x1).bind fun v1 =>
  bif (v1.2 != 0) then
    L_entry_Use_1 N x2 x0.Flow.Src x0.Flow.Dst x0.Flow.Proto x0.Flow.Sport x0.Flow.Dport x0.To x0.Away x0.Phase x0.Used 0 0 0 0 0 0 false 0 0 v1.1 true
  else
    (L_entry_May N x0).bind fun v2 =>
    bif (!v2) then
      L_entry_Use_1 N x2 x0.Flow.Src x0.Flow.Dst x0.Flow.Proto x0.Flow.Sport x0.Flow.Dport x0.To x0.Away x0.Phase x0.Used 0 0 0 0 0 0 false 0 0 v1.1 true
    else
      (L_conf_Time N x2).bind fun v3 =>
      L_entry_Use_1 N x2 x0.Flow.Src x0.Flow.Dst x0.Flow.Proto x0.Flow.Sport x0.Flow.Dport x0.To x0.Away x0.Phase x0.Used 0 0 0 0 0 0 false 0 0 v1.1 (!v3)
def d_entry_Use (r : GEntry × Int) : D := .tup [.agg [.int .i64 r.1.Flow.Src, .int .i64 r.1.Flow.Dst, .int .i64 r.1.Flow.Proto, .int .i64 r.1.Flow.Sport, .int .i64 r.1.Flow.Dport, .int .i64 r.1.To, .bool r.1.Away, .int .i64 r.1.Phase, .int .i64 r.1.Used], .int .i64 r.2]
theorem g_entry_Use_2 {c : Cx} (hc : Is c Tryz.prog ty 135 39) (N : Nat) {r : GEntry × Int} (hfin : c.Fin [] (d_entry_Use r) []) (b124_0 b124_1 b124_2 b124_3 b124_4 b124_5 : Int) (b124_6 : Bool) (b124_7 b124_8 b148_0 b148_1 b148_2 b148_3 b148_4 b148_5 : Int) (b148_6 : Bool) (b148_7 b148_8 : Int) (h : L_entry_Use_2 N b124_0 b124_1 b124_2 b124_3 b124_4 b124_5 b124_6 b124_7 b124_8 b148_0 b148_1 b148_2 b148_3 b148_4 b148_5 b148_6 b148_7 b148_8 = some r) : c.Goes (items (bodyOf Tryz.f135) [.c 63]) ⟨[(3, .ptr 124 0), (6, .ptr 148 0)], [(124, some ⟨false, 0, [.int .i64 b124_0, .int .i64 b124_1, .int .i64 b124_2, .int .i64 b124_3, .int .i64 b124_4, .int .i64 b124_5, .bool b124_6, .int .i64 b124_7, .int .i64 b124_8]⟩), (148, some ⟨false, 0, [.int .i64 b148_0, .int .i64 b148_1, .int .i64 b148_2, .int .i64 b148_3, .int .i64 b148_4, .int .i64 b148_5, .bool b148_6, .int .i64 b148_7, .int .i64 b148_8]⟩)]⟩ := by
  unfold L_entry_Use_2 at h
  exact hc.rt hfin (fn := Tryz.f135) (by kernel_rfl) (orc := []) (m := 2) (by kernel_rfl) .nil h Le.rfl rfl

theorem g_entry_Use_1 {c : Cx} (hc : Is c Tryz.prog ty 135 39) (N : Nat) {r : GEntry × Int} (hfin : c.Fin [] (d_entry_Use r) []) (t2 b124_0 b124_1 b124_2 b124_3 b124_4 b124_5 : Int) (b124_6 : Bool) (b124_7 b124_8 b148_0 b148_1 b148_2 b148_3 b148_4 b148_5 : Int) (b148_6 : Bool) (b148_7 b148_8 t8 : Int) (t28 : Bool) (h : L_entry_Use_1 N t2 b124_0 b124_1 b124_2 b124_3 b124_4 b124_5 b124_6 b124_7 b124_8 b148_0 b148_1 b148_2 b148_3 b148_4 b148_5 b148_6 b148_7 b148_8 t8 t28 = some r) : c.Goes (items (bodyOf Tryz.f135) [.c 27, .c 15]) ⟨[(2, .int .i64 t2), (3, .ptr 124 0), (6, .ptr 148 0), (8, .int .i64 t8), (28, .bool t28)], [(124, some ⟨false, 0, [.int .i64 b124_0, .int .i64 b124_1, .int .i64 b124_2, .int .i64 b124_3, .int .i64 b124_4, .int .i64 b124_5, .bool b124_6, .int .i64 b124_7, .int .i64 b124_8]⟩), (148, some ⟨false, 0, [.int .i64 b148_0, .int .i64 b148_1, .int .i64 b148_2, .int .i64 b148_3, .int .i64 b148_4, .int .i64 b148_5, .bool b148_6, .int .i64 b148_7, .int .i64 b148_8]⟩)]⟩ := by
  unfold L_entry_Use_1 at h
  rcases brk h with ⟨h0, k0⟩ | ⟨h0, k0⟩
  · subst h0
    replace h := k0
    exact hc.rt hfin (fn := Tryz.f135) (by kernel_rfl) (orc := []) (m := 3) (by kernel_rfl) .nil h Le.rfl rfl
  · subst h0
    replace h := k0
    rcases brk h with ⟨h1, h⟩ | ⟨h1, h⟩
    · exact hc.jump (orc := [(5, [(3, oT)])]) (m := 9) (kt := [3, 6]) (kh := [(124, 124), (148, 148)]) (by kernel_rfl) (.cons (Le.tt h1) .nil) (g_entry_Use_2 hc N hfin b124_0 b124_1 b124_2 b124_3 b124_4 b124_5 b124_6 t8 t2 b148_0 b148_1 b148_2 b148_3 b148_4 b148_5 b148_6 b148_7 b148_8 h)
    · exact hc.jump (orc := [(5, [(3, oF)])]) (m := 9) (kt := [3, 6]) (kh := [(124, 124), (148, 148)]) (by kernel_rfl) (.cons (Le.ff h1) .nil) (g_entry_Use_2 hc N hfin b124_0 b124_1 b124_2 b124_3 b124_4 b124_5 b124_6 b124_7 t2 b148_0 b148_1 b148_2 b148_3 b148_4 b148_5 b148_6 b148_7 b148_8 h)

theorem g_entry_Use_0 {c : Cx} (hc : Is c Tryz.prog ty 135 39) (N : Nat) {r : GEntry × Int} (hfin : c.Fin [] (d_entry_Use r) []) (x0 : GEntry) (x1 x2 : Int) (h : L_entry_Use N x0 x1 x2 = some r) : c.Goes (items (bodyOf Tryz.f135) [.c 1]) ⟨[(0, .agg [.int .i64 x0.Flow.Src, .int .i64 x0.Flow.Dst, .int .i64 x0.Flow.Proto, .int .i64 x0.Flow.Sport, .int .i64 x0.Flow.Dport, .int .i64 x0.To, .bool x0.Away, .int .i64 x0.Phase, .int .i64 x0.Used]), (1, .int .i64 x1), (2, .int .i64 x2)], []⟩ := by
  unfold L_entry_Use at h
  obtain ⟨v1, h0, h⟩ := bind_of h
  rcases brk h with ⟨h1, h⟩ | ⟨h1, h⟩
  · exact hc.jump (orc := [(1, [(3, oR (d_track_Step v1))]), (2, [(2, oT)])]) (m := 7) (kt := [2, 3, 6, 8, 28]) (kh := [(124, 124), (148, 148)]) (by kernel_rfl) (.cons (c_track_Step N x0.Phase x1 h0) (.cons (Le.tt h1) .nil)) (g_entry_Use_1 hc N hfin x2 x0.Flow.Src x0.Flow.Dst x0.Flow.Proto x0.Flow.Sport x0.Flow.Dport x0.To x0.Away x0.Phase x0.Used 0 0 0 0 0 0 false 0 0 v1.1 true h)
  · obtain ⟨v2, h2, h⟩ := bind_of h
    rcases brk h with ⟨h3, h⟩ | ⟨h3, h⟩
    · exact hc.jump (orc := [(1, [(3, oR (d_track_Step v1))]), (2, [(2, oF), (4, oR (d_entry_May v2)), (7, oT)])]) (m := 7) (kt := [2, 3, 6, 8, 28]) (kh := [(124, 124), (148, 148)]) (by kernel_rfl) (.cons (c_track_Step N x0.Phase x1 h0) (.cons (Le.ff h1) (.cons (c_entry_May N x0 h2) (.cons (Le.tt h3) .nil)))) (g_entry_Use_1 hc N hfin x2 x0.Flow.Src x0.Flow.Dst x0.Flow.Proto x0.Flow.Sport x0.Flow.Dport x0.To x0.Away x0.Phase x0.Used 0 0 0 0 0 0 false 0 0 v1.1 true h)
    · obtain ⟨v3, h4, h⟩ := bind_of h
      exact hc.jump (orc := [(1, [(3, oR (d_track_Step v1))]), (2, [(2, oF), (4, oR (d_entry_May v2)), (7, oF), (9, oR (d_conf_Time v3))])]) (m := 7) (kt := [2, 3, 6, 8, 28]) (kh := [(124, 124), (148, 148)]) (by kernel_rfl) (.cons (c_track_Step N x0.Phase x1 h0) (.cons (Le.ff h1) (.cons (c_entry_May N x0 h2) (.cons (Le.ff h3) (.cons (c_conf_Time N x2 h4) .nil))))) (g_entry_Use_1 hc N hfin x2 x0.Flow.Src x0.Flow.Dst x0.Flow.Proto x0.Flow.Sport x0.Flow.Dport x0.To x0.Away x0.Phase x0.Used 0 0 0 0 0 0 false 0 0 v1.1 (!v3) h)

theorem c_entry_Use (N : Nat) (x0 : GEntry) (x1 x2 : Int) {r : GEntry × Int} (h : L_entry_Use N x0 x1 x2 = some r) : Con Tryz.prog 135 [.agg [.int .i64 x0.Flow.Src, .int .i64 x0.Flow.Dst, .int .i64 x0.Flow.Proto, .int .i64 x0.Flow.Sport, .int .i64 x0.Flow.Dport, .int .i64 x0.To, .bool x0.Away, .int .i64 x0.Phase, .int .i64 x0.Used], .int .i64 x1, .int .i64 x2] [] (d_entry_Use r) [] :=
  con_in ok mix (fn := Tryz.f135) (by kernel_rfl) (by kernel_rfl) fun hc hfin => g_entry_Use_0 hc N hfin x0 x1 x2 h
/-! ### wharfage/cache.Put$1 -/
def L_cache_Put_f1 (N : Nat) (x0 : GEntry) (x1_0 x1_1 x1_2 x1_3 x1_4 x1_5 : Int) (x1_6 : Bool) (x1_7 x1_8 : Int) : Option (Bool) :=
  via (((x0.Flow.Src == x1_0) && ((x0.Flow.Dst == x1_1) && ((x0.Flow.Proto == x1_2) && ((x0.Flow.Sport == x1_3) && ((x0.Flow.Dport == x1_4) && true))))) : Bool) fun v1 =>
  some v1
def d_cache_Put_f1 (r : Bool) : D := .bool r
theorem g_cache_Put_f1_0 (gx1 : Bool) {c : Cx} (hc : Is c Tryz.prog ty 189 9) (N : Nat) {r : Bool} (hfin : c.Fin [] (d_cache_Put_f1 r) []) (x0 : GEntry) (x1_0 x1_1 x1_2 x1_3 x1_4 x1_5 : Int) (x1_6 : Bool) (x1_7 x1_8 : Int) (h : L_cache_Put_f1 N x0 x1_0 x1_1 x1_2 x1_3 x1_4 x1_5 x1_6 x1_7 x1_8 = some r) : c.Goes (items (bodyOf Tryz.f189) [.c 1]) ⟨[(0, .agg [.int .i64 x0.Flow.Src, .int .i64 x0.Flow.Dst, .int .i64 x0.Flow.Proto, .int .i64 x0.Flow.Sport, .int .i64 x0.Flow.Dport, .int .i64 x0.To, .bool x0.Away, .int .i64 x0.Phase, .int .i64 x0.Used]), (1, .ip gx1 [.int .i64 x1_0, .int .i64 x1_1, .int .i64 x1_2, .int .i64 x1_3, .int .i64 x1_4, .int .i64 x1_5, .bool x1_6, .int .i64 x1_7, .int .i64 x1_8])], []⟩ := by
  unfold L_cache_Put_f1 at h
  obtain ⟨v1, h0, h⟩ := via_some h
  exact hc.rt hfin (fn := Tryz.f189) (by kernel_rfl) (orc := [(1, [(4, oC (.bool v1))])]) (m := 4) (by kernel_rfl) (.cons (Le.boo h0) .nil) h Le.rfl rfl

theorem c_cache_Put_f1 (N : Nat) (gx1 : Bool) (x0 : GEntry) (x1_0 x1_1 x1_2 x1_3 x1_4 x1_5 : Int) (x1_6 : Bool) (x1_7 x1_8 : Int) {r : Bool} (h : L_cache_Put_f1 N x0 x1_0 x1_1 x1_2 x1_3 x1_4 x1_5 x1_6 x1_7 x1_8 = some r) : Con Tryz.prog 189 [.agg [.int .i64 x0.Flow.Src, .int .i64 x0.Flow.Dst, .int .i64 x0.Flow.Proto, .int .i64 x0.Flow.Sport, .int .i64 x0.Flow.Dport, .int .i64 x0.To, .bool x0.Away, .int .i64 x0.Phase, .int .i64 x0.Used], .ip gx1 [.int .i64 x1_0, .int .i64 x1_1, .int .i64 x1_2, .int .i64 x1_3, .int .i64 x1_4, .int .i64 x1_5, .bool x1_6, .int .i64 x1_7, .int .i64 x1_8]] [] (d_cache_Put_f1 r) [] :=
  con_in ok mix (fn := Tryz.f189) (by kernel_rfl) (by kernel_rfl) fun hc hfin => g_cache_Put_f1_0 gx1 hc N hfin x0 x1_0 x1_1 x1_2 x1_3 x1_4 x1_5 x1_6 x1_7 x1_8 h
/-! ### wharfage/cache.split[wharfage/api.Entry] -/
def L_cache_split_api_Entry_2 (N : Nat) (r1 : Int → Int → Int → Int → Int → Int → Bool → Int → Int → (List GEntry) → (List GEntry) → (List GEntry) → Int → Int → Option ((List GEntry) × (List GEntry))) (t1_0_0 t1_0_1 t1_0_2 t1_0_3 t1_0_4 t1_0_5 : Int) (t1_0_6 : Bool) (t1_0_7 t1_0_8 : Int) (b260 b140 t8 : (List GEntry)) (t9 t10 : Int) : Option ((List GEntry) × (List GEntry)) :=
  r1 t1_0_0 t1_0_1 t1_0_2 t1_0_3 t1_0_4 t1_0_5 t1_0_6 t1_0_7 t1_0_8 b260 b140 t8 t9 (IntKind.i64.wrap (t10 + 1))
def L_cache_split_api_Entry_1 (N : Nat) : Nat → Int → Int → Int → Int → Int → Int → Bool → Int → Int → (List GEntry) → (List GEntry) → (List GEntry) → Int → Int → Option ((List GEntry) × (List GEntry))
  | 0, _, _, _, _, _, _, _, _, _, _, _, _, _, _ => none
  | fuel + 1, t1_0_0, t1_0_1, t1_0_2, t1_0_3, t1_0_4, t1_0_5, t1_0_6, t1_0_7, t1_0_8, b132, b140, t8, t9, t10 =>
    bif (decide (t10 < t9)) then
      if 0 ≤ t10 ∧ t10 < ((t8.length : Nat) : Int) then
      (L_cache_Put_f1 N (GEntry.mk ((t8.getD t10.toNat default).Flow) ((t8.getD t10.toNat default).To) ((t8.getD t10.toNat default).Away) ((t8.getD t10.toNat default).Phase) ((t8.getD t10.toNat default).Used)) t1_0_0 t1_0_1 t1_0_2 t1_0_3 t1_0_4 t1_0_5 t1_0_6 t1_0_7 t1_0_8).bind fun v1 =>
      bif v1 then
        if growOk 72 (b132.length + 1) then
        L_cache_split_api_Entry_2 N (L_cache_split_api_Entry_1 N fuel) t1_0_0 t1_0_1 t1_0_2 t1_0_3 t1_0_4 t1_0_5 t1_0_6 t1_0_7 t1_0_8 (b132 ++ [(GEntry.mk ((t8.getD t10.toNat default).Flow) ((t8.getD t10.toNat default).To) ((t8.getD t10.toNat default).Away) ((t8.getD t10.toNat default).Phase) ((t8.getD t10.toNat default).Used))]) b140 t8 t9 t10
        else none
      else
        if growOk 72 (b140.length + 1) then
        L_cache_split_api_Entry_2 N (L_cache_split_api_Entry_1 N fuel) t1_0_0 t1_0_1 t1_0_2 t1_0_3 t1_0_4 t1_0_5 t1_0_6 t1_0_7 t1_0_8 b132 (b140 ++ [(GEntry.mk ((t8.getD t10.toNat default).Flow) ((t8.getD t10.toNat default).To) ((t8.getD t10.toNat default).Away) ((t8.getD t10.toNat default).Phase) ((t8.getD t10.toNat default).Used))]) t8 t9 t10
        else none
      else none
    else
      some (b132, b140)
def L_cache_split_api_Entry (N : Nat) (x0 : (List GEntry)) (x1_0_0 x1_0_1 x1_0_2 x1_0_3 x1_0_4 x1_0_5 : Int) (x1_0_6 : Bool) (x1_0_7 x1_0_8 : Int) : Option ((List GEntry) × (List GEntry)) :=
  L_cache_split_api_Entry_1 N N x1_0_0 x1_0_1 x1_0_2 x1_0_3 x1_0_4 x1_0_5 x1_0_6 x1_0_7 x1_0_8 ([]) ([]) x0 (x0.length : Int) 0
def d_cache_split_api_Entry (r : (List GEntry) × (List GEntry)) : D := .tup [.sl true (eL eEntry r.1) r.1.length r.1.length, .sl true (eL eEntry r.2) r.2.length r.2.length]
theorem g_cache_split_api_Entry_2 (gx0 : Bool) (gx1_0 : Bool) {c : Cx} (hc : Is c Tryz.prog ty 188 28) (N : Nat) {r : (List GEntry) × (List GEntry)} (hfin : c.Fin [] (d_cache_split_api_Entry r) []) (r1 : Int → Int → Int → Int → Int → Int → Bool → Int → Int → (List GEntry) → (List GEntry) → (List GEntry) → Int → Int → Option ((List GEntry) × (List GEntry))) (hr1 : ∀ (t1_0_0 t1_0_1 t1_0_2 t1_0_3 t1_0_4 t1_0_5 : Int) (t1_0_6 : Bool) (t1_0_7 t1_0_8 : Int) (b132 b140 t8 : (List GEntry)) (t9 t10 : Int), r1 t1_0_0 t1_0_1 t1_0_2 t1_0_3 t1_0_4 t1_0_5 t1_0_6 t1_0_7 t1_0_8 b132 b140 t8 t9 t10 = some r → c.Goes (items (bodyOf Tryz.f188) [.c 37, .l 37, .b 0, .c 7]) ⟨[(1, .fn 189 [.ip gx1_0 [.int .i64 t1_0_0, .int .i64 t1_0_1, .int .i64 t1_0_2, .int .i64 t1_0_3, .int .i64 t1_0_4, .int .i64 t1_0_5, .bool t1_0_6, .int .i64 t1_0_7, .int .i64 t1_0_8]]), (4, .ref 132 0 b132.length b132.length), (5, .ref 140 0 b140.length b140.length), (8, .sl gx0 (eL eEntry t8) t8.length t8.length), (9, .int .i64 t9), (10, .int .i64 t10)], [(132, some ⟨true, 9, (eL eEntry b132)⟩), (140, some ⟨true, 9, (eL eEntry b140)⟩)]⟩) (t1_0_0 t1_0_1 t1_0_2 t1_0_3 t1_0_4 t1_0_5 : Int) (t1_0_6 : Bool) (t1_0_7 t1_0_8 : Int) (b260 b140 t8 : (List GEntry)) (t9 t10 : Int) (h : L_cache_split_api_Entry_2 N r1 t1_0_0 t1_0_1 t1_0_2 t1_0_3 t1_0_4 t1_0_5 t1_0_6 t1_0_7 t1_0_8 b260 b140 t8 t9 t10 = some r) : c.Goes (items (bodyOf Tryz.f188) [.b 1, .c 485, .l 37, .b 0, .c 7]) ⟨[(1, .fn 189 [.ip gx1_0 [.int .i64 t1_0_0, .int .i64 t1_0_1, .int .i64 t1_0_2, .int .i64 t1_0_3, .int .i64 t1_0_4, .int .i64 t1_0_5, .bool t1_0_6, .int .i64 t1_0_7, .int .i64 t1_0_8]]), (4, .ref 260 0 b260.length b260.length), (5, .ref 140 0 b140.length b140.length), (8, .sl gx0 (eL eEntry t8) t8.length t8.length), (9, .int .i64 t9), (10, .int .i64 t10)], [(260, some ⟨true, 9, (eL eEntry b260)⟩), (140, some ⟨true, 9, (eL eEntry b140)⟩)]⟩ := by
  unfold L_cache_split_api_Entry_2 at h
  exact hc.jump (orc := []) (m := 3) (kt := [1, 4, 5, 8, 9, 10]) (kh := [(260, 132), (140, 140)]) (by kernel_rfl) .nil (hr1 t1_0_0 t1_0_1 t1_0_2 t1_0_3 t1_0_4 t1_0_5 t1_0_6 t1_0_7 t1_0_8 b260 b140 t8 t9 (IntKind.i64.wrap (t10 + 1)) h)

theorem g_cache_split_api_Entry_1 (gx0 : Bool) (gx1_0 : Bool) {c : Cx} (hc : Is c Tryz.prog ty 188 28) (N : Nat) {r : (List GEntry) × (List GEntry)} (hfin : c.Fin [] (d_cache_split_api_Entry r) []) : ∀ (fuel : Nat) (t1_0_0 t1_0_1 t1_0_2 t1_0_3 t1_0_4 t1_0_5 : Int) (t1_0_6 : Bool) (t1_0_7 t1_0_8 : Int) (b132 b140 t8 : (List GEntry)) (t9 t10 : Int), L_cache_split_api_Entry_1 N fuel t1_0_0 t1_0_1 t1_0_2 t1_0_3 t1_0_4 t1_0_5 t1_0_6 t1_0_7 t1_0_8 b132 b140 t8 t9 t10 = some r → c.Goes (items (bodyOf Tryz.f188) [.c 37, .l 37, .b 0, .c 7]) ⟨[(1, .fn 189 [.ip gx1_0 [.int .i64 t1_0_0, .int .i64 t1_0_1, .int .i64 t1_0_2, .int .i64 t1_0_3, .int .i64 t1_0_4, .int .i64 t1_0_5, .bool t1_0_6, .int .i64 t1_0_7, .int .i64 t1_0_8]]), (4, .ref 132 0 b132.length b132.length), (5, .ref 140 0 b140.length b140.length), (8, .sl gx0 (eL eEntry t8) t8.length t8.length), (9, .int .i64 t9), (10, .int .i64 t10)], [(132, some ⟨true, 9, (eL eEntry b132)⟩), (140, some ⟨true, 9, (eL eEntry b140)⟩)]⟩ := by
  intro fuel
  induction fuel with
  | zero => intro t1_0_0 t1_0_1 t1_0_2 t1_0_3 t1_0_4 t1_0_5 t1_0_6 t1_0_7 t1_0_8 b132 b140 t8 t9 t10 h; simp [L_cache_split_api_Entry_1] at h
  | succ fuel ih =>
    intro t1_0_0 t1_0_1 t1_0_2 t1_0_3 t1_0_4 t1_0_5 t1_0_6 t1_0_7 t1_0_8 b132 b140 t8 t9 t10 h
    unfold L_cache_split_api_Entry_1 at h
    rcases brk h with ⟨h0, h⟩ | ⟨h0, h⟩
    · obtain ⟨h1, h⟩ := chk h
      obtain ⟨v1, h2, h⟩ := bind_of h
      rcases brk h with ⟨h3, h⟩ | ⟨h3, h⟩
      · obtain ⟨h4, h⟩ := chk h
        exact hc.jump (orc := [(2, [(0, oT)]), (3, [(0, oC (.ip gx0 [.int .i64 (((t8.getD t10.toNat default).Flow).Src), .int .i64 (((t8.getD t10.toNat default).Flow).Dst), .int .i64 (((t8.getD t10.toNat default).Flow).Proto), .int .i64 (((t8.getD t10.toNat default).Flow).Sport), .int .i64 (((t8.getD t10.toNat default).Flow).Dport), .int .i64 ((t8.getD t10.toNat default).To), .bool ((t8.getD t10.toNat default).Away), .int .i64 ((t8.getD t10.toNat default).Phase), .int .i64 ((t8.getD t10.toNat default).Used)]))]), (4, [(2, { r := d_cache_Put_f1 v1, cv := some (.bool true) })]), (5, [(3, { cv := some (.ref 260 0 (b132 ++ [(GEntry.mk ((t8.getD t10.toNat default).Flow) ((t8.getD t10.toNat default).To) ((t8.getD t10.toNat default).Away) ((t8.getD t10.toNat default).Phase) ((t8.getD t10.toNat default).Used))]).length (b132 ++ [(GEntry.mk ((t8.getD t10.toNat default).Flow) ((t8.getD t10.toNat default).To) ((t8.getD t10.toNat default).Away) ((t8.getD t10.toNat default).Phase) ((t8.getD t10.toNat default).Used))]).length), cb := [(260, eL eEntry (b132 ++ [(GEntry.mk ((t8.getD t10.toNat default).Flow) ((t8.getD t10.toNat default).To) ((t8.getD t10.toNat default).Away) ((t8.getD t10.toNat default).Phase) ((t8.getD t10.toNat default).Used))]))] })])]) (m := 13) (kt := [1, 4, 5, 8, 9, 10]) (kh := [(260, 260), (140, 140)]) (by kernel_rfl) (.cons (Le.tt h0) (.cons (h1) (.cons (Le.iptl (g := gx0) (eL_at (xs := t8) eEntry_len (ixl h1))) (.cons (c_cache_Put_f1 N gx1_0 (GEntry.mk ((t8.getD t10.toNat default).Flow) ((t8.getD t10.toNat default).To) ((t8.getD t10.toNat default).Away) ((t8.getD t10.toNat default).Phase) ((t8.getD t10.toNat default).Used)) t1_0_0 t1_0_1 t1_0_2 t1_0_3 t1_0_4 t1_0_5 t1_0_6 t1_0_7 t1_0_8 h2) (.cons (Le.tt h3) (.cons ((by decide : 1 * 9 ≤ 9)) (.cons (ap_len (xs := b132) eEntry_len) (.cons (h4) (.cons (Le.apr (b := 260) (by first | rfl | (simp only [List.length_append, List.length_take, List.length_drop]; omega) | simp : (b132 ++ [(GEntry.mk ((t8.getD t10.toNat default).Flow) ((t8.getD t10.toNat default).To) ((t8.getD t10.toNat default).Away) ((t8.getD t10.toNat default).Phase) ((t8.getD t10.toNat default).Used))]).length = b132.length + 1)) (.cons (ap_one (xs := b132) eEntry_len (y := (GEntry.mk ((t8.getD t10.toNat default).Flow) ((t8.getD t10.toNat default).To) ((t8.getD t10.toNat default).Away) ((t8.getD t10.toNat default).Phase) ((t8.getD t10.toNat default).Used))) (cs := [.int .i64 (((t8.getD t10.toNat default).Flow).Src), .int .i64 (((t8.getD t10.toNat default).Flow).Dst), .int .i64 (((t8.getD t10.toNat default).Flow).Proto), .int .i64 (((t8.getD t10.toNat default).Flow).Sport), .int .i64 (((t8.getD t10.toNat default).Flow).Dport), .int .i64 ((t8.getD t10.toNat default).To), .bool ((t8.getD t10.toNat default).Away), .int .i64 ((t8.getD t10.toNat default).Phase), .int .i64 ((t8.getD t10.toNat default).Used)]) rfl) .nil)))))))))) (g_cache_split_api_Entry_2 gx0 gx1_0 hc N hfin (L_cache_split_api_Entry_1 N fuel) ih t1_0_0 t1_0_1 t1_0_2 t1_0_3 t1_0_4 t1_0_5 t1_0_6 t1_0_7 t1_0_8 (b132 ++ [(GEntry.mk ((t8.getD t10.toNat default).Flow) ((t8.getD t10.toNat default).To) ((t8.getD t10.toNat default).Away) ((t8.getD t10.toNat default).Phase) ((t8.getD t10.toNat default).Used))]) b140 t8 t9 t10 h)
      · obtain ⟨h4, h⟩ := chk h
        exact hc.jump (orc := [(2, [(0, oT)]), (3, [(0, oC (.ip gx0 [.int .i64 (((t8.getD t10.toNat default).Flow).Src), .int .i64 (((t8.getD t10.toNat default).Flow).Dst), .int .i64 (((t8.getD t10.toNat default).Flow).Proto), .int .i64 (((t8.getD t10.toNat default).Flow).Sport), .int .i64 (((t8.getD t10.toNat default).Flow).Dport), .int .i64 ((t8.getD t10.toNat default).To), .bool ((t8.getD t10.toNat default).Away), .int .i64 ((t8.getD t10.toNat default).Phase), .int .i64 ((t8.getD t10.toNat default).Used)]))]), (4, [(2, { r := d_cache_Put_f1 v1, cv := some (.bool false) })]), (6, [(3, { cv := some (.ref 292 0 (b140 ++ [(GEntry.mk ((t8.getD t10.toNat default).Flow) ((t8.getD t10.toNat default).To) ((t8.getD t10.toNat default).Away) ((t8.getD t10.toNat default).Phase) ((t8.getD t10.toNat default).Used))]).length (b140 ++ [(GEntry.mk ((t8.getD t10.toNat default).Flow) ((t8.getD t10.toNat default).To) ((t8.getD t10.toNat default).Away) ((t8.getD t10.toNat default).Phase) ((t8.getD t10.toNat default).Used))]).length), cb := [(292, eL eEntry (b140 ++ [(GEntry.mk ((t8.getD t10.toNat default).Flow) ((t8.getD t10.toNat default).To) ((t8.getD t10.toNat default).Away) ((t8.getD t10.toNat default).Phase) ((t8.getD t10.toNat default).Used))]))] })])]) (m := 13) (kt := [1, 4, 5, 8, 9, 10]) (kh := [(132, 260), (292, 140)]) (by kernel_rfl) (.cons (Le.tt h0) (.cons (h1) (.cons (Le.iptl (g := gx0) (eL_at (xs := t8) eEntry_len (ixl h1))) (.cons (c_cache_Put_f1 N gx1_0 (GEntry.mk ((t8.getD t10.toNat default).Flow) ((t8.getD t10.toNat default).To) ((t8.getD t10.toNat default).Away) ((t8.getD t10.toNat default).Phase) ((t8.getD t10.toNat default).Used)) t1_0_0 t1_0_1 t1_0_2 t1_0_3 t1_0_4 t1_0_5 t1_0_6 t1_0_7 t1_0_8 h2) (.cons (Le.ff h3) (.cons ((by decide : 1 * 9 ≤ 9)) (.cons (ap_len (xs := b140) eEntry_len) (.cons (h4) (.cons (Le.apr (b := 292) (by first | rfl | (simp only [List.length_append, List.length_take, List.length_drop]; omega) | simp : (b140 ++ [(GEntry.mk ((t8.getD t10.toNat default).Flow) ((t8.getD t10.toNat default).To) ((t8.getD t10.toNat default).Away) ((t8.getD t10.toNat default).Phase) ((t8.getD t10.toNat default).Used))]).length = b140.length + 1)) (.cons (ap_one (xs := b140) eEntry_len (y := (GEntry.mk ((t8.getD t10.toNat default).Flow) ((t8.getD t10.toNat default).To) ((t8.getD t10.toNat default).Away) ((t8.getD t10.toNat default).Phase) ((t8.getD t10.toNat default).Used))) (cs := [.int .i64 (((t8.getD t10.toNat default).Flow).Src), .int .i64 (((t8.getD t10.toNat default).Flow).Dst), .int .i64 (((t8.getD t10.toNat default).Flow).Proto), .int .i64 (((t8.getD t10.toNat default).Flow).Sport), .int .i64 (((t8.getD t10.toNat default).Flow).Dport), .int .i64 ((t8.getD t10.toNat default).To), .bool ((t8.getD t10.toNat default).Away), .int .i64 ((t8.getD t10.toNat default).Phase), .int .i64 ((t8.getD t10.toNat default).Used)]) rfl) .nil)))))))))) (g_cache_split_api_Entry_2 gx0 gx1_0 hc N hfin (L_cache_split_api_Entry_1 N fuel) ih t1_0_0 t1_0_1 t1_0_2 t1_0_3 t1_0_4 t1_0_5 t1_0_6 t1_0_7 t1_0_8 b132 (b140 ++ [(GEntry.mk ((t8.getD t10.toNat default).Flow) ((t8.getD t10.toNat default).To) ((t8.getD t10.toNat default).Away) ((t8.getD t10.toNat default).Phase) ((t8.getD t10.toNat default).Used))]) t8 t9 t10 h)
    · exact hc.rt hfin (fn := Tryz.f188) (by kernel_rfl) (orc := [(2, [(0, oF)]), (8, [(2, { frz := true }), (3, { frz := true })])]) (m := 7) (by kernel_rfl) (.cons (Le.ff h0) .nil) h Le.rfl rfl

theorem g_cache_split_api_Entry_0 (gx0 : Bool) (gx1_0 : Bool) {c : Cx} (hc : Is c Tryz.prog ty 188 28) (N : Nat) {r : (List GEntry) × (List GEntry)} (hfin : c.Fin [] (d_cache_split_api_Entry r) []) (x0 : (List GEntry)) (x1_0_0 x1_0_1 x1_0_2 x1_0_3 x1_0_4 x1_0_5 : Int) (x1_0_6 : Bool) (x1_0_7 x1_0_8 : Int) (h : L_cache_split_api_Entry N x0 x1_0_0 x1_0_1 x1_0_2 x1_0_3 x1_0_4 x1_0_5 x1_0_6 x1_0_7 x1_0_8 = some r) : c.Goes (items (bodyOf Tryz.f188) [.c 1]) ⟨[(0, .sl gx0 (eL eEntry x0) x0.length x0.length), (1, .fn 189 [.ip gx1_0 [.int .i64 x1_0_0, .int .i64 x1_0_1, .int .i64 x1_0_2, .int .i64 x1_0_3, .int .i64 x1_0_4, .int .i64 x1_0_5, .bool x1_0_6, .int .i64 x1_0_7, .int .i64 x1_0_8]])], []⟩ := by
  unfold L_cache_split_api_Entry at h
  exact hc.jump (orc := [(0, [(0, { own := some (9) }), (1, { own := some (9) })])]) (m := 7) (kt := [1, 4, 5, 8, 9, 10]) (kh := [(132, 132), (140, 140)]) (by kernel_rfl) .nil (g_cache_split_api_Entry_1 gx0 gx1_0 hc N hfin N x1_0_0 x1_0_1 x1_0_2 x1_0_3 x1_0_4 x1_0_5 x1_0_6 x1_0_7 x1_0_8 ([]) ([]) x0 (x0.length : Int) 0 h)

theorem c_cache_split_api_Entry (N : Nat) (gx0 : Bool) (gx1_0 : Bool) (x0 : (List GEntry)) (x1_0_0 x1_0_1 x1_0_2 x1_0_3 x1_0_4 x1_0_5 : Int) (x1_0_6 : Bool) (x1_0_7 x1_0_8 : Int) {r : (List GEntry) × (List GEntry)} (h : L_cache_split_api_Entry N x0 x1_0_0 x1_0_1 x1_0_2 x1_0_3 x1_0_4 x1_0_5 x1_0_6 x1_0_7 x1_0_8 = some r) : Con Tryz.prog 188 [.sl gx0 (eL eEntry x0) x0.length x0.length, .fn 189 [.ip gx1_0 [.int .i64 x1_0_0, .int .i64 x1_0_1, .int .i64 x1_0_2, .int .i64 x1_0_3, .int .i64 x1_0_4, .int .i64 x1_0_5, .bool x1_0_6, .int .i64 x1_0_7, .int .i64 x1_0_8]]] [] (d_cache_split_api_Entry r) [] :=
  con_in ok mix (fn := Tryz.f188) (by kernel_rfl) (by kernel_rfl) fun hc hfin => g_cache_split_api_Entry_0 gx0 gx1_0 hc N hfin x0 x1_0_0 x1_0_1 x1_0_2 x1_0_3 x1_0_4 x1_0_5 x1_0_6 x1_0_7 x1_0_8 h
/-! ### wharfage/cache.split[wharfage/api.Entry] -/
def L_cache_split_api_Entry_v1_2 (N : Nat) (r1 : Int → Int → Int → Int → Int → Int → Bool → Int → Int → (List GEntry) → (List GEntry) → (List GEntry) → Int → Int → Option ((List GEntry) × (List GEntry))) (t1_0_0 t1_0_1 t1_0_2 t1_0_3 t1_0_4 t1_0_5 : Int) (t1_0_6 : Bool) (t1_0_7 t1_0_8 : Int) (b260 b140 t8 : (List GEntry)) (t9 t10 : Int) : Option ((List GEntry) × (List GEntry)) :=
  r1 t1_0_0 t1_0_1 t1_0_2 t1_0_3 t1_0_4 t1_0_5 t1_0_6 t1_0_7 t1_0_8 b260 b140 t8 t9 (IntKind.i64.wrap (t10 + 1))
def L_cache_split_api_Entry_v1_1 (N : Nat) : Nat → Int → Int → Int → Int → Int → Int → Bool → Int → Int → (List GEntry) → (List GEntry) → (List GEntry) → Int → Int → Option ((List GEntry) × (List GEntry))
  | 0, _, _, _, _, _, _, _, _, _, _, _, _, _, _ => none
  | fuel + 1, t1_0_0, t1_0_1, t1_0_2, t1_0_3, t1_0_4, t1_0_5, t1_0_6, t1_0_7, t1_0_8, b132, b140, t8, t9, t10 =>
    bif (decide (t10 < t9)) then
      if 0 ≤ t10 ∧ t10 < ((t8.length : Nat) : Int) then
      (L_cache_Put_f1 N (GEntry.mk ((t8.getD t10.toNat default).Flow) ((t8.getD t10.toNat default).To) ((t8.getD t10.toNat default).Away) ((t8.getD t10.toNat default).Phase) ((t8.getD t10.toNat default).Used)) t1_0_0 t1_0_1 t1_0_2 t1_0_3 t1_0_4 t1_0_5 t1_0_6 t1_0_7 t1_0_8).bind fun v1 =>
      bif v1 then
        if growOk 72 (b132.length + 1) then
        L_cache_split_api_Entry_v1_2 N (L_cache_split_api_Entry_v1_1 N fuel) t1_0_0 t1_0_1 t1_0_2 t1_0_3 t1_0_4 t1_0_5 t1_0_6 t1_0_7 t1_0_8 (b132 ++ [(GEntry.mk ((t8.getD t10.toNat default).Flow) ((t8.getD t10.toNat default).To) ((t8.getD t10.toNat default).Away) ((t8.getD t10.toNat default).Phase) ((t8.getD t10.toNat default).Used))]) b140 t8 t9 t10
        else none
      else
        if growOk 72 (b140.length + 1) then
        L_cache_split_api_Entry_v1_2 N (L_cache_split_api_Entry_v1_1 N fuel) t1_0_0 t1_0_1 t1_0_2 t1_0_3 t1_0_4 t1_0_5 t1_0_6 t1_0_7 t1_0_8 b132 (b140 ++ [(GEntry.mk ((t8.getD t10.toNat default).Flow) ((t8.getD t10.toNat default).To) ((t8.getD t10.toNat default).Away) ((t8.getD t10.toNat default).Phase) ((t8.getD t10.toNat default).Used))]) t8 t9 t10
        else none
      else none
    else
      some (b132, b140)
def L_cache_split_api_Entry_v1 (N : Nat) (x0 : (List GEntry)) (x1_0_0 x1_0_1 x1_0_2 x1_0_3 x1_0_4 x1_0_5 : Int) (x1_0_6 : Bool) (x1_0_7 x1_0_8 : Int) : Option ((List GEntry) × (List GEntry)) :=
  L_cache_split_api_Entry_v1_1 N N x1_0_0 x1_0_1 x1_0_2 x1_0_3 x1_0_4 x1_0_5 x1_0_6 x1_0_7 x1_0_8 ([]) ([]) x0 (x0.length : Int) 0
def d_cache_split_api_Entry_v1 (r : (List GEntry) × (List GEntry)) : D := .tup [.sl true (eL eEntry r.1) r.1.length r.1.length, .ref 1000 0 r.2.length r.2.length]
def h_cache_split_api_Entry_v1 (r : (List GEntry) × (List GEntry)) : List (Nat × Option Blk) := [(1000, some ⟨true, 9, (eL eEntry r.2)⟩)]
theorem g_cache_split_api_Entry_v1_2 (gx0 : Bool) (gx1_0 : Bool) {c : Cx} (hc : Is c Tryz.prog ty 188 28) (N : Nat) {r : (List GEntry) × (List GEntry)} (hfin : c.Fin [] (d_cache_split_api_Entry_v1 r) (h_cache_split_api_Entry_v1 r)) (r1 : Int → Int → Int → Int → Int → Int → Bool → Int → Int → (List GEntry) → (List GEntry) → (List GEntry) → Int → Int → Option ((List GEntry) × (List GEntry))) (hr1 : ∀ (t1_0_0 t1_0_1 t1_0_2 t1_0_3 t1_0_4 t1_0_5 : Int) (t1_0_6 : Bool) (t1_0_7 t1_0_8 : Int) (b132 b140 t8 : (List GEntry)) (t9 t10 : Int), r1 t1_0_0 t1_0_1 t1_0_2 t1_0_3 t1_0_4 t1_0_5 t1_0_6 t1_0_7 t1_0_8 b132 b140 t8 t9 t10 = some r → c.Goes (items (bodyOf Tryz.f188) [.c 37, .l 37, .b 0, .c 7]) ⟨[(1, .fn 189 [.ip gx1_0 [.int .i64 t1_0_0, .int .i64 t1_0_1, .int .i64 t1_0_2, .int .i64 t1_0_3, .int .i64 t1_0_4, .int .i64 t1_0_5, .bool t1_0_6, .int .i64 t1_0_7, .int .i64 t1_0_8]]), (4, .ref 132 0 b132.length b132.length), (5, .ref 140 0 b140.length b140.length), (8, .sl gx0 (eL eEntry t8) t8.length t8.length), (9, .int .i64 t9), (10, .int .i64 t10)], [(132, some ⟨true, 9, (eL eEntry b132)⟩), (140, some ⟨true, 9, (eL eEntry b140)⟩)]⟩) (t1_0_0 t1_0_1 t1_0_2 t1_0_3 t1_0_4 t1_0_5 : Int) (t1_0_6 : Bool) (t1_0_7 t1_0_8 : Int) (b260 b140 t8 : (List GEntry)) (t9 t10 : Int) (h : L_cache_split_api_Entry_v1_2 N r1 t1_0_0 t1_0_1 t1_0_2 t1_0_3 t1_0_4 t1_0_5 t1_0_6 t1_0_7 t1_0_8 b260 b140 t8 t9 t10 = some r) : c.Goes (items (bodyOf Tryz.f188) [.b 1, .c 485, .l 37, .b 0, .c 7]) ⟨[(1, .fn 189 [.ip gx1_0 [.int .i64 t1_0_0, .int .i64 t1_0_1, .int .i64 t1_0_2, .int .i64 t1_0_3, .int .i64 t1_0_4, .int .i64 t1_0_5, .bool t1_0_6, .int .i64 t1_0_7, .int .i64 t1_0_8]]), (4, .ref 260 0 b260.length b260.length), (5, .ref 140 0 b140.length b140.length), (8, .sl gx0 (eL eEntry t8) t8.length t8.length), (9, .int .i64 t9), (10, .int .i64 t10)], [(260, some ⟨true, 9, (eL eEntry b260)⟩), (140, some ⟨true, 9, (eL eEntry b140)⟩)]⟩ := by
  unfold L_cache_split_api_Entry_v1_2 at h
  exact hc.jump (orc := []) (m := 3) (kt := [1, 4, 5, 8, 9, 10]) (kh := [(260, 132), (140, 140)]) (by kernel_rfl) .nil (hr1 t1_0_0 t1_0_1 t1_0_2 t1_0_3 t1_0_4 t1_0_5 t1_0_6 t1_0_7 t1_0_8 b260 b140 t8 t9 (IntKind.i64.wrap (t10 + 1)) h)

theorem g_cache_split_api_Entry_v1_1 (gx0 : Bool) (gx1_0 : Bool) {c : Cx} (hc : Is c Tryz.prog ty 188 28) (N : Nat) {r : (List GEntry) × (List GEntry)} (hfin : c.Fin [] (d_cache_split_api_Entry_v1 r) (h_cache_split_api_Entry_v1 r)) : ∀ (fuel : Nat) (t1_0_0 t1_0_1 t1_0_2 t1_0_3 t1_0_4 t1_0_5 : Int) (t1_0_6 : Bool) (t1_0_7 t1_0_8 : Int) (b132 b140 t8 : (List GEntry)) (t9 t10 : Int), L_cache_split_api_Entry_v1_1 N fuel t1_0_0 t1_0_1 t1_0_2 t1_0_3 t1_0_4 t1_0_5 t1_0_6 t1_0_7 t1_0_8 b132 b140 t8 t9 t10 = some r → c.Goes (items (bodyOf Tryz.f188) [.c 37, .l 37, .b 0, .c 7]) ⟨[(1, .fn 189 [.ip gx1_0 [.int .i64 t1_0_0, .int .i64 t1_0_1, .int .i64 t1_0_2, .int .i64 t1_0_3, .int .i64 t1_0_4, .int .i64 t1_0_5, .bool t1_0_6, .int .i64 t1_0_7, .int .i64 t1_0_8]]), (4, .ref 132 0 b132.length b132.length), (5, .ref 140 0 b140.length b140.length), (8, .sl gx0 (eL eEntry t8) t8.length t8.length), (9, .int .i64 t9), (10, .int .i64 t10)], [(132, some ⟨true, 9, (eL eEntry b132)⟩), (140, some ⟨true, 9, (eL eEntry b140)⟩)]⟩ := by
  intro fuel
  induction fuel with
  | zero => intro t1_0_0 t1_0_1 t1_0_2 t1_0_3 t1_0_4 t1_0_5 t1_0_6 t1_0_7 t1_0_8 b132 b140 t8 t9 t10 h; simp [L_cache_split_api_Entry_v1_1] at h
  | succ fuel ih =>
    intro t1_0_0 t1_0_1 t1_0_2 t1_0_3 t1_0_4 t1_0_5 t1_0_6 t1_0_7 t1_0_8 b132 b140 t8 t9 t10 h
    unfold L_cache_split_api_Entry_v1_1 at h
    rcases brk h with ⟨h0, h⟩ | ⟨h0, h⟩
    · obtain ⟨h1, h⟩ := chk h
      obtain ⟨v1, h2, h⟩ := bind_of h
      rcases brk h with ⟨h3, h⟩ | ⟨h3, h⟩
      · obtain ⟨h4, h⟩ := chk h
        exact hc.jump (orc := [(2, [(0, oT)]), (3, [(0, oC (.ip gx0 [.int .i64 (((t8.getD t10.toNat default).Flow).Src), .int .i64 (((t8.getD t10.toNat default).Flow).Dst), .int .i64 (((t8.getD t10.toNat default).Flow).Proto), .int .i64 (((t8.getD t10.toNat default).Flow).Sport), .int .i64 (((t8.getD t10.toNat default).Flow).Dport), .int .i64 ((t8.getD t10.toNat default).To), .bool ((t8.getD t10.toNat default).Away), .int .i64 ((t8.getD t10.toNat default).Phase), .int .i64 ((t8.getD t10.toNat default).Used)]))]), (4, [(2, { r := d_cache_Put_f1 v1, cv := some (.bool true) })]), (5, [(3, { cv := some (.ref 260 0 (b132 ++ [(GEntry.mk ((t8.getD t10.toNat default).Flow) ((t8.getD t10.toNat default).To) ((t8.getD t10.toNat default).Away) ((t8.getD t10.toNat default).Phase) ((t8.getD t10.toNat default).Used))]).length (b132 ++ [(GEntry.mk ((t8.getD t10.toNat default).Flow) ((t8.getD t10.toNat default).To) ((t8.getD t10.toNat default).Away) ((t8.getD t10.toNat default).Phase) ((t8.getD t10.toNat default).Used))]).length), cb := [(260, eL eEntry (b132 ++ [(GEntry.mk ((t8.getD t10.toNat default).Flow) ((t8.getD t10.toNat default).To) ((t8.getD t10.toNat default).Away) ((t8.getD t10.toNat default).Phase) ((t8.getD t10.toNat default).Used))]))] })])]) (m := 13) (kt := [1, 4, 5, 8, 9, 10]) (kh := [(260, 260), (140, 140)]) (by kernel_rfl) (.cons (Le.tt h0) (.cons (h1) (.cons (Le.iptl (g := gx0) (eL_at (xs := t8) eEntry_len (ixl h1))) (.cons (c_cache_Put_f1 N gx1_0 (GEntry.mk ((t8.getD t10.toNat default).Flow) ((t8.getD t10.toNat default).To) ((t8.getD t10.toNat default).Away) ((t8.getD t10.toNat default).Phase) ((t8.getD t10.toNat default).Used)) t1_0_0 t1_0_1 t1_0_2 t1_0_3 t1_0_4 t1_0_5 t1_0_6 t1_0_7 t1_0_8 h2) (.cons (Le.tt h3) (.cons ((by decide : 1 * 9 ≤ 9)) (.cons (ap_len (xs := b132) eEntry_len) (.cons (h4) (.cons (Le.apr (b := 260) (by first | rfl | (simp only [List.length_append, List.length_take, List.length_drop]; omega) | simp : (b132 ++ [(GEntry.mk ((t8.getD t10.toNat default).Flow) ((t8.getD t10.toNat default).To) ((t8.getD t10.toNat default).Away) ((t8.getD t10.toNat default).Phase) ((t8.getD t10.toNat default).Used))]).length = b132.length + 1)) (.cons (ap_one (xs := b132) eEntry_len (y := (GEntry.mk ((t8.getD t10.toNat default).Flow) ((t8.getD t10.toNat default).To) ((t8.getD t10.toNat default).Away) ((t8.getD t10.toNat default).Phase) ((t8.getD t10.toNat default).Used))) (cs := [.int .i64 (((t8.getD t10.toNat default).Flow).Src), .int .i64 (((t8.getD t10.toNat default).Flow).Dst), .int .i64 (((t8.getD t10.toNat default).Flow).Proto), .int .i64 (((t8.getD t10.toNat default).Flow).Sport), .int .i64 (((t8.getD t10.toNat default).Flow).Dport), .int .i64 ((t8.getD t10.toNat default).To), .bool ((t8.getD t10.toNat default).Away), .int .i64 ((t8.getD t10.toNat default).Phase), .int .i64 ((t8.getD t10.toNat default).Used)]) rfl) .nil)))))))))) (g_cache_split_api_Entry_v1_2 gx0 gx1_0 hc N hfin (L_cache_split_api_Entry_v1_1 N fuel) ih t1_0_0 t1_0_1 t1_0_2 t1_0_3 t1_0_4 t1_0_5 t1_0_6 t1_0_7 t1_0_8 (b132 ++ [(GEntry.mk ((t8.getD t10.toNat default).Flow) ((t8.getD t10.toNat default).To) ((t8.getD t10.toNat default).Away) ((t8.getD t10.toNat default).Phase) ((t8.getD t10.toNat default).Used))]) b140 t8 t9 t10 h)
      · obtain ⟨h4, h⟩ := chk h
        exact hc.jump (orc := [(2, [(0, oT)]), (3, [(0, oC (.ip gx0 [.int .i64 (((t8.getD t10.toNat default).Flow).Src), .int .i64 (((t8.getD t10.toNat default).Flow).Dst), .int .i64 (((t8.getD t10.toNat default).Flow).Proto), .int .i64 (((t8.getD t10.toNat default).Flow).Sport), .int .i64 (((t8.getD t10.toNat default).Flow).Dport), .int .i64 ((t8.getD t10.toNat default).To), .bool ((t8.getD t10.toNat default).Away), .int .i64 ((t8.getD t10.toNat default).Phase), .int .i64 ((t8.getD t10.toNat default).Used)]))]), (4, [(2, { r := d_cache_Put_f1 v1, cv := some (.bool false) })]), (6, [(3, { cv := some (.ref 292 0 (b140 ++ [(GEntry.mk ((t8.getD t10.toNat default).Flow) ((t8.getD t10.toNat default).To) ((t8.getD t10.toNat default).Away) ((t8.getD t10.toNat default).Phase) ((t8.getD t10.toNat default).Used))]).length (b140 ++ [(GEntry.mk ((t8.getD t10.toNat default).Flow) ((t8.getD t10.toNat default).To) ((t8.getD t10.toNat default).Away) ((t8.getD t10.toNat default).Phase) ((t8.getD t10.toNat default).Used))]).length), cb := [(292, eL eEntry (b140 ++ [(GEntry.mk ((t8.getD t10.toNat default).Flow) ((t8.getD t10.toNat default).To) ((t8.getD t10.toNat default).Away) ((t8.getD t10.toNat default).Phase) ((t8.getD t10.toNat default).Used))]))] })])]) (m := 13) (kt := [1, 4, 5, 8, 9, 10]) (kh := [(132, 260), (292, 140)]) (by kernel_rfl) (.cons (Le.tt h0) (.cons (h1) (.cons (Le.iptl (g := gx0) (eL_at (xs := t8) eEntry_len (ixl h1))) (.cons (c_cache_Put_f1 N gx1_0 (GEntry.mk ((t8.getD t10.toNat default).Flow) ((t8.getD t10.toNat default).To) ((t8.getD t10.toNat default).Away) ((t8.getD t10.toNat default).Phase) ((t8.getD t10.toNat default).Used)) t1_0_0 t1_0_1 t1_0_2 t1_0_3 t1_0_4 t1_0_5 t1_0_6 t1_0_7 t1_0_8 h2) (.cons (Le.ff h3) (.cons ((by decide : 1 * 9 ≤ 9)) (.cons (ap_len (xs := b140) eEntry_len) (.cons (h4) (.cons (Le.apr (b := 292) (by first | rfl | (simp only [List.length_append, List.length_take, List.length_drop]; omega) | simp : (b140 ++ [(GEntry.mk ((t8.getD t10.toNat default).Flow) ((t8.getD t10.toNat default).To) ((t8.getD t10.toNat default).Away) ((t8.getD t10.toNat default).Phase) ((t8.getD t10.toNat default).Used))]).length = b140.length + 1)) (.cons (ap_one (xs := b140) eEntry_len (y := (GEntry.mk ((t8.getD t10.toNat default).Flow) ((t8.getD t10.toNat default).To) ((t8.getD t10.toNat default).Away) ((t8.getD t10.toNat default).Phase) ((t8.getD t10.toNat default).Used))) (cs := [.int .i64 (((t8.getD t10.toNat default).Flow).Src), .int .i64 (((t8.getD t10.toNat default).Flow).Dst), .int .i64 (((t8.getD t10.toNat default).Flow).Proto), .int .i64 (((t8.getD t10.toNat default).Flow).Sport), .int .i64 (((t8.getD t10.toNat default).Flow).Dport), .int .i64 ((t8.getD t10.toNat default).To), .bool ((t8.getD t10.toNat default).Away), .int .i64 ((t8.getD t10.toNat default).Phase), .int .i64 ((t8.getD t10.toNat default).Used)]) rfl) .nil)))))))))) (g_cache_split_api_Entry_v1_2 gx0 gx1_0 hc N hfin (L_cache_split_api_Entry_v1_1 N fuel) ih t1_0_0 t1_0_1 t1_0_2 t1_0_3 t1_0_4 t1_0_5 t1_0_6 t1_0_7 t1_0_8 b132 (b140 ++ [(GEntry.mk ((t8.getD t10.toNat default).Flow) ((t8.getD t10.toNat default).To) ((t8.getD t10.toNat default).Away) ((t8.getD t10.toNat default).Phase) ((t8.getD t10.toNat default).Used))]) t8 t9 t10 h)
    · have h := Option.some.inj h
      subst h
      refine hc.retB hfin [(1000, 140)] (fn := Tryz.f188) (by kernel_rfl) (orc := [(2, [(0, oF)]), (8, [(2, { frz := true })])]) (m := 7) (d := .tup [.sl true (eL eEntry b132) b132.length b132.length, .ref 140 0 b140.length b140.length]) (by kernel_rfl) (.cons (Le.ff h0) .nil) (Le.of (by kernel_rfl)) (by kernel_rfl)

theorem g_cache_split_api_Entry_v1_0 (gx0 : Bool) (gx1_0 : Bool) {c : Cx} (hc : Is c Tryz.prog ty 188 28) (N : Nat) {r : (List GEntry) × (List GEntry)} (hfin : c.Fin [] (d_cache_split_api_Entry_v1 r) (h_cache_split_api_Entry_v1 r)) (x0 : (List GEntry)) (x1_0_0 x1_0_1 x1_0_2 x1_0_3 x1_0_4 x1_0_5 : Int) (x1_0_6 : Bool) (x1_0_7 x1_0_8 : Int) (h : L_cache_split_api_Entry_v1 N x0 x1_0_0 x1_0_1 x1_0_2 x1_0_3 x1_0_4 x1_0_5 x1_0_6 x1_0_7 x1_0_8 = some r) : c.Goes (items (bodyOf Tryz.f188) [.c 1]) ⟨[(0, .sl gx0 (eL eEntry x0) x0.length x0.length), (1, .fn 189 [.ip gx1_0 [.int .i64 x1_0_0, .int .i64 x1_0_1, .int .i64 x1_0_2, .int .i64 x1_0_3, .int .i64 x1_0_4, .int .i64 x1_0_5, .bool x1_0_6, .int .i64 x1_0_7, .int .i64 x1_0_8]])], []⟩ := by
  unfold L_cache_split_api_Entry_v1 at h
  exact hc.jump (orc := [(0, [(0, { own := some (9) }), (1, { own := some (9) })])]) (m := 7) (kt := [1, 4, 5, 8, 9, 10]) (kh := [(132, 132), (140, 140)]) (by kernel_rfl) .nil (g_cache_split_api_Entry_v1_1 gx0 gx1_0 hc N hfin N x1_0_0 x1_0_1 x1_0_2 x1_0_3 x1_0_4 x1_0_5 x1_0_6 x1_0_7 x1_0_8 ([]) ([]) x0 (x0.length : Int) 0 h)

theorem c_cache_split_api_Entry_v1 (N : Nat) (gx0 : Bool) (gx1_0 : Bool) (x0 : (List GEntry)) (x1_0_0 x1_0_1 x1_0_2 x1_0_3 x1_0_4 x1_0_5 : Int) (x1_0_6 : Bool) (x1_0_7 x1_0_8 : Int) {r : (List GEntry) × (List GEntry)} (h : L_cache_split_api_Entry_v1 N x0 x1_0_0 x1_0_1 x1_0_2 x1_0_3 x1_0_4 x1_0_5 x1_0_6 x1_0_7 x1_0_8 = some r) : Con Tryz.prog 188 [.sl gx0 (eL eEntry x0) x0.length x0.length, .fn 189 [.ip gx1_0 [.int .i64 x1_0_0, .int .i64 x1_0_1, .int .i64 x1_0_2, .int .i64 x1_0_3, .int .i64 x1_0_4, .int .i64 x1_0_5, .bool x1_0_6, .int .i64 x1_0_7, .int .i64 x1_0_8]]] [] (d_cache_split_api_Entry_v1 r) (h_cache_split_api_Entry_v1 r) :=
  con_in ok mix (fn := Tryz.f188) (by kernel_rfl) (by kernel_rfl) fun hc hfin => g_cache_split_api_Entry_v1_0 gx0 gx1_0 hc N hfin x0 x1_0_0 x1_0_1 x1_0_2 x1_0_3 x1_0_4 x1_0_5 x1_0_6 x1_0_7 x1_0_8 h
/-! ### wharfage/cache.Put -/
def L_cache_Put_1 (N : Nat) (t0 : (List GEntry)) (b124_0 b124_1 b124_2 b124_3 b124_4 b124_5 : Int) (b124_6 : Bool) (b124_7 b124_8 b140_0 b140_1 b140_2 b140_3 b140_4 b140_5 : Int) (b140_6 : Bool) (b140_7 b140_8 : Int) (t17 : Bool) : Option ((List GEntry) × GEntry × Bool × Int) :=
  bif t17 then
    some ([], (GEntry.mk (GFlow.mk 0 0 0 0 0) 0 false 0 0), false, 1600)
  else
    (L_cache_split_api_Entry_v1 N t0 b124_0 b124_1 b124_2 b124_3 b124_4 b124_5 b124_6 b124_7 b124_8).bind fun v1 =>
    if growOk 72 (v1.2.length + 1) then
    via (((v1.2 ++ [(GEntry.mk (GFlow.mk b124_0 b124_1 b124_2 b124_3 b124_4) b124_5 b124_6 b124_7 b124_8)]).length : Int) : Int) fun v2 =>
    bif (decide (v2 > 8)) then
      if 0 ≤ (((v1.2 ++ [(GEntry.mk (GFlow.mk b124_0 b124_1 b124_2 b124_3 b124_4) b124_5 b124_6 b124_7 b124_8)]).length : Nat) : Int) ∧ (((v1.2 ++ [(GEntry.mk (GFlow.mk b124_0 b124_1 b124_2 b124_3 b124_4) b124_5 b124_6 b124_7 b124_8)]).length : Nat) : Int) ≤ (((v1.2 ++ [(GEntry.mk (GFlow.mk b124_0 b124_1 b124_2 b124_3 b124_4) b124_5 b124_6 b124_7 b124_8)]).length : Nat) : Int) ∧ 0 ≤ (1 : Int) ∧ (1 : Int) ≤ (((v1.2 ++ [(GEntry.mk (GFlow.mk b124_0 b124_1 b124_2 b124_3 b124_4) b124_5 b124_6 b124_7 b124_8)]).length : Nat) : Int) ∧ (v1.2 ++ [(GEntry.mk (GFlow.mk b124_0 b124_1 b124_2 b124_3 b124_4) b124_5 b124_6 b124_7 b124_8)]).length ≤ (v1.2 ++ [(GEntry.mk (GFlow.mk b124_0 b124_1 b124_2 b124_3 b124_4) b124_5 b124_6 b124_7 b124_8)]).length then
      if 0 ≤ (0 : Int) ∧ (0 : Int) < (((v1.2 ++ [(GEntry.mk (GFlow.mk b124_0 b124_1 b124_2 b124_3 b124_4) b124_5 b124_6 b124_7 b124_8)]).length : Nat) : Int) then
      some ((((v1.2 ++ [(GEntry.mk (GFlow.mk b124_0 b124_1 b124_2 b124_3 b124_4) b124_5 b124_6 b124_7 b124_8)]).drop (Int.toNat (1 : Int))).take (Int.toNat ((((v1.2 ++ [(GEntry.mk (GFlow.mk b124_0 b124_1 b124_2 b124_3 b124_4) b124_5 b124_6 b124_7 b124_8)]).length : Nat) : Int) - (1 : Int)))), (GEntry.mk (((v1.2 ++ [(GEntry.mk (GFlow.mk b124_0 b124_1 b124_2 b124_3 b124_4) b124_5 b124_6 b124_7 b124_8)]).getD (Int.toNat 0) default).Flow) (((v1.2 ++ [(GEntry.mk (GFlow.mk b124_0 b124_1 b124_2 b124_3 b124_4) b124_5 b124_6 b124_7 b124_8)]).getD (Int.toNat 0) default).To) (((v1.2 ++ [(GEntry.mk (GFlow.mk b124_0 b124_1 b124_2 b124_3 b124_4) b124_5 b124_6 b124_7 b124_8)]).getD (Int.toNat 0) default).Away) (((v1.2 ++ [(GEntry.mk (GFlow.mk b124_0 b124_1 b124_2 b124_3 b124_4) b124_5 b124_6 b124_7 b124_8)]).getD (Int.toNat 0) default).Phase) (((v1.2 ++ [(GEntry.mk (GFlow.mk b124_0 b124_1 b124_2 b124_3 b124_4) b124_5 b124_6 b124_7 b124_8)]).getD (Int.toNat 0) default).Used)), true, 0)
      else none
      else none
    else
      some ((v1.2 ++ [(GEntry.mk (GFlow.mk b124_0 b124_1 b124_2 b124_3 b124_4) b124_5 b124_6 b124_7 b124_8)]), (GEntry.mk (GFlow.mk 0 0 0 0 0) 0 false 0 0), false, 0)
    else none
def L_cache_Put (N : Nat) (x0 : (List GEntry)) (x1 : GEntry) : Option ((List GEntry) × GEntry × Bool × Int) :=
  (L_cache_May N x0).bind fun v1 =>
  bif (!v1) then
    L_cache_Put_1 N x0 x1.Flow.Src x1.Flow.Dst x1.Flow.Proto x1.Flow.Sport x1.Flow.Dport x1.To x1.Away x1.Phase x1.Used 0 0 0 0 0 0 false 0 0 true
  else
    (L_entry_May N x1).bind fun v2 =>
    L_cache_Put_1 N x0 x1.Flow.Src x1.Flow.Dst x1.Flow.Proto x1.Flow.Sport x1.Flow.Dport x1.To x1.Away x1.Phase x1.Used 0 0 0 0 0 0 false 0 0 (!v2)
def d_cache_Put (r : (List GEntry) × GEntry × Bool × Int) : D := .tup [.sl true (eL eEntry r.1) r.1.length r.1.length, .agg [.int .i64 r.2.1.Flow.Src, .int .i64 r.2.1.Flow.Dst, .int .i64 r.2.1.Flow.Proto, .int .i64 r.2.1.Flow.Sport, .int .i64 r.2.1.Flow.Dport, .int .i64 r.2.1.To, .bool r.2.1.Away, .int .i64 r.2.1.Phase, .int .i64 r.2.1.Used], .bool r.2.2.1, .int .i64 r.2.2.2]
theorem g_cache_Put_1 (gx0 : Bool) {c : Cx} (hc : Is c Tryz.prog ty 136 39) (N : Nat) {r : (List GEntry) × GEntry × Bool × Int} (hfin : c.Fin [] (d_cache_Put r) []) (t0 : (List GEntry)) (b124_0 b124_1 b124_2 b124_3 b124_4 b124_5 : Int) (b124_6 : Bool) (b124_7 b124_8 b140_0 b140_1 b140_2 b140_3 b140_4 b140_5 : Int) (b140_6 : Bool) (b140_7 b140_8 : Int) (t17 : Bool) (h : L_cache_Put_1 N t0 b124_0 b124_1 b124_2 b124_3 b124_4 b124_5 b124_6 b124_7 b124_8 b140_0 b140_1 b140_2 b140_3 b140_4 b140_5 b140_6 b140_7 b140_8 t17 = some r) : c.Goes (items (bodyOf Tryz.f136) [.c 13, .c 7]) ⟨[(0, .sl gx0 (eL eEntry t0) t0.length t0.length), (3, .ptr 124 0), (5, .ptr 140 0), (17, .bool t17)], [(124, some ⟨false, 0, [.int .i64 b124_0, .int .i64 b124_1, .int .i64 b124_2, .int .i64 b124_3, .int .i64 b124_4, .int .i64 b124_5, .bool b124_6, .int .i64 b124_7, .int .i64 b124_8]⟩), (140, some ⟨false, 0, [.int .i64 b140_0, .int .i64 b140_1, .int .i64 b140_2, .int .i64 b140_3, .int .i64 b140_4, .int .i64 b140_5, .bool b140_6, .int .i64 b140_7, .int .i64 b140_8]⟩)]⟩ := by
  unfold L_cache_Put_1 at h
  rcases brk h with ⟨h0, k0⟩ | ⟨h0, k0⟩
  · subst h0
    replace h := k0
    exact hc.rt hfin (fn := Tryz.f136) (by kernel_rfl) (orc := []) (m := 3) (d := .tup [.nils, .agg [.int .i64 0, .int .i64 0, .int .i64 0, .int .i64 0, .int .i64 0, .int .i64 0, .bool false, .int .i64 0, .int .i64 0], .bool false, .int .i64 1600]) (by kernel_rfl) .nil h (Le.tup ((.cons (Le.nils (g := true)) (.cons (Le.of rfl) (.cons (Le.of rfl) (.cons (Le.of rfl) .nil)))))) rfl
  · subst h0
    replace h := k0
    obtain ⟨v1, h1, h⟩ := bind_of h
    obtain ⟨h2, h⟩ := chk h
    obtain ⟨v2, h3, h⟩ := via_some h
    rcases brk h with ⟨h4, h⟩ | ⟨h4, h⟩
    · obtain ⟨h5, h⟩ := chk h
      obtain ⟨h6, h⟩ := chk h
      exact hc.rt hfin (fn := Tryz.f136) (by kernel_rfl) (orc := [(3, [(2, { r := d_cache_split_api_Entry_v1 v1, H := h_cache_split_api_Entry_v1 v1 })]), (4, [(3, { cv := some (.ref 324 0 (v1.2 ++ [(GEntry.mk (GFlow.mk b124_0 b124_1 b124_2 b124_3 b124_4) b124_5 b124_6 b124_7 b124_8)]).length (v1.2 ++ [(GEntry.mk (GFlow.mk b124_0 b124_1 b124_2 b124_3 b124_4) b124_5 b124_6 b124_7 b124_8)]).length), cb := [(324, eL eEntry (v1.2 ++ [(GEntry.mk (GFlow.mk b124_0 b124_1 b124_2 b124_3 b124_4) b124_5 b124_6 b124_7 b124_8)]))] }), (4, { frz := true })]), (5, [(1, oC (.int .i64 v2)), (2, oT)]), (6, [(1, oC (.sl true (eL eEntry (((v1.2 ++ [(GEntry.mk (GFlow.mk b124_0 b124_1 b124_2 b124_3 b124_4) b124_5 b124_6 b124_7 b124_8)]).drop (Int.toNat (1 : Int))).take (Int.toNat ((((v1.2 ++ [(GEntry.mk (GFlow.mk b124_0 b124_1 b124_2 b124_3 b124_4) b124_5 b124_6 b124_7 b124_8)]).length : Nat) : Int) - (1 : Int))))) ((((v1.2 ++ [(GEntry.mk (GFlow.mk b124_0 b124_1 b124_2 b124_3 b124_4) b124_5 b124_6 b124_7 b124_8)]).drop (Int.toNat (1 : Int))).take (Int.toNat ((((v1.2 ++ [(GEntry.mk (GFlow.mk b124_0 b124_1 b124_2 b124_3 b124_4) b124_5 b124_6 b124_7 b124_8)]).length : Nat) : Int) - (1 : Int)))).length) ((((v1.2 ++ [(GEntry.mk (GFlow.mk b124_0 b124_1 b124_2 b124_3 b124_4) b124_5 b124_6 b124_7 b124_8)]).drop (Int.toNat (1 : Int))).take (Int.toNat ((((v1.2 ++ [(GEntry.mk (GFlow.mk b124_0 b124_1 b124_2 b124_3 b124_4) b124_5 b124_6 b124_7 b124_8)]).length : Nat) : Int) - (1 : Int)))).length))), (3, oC (.ip true [.int .i64 ((((v1.2 ++ [(GEntry.mk (GFlow.mk b124_0 b124_1 b124_2 b124_3 b124_4) b124_5 b124_6 b124_7 b124_8)]).getD (Int.toNat 0) default).Flow).Src), .int .i64 ((((v1.2 ++ [(GEntry.mk (GFlow.mk b124_0 b124_1 b124_2 b124_3 b124_4) b124_5 b124_6 b124_7 b124_8)]).getD (Int.toNat 0) default).Flow).Dst), .int .i64 ((((v1.2 ++ [(GEntry.mk (GFlow.mk b124_0 b124_1 b124_2 b124_3 b124_4) b124_5 b124_6 b124_7 b124_8)]).getD (Int.toNat 0) default).Flow).Proto), .int .i64 ((((v1.2 ++ [(GEntry.mk (GFlow.mk b124_0 b124_1 b124_2 b124_3 b124_4) b124_5 b124_6 b124_7 b124_8)]).getD (Int.toNat 0) default).Flow).Sport), .int .i64 ((((v1.2 ++ [(GEntry.mk (GFlow.mk b124_0 b124_1 b124_2 b124_3 b124_4) b124_5 b124_6 b124_7 b124_8)]).getD (Int.toNat 0) default).Flow).Dport), .int .i64 (((v1.2 ++ [(GEntry.mk (GFlow.mk b124_0 b124_1 b124_2 b124_3 b124_4) b124_5 b124_6 b124_7 b124_8)]).getD (Int.toNat 0) default).To), .bool (((v1.2 ++ [(GEntry.mk (GFlow.mk b124_0 b124_1 b124_2 b124_3 b124_4) b124_5 b124_6 b124_7 b124_8)]).getD (Int.toNat 0) default).Away), .int .i64 (((v1.2 ++ [(GEntry.mk (GFlow.mk b124_0 b124_1 b124_2 b124_3 b124_4) b124_5 b124_6 b124_7 b124_8)]).getD (Int.toNat 0) default).Phase), .int .i64 (((v1.2 ++ [(GEntry.mk (GFlow.mk b124_0 b124_1 b124_2 b124_3 b124_4) b124_5 b124_6 b124_7 b124_8)]).getD (Int.toNat 0) default).Used)]))])]) (m := 12) (by kernel_rfl) (.cons (c_cache_split_api_Entry_v1 N gx0 false t0 b124_0 b124_1 b124_2 b124_3 b124_4 b124_5 b124_6 b124_7 b124_8 h1) (.cons ((by decide : 1 * 9 ≤ 9)) (.cons (ap_len (xs := v1.2) eEntry_len) (.cons (h2) (.cons (Le.apr (b := 324) (by first | rfl | (simp only [List.length_append, List.length_take, List.length_drop]; omega) | simp : (v1.2 ++ [(GEntry.mk (GFlow.mk b124_0 b124_1 b124_2 b124_3 b124_4) b124_5 b124_6 b124_7 b124_8)]).length = v1.2.length + 1)) (.cons (ap_one (xs := v1.2) eEntry_len (y := (GEntry.mk (GFlow.mk b124_0 b124_1 b124_2 b124_3 b124_4) b124_5 b124_6 b124_7 b124_8)) (cs := [.int .i64 b124_0, .int .i64 b124_1, .int .i64 b124_2, .int .i64 b124_3, .int .i64 b124_4, .int .i64 b124_5, .bool b124_6, .int .i64 b124_7, .int .i64 b124_8]) rfl) (.cons (Le.int (k := .i64) h3) (.cons (Le.tt h4) (.cons (sl_need (xs := (v1.2 ++ [(GEntry.mk (GFlow.mk b124_0 b124_1 b124_2 b124_3 b124_4) b124_5 b124_6 b124_7 b124_8)])) eEntry_len h5) (.cons (Le.cutr (g := true) (n := (Int.toNat ((((v1.2 ++ [(GEntry.mk (GFlow.mk b124_0 b124_1 b124_2 b124_3 b124_4) b124_5 b124_6 b124_7 b124_8)]).length : Nat) : Int) - (1 : Int)))) (c := ((v1.2 ++ [(GEntry.mk (GFlow.mk b124_0 b124_1 b124_2 b124_3 b124_4) b124_5 b124_6 b124_7 b124_8)]).length - (Int.toNat (1 : Int)))) eEntry_len (xs := (v1.2 ++ [(GEntry.mk (GFlow.mk b124_0 b124_1 b124_2 b124_3 b124_4) b124_5 b124_6 b124_7 b124_8)])) (lo := (Int.toNat (1 : Int))) rfl (by first | omega | decide | (simp; done) | (simp; omega)) (by first | omega | decide | (simp; done) | (simp; omega))) (.cons (h6) (.cons (Le.iptl (g := true) (eL_at (xs := (v1.2 ++ [(GEntry.mk (GFlow.mk b124_0 b124_1 b124_2 b124_3 b124_4) b124_5 b124_6 b124_7 b124_8)])) eEntry_len (ixl h6))) .nil)))))))))))) h Le.rfl rfl
    · exact hc.rt hfin (fn := Tryz.f136) (by kernel_rfl) (orc := [(3, [(2, { r := d_cache_split_api_Entry_v1 v1, H := h_cache_split_api_Entry_v1 v1 })]), (4, [(3, { cv := some (.ref 324 0 (v1.2 ++ [(GEntry.mk (GFlow.mk b124_0 b124_1 b124_2 b124_3 b124_4) b124_5 b124_6 b124_7 b124_8)]).length (v1.2 ++ [(GEntry.mk (GFlow.mk b124_0 b124_1 b124_2 b124_3 b124_4) b124_5 b124_6 b124_7 b124_8)]).length), cb := [(324, eL eEntry (v1.2 ++ [(GEntry.mk (GFlow.mk b124_0 b124_1 b124_2 b124_3 b124_4) b124_5 b124_6 b124_7 b124_8)]))] }), (4, { frz := true })]), (5, [(1, oC (.int .i64 v2)), (2, oF)])]) (m := 13) (by kernel_rfl) (.cons (c_cache_split_api_Entry_v1 N gx0 false t0 b124_0 b124_1 b124_2 b124_3 b124_4 b124_5 b124_6 b124_7 b124_8 h1) (.cons ((by decide : 1 * 9 ≤ 9)) (.cons (ap_len (xs := v1.2) eEntry_len) (.cons (h2) (.cons (Le.apr (b := 324) (by first | rfl | (simp only [List.length_append, List.length_take, List.length_drop]; omega) | simp : (v1.2 ++ [(GEntry.mk (GFlow.mk b124_0 b124_1 b124_2 b124_3 b124_4) b124_5 b124_6 b124_7 b124_8)]).length = v1.2.length + 1)) (.cons (ap_one (xs := v1.2) eEntry_len (y := (GEntry.mk (GFlow.mk b124_0 b124_1 b124_2 b124_3 b124_4) b124_5 b124_6 b124_7 b124_8)) (cs := [.int .i64 b124_0, .int .i64 b124_1, .int .i64 b124_2, .int .i64 b124_3, .int .i64 b124_4, .int .i64 b124_5, .bool b124_6, .int .i64 b124_7, .int .i64 b124_8]) rfl) (.cons (Le.int (k := .i64) h3) (.cons (Le.ff h4) .nil)))))))) h Le.rfl rfl

theorem g_cache_Put_0 (gx0 : Bool) {c : Cx} (hc : Is c Tryz.prog ty 136 39) (N : Nat) {r : (List GEntry) × GEntry × Bool × Int} (hfin : c.Fin [] (d_cache_Put r) []) (x0 : (List GEntry)) (x1 : GEntry) (h : L_cache_Put N x0 x1 = some r) : c.Goes (items (bodyOf Tryz.f136) [.c 1]) ⟨[(0, .sl gx0 (eL eEntry x0) x0.length x0.length), (1, .agg [.int .i64 x1.Flow.Src, .int .i64 x1.Flow.Dst, .int .i64 x1.Flow.Proto, .int .i64 x1.Flow.Sport, .int .i64 x1.Flow.Dport, .int .i64 x1.To, .bool x1.Away, .int .i64 x1.Phase, .int .i64 x1.Used])], []⟩ := by
  unfold L_cache_Put at h
  obtain ⟨v1, h0, h⟩ := bind_of h
  rcases brk h with ⟨h1, h⟩ | ⟨h1, h⟩
  · exact hc.jump (orc := [(1, [(1, oR (d_cache_May v1)), (3, oT)])]) (m := 5) (kt := [0, 3, 5, 17]) (kh := [(124, 124), (140, 140)]) (by kernel_rfl) (.cons (c_cache_May N gx0 x0 h0) (.cons (Le.tt h1) .nil)) (g_cache_Put_1 gx0 hc N hfin x0 x1.Flow.Src x1.Flow.Dst x1.Flow.Proto x1.Flow.Sport x1.Flow.Dport x1.To x1.Away x1.Phase x1.Used 0 0 0 0 0 0 false 0 0 true h)
  · obtain ⟨v2, h2, h⟩ := bind_of h
    exact hc.jump (orc := [(1, [(1, oR (d_cache_May v1)), (3, oF), (5, oR (d_entry_May v2))])]) (m := 5) (kt := [0, 3, 5, 17]) (kh := [(124, 124), (140, 140)]) (by kernel_rfl) (.cons (c_cache_May N gx0 x0 h0) (.cons (Le.ff h1) (.cons (c_entry_May N x1 h2) .nil))) (g_cache_Put_1 gx0 hc N hfin x0 x1.Flow.Src x1.Flow.Dst x1.Flow.Proto x1.Flow.Sport x1.Flow.Dport x1.To x1.Away x1.Phase x1.Used 0 0 0 0 0 0 false 0 0 (!v2) h)

theorem c_cache_Put (N : Nat) (gx0 : Bool) (x0 : (List GEntry)) (x1 : GEntry) {r : (List GEntry) × GEntry × Bool × Int} (h : L_cache_Put N x0 x1 = some r) : Con Tryz.prog 136 [.sl gx0 (eL eEntry x0) x0.length x0.length, .agg [.int .i64 x1.Flow.Src, .int .i64 x1.Flow.Dst, .int .i64 x1.Flow.Proto, .int .i64 x1.Flow.Sport, .int .i64 x1.Flow.Dport, .int .i64 x1.To, .bool x1.Away, .int .i64 x1.Phase, .int .i64 x1.Used]] [] (d_cache_Put r) [] :=
  con_in ok mix (fn := Tryz.f136) (by kernel_rfl) (by kernel_rfl) fun hc hfin => g_cache_Put_0 gx0 hc N hfin x0 x1 h
/-! ### wharfage/edge.Sent -/
def L_edge_Sent_1 (N : Nat) (b148_0 b148_1 b148_2 b172_0 b172_1 b172_2 b172_3 b172_4 b172_5 : Int) (b172_6 : Bool) (b172_7 b172_8 : Int) (t16 : (List GEntry)) (b492 : (List ByteArray)) (b588 : (List GEvent)) : Option ((List GEntry) × GOut) :=
  (L_event_Teller_Tell N (Gevent_Teller.mk b148_0 b148_1 b148_2) 0 b172_5 (GFlow.mk b172_0 b172_1 b172_2 b172_3 b172_4)).bind fun v1 =>
  if growOk 80 (b588.length + 1) then
  some (t16, (GOut.mk b492 (b588 ++ [v1])))
  else none
def L_edge_Sent (N : Nat) (x0 : Gevent_Teller) (x1 : GOuter) (x2 : (List GEntry)) (x3 : GEntry) (x4 x5 : Int) : Option ((List GEntry) × GOut) :=
  (L_gue_Push N x1).bind fun v1 =>
  bif (v1.2 != 0) then
    (L_event_Teller_Alone N x0 6 x3.Flow).bind fun v2 =>
    some (x2, v2)
  else
    (L_entry_Use N x3 x4 x5).bind fun v2 =>
    (L_cache_Put N x2 v2.1).bind fun v3 =>
    bif v3.2.2.1 then
      (L_event_Teller_Tell N x0 11 v3.2.1.To v3.2.1.Flow).bind fun v4 =>
      L_edge_Sent_1 N x0.Role x0.Site x0.Node v2.1.Flow.Src v2.1.Flow.Dst v2.1.Flow.Proto v2.1.Flow.Sport v2.1.Flow.Dport v2.1.To v2.1.Away v2.1.Phase v2.1.Used v3.1 ([v1.1]) ([v4])
    else
      L_edge_Sent_1 N x0.Role x0.Site x0.Node v2.1.Flow.Src v2.1.Flow.Dst v2.1.Flow.Proto v2.1.Flow.Sport v2.1.Flow.Dport v2.1.To v2.1.Away v2.1.Phase v2.1.Used v3.1 ([v1.1]) ([])
def d_edge_Sent (r : (List GEntry) × GOut) : D := .tup [.sl true (eL eEntry r.1) r.1.length r.1.length, .agg [.sl true (eL eStr r.2.Sent) r.2.Sent.length r.2.Sent.length, .sl true (eL eEvent r.2.Events) r.2.Events.length r.2.Events.length]]
theorem g_edge_Sent_1 {c : Cx} (hc : Is c Tryz.prog ty 66 76) (N : Nat) {r : (List GEntry) × GOut} (hfin : c.Fin [] (d_edge_Sent r) []) (b148_0 b148_1 b148_2 b172_0 b172_1 b172_2 b172_3 b172_4 b172_5 : Int) (b172_6 : Bool) (b172_7 b172_8 : Int) (t16 : (List GEntry)) (b492 : (List ByteArray)) (b588 : (List GEvent)) (h : L_edge_Sent_1 N b148_0 b148_1 b148_2 b172_0 b172_1 b172_2 b172_3 b172_4 b172_5 b172_6 b172_7 b172_8 t16 b492 b588 = some r) : c.Goes (items (bodyOf Tryz.f66) [.c 255]) ⟨[(6, .ptr 148 0), (9, .ptr 172 0), (13, .ptr 204 0), (16, .sl true (eL eEntry t16) t16.length t16.length), (20, .ptr 260 0)], [(148, some ⟨false, 0, [.int .i64 b148_0, .int .i64 b148_1, .int .i64 b148_2]⟩), (172, some ⟨false, 0, [.int .i64 b172_0, .int .i64 b172_1, .int .i64 b172_2, .int .i64 b172_3, .int .i64 b172_4, .int .i64 b172_5, .bool b172_6, .int .i64 b172_7, .int .i64 b172_8]⟩), (204, some ⟨false, 0, [.nils, .nils]⟩), (260, some ⟨false, 0, [.ref 492 0 b492.length b492.length, .ref 588 0 b588.length b588.length]⟩), (492, some ⟨true, 1, (eL eStr b492)⟩), (588, some ⟨true, 10, (eL eEvent b588)⟩)]⟩ := by
  unfold L_edge_Sent_1 at h
  obtain ⟨v1, h0, h⟩ := bind_of h
  obtain ⟨h1, h⟩ := chk h
  exact hc.rt hfin (fn := Tryz.f66) (by kernel_rfl) (orc := [(9, [(7, oR (d_event_Teller_Tell v1)), (9, { cv := some (.ref 676 0 (b588 ++ [v1]).length (b588 ++ [v1]).length), cb := [(676, eL eEvent (b588 ++ [v1]))] })]), (10, [(1, { frz := true })])]) (m := 4) (by kernel_rfl) (.cons (c_event_Teller_Tell N (Gevent_Teller.mk b148_0 b148_1 b148_2) 0 b172_5 (GFlow.mk b172_0 b172_1 b172_2 b172_3 b172_4) h0) (.cons ((by decide : 1 * 10 ≤ 10)) (.cons (ap_len (xs := b588) eEvent_len) (.cons (h1) (.cons (Le.apr (b := 676) (by first | rfl | (simp only [List.length_append, List.length_take, List.length_drop]; omega) | simp : (b588 ++ [v1]).length = b588.length + 1)) (.cons (ap_one (xs := b588) eEvent_len (y := v1) (cs := [.int .i64 v1.Kind, .int .i64 v1.Role, .int .i64 v1.Site, .int .i64 v1.Node, .int .i64 v1.To, .int .i64 v1.Flow.Src, .int .i64 v1.Flow.Dst, .int .i64 v1.Flow.Proto, .int .i64 v1.Flow.Sport, .int .i64 v1.Flow.Dport]) rfl) .nil)))))) h Le.rfl rfl

theorem g_edge_Sent_0 {c : Cx} (hc : Is c Tryz.prog ty 66 76) (N : Nat) {r : (List GEntry) × GOut} (hfin : c.Fin [] (d_edge_Sent r) []) (x0 : Gevent_Teller) (x1 : GOuter) (x2 : (List GEntry)) (x3 : GEntry) (x4 x5 : Int) (h : L_edge_Sent N x0 x1 x2 x3 x4 x5 = some r) : c.Goes (items (bodyOf Tryz.f66) [.c 1]) ⟨[(0, .agg [.int .i64 x0.Role, .int .i64 x0.Site, .int .i64 x0.Node]), (1, .agg [.int .i64 x1.Src, .int .i64 x1.Dst, .int .i64 x1.Tier, .int .i64 x1.Marker, .int .i64 x1.Origin, .str x1.Body]), (2, .sl true (eL eEntry x2) x2.length x2.length), (3, .agg [.int .i64 x3.Flow.Src, .int .i64 x3.Flow.Dst, .int .i64 x3.Flow.Proto, .int .i64 x3.Flow.Sport, .int .i64 x3.Flow.Dport, .int .i64 x3.To, .bool x3.Away, .int .i64 x3.Phase, .int .i64 x3.Used]), (4, .int .i64 x4), (5, .int .i64 x5)], []⟩ := by
  unfold L_edge_Sent at h
  obtain ⟨v1, h0, h⟩ := bind_of h
  rcases brk h with ⟨h1, h⟩ | ⟨h1, h⟩
  · obtain ⟨v2, h2, h⟩ := bind_of h
    exact hc.rt hfin (fn := Tryz.f66) (by kernel_rfl) (orc := [(1, [(1, oR (d_gue_Push v1))]), (2, [(1, oT)]), (3, [(4, oR (d_event_Teller_Alone v2))])]) (m := 10) (by kernel_rfl) (.cons (c_gue_Push N x1 h0) (.cons (Le.tt h1) (.cons (c_event_Teller_Alone N x0 6 x3.Flow h2) .nil))) h Le.rfl rfl
  · obtain ⟨v2, h2, h⟩ := bind_of h
    obtain ⟨v3, h3, h⟩ := bind_of h
    rcases brk h with ⟨h4, h⟩ | ⟨h4, h⟩
    · obtain ⟨v4, h5, h⟩ := bind_of h
      exact hc.jump (orc := [(1, [(1, oR (d_gue_Push v1))]), (2, [(1, oF)]), (4, [(3, oR (d_entry_Use v2))]), (5, [(2, oR (d_cache_Put v3))]), (6, [(2, { own := some (10) })]), (7, [(0, oT)]), (8, [(7, oR (d_event_Teller_Tell v4))])]) (m := 20) (kt := [6, 9, 13, 16, 20]) (kh := [(148, 148), (172, 172), (204, 204), (260, 260), (492, 492), (588, 588)]) (by kernel_rfl) (.cons (c_gue_Push N x1 h0) (.cons (Le.ff h1) (.cons (c_entry_Use N x3 x4 x5 h2) (.cons (c_cache_Put N true x2 v2.1 h3) (.cons (Le.tt h4) (.cons (c_event_Teller_Tell N x0 11 v3.2.1.To v3.2.1.Flow h5) (.cons ((by decide : 1 * 10 ≤ 10)) (.cons ((by decide : 0 * 10 ≤ 0)) (.cons ((show growOk 80 (0 + 1) from ⟨by decide, by decide⟩)) .nil))))))))) (g_edge_Sent_1 hc N hfin x0.Role x0.Site x0.Node v2.1.Flow.Src v2.1.Flow.Dst v2.1.Flow.Proto v2.1.Flow.Sport v2.1.Flow.Dport v2.1.To v2.1.Away v2.1.Phase v2.1.Used v3.1 ([v1.1]) ([v4]) h)
    · exact hc.jump (orc := [(1, [(1, oR (d_gue_Push v1))]), (2, [(1, oF)]), (4, [(3, oR (d_entry_Use v2))]), (5, [(2, oR (d_cache_Put v3))]), (6, [(2, { own := some (10) })]), (7, [(0, oF)])]) (m := 20) (kt := [6, 9, 13, 16, 20]) (kh := [(148, 148), (172, 172), (204, 204), (260, 260), (492, 492), (500, 588)]) (by kernel_rfl) (.cons (c_gue_Push N x1 h0) (.cons (Le.ff h1) (.cons (c_entry_Use N x3 x4 x5 h2) (.cons (c_cache_Put N true x2 v2.1 h3) (.cons (Le.ff h4) .nil))))) (g_edge_Sent_1 hc N hfin x0.Role x0.Site x0.Node v2.1.Flow.Src v2.1.Flow.Dst v2.1.Flow.Proto v2.1.Flow.Sport v2.1.Flow.Dport v2.1.To v2.1.Away v2.1.Phase v2.1.Used v3.1 ([v1.1]) ([]) h)

theorem c_edge_Sent (N : Nat) (x0 : Gevent_Teller) (x1 : GOuter) (x2 : (List GEntry)) (x3 : GEntry) (x4 x5 : Int) {r : (List GEntry) × GOut} (h : L_edge_Sent N x0 x1 x2 x3 x4 x5 = some r) : Con Tryz.prog 66 [.agg [.int .i64 x0.Role, .int .i64 x0.Site, .int .i64 x0.Node], .agg [.int .i64 x1.Src, .int .i64 x1.Dst, .int .i64 x1.Tier, .int .i64 x1.Marker, .int .i64 x1.Origin, .str x1.Body], .sl true (eL eEntry x2) x2.length x2.length, .agg [.int .i64 x3.Flow.Src, .int .i64 x3.Flow.Dst, .int .i64 x3.Flow.Proto, .int .i64 x3.Flow.Sport, .int .i64 x3.Flow.Dport, .int .i64 x3.To, .bool x3.Away, .int .i64 x3.Phase, .int .i64 x3.Used], .int .i64 x4, .int .i64 x5] [] (d_edge_Sent r) [] :=
  con_in ok mix (fn := Tryz.f66) (by kernel_rfl) (by kernel_rfl) fun hc hfin => g_edge_Sent_0 hc N hfin x0 x1 x2 x3 x4 x5 h
/-! ### wharfage/edge.Take -/
def L_edge_Take_1 (N : Nat) (t1 : Int) (t2 : ByteArray) (b124_0 b124_1 : Int) (b124_2 : (List GSite)) (b124_3 : (List GHealth)) (b124_4 : (List GEntry)) (b148_0 b148_1 : Int) (t24 : Bool) : Option (GEdge × GOut × Int) :=
  bif t24 then
    some ((GEdge.mk 0 (GConfig.mk 0 ([])) ([]) ([])), (GOut.mk ([]) ([])), 1900)
  else
    (L_edge_Copy N (GEdge.mk b124_0 (GConfig.mk b124_1 b124_2) b124_3 b124_4)).bind fun v1 =>
    (L_flow_Of N t2).bind fun v2 =>
    bif (v2.2.2 != 0) then
      (L_event_Of N v2.2.2).bind fun v3 =>
      (L_event_Teller_Alone N (Gevent_Teller.mk 0 0 v1.Id) v3 v2.1).bind fun v4 =>
      some (v1, v4, 0)
    else
      (L_edge_pinned N v1 t1 v2.1).bind fun v3 =>
      bif (!v3.2) then
        (L_event_Teller_Alone N (Gevent_Teller.mk 0 0 v1.Id) 5 v2.1).bind fun v4 =>
        some (v1, v4, 0)
      else
        (L_addr_Address N 0 0 v1.Id).bind fun v4 =>
        (L_addr_Address N 1 v3.1.To 0).bind fun v5 =>
        (L_edge_Sent N (Gevent_Teller.mk 0 0 v1.Id) (GOuter.mk v4.1 v5.1 1 0 0 t2) v1.Flows v3.1 v2.2.1.Flags t1).bind fun v6 =>
        some ((GEdge.mk v1.Id v1.Config v1.Health v6.1), v6.2, 0)
def L_edge_Take (N : Nat) (x0 : GEdge) (x1 : Int) (x2 : ByteArray) : Option (GEdge × GOut × Int) :=
  (L_edge_May N x0).bind fun v1 =>
  bif (!v1) then
    L_edge_Take_1 N x1 x2 x0.Id x0.Config.Version x0.Config.Sites x0.Health x0.Flows 0 0 true
  else
    (L_conf_Time N x1).bind fun v2 =>
    L_edge_Take_1 N x1 x2 x0.Id x0.Config.Version x0.Config.Sites x0.Health x0.Flows 0 0 (!v2)
def d_edge_Take (r : GEdge × GOut × Int) : D := .tup [.agg [.int .i64 r.1.Id, .int .i64 r.1.Config.Version, .sl true (eL (eSite true) r.1.Config.Sites) r.1.Config.Sites.length r.1.Config.Sites.length, .sl true (eL eHealth r.1.Health) r.1.Health.length r.1.Health.length, .sl true (eL eEntry r.1.Flows) r.1.Flows.length r.1.Flows.length], .agg [.sl true (eL eStr r.2.1.Sent) r.2.1.Sent.length r.2.1.Sent.length, .sl true (eL eEvent r.2.1.Events) r.2.1.Events.length r.2.1.Events.length], .int .i64 r.2.2]
theorem g_edge_Take_1 (gx0 : Bool) {c : Cx} (hc : Is c Tryz.prog ty 19 89) (N : Nat) {r : GEdge × GOut × Int} (hfin : c.Fin [] (d_edge_Take r) []) (t1 : Int) (t2 : ByteArray) (b124_0 b124_1 : Int) (b124_2 : (List GSite)) (b124_3 : (List GHealth)) (b124_4 : (List GEntry)) (b148_0 b148_1 : Int) (t24 : Bool) (h : L_edge_Take_1 N t1 t2 b124_0 b124_1 b124_2 b124_3 b124_4 b148_0 b148_1 t24 = some r) : c.Goes (items (bodyOf Tryz.f19) [.c 13, .c 7]) ⟨[(1, .int .i64 t1), (2, .str t2), (3, .ptr 124 0), (6, .ptr 148 0), (7, .ptr 156 0), (24, .bool t24)], [(124, some ⟨false, 0, [.int .i64 b124_0, .int .i64 b124_1, .sl gx0 (eL (eSite gx0) b124_2) b124_2.length b124_2.length, .sl gx0 (eL eHealth b124_3) b124_3.length b124_3.length, .sl gx0 (eL eEntry b124_4) b124_4.length b124_4.length]⟩), (148, some ⟨false, 0, [.int .i64 b148_0, .int .i64 b148_1, .nils, .nils, .nils]⟩), (156, some ⟨false, 0, [.nils, .nils]⟩)]⟩ := by
  unfold L_edge_Take_1 at h
  rcases brk h with ⟨h0, k0⟩ | ⟨h0, k0⟩
  · subst h0
    replace h := k0
    exact hc.rt hfin (fn := Tryz.f19) (by kernel_rfl) (orc := []) (m := 3) (d := .tup [.agg [.int .i64 0, .int .i64 0, .nils, .nils, .nils], .agg [.nils, .nils], .int .i64 1900]) (by kernel_rfl) .nil h (Le.tup ((.cons (Le.agg ((.cons (Le.of rfl) (.cons (Le.of rfl) (.cons (Le.nils (g := true)) (.cons (Le.nils (g := true)) (.cons (Le.nils (g := true)) .nil))))))) (.cons (Le.agg ((.cons (Le.nils (g := true)) (.cons (Le.nils (g := true)) .nil)))) (.cons (Le.of rfl) .nil))))) rfl
  · subst h0
    replace h := k0
    obtain ⟨v1, h1, h⟩ := bind_of h
    obtain ⟨v2, h2, h⟩ := bind_of h
    rcases brk h with ⟨h3, h⟩ | ⟨h3, h⟩
    · obtain ⟨v3, h4, h⟩ := bind_of h
      obtain ⟨v4, h5, h⟩ := bind_of h
      exact hc.rt hfin (fn := Tryz.f19) (by kernel_rfl) (orc := [(3, [(1, oR (d_edge_Copy v1))]), (5, [(1, oR (d_flow_Of v2))]), (6, [(1, oT)]), (7, [(3, oR (d_event_Of v3)), (5, oR (d_event_Teller_Alone v4))])]) (m := 14) (by kernel_rfl) (.cons (c_edge_Copy N gx0 (GEdge.mk b124_0 (GConfig.mk b124_1 b124_2) b124_3 b124_4) h1) (.cons (c_flow_Of N t2 h2) (.cons (Le.tt h3) (.cons (c_event_Of N v2.2.2 h4) (.cons (c_event_Teller_Alone N (Gevent_Teller.mk 0 0 v1.Id) v3 v2.1 h5) .nil))))) h Le.rfl rfl
    · obtain ⟨v3, h4, h⟩ := bind_of h
      rcases brk h with ⟨h5, h⟩ | ⟨h5, h⟩
      · obtain ⟨v4, h6, h⟩ := bind_of h
        exact hc.rt hfin (fn := Tryz.f19) (by kernel_rfl) (orc := [(3, [(1, oR (d_edge_Copy v1))]), (5, [(1, oR (d_flow_Of v2))]), (6, [(1, oF)]), (8, [(2, oR (d_edge_pinned v3))]), (9, [(1, oT)]), (10, [(3, oR (d_event_Teller_Alone v4))])]) (m := 21) (by kernel_rfl) (.cons (c_edge_Copy N gx0 (GEdge.mk b124_0 (GConfig.mk b124_1 b124_2) b124_3 b124_4) h1) (.cons (c_flow_Of N t2 h2) (.cons (Le.ff h3) (.cons (c_edge_pinned N false v1 t1 v2.1 h4) (.cons (Le.tt h5) (.cons (c_event_Teller_Alone N (Gevent_Teller.mk 0 0 v1.Id) 5 v2.1 h6) .nil)))))) h Le.rfl rfl
      · obtain ⟨v4, h6, h⟩ := bind_of h
        obtain ⟨v5, h7, h⟩ := bind_of h
        obtain ⟨v6, h8, h⟩ := bind_of h
        exact hc.rt hfin (fn := Tryz.f19) (by kernel_rfl) (orc := [(3, [(1, oR (d_edge_Copy v1))]), (5, [(1, oR (d_flow_Of v2))]), (6, [(1, oF)]), (8, [(2, oR (d_edge_pinned v3))]), (9, [(1, oF)]), (12, [(2, oR (d_addr_Address v4))]), (13, [(2, oR (d_addr_Address v5))]), (15, [(8, oR (d_edge_Sent v6))])]) (m := 32) (by kernel_rfl) (.cons (c_edge_Copy N gx0 (GEdge.mk b124_0 (GConfig.mk b124_1 b124_2) b124_3 b124_4) h1) (.cons (c_flow_Of N t2 h2) (.cons (Le.ff h3) (.cons (c_edge_pinned N false v1 t1 v2.1 h4) (.cons (Le.ff h5) (.cons (c_addr_Address N 0 0 v1.Id h6) (.cons (c_addr_Address N 1 v3.1.To 0 h7) (.cons (c_edge_Sent N (Gevent_Teller.mk 0 0 v1.Id) (GOuter.mk v4.1 v5.1 1 0 0 t2) v1.Flows v3.1 v2.2.1.Flags t1 h8) .nil)))))))) h Le.rfl rfl

theorem g_edge_Take_0 (gx0 : Bool) {c : Cx} (hc : Is c Tryz.prog ty 19 89) (N : Nat) {r : GEdge × GOut × Int} (hfin : c.Fin [] (d_edge_Take r) []) (x0 : GEdge) (x1 : Int) (x2 : ByteArray) (h : L_edge_Take N x0 x1 x2 = some r) : c.Goes (items (bodyOf Tryz.f19) [.c 1]) ⟨[(0, .agg [.int .i64 x0.Id, .int .i64 x0.Config.Version, .sl gx0 (eL (eSite gx0) x0.Config.Sites) x0.Config.Sites.length x0.Config.Sites.length, .sl gx0 (eL eHealth x0.Health) x0.Health.length x0.Health.length, .sl gx0 (eL eEntry x0.Flows) x0.Flows.length x0.Flows.length]), (1, .int .i64 x1), (2, .str x2)], []⟩ := by
  unfold L_edge_Take at h
  obtain ⟨v1, h0, h⟩ := bind_of h
  rcases brk h with ⟨h1, h⟩ | ⟨h1, h⟩
  · exact hc.jump (orc := [(1, [(1, oR (d_edge_May v1)), (3, oT)])]) (m := 5) (kt := [1, 2, 3, 6, 7, 24]) (kh := [(124, 124), (148, 148), (156, 156)]) (by kernel_rfl) (.cons (c_edge_May N gx0 x0 h0) (.cons (Le.tt h1) .nil)) (g_edge_Take_1 gx0 hc N hfin x1 x2 x0.Id x0.Config.Version x0.Config.Sites x0.Health x0.Flows 0 0 true h)
  · obtain ⟨v2, h2, h⟩ := bind_of h
    exact hc.jump (orc := [(1, [(1, oR (d_edge_May v1)), (3, oF), (5, oR (d_conf_Time v2))])]) (m := 5) (kt := [1, 2, 3, 6, 7, 24]) (kh := [(124, 124), (148, 148), (156, 156)]) (by kernel_rfl) (.cons (c_edge_May N gx0 x0 h0) (.cons (Le.ff h1) (.cons (c_conf_Time N x1 h2) .nil))) (g_edge_Take_1 gx0 hc N hfin x1 x2 x0.Id x0.Config.Version x0.Config.Sites x0.Health x0.Flows 0 0 (!v2) h)

theorem c_edge_Take (N : Nat) (gx0 : Bool) (x0 : GEdge) (x1 : Int) (x2 : ByteArray) {r : GEdge × GOut × Int} (h : L_edge_Take N x0 x1 x2 = some r) : Con Tryz.prog 19 [.agg [.int .i64 x0.Id, .int .i64 x0.Config.Version, .sl gx0 (eL (eSite gx0) x0.Config.Sites) x0.Config.Sites.length x0.Config.Sites.length, .sl gx0 (eL eHealth x0.Health) x0.Health.length x0.Health.length, .sl gx0 (eL eEntry x0.Flows) x0.Flows.length x0.Flows.length], .int .i64 x1, .str x2] [] (d_edge_Take r) [] :=
  con_in ok mix (fn := Tryz.f19) (by kernel_rfl) (by kernel_rfl) fun hc hfin => g_edge_Take_0 gx0 hc N hfin x0 x1 x2 h
/-! ### wharfage/wharfageref10.News -/
def L_ref10_News_1 (N : Nat) : Nat → Int → (List GHealth) → Int → Option ((List GHealth))
  | 0, _, _, _ => none
  | fuel + 1, t0, b124, t4 =>
    bif (decide (t4 < t0)) then
      if growOk 16 (b124.length + 1) then
      L_ref10_News_1 N fuel t0 (b124 ++ [(GHealth.mk true 0)]) (IntKind.i64.wrap (t4 + 1))
      else none
    else
      some b124
def L_ref10_News (N : Nat) (x0 : Int) : Option ((List GHealth)) :=
  L_ref10_News_1 N N x0 ([]) 0
def d_ref10_News (r : (List GHealth)) : D := .sl true (eL eHealth r) r.length r.length
theorem g_ref10_News_1 {c : Cx} (hc : Is c Tryz.prog ty 80 15) (N : Nat) {r : (List GHealth)} (hfin : c.Fin [] (d_ref10_News r) []) : ∀ (fuel : Nat) (t0 : Int) (b124 : (List GHealth)) (t4 : Int), L_ref10_News_1 N fuel t0 b124 t4 = some r → c.Goes (items (bodyOf Tryz.f80) [.c 75, .l 75, .b 0, .c 15]) ⟨[(0, .int .i64 t0), (3, .ref 124 0 b124.length b124.length), (4, .int .i64 t4)], [(124, some ⟨true, 2, (eL eHealth b124)⟩)]⟩ := by
  intro fuel
  induction fuel with
  | zero => intro t0 b124 t4 h; simp [L_ref10_News_1] at h
  | succ fuel ih =>
    intro t0 b124 t4 h
    unfold L_ref10_News_1 at h
    rcases brk h with ⟨h0, h⟩ | ⟨h0, h⟩
    · obtain ⟨h1, h⟩ := chk h
      exact hc.jump (orc := [(3, [(2, oT)]), (5, [(3, { cv := some (.ref 204 0 (b124 ++ [(GHealth.mk true 0)]).length (b124 ++ [(GHealth.mk true 0)]).length), cb := [(204, eL eHealth (b124 ++ [(GHealth.mk true 0)]))] })])]) (m := 11) (kt := [0, 3, 4]) (kh := [(204, 124)]) (by kernel_rfl) (.cons (Le.tt h0) (.cons ((by decide : 1 * 2 ≤ 2)) (.cons (ap_len (xs := b124) eHealth_len) (.cons (h1) (.cons (Le.apr (b := 204) (by first | rfl | (simp only [List.length_append, List.length_take, List.length_drop]; omega) | simp : (b124 ++ [(GHealth.mk true 0)]).length = b124.length + 1)) (.cons (ap_one (xs := b124) eHealth_len (y := (GHealth.mk true 0)) (cs := [.bool true, .int .i64 0]) rfl) .nil)))))) (ih t0 (b124 ++ [(GHealth.mk true 0)]) (IntKind.i64.wrap (t4 + 1)) h)
    · exact hc.rt hfin (fn := Tryz.f80) (by kernel_rfl) (orc := [(3, [(2, oF)]), (6, [(1, { frz := true })])]) (m := 7) (by kernel_rfl) (.cons (Le.ff h0) .nil) h Le.rfl rfl

theorem g_ref10_News_0 {c : Cx} (hc : Is c Tryz.prog ty 80 15) (N : Nat) {r : (List GHealth)} (hfin : c.Fin [] (d_ref10_News r) []) (x0 : Int) (h : L_ref10_News N x0 = some r) : c.Goes (items (bodyOf Tryz.f80) [.c 1]) ⟨[(0, .int .i64 x0)], []⟩ := by
  unfold L_ref10_News at h
  exact hc.jump (orc := [(1, [(0, { own := some (2) })])]) (m := 9) (kt := [0, 3, 4]) (kh := [(124, 124)]) (by kernel_rfl) .nil (g_ref10_News_1 hc N hfin N x0 ([]) 0 h)

theorem c_ref10_News (N : Nat) (x0 : Int) {r : (List GHealth)} (h : L_ref10_News N x0 = some r) : Con Tryz.prog 80 [.int .i64 x0] [] (d_ref10_News r) [] :=
  con_in ok mix (fn := Tryz.f80) (by kernel_rfl) (by kernel_rfl) fun hc hfin => g_ref10_News_0 hc N hfin x0 h
/-! ### wharfage/wharfageref1.Of -/
def L_ref1_Of_1 (N : Nat) : Nat → ByteArray → Int → Int → Option (Int)
  | 0, _, _, _ => none
  | fuel + 1, t0, t3, t4 =>
    bif (decide (t4 < (t0.size : Int))) then
      if 0 ≤ t4 ∧ t4 < (t0.size : Int) then
      via ((bOr .i64 (IntKind.i64.wrap (t3 * 2 ^ 8)) (IntKind.i64.wrap (bt t0 t4))) : Int) fun v1 =>
      L_ref1_Of_1 N fuel t0 v1 (IntKind.i64.wrap (t4 + 1))
      else none
    else
      some t3
def L_ref1_Of (N : Nat) (x0 : ByteArray) : Option (Int) :=
  L_ref1_Of_1 N N x0 0 0
def d_ref1_Of (r : Int) : D := .int .i64 r
theorem g_ref1_Of_1 {c : Cx} (hc : Is c Tryz.prog ty 153 19) (N : Nat) {r : Int} (hfin : c.Fin [] (d_ref1_Of r) []) : ∀ (fuel : Nat) (t0 : ByteArray) (t3 t4 : Int), L_ref1_Of_1 N fuel t0 t3 t4 = some r → c.Goes (items (bodyOf Tryz.f153) [.c 75, .l 75, .b 0, .c 15]) ⟨[(0, .str t0), (3, .int .i64 t3), (4, .int .i64 t4)], []⟩ := by
  intro fuel
  induction fuel with
  | zero => intro t0 t3 t4 h; simp [L_ref1_Of_1] at h
  | succ fuel ih =>
    intro t0 t3 t4 h
    unfold L_ref1_Of_1 at h
    rcases brk h with ⟨h0, h⟩ | ⟨h0, h⟩
    · obtain ⟨h1, h⟩ := chk h
      obtain ⟨v1, h2, h⟩ := via_some h
      exact hc.jump (orc := [(3, [(3, oT)]), (5, [(6, oC (.int .i64 v1))])]) (m := 11) (kt := [0, 3, 4]) (kh := []) (by kernel_rfl) (.cons (Le.tt h0) (.cons ((by decide : (0:Int) ≤ 8)) (.cons (h1) (.cons (Le.int (k := .i64) h2) .nil)))) (ih t0 v1 (IntKind.i64.wrap (t4 + 1)) h)
    · exact hc.rt hfin (fn := Tryz.f153) (by kernel_rfl) (orc := [(3, [(3, oF)])]) (m := 7) (by kernel_rfl) (.cons (Le.ff h0) .nil) h Le.rfl rfl

theorem g_ref1_Of_0 {c : Cx} (hc : Is c Tryz.prog ty 153 19) (N : Nat) {r : Int} (hfin : c.Fin [] (d_ref1_Of r) []) (x0 : ByteArray) (h : L_ref1_Of N x0 = some r) : c.Goes (items (bodyOf Tryz.f153) [.c 1]) ⟨[(0, .str x0)], []⟩ := by
  unfold L_ref1_Of at h
  exact hc.jump (orc := []) (m := 9) (kt := [0, 3, 4]) (kh := []) (by kernel_rfl) .nil (g_ref1_Of_1 hc N hfin N x0 0 0 h)

theorem c_ref1_Of (N : Nat) (x0 : ByteArray) {r : Int} (h : L_ref1_Of N x0 = some r) : Con Tryz.prog 153 [.str x0] [] (d_ref1_Of r) [] :=
  con_in ok mix (fn := Tryz.f153) (by kernel_rfl) (by kernel_rfl) fun hc hfin => g_ref1_Of_0 hc N hfin x0 h
/-! ### wharfage/wharfageref1.GetIp -/
def L_ref1_GetIp_2 (N : Nat) (t0 : ByteArray) (b116_0 b116_1 b116_2 b116_3 b116_4 : Int) (b116_5 : ByteArray) (t5 : Int) (t48 : Bool) : Option (GIp × Int × Int) :=
  bif t48 then
    some ((GIp.mk 0 0 0 0 0 ByteArray.empty), 1, 200)
  else
    bif (decide (t5 > 20)) then
      some ((GIp.mk 0 0 0 0 0 ByteArray.empty), 3, 0)
    else
      if 0 ≤ (8 : Int) ∧ (8 : Int) ≤ (t0.size : Int) ∧ 0 ≤ (6 : Int) ∧ (6 : Int) ≤ (8 : Int) then
      (L_ref1_Of N (t0.extract 6 8)).bind fun v1 =>
      bif ((bAnd .i64 v1 49151) != 0) then
        some ((GIp.mk 0 0 0 0 0 ByteArray.empty), 2, 0)
      else
        if 0 ≤ (16 : Int) ∧ (16 : Int) ≤ (t0.size : Int) ∧ 0 ≤ (12 : Int) ∧ (12 : Int) ≤ (16 : Int) then
        (L_ref1_Of N (t0.extract 12 16)).bind fun v2 =>
        if 0 ≤ (20 : Int) ∧ (20 : Int) ≤ (t0.size : Int) ∧ 0 ≤ (16 : Int) ∧ (16 : Int) ≤ (20 : Int) then
        (L_ref1_Of N (t0.extract 16 20)).bind fun v3 =>
        if 0 ≤ (9 : Int) ∧ (9 : Int) < (t0.size : Int) then
        if 0 ≤ (8 : Int) ∧ (8 : Int) < (t0.size : Int) then
        if 0 ≤ (6 : Int) ∧ (6 : Int) ≤ (t0.size : Int) ∧ 0 ≤ (4 : Int) ∧ (4 : Int) ≤ (6 : Int) then
        (L_ref1_Of N (t0.extract 4 6)).bind fun v4 =>
        if 0 ≤ (t0.size : Int) ∧ (t0.size : Int) ≤ (t0.size : Int) ∧ 0 ≤ (20 : Int) ∧ (20 : Int) ≤ (t0.size : Int) then
        some ((GIp.mk v2 v3 (IntKind.i64.wrap (bt t0 9)) (IntKind.i64.wrap (bt t0 8)) v4 (t0.extract 20 t0.size)), 0, 0)
        else none
        else none
        else none
        else none
        else none
        else none
      else none
def L_ref1_GetIp_1 (N : Nat) (t0 : ByteArray) (b116_0 b116_1 b116_2 b116_3 b116_4 : Int) (b116_5 : ByteArray) (t19 : Bool) : Option (GIp × Int × Int) :=
  bif t19 then
    some ((GIp.mk 0 0 0 0 0 ByteArray.empty), 1, 200)
  else
    if 0 ≤ (0 : Int) ∧ (0 : Int) < (t0.size : Int) then
    via ((IntKind.i64.wrap ((4 : Int) * (IntKind.i64.wrap (bAnd .u8 (bt t0 0) 15)))) : Int) fun v1 =>
    bif (decide (v1 < 20)) then
      L_ref1_GetIp_2 N t0 b116_0 b116_1 b116_2 b116_3 b116_4 b116_5 v1 true
    else
      bif (decide (v1 > (t0.size : Int))) then
        L_ref1_GetIp_2 N t0 b116_0 b116_1 b116_2 b116_3 b116_4 b116_5 v1 true
      else
        if 0 ≤ (4 : Int) ∧ (4 : Int) ≤ (t0.size : Int) ∧ 0 ≤ (2 : Int) ∧ (2 : Int) ≤ (4 : Int) then
        (L_ref1_Of N (t0.extract 2 4)).bind fun v2 =>
        bif (v2 != (t0.size : Int)) then
          L_ref1_GetIp_2 N t0 b116_0 b116_1 b116_2 b116_3 b116_4 b116_5 v1 true
        else
          if 0 ≤ v1 ∧ v1 ≤ (t0.size : Int) ∧ 0 ≤ (0 : Int) ∧ (0 : Int) ≤ v1 then
          (L_ref1_Sum N (t0.extract 0 v1.toNat)).bind fun v3 =>
          L_ref1_GetIp_2 N t0 b116_0 b116_1 b116_2 b116_3 b116_4 b116_5 v1 (v3 != 65535)
          else none
        else none
    else none
def L_ref1_GetIp (N : Nat) (x0 : ByteArray) : Option (GIp × Int × Int) :=
  bif (decide ((x0.size : Int) < 20)) then
    L_ref1_GetIp_1 N x0 0 0 0 0 0 ByteArray.empty true
  else
    bif (decide ((x0.size : Int) > 512)) then
      L_ref1_GetIp_1 N x0 0 0 0 0 0 ByteArray.empty true
    else
      if 0 ≤ (0 : Int) ∧ (0 : Int) < (x0.size : Int) then
      L_ref1_GetIp_1 N x0 0 0 0 0 0 ByteArray.empty (((bt x0 0).fdiv (2 ^ 4)) != 4)
      else none
def d_ref1_GetIp (r : GIp × Int × Int) : D := .tup [.agg [.int .i64 r.1.Src, .int .i64 r.1.Dst, .int .i64 r.1.Proto, .int .i64 r.1.Ttl, .int .i64 r.1.Id, .str r.1.Body], .int .i64 r.2.1, .int .i64 r.2.2]
theorem g_ref1_GetIp_2 {c : Cx} (hc : Is c Tryz.prog ty 96 77) (N : Nat) {r : GIp × Int × Int} (hfin : c.Fin [] (d_ref1_GetIp r) []) (t0 : ByteArray) (b116_0 b116_1 b116_2 b116_3 b116_4 : Int) (b116_5 : ByteArray) (t5 : Int) (t48 : Bool) (h : L_ref1_GetIp_2 N t0 b116_0 b116_1 b116_2 b116_3 b116_4 b116_5 t5 t48 = some r) : c.Goes (items (bodyOf Tryz.f96) [.c 55, .c 31]) ⟨[(0, .str t0), (2, .ptr 116 0), (5, .int .i64 t5), (48, .bool t48)], [(116, some ⟨false, 0, [.int .i64 b116_0, .int .i64 b116_1, .int .i64 b116_2, .int .i64 b116_3, .int .i64 b116_4, .str b116_5]⟩)]⟩ := by
  unfold L_ref1_GetIp_2 at h
  rcases brk h with ⟨h0, k0⟩ | ⟨h0, k0⟩
  · subst h0
    replace h := k0
    exact hc.rt hfin (fn := Tryz.f96) (by kernel_rfl) (orc := []) (m := 3) (by kernel_rfl) .nil h Le.rfl rfl
  · subst h0
    replace h := k0
    rcases brk h with ⟨h1, h⟩ | ⟨h1, h⟩
    · exact hc.rt hfin (fn := Tryz.f96) (by kernel_rfl) (orc := [(6, [(1, oT)])]) (m := 8) (by kernel_rfl) (.cons (Le.tt h1) .nil) h Le.rfl rfl
    · obtain ⟨h2, h⟩ := chk h
      obtain ⟨v1, h3, h⟩ := bind_of h
      rcases brk h with ⟨h4, h⟩ | ⟨h4, h⟩
      · exact hc.rt hfin (fn := Tryz.f96) (by kernel_rfl) (orc := [(6, [(1, oF)]), (8, [(2, oR (d_ref1_Of v1)), (4, oT)])]) (m := 13) (by kernel_rfl) (.cons (Le.ff h1) (.cons (h2) (.cons (c_ref1_Of N (t0.extract 6 8) h3) (.cons (Le.tt h4) .nil)))) h Le.rfl rfl
      · obtain ⟨h5, h⟩ := chk h
        obtain ⟨v2, h6, h⟩ := bind_of h
        obtain ⟨h7, h⟩ := chk h
        obtain ⟨v3, h8, h⟩ := bind_of h
        obtain ⟨h9, h⟩ := chk h
        obtain ⟨h10, h⟩ := chk h
        obtain ⟨h11, h⟩ := chk h
        obtain ⟨v4, h12, h⟩ := bind_of h
        obtain ⟨h13, h⟩ := chk h
        exact hc.rt hfin (fn := Tryz.f96) (by kernel_rfl) (orc := [(6, [(1, oF)]), (8, [(2, oR (d_ref1_Of v1)), (4, oF)]), (10, [(2, oR (d_ref1_Of v2)), (5, oR (d_ref1_Of v3)), (14, oR (d_ref1_Of v4))])]) (m := 14) (by kernel_rfl) (.cons (Le.ff h1) (.cons (h2) (.cons (c_ref1_Of N (t0.extract 6 8) h3) (.cons (Le.ff h4) (.cons (h5) (.cons (c_ref1_Of N (t0.extract 12 16) h6) (.cons (h7) (.cons (c_ref1_Of N (t0.extract 16 20) h8) (.cons (h9) (.cons (h10) (.cons (h11) (.cons (c_ref1_Of N (t0.extract 4 6) h12) (.cons (h13) .nil))))))))))))) h Le.rfl rfl

theorem g_ref1_GetIp_1 {c : Cx} (hc : Is c Tryz.prog ty 96 77) (N : Nat) {r : GIp × Int × Int} (hfin : c.Fin [] (d_ref1_GetIp r) []) (t0 : ByteArray) (b116_0 b116_1 b116_2 b116_3 b116_4 : Int) (b116_5 : ByteArray) (t19 : Bool) (h : L_ref1_GetIp_1 N t0 b116_0 b116_1 b116_2 b116_3 b116_4 b116_5 t19 = some r) : c.Goes (items (bodyOf Tryz.f96) [.c 13, .c 7]) ⟨[(0, .str t0), (2, .ptr 116 0), (19, .bool t19)], [(116, some ⟨false, 0, [.int .i64 b116_0, .int .i64 b116_1, .int .i64 b116_2, .int .i64 b116_3, .int .i64 b116_4, .str b116_5]⟩)]⟩ := by
  unfold L_ref1_GetIp_1 at h
  rcases brk h with ⟨h0, k0⟩ | ⟨h0, k0⟩
  · subst h0
    replace h := k0
    exact hc.rt hfin (fn := Tryz.f96) (by kernel_rfl) (orc := []) (m := 3) (by kernel_rfl) .nil h Le.rfl rfl
  · subst h0
    replace h := k0
    obtain ⟨h1, h⟩ := chk h
    obtain ⟨v1, h2, h⟩ := via_some h
    rcases brk h with ⟨h3, h⟩ | ⟨h3, h⟩
    · exact hc.jump (orc := [(3, [(4, oC (.int .i64 v1))]), (4, [(2, oT)])]) (m := 7) (kt := [0, 2, 5, 48]) (kh := [(116, 116)]) (by kernel_rfl) (.cons (h1) (.cons (Le.int (k := .i64) h2) (.cons (Le.tt h3) .nil))) (g_ref1_GetIp_2 hc N hfin t0 b116_0 b116_1 b116_2 b116_3 b116_4 b116_5 v1 true h)
    · rcases brk h with ⟨h4, h⟩ | ⟨h4, h⟩
      · exact hc.jump (orc := [(3, [(4, oC (.int .i64 v1))]), (4, [(2, oF), (8, oT)])]) (m := 7) (kt := [0, 2, 5, 48]) (kh := [(116, 116)]) (by kernel_rfl) (.cons (h1) (.cons (Le.int (k := .i64) h2) (.cons (Le.ff h3) (.cons (Le.tt h4) .nil)))) (g_ref1_GetIp_2 hc N hfin t0 b116_0 b116_1 b116_2 b116_3 b116_4 b116_5 v1 true h)
      · obtain ⟨h5, h⟩ := chk h
        obtain ⟨v2, h6, h⟩ := bind_of h
        rcases brk h with ⟨h7, h⟩ | ⟨h7, h⟩
        · exact hc.jump (orc := [(3, [(4, oC (.int .i64 v1))]), (4, [(2, oF), (8, oF), (11, oR (d_ref1_Of v2)), (16, oT)])]) (m := 7) (kt := [0, 2, 5, 48]) (kh := [(116, 116)]) (by kernel_rfl) (.cons (h1) (.cons (Le.int (k := .i64) h2) (.cons (Le.ff h3) (.cons (Le.ff h4) (.cons (h5) (.cons (c_ref1_Of N (t0.extract 2 4) h6) (.cons (Le.tt h7) .nil))))))) (g_ref1_GetIp_2 hc N hfin t0 b116_0 b116_1 b116_2 b116_3 b116_4 b116_5 v1 true h)
        · obtain ⟨h8, h⟩ := chk h
          obtain ⟨v3, h9, h⟩ := bind_of h
          exact hc.jump (orc := [(3, [(4, oC (.int .i64 v1))]), (4, [(2, oF), (8, oF), (11, oR (d_ref1_Of v2)), (16, oF), (20, oR (d_ref1_Sum v3))])]) (m := 7) (kt := [0, 2, 5, 48]) (kh := [(116, 116)]) (by kernel_rfl) (.cons (h1) (.cons (Le.int (k := .i64) h2) (.cons (Le.ff h3) (.cons (Le.ff h4) (.cons (h5) (.cons (c_ref1_Of N (t0.extract 2 4) h6) (.cons (Le.ff h7) (.cons (h8) (.cons (c_ref1_Sum N (t0.extract 0 v1.toNat) h9) .nil))))))))) (g_ref1_GetIp_2 hc N hfin t0 b116_0 b116_1 b116_2 b116_3 b116_4 b116_5 v1 (v3 != 65535) h)

theorem g_ref1_GetIp_0 {c : Cx} (hc : Is c Tryz.prog ty 96 77) (N : Nat) {r : GIp × Int × Int} (hfin : c.Fin [] (d_ref1_GetIp r) []) (x0 : ByteArray) (h : L_ref1_GetIp N x0 = some r) : c.Goes (items (bodyOf Tryz.f96) [.c 1]) ⟨[(0, .str x0)], []⟩ := by
  unfold L_ref1_GetIp at h
  rcases brk h with ⟨h0, h⟩ | ⟨h0, h⟩
  · exact hc.jump (orc := [(1, [(3, oT)])]) (m := 5) (kt := [0, 2, 19]) (kh := [(116, 116)]) (by kernel_rfl) (.cons (Le.tt h0) .nil) (g_ref1_GetIp_1 hc N hfin x0 0 0 0 0 0 ByteArray.empty true h)
  · rcases brk h with ⟨h1, h⟩ | ⟨h1, h⟩
    · exact hc.jump (orc := [(1, [(3, oF), (8, oT)])]) (m := 5) (kt := [0, 2, 19]) (kh := [(116, 116)]) (by kernel_rfl) (.cons (Le.ff h0) (.cons (Le.tt h1) .nil)) (g_ref1_GetIp_1 hc N hfin x0 0 0 0 0 0 ByteArray.empty true h)
    · obtain ⟨h2, h⟩ := chk h
      exact hc.jump (orc := [(1, [(3, oF), (8, oF)])]) (m := 5) (kt := [0, 2, 19]) (kh := [(116, 116)]) (by kernel_rfl) (.cons (Le.ff h0) (.cons (Le.ff h1) (.cons (h2) (.cons ((by decide : (0:Int) ≤ 4)) .nil)))) (g_ref1_GetIp_1 hc N hfin x0 0 0 0 0 0 ByteArray.empty (((bt x0 0).fdiv (2 ^ 4)) != 4) h)

theorem c_ref1_GetIp (N : Nat) (x0 : ByteArray) {r : GIp × Int × Int} (h : L_ref1_GetIp N x0 = some r) : Con Tryz.prog 96 [.str x0] [] (d_ref1_GetIp r) [] :=
  con_in ok mix (fn := Tryz.f96) (by kernel_rfl) (by kernel_rfl) fun hc hfin => g_ref1_GetIp_0 hc N hfin x0 h
/-! ### wharfage/wharfageref1.Whose -/
def L_ref1_Whose_3 (N : Nat) (r2 : Int → Int → Option (Int × Int × Int × Bool)) : Nat → Int → Int → Int → Option (Int × Int × Int × Bool)
  | 0, _, _, _ => none
  | fuel + 1, t0, t7, t8 =>
    bif (decide (t8 < 4)) then
      via ((IntKind.i64.wrap ((167968768 : Int) + (IntKind.i64.wrap ((256 : Int) * t7)))) : Int) fun v1 =>
      bif (t0 == (IntKind.i64.wrap (v1 + t8))) then
        some (2, t7, t8, true)
      else
        L_ref1_Whose_3 N r2 fuel t0 t7 (IntKind.i64.wrap (t8 + 1))
    else
      r2 t0 (IntKind.i64.wrap (t7 + 1))
def L_ref1_Whose_2 (N : Nat) : Nat → Int → Int → Option (Int × Int × Int × Bool)
  | 0, _, _ => none
  | fuel + 1, t0, t7 =>
    bif (decide (t7 < 3)) then
      bif (t0 == (IntKind.i64.wrap ((167903232 : Int) + t7))) then
        some (1, t7, 0, true)
      else
        L_ref1_Whose_3 N (L_ref1_Whose_2 N fuel) N t0 t7 0
    else
      some (0, 0, 0, false)
def L_ref1_Whose_1 (N : Nat) : Nat → Int → Int → Option (Int × Int × Int × Bool)
  | 0, _, _ => none
  | fuel + 1, t0, t6 =>
    bif (decide (t6 < 2)) then
      bif (t0 == (IntKind.i64.wrap ((167837696 : Int) + t6))) then
        some (0, 0, t6, true)
      else
        L_ref1_Whose_1 N fuel t0 (IntKind.i64.wrap (t6 + 1))
    else
      L_ref1_Whose_2 N N t0 0
def L_ref1_Whose (N : Nat) (x0 : Int) : Option (Int × Int × Int × Bool) :=
  L_ref1_Whose_1 N N x0 0
def d_ref1_Whose (r : Int × Int × Int × Bool) : D := .tup [.int .i64 r.1, .int .i64 r.2.1, .int .i64 r.2.2.1, .bool r.2.2.2]
theorem g_ref1_Whose_3 {c : Cx} (hc : Is c Tryz.prog ty 37 40) (N : Nat) {r : Int × Int × Int × Bool} (hfin : c.Fin [] (d_ref1_Whose r) []) (r2 : Int → Int → Option (Int × Int × Int × Bool)) (hr2 : ∀ (t0 t7 : Int), r2 t0 t7 = some r → c.Goes (items (bodyOf Tryz.f37) [.c 75, .l 75, .b 2, .c 15]) ⟨[(0, .int .i64 t0), (7, .int .i64 t7)], []⟩) : ∀ (fuel : Nat) (t0 t7 t8 : Int), L_ref1_Whose_3 N r2 fuel t0 t7 t8 = some r → c.Goes (items (bodyOf Tryz.f37) [.c 9803, .l 9803, .b 4, .b 3, .c 459, .l 75, .b 2, .c 15]) ⟨[(0, .int .i64 t0), (7, .int .i64 t7), (8, .int .i64 t8)], []⟩ := by
  intro fuel
  induction fuel with
  | zero => intro t0 t7 t8 h; simp [L_ref1_Whose_3] at h
  | succ fuel ih =>
    intro t0 t7 t8 h
    unfold L_ref1_Whose_3 at h
    rcases brk h with ⟨h0, h⟩ | ⟨h0, h⟩
    · obtain ⟨v1, h1, h⟩ := via_some h
      rcases brk h with ⟨h2, h⟩ | ⟨h2, h⟩
      · exact hc.rt hfin (fn := Tryz.f37) (by kernel_rfl) (orc := [(12, [(1, oT)]), (14, [(3, oC (.int .i64 v1)), (6, oT)])]) (m := 12) (by kernel_rfl) (.cons (Le.tt h0) (.cons (Le.int (k := .i64) h1) (.cons (Le.tt h2) .nil))) h Le.rfl rfl
      · exact hc.jump (orc := [(12, [(1, oT)]), (14, [(3, oC (.int .i64 v1)), (6, oF)])]) (m := 14) (kt := [0, 7, 8]) (kh := []) (by kernel_rfl) (.cons (Le.tt h0) (.cons (Le.int (k := .i64) h1) (.cons (Le.ff h2) .nil))) (ih t0 t7 (IntKind.i64.wrap (t8 + 1)) h)
    · exact hc.jump (orc := [(12, [(1, oF)])]) (m := 8) (kt := [0, 7]) (kh := []) (by kernel_rfl) (.cons (Le.ff h0) .nil) (hr2 t0 (IntKind.i64.wrap (t7 + 1)) h)

theorem g_ref1_Whose_2 {c : Cx} (hc : Is c Tryz.prog ty 37 40) (N : Nat) {r : Int × Int × Int × Bool} (hfin : c.Fin [] (d_ref1_Whose r) []) : ∀ (fuel : Nat) (t0 t7 : Int), L_ref1_Whose_2 N fuel t0 t7 = some r → c.Goes (items (bodyOf Tryz.f37) [.c 75, .l 75, .b 2, .c 15]) ⟨[(0, .int .i64 t0), (7, .int .i64 t7)], []⟩ := by
  intro fuel
  induction fuel with
  | zero => intro t0 t7 h; simp [L_ref1_Whose_2] at h
  | succ fuel ih =>
    intro t0 t7 h
    unfold L_ref1_Whose_2 at h
    rcases brk h with ⟨h0, h⟩ | ⟨h0, h⟩
    · rcases brk h with ⟨h1, h⟩ | ⟨h1, h⟩
      · exact hc.rt hfin (fn := Tryz.f37) (by kernel_rfl) (orc := [(7, [(1, oT)]), (9, [(3, oT)])]) (m := 13) (by kernel_rfl) (.cons (Le.tt h0) (.cons (Le.tt h1) .nil)) h Le.rfl rfl
      · exact hc.jump (orc := [(7, [(1, oT)]), (9, [(3, oF)])]) (m := 16) (kt := [0, 7, 8]) (kh := []) (by kernel_rfl) (.cons (Le.tt h0) (.cons (Le.ff h1) .nil)) (g_ref1_Whose_3 hc N hfin (L_ref1_Whose_2 N fuel) ih N t0 t7 0 h)
    · exact hc.rt hfin (fn := Tryz.f37) (by kernel_rfl) (orc := [(7, [(1, oF)])]) (m := 7) (by kernel_rfl) (.cons (Le.ff h0) .nil) h Le.rfl rfl

theorem g_ref1_Whose_1 {c : Cx} (hc : Is c Tryz.prog ty 37 40) (N : Nat) {r : Int × Int × Int × Bool} (hfin : c.Fin [] (d_ref1_Whose r) []) : ∀ (fuel : Nat) (t0 t6 : Int), L_ref1_Whose_1 N fuel t0 t6 = some r → c.Goes (items (bodyOf Tryz.f37) [.c 37, .l 37, .b 0, .c 7]) ⟨[(0, .int .i64 t0), (6, .int .i64 t6)], []⟩ := by
  intro fuel
  induction fuel with
  | zero => intro t0 t6 h; simp [L_ref1_Whose_1] at h
  | succ fuel ih =>
    intro t0 t6 h
    unfold L_ref1_Whose_1 at h
    rcases brk h with ⟨h0, h⟩ | ⟨h0, h⟩
    · rcases brk h with ⟨h1, h⟩ | ⟨h1, h⟩
      · exact hc.rt hfin (fn := Tryz.f37) (by kernel_rfl) (orc := [(2, [(1, oT)]), (4, [(3, oT)])]) (m := 12) (by kernel_rfl) (.cons (Le.tt h0) (.cons (Le.tt h1) .nil)) h Le.rfl rfl
      · exact hc.jump (orc := [(2, [(1, oT)]), (4, [(3, oF)])]) (m := 14) (kt := [0, 6]) (kh := []) (by kernel_rfl) (.cons (Le.tt h0) (.cons (Le.ff h1) .nil)) (ih t0 (IntKind.i64.wrap (t6 + 1)) h)
    · exact hc.jump (orc := [(2, [(1, oF)])]) (m := 10) (kt := [0, 7]) (kh := []) (by kernel_rfl) (.cons (Le.ff h0) .nil) (g_ref1_Whose_2 hc N hfin N t0 0 h)

theorem g_ref1_Whose_0 {c : Cx} (hc : Is c Tryz.prog ty 37 40) (N : Nat) {r : Int × Int × Int × Bool} (hfin : c.Fin [] (d_ref1_Whose r) []) (x0 : Int) (h : L_ref1_Whose N x0 = some r) : c.Goes (items (bodyOf Tryz.f37) [.c 1]) ⟨[(0, .int .i64 x0)], []⟩ := by
  unfold L_ref1_Whose at h
  exact hc.jump (orc := []) (m := 7) (kt := [0, 6]) (kh := []) (by kernel_rfl) .nil (g_ref1_Whose_1 hc N hfin N x0 0 h)

theorem c_ref1_Whose (N : Nat) (x0 : Int) {r : Int × Int × Int × Bool} (h : L_ref1_Whose N x0 = some r) : Con Tryz.prog 37 [.int .i64 x0] [] (d_ref1_Whose r) [] :=
  con_in ok mix (fn := Tryz.f37) (by kernel_rfl) (by kernel_rfl) fun hc hfin => g_ref1_Whose_0 hc N hfin x0 h
/-! ### wharfage/wharfageref1.OuterMay -/
def L_ref1_OuterMay_1 (N : Nat) (t2 : Bool) : Option (Bool) :=
  some t2
def L_ref1_OuterMay (N : Nat) (x0 : GOuter) : Option (Bool) :=
  (L_ref1_Whose N x0.Src).bind fun v1 =>
  (L_ref1_Whose N x0.Dst).bind fun v2 =>
  bif v1.2.2.2 then
    bif v2.2.2.2 then
      bif (decide (x0.Tier ≥ 1)) then
        bif (decide (x0.Tier ≤ 4)) then
          (L_ref1_within N x0.Marker 8).bind fun v3 =>
          bif v3 then
            (L_ref1_within N x0.Origin 8).bind fun v4 =>
            bif v4 then
              L_ref1_OuterMay_1 N (decide ((x0.Body.size : Int) ≤ 512))
            else
              L_ref1_OuterMay_1 N false
          else
            L_ref1_OuterMay_1 N false
        else
          L_ref1_OuterMay_1 N false
      else
        L_ref1_OuterMay_1 N false
    else
      L_ref1_OuterMay_1 N false
  else
    L_ref1_OuterMay_1 N false
def d_ref1_OuterMay (r : Bool) : D := .bool r
theorem g_ref1_OuterMay_1 {c : Cx} (hc : Is c Tryz.prog ty 117 57) (N : Nat) {r : Bool} (hfin : c.Fin [] (d_ref1_OuterMay r) []) (t2 : Bool) (h : L_ref1_OuterMay_1 N t2 = some r) : c.Goes (items (bodyOf Tryz.f117) [.c 31]) ⟨[(2, .bool t2)], []⟩ := by
  unfold L_ref1_OuterMay_1 at h
  exact hc.rt hfin (fn := Tryz.f117) (by kernel_rfl) (orc := []) (m := 0) (by kernel_rfl) .nil h Le.rfl rfl

theorem g_ref1_OuterMay_0 {c : Cx} (hc : Is c Tryz.prog ty 117 57) (N : Nat) {r : Bool} (hfin : c.Fin [] (d_ref1_OuterMay r) []) (x0 : GOuter) (h : L_ref1_OuterMay N x0 = some r) : c.Goes (items (bodyOf Tryz.f117) [.c 1]) ⟨[(0, .agg [.int .i64 x0.Src, .int .i64 x0.Dst, .int .i64 x0.Tier, .int .i64 x0.Marker, .int .i64 x0.Origin, .str x0.Body])], []⟩ := by
  unfold L_ref1_OuterMay at h
  obtain ⟨v1, h0, h⟩ := bind_of h
  obtain ⟨v2, h1, h⟩ := bind_of h
  rcases brk h with ⟨h2, h⟩ | ⟨h2, h⟩
  · rcases brk h with ⟨h3, h⟩ | ⟨h3, h⟩
    · rcases brk h with ⟨h4, h⟩ | ⟨h4, h⟩
      · rcases brk h with ⟨h5, h⟩ | ⟨h5, h⟩
        · obtain ⟨v3, h6, h⟩ := bind_of h
          rcases brk h with ⟨h7, h⟩ | ⟨h7, h⟩
          · obtain ⟨v4, h8, h⟩ := bind_of h
            rcases brk h with ⟨h9, h⟩ | ⟨h9, h⟩
            · exact hc.jump (orc := [(1, [(2, oR (d_ref1_Whose v1))]), (2, [(2, oR (d_ref1_Whose v2))]), (3, [(1, oT), (4, oT), (9, oT), (14, oT), (17, oR (d_ref1_within v3)), (19, oT), (22, oR (d_ref1_within v4)), (24, oT)])]) (m := 8) (kt := [2]) (kh := []) (by kernel_rfl) (.cons (c_ref1_Whose N x0.Src h0) (.cons (c_ref1_Whose N x0.Dst h1) (.cons (Le.tt h2) (.cons (Le.tt h3) (.cons (Le.tt h4) (.cons (Le.tt h5) (.cons (c_ref1_within N x0.Marker 8 h6) (.cons (Le.tt h7) (.cons (c_ref1_within N x0.Origin 8 h8) (.cons (Le.tt h9) .nil)))))))))) (g_ref1_OuterMay_1 hc N hfin (decide ((x0.Body.size : Int) ≤ 512)) h)
            · exact hc.jump (orc := [(1, [(2, oR (d_ref1_Whose v1))]), (2, [(2, oR (d_ref1_Whose v2))]), (3, [(1, oT), (4, oT), (9, oT), (14, oT), (17, oR (d_ref1_within v3)), (19, oT), (22, oR (d_ref1_within v4)), (24, oF)])]) (m := 8) (kt := [2]) (kh := []) (by kernel_rfl) (.cons (c_ref1_Whose N x0.Src h0) (.cons (c_ref1_Whose N x0.Dst h1) (.cons (Le.tt h2) (.cons (Le.tt h3) (.cons (Le.tt h4) (.cons (Le.tt h5) (.cons (c_ref1_within N x0.Marker 8 h6) (.cons (Le.tt h7) (.cons (c_ref1_within N x0.Origin 8 h8) (.cons (Le.ff h9) .nil)))))))))) (g_ref1_OuterMay_1 hc N hfin false h)
          · exact hc.jump (orc := [(1, [(2, oR (d_ref1_Whose v1))]), (2, [(2, oR (d_ref1_Whose v2))]), (3, [(1, oT), (4, oT), (9, oT), (14, oT), (17, oR (d_ref1_within v3)), (19, oF)])]) (m := 8) (kt := [2]) (kh := []) (by kernel_rfl) (.cons (c_ref1_Whose N x0.Src h0) (.cons (c_ref1_Whose N x0.Dst h1) (.cons (Le.tt h2) (.cons (Le.tt h3) (.cons (Le.tt h4) (.cons (Le.tt h5) (.cons (c_ref1_within N x0.Marker 8 h6) (.cons (Le.ff h7) .nil)))))))) (g_ref1_OuterMay_1 hc N hfin false h)
        · exact hc.jump (orc := [(1, [(2, oR (d_ref1_Whose v1))]), (2, [(2, oR (d_ref1_Whose v2))]), (3, [(1, oT), (4, oT), (9, oT), (14, oF)])]) (m := 8) (kt := [2]) (kh := []) (by kernel_rfl) (.cons (c_ref1_Whose N x0.Src h0) (.cons (c_ref1_Whose N x0.Dst h1) (.cons (Le.tt h2) (.cons (Le.tt h3) (.cons (Le.tt h4) (.cons (Le.ff h5) .nil)))))) (g_ref1_OuterMay_1 hc N hfin false h)
      · exact hc.jump (orc := [(1, [(2, oR (d_ref1_Whose v1))]), (2, [(2, oR (d_ref1_Whose v2))]), (3, [(1, oT), (4, oT), (9, oF)])]) (m := 8) (kt := [2]) (kh := []) (by kernel_rfl) (.cons (c_ref1_Whose N x0.Src h0) (.cons (c_ref1_Whose N x0.Dst h1) (.cons (Le.tt h2) (.cons (Le.tt h3) (.cons (Le.ff h4) .nil))))) (g_ref1_OuterMay_1 hc N hfin false h)
    · exact hc.jump (orc := [(1, [(2, oR (d_ref1_Whose v1))]), (2, [(2, oR (d_ref1_Whose v2))]), (3, [(1, oT), (4, oF)])]) (m := 8) (kt := [2]) (kh := []) (by kernel_rfl) (.cons (c_ref1_Whose N x0.Src h0) (.cons (c_ref1_Whose N x0.Dst h1) (.cons (Le.tt h2) (.cons (Le.ff h3) .nil)))) (g_ref1_OuterMay_1 hc N hfin false h)
  · exact hc.jump (orc := [(1, [(2, oR (d_ref1_Whose v1))]), (2, [(2, oR (d_ref1_Whose v2))]), (3, [(1, oF)])]) (m := 8) (kt := [2]) (kh := []) (by kernel_rfl) (.cons (c_ref1_Whose N x0.Src h0) (.cons (c_ref1_Whose N x0.Dst h1) (.cons (Le.ff h2) .nil))) (g_ref1_OuterMay_1 hc N hfin false h)

theorem c_ref1_OuterMay (N : Nat) (x0 : GOuter) {r : Bool} (h : L_ref1_OuterMay N x0 = some r) : Con Tryz.prog 117 [.agg [.int .i64 x0.Src, .int .i64 x0.Dst, .int .i64 x0.Tier, .int .i64 x0.Marker, .int .i64 x0.Origin, .str x0.Body]] [] (d_ref1_OuterMay r) [] :=
  con_in ok mix (fn := Tryz.f117) (by kernel_rfl) (by kernel_rfl) fun hc hfin => g_ref1_OuterMay_0 hc N hfin x0 h
/-! ### wharfage/wharfageref1.Push -/
def L_ref1_Push (N : Nat) (x0 : GOuter) : Option (ByteArray × Int) :=
  (L_ref1_OuterMay N x0).bind fun v1 =>
  bif (!v1) then
    some (ByteArray.empty, 600)
  else
    via ((IntKind.i64.wrap ((16 : Int) + (x0.Body.size : Int))) : Int) fun v2 =>
    bif (decide ((IntKind.i64.wrap ((20 : Int) + v2)) > 360)) then
      some (ByteArray.empty, 601)
    else
      (L_ref1_Num N 61440 2).bind fun v3 =>
      (L_ref1_Num N 6080 2).bind fun v4 =>
      if ((v3.size + v4.size : Nat) : Int) ≤ 9223372036854775807 then
      (L_ref1_Num N v2 2).bind fun v5 =>
      if (((v3 ++ v4).size + v5.size : Nat) : Int) ≤ 9223372036854775807 then
      (L_ref1_Num N 0 2).bind fun v6 =>
      if ((((v3 ++ v4) ++ v5).size + v6.size : Nat) : Int) ≤ 9223372036854775807 then
      (L_ref1_Num N 0 1).bind fun v7 =>
      if (((((v3 ++ v4) ++ v5) ++ v6).size + v7.size : Nat) : Int) ≤ 9223372036854775807 then
      (L_ref1_Num N x0.Tier 1).bind fun v8 =>
      if ((((((v3 ++ v4) ++ v5) ++ v6) ++ v7).size + v8.size : Nat) : Int) ≤ 9223372036854775807 then
      (L_ref1_Num N x0.Marker 1).bind fun v9 =>
      if (((((((v3 ++ v4) ++ v5) ++ v6) ++ v7) ++ v8).size + v9.size : Nat) : Int) ≤ 9223372036854775807 then
      via (((((((v3 ++ v4) ++ v5) ++ v6) ++ v7) ++ v8) ++ v9) : ByteArray) fun v10 =>
      (L_ref1_Num N x0.Origin 1).bind fun v11 =>
      if ((v10.size + v11.size : Nat) : Int) ≤ 9223372036854775807 then
      (L_ref1_Num N (x0.Body.size : Int) 2).bind fun v12 =>
      if (((v10 ++ v11).size + v12.size : Nat) : Int) ≤ 9223372036854775807 then
      (L_ref1_Num N 0 2).bind fun v13 =>
      if ((((v10 ++ v11) ++ v12).size + v13.size : Nat) : Int) ≤ 9223372036854775807 then
      if (((((v10 ++ v11) ++ v12) ++ v13).size + x0.Body.size : Nat) : Int) ≤ 9223372036854775807 then
      (L_ref1_PutIp N (GIp.mk x0.Src x0.Dst 17 64 0 ((((v10 ++ v11) ++ v12) ++ v13) ++ x0.Body))).bind fun v14 =>
      some (v14.1, 0)
      else none
      else none
      else none
      else none
      else none
      else none
      else none
      else none
      else none
      else none
def d_ref1_Push (r : ByteArray × Int) : D := .tup [.str r.1, .int .i64 r.2]
theorem g_ref1_Push_0 {c : Cx} (hc : Is c Tryz.prog ty 53 61) (N : Nat) {r : ByteArray × Int} (hfin : c.Fin [] (d_ref1_Push r) []) (x0 : GOuter) (h : L_ref1_Push N x0 = some r) : c.Goes (items (bodyOf Tryz.f53) [.c 1]) ⟨[(0, .agg [.int .i64 x0.Src, .int .i64 x0.Dst, .int .i64 x0.Tier, .int .i64 x0.Marker, .int .i64 x0.Origin, .str x0.Body])], []⟩ := by
  unfold L_ref1_Push at h
  obtain ⟨v1, h0, h⟩ := bind_of h
  rcases brk h with ⟨h1, h⟩ | ⟨h1, h⟩
  · exact hc.rt hfin (fn := Tryz.f53) (by kernel_rfl) (orc := [(1, [(1, oR (d_ref1_OuterMay v1)), (2, oT)])]) (m := 8) (by kernel_rfl) (.cons (c_ref1_OuterMay N x0 h0) (.cons (Le.tt h1) .nil)) h Le.rfl rfl
  · obtain ⟨v2, h2, h⟩ := via_some h
    rcases brk h with ⟨h3, h⟩ | ⟨h3, h⟩
    · exact hc.rt hfin (fn := Tryz.f53) (by kernel_rfl) (orc := [(1, [(1, oR (d_ref1_OuterMay v1)), (2, oF)]), (3, [(3, oC (.int .i64 v2))]), (4, [(2, oT)])]) (m := 15) (by kernel_rfl) (.cons (c_ref1_OuterMay N x0 h0) (.cons (Le.ff h1) (.cons (Le.int (k := .i64) h2) (.cons (Le.tt h3) .nil)))) h Le.rfl rfl
    · obtain ⟨v3, h4, h⟩ := bind_of h
      obtain ⟨v4, h5, h⟩ := bind_of h
      obtain ⟨h6, h⟩ := chk h
      obtain ⟨v5, h7, h⟩ := bind_of h
      obtain ⟨h8, h⟩ := chk h
      obtain ⟨v6, h9, h⟩ := bind_of h
      obtain ⟨h10, h⟩ := chk h
      obtain ⟨v7, h11, h⟩ := bind_of h
      obtain ⟨h12, h⟩ := chk h
      obtain ⟨v8, h13, h⟩ := bind_of h
      obtain ⟨h14, h⟩ := chk h
      obtain ⟨v9, h15, h⟩ := bind_of h
      obtain ⟨h16, h⟩ := chk h
      obtain ⟨v10, h17, h⟩ := via_some h
      obtain ⟨v11, h18, h⟩ := bind_of h
      obtain ⟨h19, h⟩ := chk h
      obtain ⟨v12, h20, h⟩ := bind_of h
      obtain ⟨h21, h⟩ := chk h
      obtain ⟨v13, h22, h⟩ := bind_of h
      obtain ⟨h23, h⟩ := chk h
      obtain ⟨h24, h⟩ := chk h
      obtain ⟨v14, h25, h⟩ := bind_of h
      exact hc.rt hfin (fn := Tryz.f53) (by kernel_rfl) (orc := [(1, [(1, oR (d_ref1_OuterMay v1)), (2, oF)]), (3, [(3, oC (.int .i64 v2))]), (4, [(2, oF)]), (6, [(0, oR (d_ref1_Num v3)), (1, oR (d_ref1_Num v4)), (4, oR (d_ref1_Num v5)), (6, oR (d_ref1_Num v6)), (8, oR (d_ref1_Num v7)), (12, oR (d_ref1_Num v8)), (16, oR (d_ref1_Num v9)), (17, oC (.str v10)), (20, oR (d_ref1_Num v11)), (25, oR (d_ref1_Num v12)), (27, oR (d_ref1_Num v13))]), (7, [(6, oR (d_ref1_PutIp v14))])]) (m := 20) (by kernel_rfl) (.cons (c_ref1_OuterMay N x0 h0) (.cons (Le.ff h1) (.cons (Le.int (k := .i64) h2) (.cons (Le.ff h3) (.cons (c_ref1_Num N 61440 2 h4) (.cons (c_ref1_Num N 6080 2 h5) (.cons (h6) (.cons (c_ref1_Num N v2 2 h7) (.cons (h8) (.cons (c_ref1_Num N 0 2 h9) (.cons (h10) (.cons (c_ref1_Num N 0 1 h11) (.cons (h12) (.cons (c_ref1_Num N x0.Tier 1 h13) (.cons (h14) (.cons (c_ref1_Num N x0.Marker 1 h15) (.cons (h16) (.cons (Le.str h17) (.cons (c_ref1_Num N x0.Origin 1 h18) (.cons (h19) (.cons (c_ref1_Num N (x0.Body.size : Int) 2 h20) (.cons (h21) (.cons (c_ref1_Num N 0 2 h22) (.cons (h23) (.cons (h24) (.cons (c_ref1_PutIp N (GIp.mk x0.Src x0.Dst 17 64 0 ((((v10 ++ v11) ++ v12) ++ v13) ++ x0.Body)) h25) .nil)))))))))))))))))))))))))) h Le.rfl rfl

theorem c_ref1_Push (N : Nat) (x0 : GOuter) {r : ByteArray × Int} (h : L_ref1_Push N x0 = some r) : Con Tryz.prog 53 [.agg [.int .i64 x0.Src, .int .i64 x0.Dst, .int .i64 x0.Tier, .int .i64 x0.Marker, .int .i64 x0.Origin, .str x0.Body]] [] (d_ref1_Push r) [] :=
  con_in ok mix (fn := Tryz.f53) (by kernel_rfl) (by kernel_rfl) fun hc hfin => g_ref1_Push_0 hc N hfin x0 h
/-! ### wharfage/wharfageref1.Pop -/
def L_ref1_Pop_2 (N : Nat) (b116_0 b116_1 b116_2 b116_3 b116_4 : Int) (b116_5 : ByteArray) (b164_0 b164_1 b164_2 b164_3 b164_4 : Int) (b164_5 : ByteArray) (t59 : Bool) : Option (GOuter × Int) :=
  bif t59 then
    some ((GOuter.mk 0 0 0 0 0 ByteArray.empty), 600)
  else
    some ((GOuter.mk b164_0 b164_1 b164_2 b164_3 b164_4 b164_5), 0)
def L_ref1_Pop_1 (N : Nat) (t0 : ByteArray) (b116_0 b116_1 b116_2 b116_3 b116_4 : Int) (b116_5 : ByteArray) (b132_0 b132_1 b132_2 b132_3 b132_4 : Int) (b132_5 : ByteArray) (t28 : Bool) : Option (GOuter × Int) :=
  bif t28 then
    some ((GOuter.mk 0 0 0 0 0 ByteArray.empty), 600)
  else
    if 0 ≤ (9 : Int) ∧ (9 : Int) < (b132_5.size : Int) then
    if 0 ≤ (10 : Int) ∧ (10 : Int) < (b132_5.size : Int) then
    if 0 ≤ (11 : Int) ∧ (11 : Int) < (b132_5.size : Int) then
    if 0 ≤ (b132_5.size : Int) ∧ (b132_5.size : Int) ≤ (b132_5.size : Int) ∧ 0 ≤ (16 : Int) ∧ (16 : Int) ≤ (b132_5.size : Int) then
    (L_ref1_Push N (GOuter.mk b132_0 b132_1 (IntKind.i64.wrap (bt b132_5 9)) (IntKind.i64.wrap (bt b132_5 10)) (IntKind.i64.wrap (bt b132_5 11)) (b132_5.extract 16 b132_5.size))).bind fun v1 =>
    bif (v1.2 != 0) then
      L_ref1_Pop_2 N b116_0 b116_1 b116_2 b116_3 b116_4 b116_5 b132_0 b132_1 (IntKind.i64.wrap (bt b132_5 9)) (IntKind.i64.wrap (bt b132_5 10)) (IntKind.i64.wrap (bt b132_5 11)) (b132_5.extract 16 b132_5.size) true
    else
      L_ref1_Pop_2 N b116_0 b116_1 b116_2 b116_3 b116_4 b116_5 b132_0 b132_1 (IntKind.i64.wrap (bt b132_5 9)) (IntKind.i64.wrap (bt b132_5 10)) (IntKind.i64.wrap (bt b132_5 11)) (b132_5.extract 16 b132_5.size) (!(v1.1.toList == t0.toList))
    else none
    else none
    else none
    else none
def L_ref1_Pop (N : Nat) (x0 : ByteArray) : Option (GOuter × Int) :=
  (L_ref1_GetIp N x0).bind fun v1 =>
  bif (v1.2.2 != 0) then
    L_ref1_Pop_1 N x0 0 0 0 0 0 ByteArray.empty v1.1.Src v1.1.Dst v1.1.Proto v1.1.Ttl v1.1.Id v1.1.Body true
  else
    bif (v1.2.1 != 0) then
      L_ref1_Pop_1 N x0 0 0 0 0 0 ByteArray.empty v1.1.Src v1.1.Dst v1.1.Proto v1.1.Ttl v1.1.Id v1.1.Body true
    else
      L_ref1_Pop_1 N x0 0 0 0 0 0 ByteArray.empty v1.1.Src v1.1.Dst v1.1.Proto v1.1.Ttl v1.1.Id v1.1.Body (decide ((v1.1.Body.size : Int) < 16))
def d_ref1_Pop (r : GOuter × Int) : D := .tup [.agg [.int .i64 r.1.Src, .int .i64 r.1.Dst, .int .i64 r.1.Tier, .int .i64 r.1.Marker, .int .i64 r.1.Origin, .str r.1.Body], .int .i64 r.2]
theorem g_ref1_Pop_2 {c : Cx} (hc : Is c Tryz.prog ty 33 62) (N : Nat) {r : GOuter × Int} (hfin : c.Fin [] (d_ref1_Pop r) []) (b116_0 b116_1 b116_2 b116_3 b116_4 : Int) (b116_5 : ByteArray) (b164_0 b164_1 b164_2 b164_3 b164_4 : Int) (b164_5 : ByteArray) (t59 : Bool) (h : L_ref1_Pop_2 N b116_0 b116_1 b116_2 b116_3 b116_4 b116_5 b164_0 b164_1 b164_2 b164_3 b164_4 b164_5 t59 = some r) : c.Goes (items (bodyOf Tryz.f33) [.c 447, .c 255]) ⟨[(2, .ptr 116 0), (8, .ptr 164 0), (59, .bool t59)], [(116, some ⟨false, 0, [.int .i64 b116_0, .int .i64 b116_1, .int .i64 b116_2, .int .i64 b116_3, .int .i64 b116_4, .str b116_5]⟩), (164, some ⟨false, 0, [.int .i64 b164_0, .int .i64 b164_1, .int .i64 b164_2, .int .i64 b164_3, .int .i64 b164_4, .str b164_5]⟩)]⟩ := by
  unfold L_ref1_Pop_2 at h
  rcases brk h with ⟨h0, k0⟩ | ⟨h0, k0⟩
  · subst h0
    replace h := k0
    exact hc.rt hfin (fn := Tryz.f33) (by kernel_rfl) (orc := []) (m := 3) (by kernel_rfl) .nil h Le.rfl rfl
  · subst h0
    replace h := k0
    exact hc.rt hfin (fn := Tryz.f33) (by kernel_rfl) (orc := []) (m := 4) (by kernel_rfl) .nil h Le.rfl rfl

theorem g_ref1_Pop_1 {c : Cx} (hc : Is c Tryz.prog ty 33 62) (N : Nat) {r : GOuter × Int} (hfin : c.Fin [] (d_ref1_Pop r) []) (t0 : ByteArray) (b116_0 b116_1 b116_2 b116_3 b116_4 : Int) (b116_5 : ByteArray) (b132_0 b132_1 b132_2 b132_3 b132_4 : Int) (b132_5 : ByteArray) (t28 : Bool) (h : L_ref1_Pop_1 N t0 b116_0 b116_1 b116_2 b116_3 b116_4 b116_5 b132_0 b132_1 b132_2 b132_3 b132_4 b132_5 t28 = some r) : c.Goes (items (bodyOf Tryz.f33) [.c 27, .c 15]) ⟨[(0, .str t0), (2, .ptr 116 0), (4, .ptr 132 0), (28, .bool t28)], [(116, some ⟨false, 0, [.int .i64 b116_0, .int .i64 b116_1, .int .i64 b116_2, .int .i64 b116_3, .int .i64 b116_4, .str b116_5]⟩), (132, some ⟨false, 0, [.int .i64 b132_0, .int .i64 b132_1, .int .i64 b132_2, .int .i64 b132_3, .int .i64 b132_4, .str b132_5]⟩)]⟩ := by
  unfold L_ref1_Pop_1 at h
  rcases brk h with ⟨h0, k0⟩ | ⟨h0, k0⟩
  · subst h0
    replace h := k0
    exact hc.rt hfin (fn := Tryz.f33) (by kernel_rfl) (orc := []) (m := 3) (by kernel_rfl) .nil h Le.rfl rfl
  · subst h0
    replace h := k0
    obtain ⟨h1, h⟩ := chk h
    obtain ⟨h2, h⟩ := chk h
    obtain ⟨h3, h⟩ := chk h
    obtain ⟨h4, h⟩ := chk h
    obtain ⟨v1, h5, h⟩ := bind_of h
    rcases brk h with ⟨h6, h⟩ | ⟨h6, h⟩
    · exact hc.jump (orc := [(6, [(1, oR (d_ref1_Push v1))]), (7, [(2, oT)])]) (m := 11) (kt := [2, 8, 59]) (kh := [(116, 116), (164, 164)]) (by kernel_rfl) (.cons (h1) (.cons (h2) (.cons (h3) (.cons (h4) (.cons (c_ref1_Push N (GOuter.mk b132_0 b132_1 (IntKind.i64.wrap (bt b132_5 9)) (IntKind.i64.wrap (bt b132_5 10)) (IntKind.i64.wrap (bt b132_5 11)) (b132_5.extract 16 b132_5.size)) h5) (.cons (Le.tt h6) .nil)))))) (g_ref1_Pop_2 hc N hfin b116_0 b116_1 b116_2 b116_3 b116_4 b116_5 b132_0 b132_1 (IntKind.i64.wrap (bt b132_5 9)) (IntKind.i64.wrap (bt b132_5 10)) (IntKind.i64.wrap (bt b132_5 11)) (b132_5.extract 16 b132_5.size) true h)
    · exact hc.jump (orc := [(6, [(1, oR (d_ref1_Push v1))]), (7, [(2, oF)])]) (m := 11) (kt := [2, 8, 59]) (kh := [(116, 116), (164, 164)]) (by kernel_rfl) (.cons (h1) (.cons (h2) (.cons (h3) (.cons (h4) (.cons (c_ref1_Push N (GOuter.mk b132_0 b132_1 (IntKind.i64.wrap (bt b132_5 9)) (IntKind.i64.wrap (bt b132_5 10)) (IntKind.i64.wrap (bt b132_5 11)) (b132_5.extract 16 b132_5.size)) h5) (.cons (Le.ff h6) .nil)))))) (g_ref1_Pop_2 hc N hfin b116_0 b116_1 b116_2 b116_3 b116_4 b116_5 b132_0 b132_1 (IntKind.i64.wrap (bt b132_5 9)) (IntKind.i64.wrap (bt b132_5 10)) (IntKind.i64.wrap (bt b132_5 11)) (b132_5.extract 16 b132_5.size) (!(v1.1.toList == t0.toList)) h)

theorem g_ref1_Pop_0 {c : Cx} (hc : Is c Tryz.prog ty 33 62) (N : Nat) {r : GOuter × Int} (hfin : c.Fin [] (d_ref1_Pop r) []) (x0 : ByteArray) (h : L_ref1_Pop N x0 = some r) : c.Goes (items (bodyOf Tryz.f33) [.c 1]) ⟨[(0, .str x0)], []⟩ := by
  unfold L_ref1_Pop at h
  obtain ⟨v1, h0, h⟩ := bind_of h
  rcases brk h with ⟨h1, h⟩ | ⟨h1, h⟩
  · exact hc.jump (orc := [(1, [(1, oR (d_ref1_GetIp v1))]), (2, [(2, oT)])]) (m := 7) (kt := [0, 2, 4, 28]) (kh := [(116, 116), (132, 132)]) (by kernel_rfl) (.cons (c_ref1_GetIp N x0 h0) (.cons (Le.tt h1) .nil)) (g_ref1_Pop_1 hc N hfin x0 0 0 0 0 0 ByteArray.empty v1.1.Src v1.1.Dst v1.1.Proto v1.1.Ttl v1.1.Id v1.1.Body true h)
  · rcases brk h with ⟨h2, h⟩ | ⟨h2, h⟩
    · exact hc.jump (orc := [(1, [(1, oR (d_ref1_GetIp v1))]), (2, [(2, oF), (6, oT)])]) (m := 7) (kt := [0, 2, 4, 28]) (kh := [(116, 116), (132, 132)]) (by kernel_rfl) (.cons (c_ref1_GetIp N x0 h0) (.cons (Le.ff h1) (.cons (Le.tt h2) .nil))) (g_ref1_Pop_1 hc N hfin x0 0 0 0 0 0 ByteArray.empty v1.1.Src v1.1.Dst v1.1.Proto v1.1.Ttl v1.1.Id v1.1.Body true h)
    · exact hc.jump (orc := [(1, [(1, oR (d_ref1_GetIp v1))]), (2, [(2, oF), (6, oF)])]) (m := 7) (kt := [0, 2, 4, 28]) (kh := [(116, 116), (132, 132)]) (by kernel_rfl) (.cons (c_ref1_GetIp N x0 h0) (.cons (Le.ff h1) (.cons (Le.ff h2) .nil))) (g_ref1_Pop_1 hc N hfin x0 0 0 0 0 0 ByteArray.empty v1.1.Src v1.1.Dst v1.1.Proto v1.1.Ttl v1.1.Id v1.1.Body (decide ((v1.1.Body.size : Int) < 16)) h)

theorem c_ref1_Pop (N : Nat) (x0 : ByteArray) {r : GOuter × Int} (h : L_ref1_Pop N x0 = some r) : Con Tryz.prog 33 [.str x0] [] (d_ref1_Pop r) [] :=
  con_in ok mix (fn := Tryz.f33) (by kernel_rfl) (by kernel_rfl) fun hc hfin => g_ref1_Pop_0 hc N hfin x0 h
/-! ### wharfage/wharfagelaw0.Num -/
def L_law0_Num (N : Nat) (x0 : Int) : Option (Int) :=
  some x0
def d_law0_Num (r : Int) : D := .int .i64 r
theorem g_law0_Num_0 {c : Cx} (hc : Is c Tryz.prog ty 25 4) (N : Nat) {r : Int} (hfin : c.Fin [] (d_law0_Num r) []) (x0 : Int) (h : L_law0_Num N x0 = some r) : c.Goes (items (bodyOf Tryz.f25) [.c 1]) ⟨[(0, .int .i64 x0)], []⟩ := by
  unfold L_law0_Num at h
  exact hc.rt hfin (fn := Tryz.f25) (by kernel_rfl) (orc := []) (m := 4) (by kernel_rfl) .nil h Le.rfl rfl

theorem c_law0_Num (N : Nat) (x0 : Int) {r : Int} (h : L_law0_Num N x0 = some r) : Con Tryz.prog 25 [.int .i64 x0] [] (d_law0_Num r) [] :=
  con_in ok mix (fn := Tryz.f25) (by kernel_rfl) (by kernel_rfl) fun hc hfin => g_law0_Num_0 hc N hfin x0 h
/-! ### wharfage/wharfagelaw0.SameBacks -/
def L_law0_SameBacks_1 (N : Nat) : Nat → (List GBack) → (List GBack) → Int → Option (Bool)
  | 0, _, _, _ => none
  | fuel + 1, t0, t1, t5 =>
    bif (decide (t5 < (t0.length : Int))) then
      if 0 ≤ t5 ∧ t5 < ((t0.length : Nat) : Int) then
      if 0 ≤ t5 ∧ t5 < ((t1.length : Nat) : Int) then
      bif (!(((t0.getD t5.toNat default).Weight == (t1.getD t5.toNat default).Weight) && (((t0.getD t5.toNat default).Drain == (t1.getD t5.toNat default).Drain) && true))) then
        some false
      else
        L_law0_SameBacks_1 N fuel t0 t1 (IntKind.i64.wrap (t5 + 1))
      else none
      else none
    else
      some true
def L_law0_SameBacks (N : Nat) (x0 x1 : (List GBack)) : Option (Bool) :=
  bif ((x0.length : Int) != (x1.length : Int)) then
    some false
  else
    L_law0_SameBacks_1 N N x0 x1 0
def d_law0_SameBacks (r : Bool) : D := .bool r
theorem g_law0_SameBacks_1 (gx0 : Bool) (gx1 : Bool) {c : Cx} (hc : Is c Tryz.prog ty 145 26) (N : Nat) {r : Bool} (hfin : c.Fin [] (d_law0_SameBacks r) []) : ∀ (fuel : Nat) (t0 t1 : (List GBack)) (t5 : Int), L_law0_SameBacks_1 N fuel t0 t1 t5 = some r → c.Goes (items (bodyOf Tryz.f145) [.c 75, .l 75, .b 0, .c 15]) ⟨[(0, .sl gx0 (eL eBack t0) t0.length t0.length), (1, .sl gx1 (eL eBack t1) t1.length t1.length), (5, .int .i64 t5)], []⟩ := by
  intro fuel
  induction fuel with
  | zero => intro t0 t1 t5 h; simp [L_law0_SameBacks_1] at h
  | succ fuel ih =>
    intro t0 t1 t5 h
    unfold L_law0_SameBacks_1 at h
    rcases brk h with ⟨h0, h⟩ | ⟨h0, h⟩
    · obtain ⟨h1, h⟩ := chk h
      obtain ⟨h2, h⟩ := chk h
      rcases brk h with ⟨h3, h⟩ | ⟨h3, h⟩
      · exact hc.rt hfin (fn := Tryz.f145) (by kernel_rfl) (orc := [(4, [(3, oT)]), (6, [(2, oC (.ip gx0 [.int .i64 ((t0.getD t5.toNat default).Weight), .bool ((t0.getD t5.toNat default).Drain)])), (6, oC (.ip gx1 [.int .i64 ((t1.getD t5.toNat default).Weight), .bool ((t1.getD t5.toNat default).Drain)])), (8, oT)])]) (m := 12) (by kernel_rfl) (.cons (Le.tt h0) (.cons (h1) (.cons (Le.iptl (g := gx0) (eL_at (xs := t0) eBack_len (ixl h1))) (.cons (h2) (.cons (Le.iptl (g := gx1) (eL_at (xs := t1) eBack_len (ixl h2))) (.cons (Le.tt h3) .nil)))))) h Le.rfl rfl
      · exact hc.jump (orc := [(4, [(3, oT)]), (6, [(2, oC (.ip gx0 [.int .i64 ((t0.getD t5.toNat default).Weight), .bool ((t0.getD t5.toNat default).Drain)])), (6, oC (.ip gx1 [.int .i64 ((t1.getD t5.toNat default).Weight), .bool ((t1.getD t5.toNat default).Drain)])), (8, oF)])]) (m := 14) (kt := [0, 1, 5]) (kh := []) (by kernel_rfl) (.cons (Le.tt h0) (.cons (h1) (.cons (Le.iptl (g := gx0) (eL_at (xs := t0) eBack_len (ixl h1))) (.cons (h2) (.cons (Le.iptl (g := gx1) (eL_at (xs := t1) eBack_len (ixl h2))) (.cons (Le.ff h3) .nil)))))) (ih t0 t1 (IntKind.i64.wrap (t5 + 1)) h)
    · exact hc.rt hfin (fn := Tryz.f145) (by kernel_rfl) (orc := [(4, [(3, oF)])]) (m := 7) (by kernel_rfl) (.cons (Le.ff h0) .nil) h Le.rfl rfl

theorem g_law0_SameBacks_0 (gx0 : Bool) (gx1 : Bool) {c : Cx} (hc : Is c Tryz.prog ty 145 26) (N : Nat) {r : Bool} (hfin : c.Fin [] (d_law0_SameBacks r) []) (x0 x1 : (List GBack)) (h : L_law0_SameBacks N x0 x1 = some r) : c.Goes (items (bodyOf Tryz.f145) [.c 1]) ⟨[(0, .sl gx0 (eL eBack x0) x0.length x0.length), (1, .sl gx1 (eL eBack x1) x1.length x1.length)], []⟩ := by
  unfold L_law0_SameBacks at h
  rcases brk h with ⟨h0, h⟩ | ⟨h0, h⟩
  · exact hc.rt hfin (fn := Tryz.f145) (by kernel_rfl) (orc := [(1, [(4, oT)])]) (m := 8) (by kernel_rfl) (.cons (Le.tt h0) .nil) h Le.rfl rfl
  · exact hc.jump (orc := [(1, [(4, oF)])]) (m := 12) (kt := [0, 1, 5]) (kh := []) (by kernel_rfl) (.cons (Le.ff h0) .nil) (g_law0_SameBacks_1 gx0 gx1 hc N hfin N x0 x1 0 h)

theorem c_law0_SameBacks (N : Nat) (gx0 : Bool) (gx1 : Bool) (x0 x1 : (List GBack)) {r : Bool} (h : L_law0_SameBacks N x0 x1 = some r) : Con Tryz.prog 145 [.sl gx0 (eL eBack x0) x0.length x0.length, .sl gx1 (eL eBack x1) x1.length x1.length] [] (d_law0_SameBacks r) [] :=
  con_in ok mix (fn := Tryz.f145) (by kernel_rfl) (by kernel_rfl) fun hc hfin => g_law0_SameBacks_0 gx0 gx1 hc N hfin x0 x1 h
/-! ### wharfage/wharfagelaw0.SameConfig -/
def L_law0_SameConfig_3 (N : Nat) (r2 : Int → (List GSite) → Int → (List GSite) → Int → Option (Bool)) (b116_0 : Int) (b116_1 : (List GSite)) (b124_0 : Int) (b124_1 : (List GSite)) (t5 : Int) (t65 : Bool) : Option (Bool) :=
  bif t65 then
    some false
  else
    r2 b116_0 b116_1 b124_0 b124_1 (IntKind.i64.wrap (t5 + 1))
def L_law0_SameConfig_2 (N : Nat) : Nat → Int → (List GSite) → Int → (List GSite) → Int → Option (Bool)
  | 0, _, _, _, _, _ => none
  | fuel + 1, b116_0, b116_1, b124_0, b124_1, t5 =>
    bif (decide (t5 < (b116_1.length : Int))) then
      if 0 ≤ t5 ∧ t5 < ((b116_1.length : Nat) : Int) then
      if 0 ≤ t5 ∧ t5 < ((b124_1.length : Nat) : Int) then
      bif ((b116_1.getD t5.toNat default).Weight != (b124_1.getD t5.toNat default).Weight) then
        L_law0_SameConfig_3 N (L_law0_SameConfig_2 N fuel) b116_0 b116_1 b124_0 b124_1 t5 true
      else
        bif (!((b116_1.getD t5.toNat default).Drain == (b124_1.getD t5.toNat default).Drain)) then
          L_law0_SameConfig_3 N (L_law0_SameConfig_2 N fuel) b116_0 b116_1 b124_0 b124_1 t5 true
        else
          bif ((b116_1.getD t5.toNat default).Cap != (b124_1.getD t5.toNat default).Cap) then
            L_law0_SameConfig_3 N (L_law0_SameConfig_2 N fuel) b116_0 b116_1 b124_0 b124_1 t5 true
          else
            (L_law0_SameBacks N ((b116_1.getD t5.toNat default).Backs) ((b124_1.getD t5.toNat default).Backs)).bind fun v1 =>
            L_law0_SameConfig_3 N (L_law0_SameConfig_2 N fuel) b116_0 b116_1 b124_0 b124_1 t5 (!v1)
      else none
      else none
    else
      some true
def L_law0_SameConfig_1 (N : Nat) (b116_0 : Int) (b116_1 : (List GSite)) (b124_0 : Int) (b124_1 : (List GSite)) (t21 : Bool) : Option (Bool) :=
  bif t21 then
    some false
  else
    L_law0_SameConfig_2 N N b116_0 b116_1 b124_0 b124_1 0
def L_law0_SameConfig (N : Nat) (x0 x1 : GConfig) : Option (Bool) :=
  bif (x0.Version != x1.Version) then
    L_law0_SameConfig_1 N x0.Version x0.Sites x1.Version x1.Sites true
  else
    L_law0_SameConfig_1 N x0.Version x0.Sites x1.Version x1.Sites ((x0.Sites.length : Int) != (x1.Sites.length : Int))
def d_law0_SameConfig (r : Bool) : D := .bool r
theorem g_law0_SameConfig_3 (gx0 : Bool) (gx1 : Bool) {c : Cx} (hc : Is c Tryz.prog ty 81 66) (N : Nat) {r : Bool} (hfin : c.Fin [] (d_law0_SameConfig r) []) (r2 : Int → (List GSite) → Int → (List GSite) → Int → Option (Bool)) (hr2 : ∀ (b116_0 : Int) (b116_1 : (List GSite)) (b124_0 : Int) (b124_1 : (List GSite)) (t5 : Int), r2 b116_0 b116_1 b124_0 b124_1 t5 = some r → c.Goes (items (bodyOf Tryz.f81) [.c 75, .l 75, .b 0, .c 15]) ⟨[(2, .ptr 116 0), (3, .ptr 124 0), (5, .int .i64 t5)], [(116, some ⟨false, 0, [.int .i64 b116_0, .sl gx0 (eL (eSite gx0) b116_1) b116_1.length b116_1.length]⟩), (124, some ⟨false, 0, [.int .i64 b124_0, .sl gx1 (eL (eSite gx1) b124_1) b124_1.length b124_1.length]⟩)]⟩) (b116_0 : Int) (b116_1 : (List GSite)) (b124_0 : Int) (b124_1 : (List GSite)) (t5 : Int) (t65 : Bool) (h : L_law0_SameConfig_3 N r2 b116_0 b116_1 b124_0 b124_1 t5 t65 = some r) : c.Goes (items (bodyOf Tryz.f81) [.c 3659, .b 1, .c 459, .l 75, .b 0, .c 15]) ⟨[(2, .ptr 116 0), (3, .ptr 124 0), (5, .int .i64 t5), (65, .bool t65)], [(116, some ⟨false, 0, [.int .i64 b116_0, .sl gx0 (eL (eSite gx0) b116_1) b116_1.length b116_1.length]⟩), (124, some ⟨false, 0, [.int .i64 b124_0, .sl gx1 (eL (eSite gx1) b124_1) b124_1.length b124_1.length]⟩)]⟩ := by
  unfold L_law0_SameConfig_3 at h
  rcases brk h with ⟨h0, k0⟩ | ⟨h0, k0⟩
  · subst h0
    replace h := k0
    exact hc.rt hfin (fn := Tryz.f81) (by kernel_rfl) (orc := []) (m := 3) (by kernel_rfl) .nil h Le.rfl rfl
  · subst h0
    replace h := k0
    exact hc.jump (orc := []) (m := 5) (kt := [2, 3, 5]) (kh := [(116, 116), (124, 124)]) (by kernel_rfl) .nil (hr2 b116_0 b116_1 b124_0 b124_1 (IntKind.i64.wrap (t5 + 1)) h)

theorem g_law0_SameConfig_2 (gx0 : Bool) (gx1 : Bool) {c : Cx} (hc : Is c Tryz.prog ty 81 66) (N : Nat) {r : Bool} (hfin : c.Fin [] (d_law0_SameConfig r) []) : ∀ (fuel : Nat) (b116_0 : Int) (b116_1 : (List GSite)) (b124_0 : Int) (b124_1 : (List GSite)) (t5 : Int), L_law0_SameConfig_2 N fuel b116_0 b116_1 b124_0 b124_1 t5 = some r → c.Goes (items (bodyOf Tryz.f81) [.c 75, .l 75, .b 0, .c 15]) ⟨[(2, .ptr 116 0), (3, .ptr 124 0), (5, .int .i64 t5)], [(116, some ⟨false, 0, [.int .i64 b116_0, .sl gx0 (eL (eSite gx0) b116_1) b116_1.length b116_1.length]⟩), (124, some ⟨false, 0, [.int .i64 b124_0, .sl gx1 (eL (eSite gx1) b124_1) b124_1.length b124_1.length]⟩)]⟩ := by
  intro fuel
  induction fuel with
  | zero => intro b116_0 b116_1 b124_0 b124_1 t5 h; simp [L_law0_SameConfig_2] at h
  | succ fuel ih =>
    intro b116_0 b116_1 b124_0 b124_1 t5 h
    unfold L_law0_SameConfig_2 at h
    rcases brk h with ⟨h0, h⟩ | ⟨h0, h⟩
    · obtain ⟨h1, h⟩ := chk h
      obtain ⟨h2, h⟩ := chk h
      rcases brk h with ⟨h3, h⟩ | ⟨h3, h⟩
      · exact hc.jump (orc := [(4, [(4, oT)]), (6, [(3, oC (.ip gx0 [.int .i64 ((b116_1.getD t5.toNat default).Weight), .bool ((b116_1.getD t5.toNat default).Drain), .int .i64 ((b116_1.getD t5.toNat default).Cap), .sl gx0 (eL eBack ((b116_1.getD t5.toNat default).Backs)) (((b116_1.getD t5.toNat default).Backs).length) (((b116_1.getD t5.toNat default).Backs).length)])), (8, oC (.ip gx1 [.int .i64 ((b124_1.getD t5.toNat default).Weight), .bool ((b124_1.getD t5.toNat default).Drain), .int .i64 ((b124_1.getD t5.toNat default).Cap), .sl gx1 (eL eBack ((b124_1.getD t5.toNat default).Backs)) (((b124_1.getD t5.toNat default).Backs).length) (((b124_1.getD t5.toNat default).Backs).length)]))]), (7, [(5, oT)])]) (m := 11) (kt := [2, 3, 5, 65]) (kh := [(116, 116), (124, 124)]) (by kernel_rfl) (.cons (Le.tt h0) (.cons (h1) (.cons (Le.iptl (g := gx0) (eL_at (xs := b116_1) (eSite_len gx0) (ixl h1))) (.cons (h2) (.cons (Le.iptl (g := gx1) (eL_at (xs := b124_1) (eSite_len gx1) (ixl h2))) (.cons (Le.tt h3) .nil)))))) (g_law0_SameConfig_3 gx0 gx1 hc N hfin (L_law0_SameConfig_2 N fuel) ih b116_0 b116_1 b124_0 b124_1 t5 true h)
      · rcases brk h with ⟨h4, h⟩ | ⟨h4, h⟩
        · exact hc.jump (orc := [(4, [(4, oT)]), (6, [(3, oC (.ip gx0 [.int .i64 ((b116_1.getD t5.toNat default).Weight), .bool ((b116_1.getD t5.toNat default).Drain), .int .i64 ((b116_1.getD t5.toNat default).Cap), .sl gx0 (eL eBack ((b116_1.getD t5.toNat default).Backs)) (((b116_1.getD t5.toNat default).Backs).length) (((b116_1.getD t5.toNat default).Backs).length)])), (8, oC (.ip gx1 [.int .i64 ((b124_1.getD t5.toNat default).Weight), .bool ((b124_1.getD t5.toNat default).Drain), .int .i64 ((b124_1.getD t5.toNat default).Cap), .sl gx1 (eL eBack ((b124_1.getD t5.toNat default).Backs)) (((b124_1.getD t5.toNat default).Backs).length) (((b124_1.getD t5.toNat default).Backs).length)]))]), (7, [(5, oF), (12, oT)])]) (m := 11) (kt := [2, 3, 5, 65]) (kh := [(116, 116), (124, 124)]) (by kernel_rfl) (.cons (Le.tt h0) (.cons (h1) (.cons (Le.iptl (g := gx0) (eL_at (xs := b116_1) (eSite_len gx0) (ixl h1))) (.cons (h2) (.cons (Le.iptl (g := gx1) (eL_at (xs := b124_1) (eSite_len gx1) (ixl h2))) (.cons (Le.ff h3) (.cons (Le.tt h4) .nil))))))) (g_law0_SameConfig_3 gx0 gx1 hc N hfin (L_law0_SameConfig_2 N fuel) ih b116_0 b116_1 b124_0 b124_1 t5 true h)
        · rcases brk h with ⟨h5, h⟩ | ⟨h5, h⟩
          · exact hc.jump (orc := [(4, [(4, oT)]), (6, [(3, oC (.ip gx0 [.int .i64 ((b116_1.getD t5.toNat default).Weight), .bool ((b116_1.getD t5.toNat default).Drain), .int .i64 ((b116_1.getD t5.toNat default).Cap), .sl gx0 (eL eBack ((b116_1.getD t5.toNat default).Backs)) (((b116_1.getD t5.toNat default).Backs).length) (((b116_1.getD t5.toNat default).Backs).length)])), (8, oC (.ip gx1 [.int .i64 ((b124_1.getD t5.toNat default).Weight), .bool ((b124_1.getD t5.toNat default).Drain), .int .i64 ((b124_1.getD t5.toNat default).Cap), .sl gx1 (eL eBack ((b124_1.getD t5.toNat default).Backs)) (((b124_1.getD t5.toNat default).Backs).length) (((b124_1.getD t5.toNat default).Backs).length)]))]), (7, [(5, oF), (12, oF), (19, oT)])]) (m := 11) (kt := [2, 3, 5, 65]) (kh := [(116, 116), (124, 124)]) (by kernel_rfl) (.cons (Le.tt h0) (.cons (h1) (.cons (Le.iptl (g := gx0) (eL_at (xs := b116_1) (eSite_len gx0) (ixl h1))) (.cons (h2) (.cons (Le.iptl (g := gx1) (eL_at (xs := b124_1) (eSite_len gx1) (ixl h2))) (.cons (Le.ff h3) (.cons (Le.ff h4) (.cons (Le.tt h5) .nil)))))))) (g_law0_SameConfig_3 gx0 gx1 hc N hfin (L_law0_SameConfig_2 N fuel) ih b116_0 b116_1 b124_0 b124_1 t5 true h)
          · obtain ⟨v1, h6, h⟩ := bind_of h
            exact hc.jump (orc := [(4, [(4, oT)]), (6, [(3, oC (.ip gx0 [.int .i64 ((b116_1.getD t5.toNat default).Weight), .bool ((b116_1.getD t5.toNat default).Drain), .int .i64 ((b116_1.getD t5.toNat default).Cap), .sl gx0 (eL eBack ((b116_1.getD t5.toNat default).Backs)) (((b116_1.getD t5.toNat default).Backs).length) (((b116_1.getD t5.toNat default).Backs).length)])), (8, oC (.ip gx1 [.int .i64 ((b124_1.getD t5.toNat default).Weight), .bool ((b124_1.getD t5.toNat default).Drain), .int .i64 ((b124_1.getD t5.toNat default).Cap), .sl gx1 (eL eBack ((b124_1.getD t5.toNat default).Backs)) (((b124_1.getD t5.toNat default).Backs).length) (((b124_1.getD t5.toNat default).Backs).length)]))]), (7, [(5, oF), (12, oF), (19, oF), (24, oR (d_law0_SameBacks v1))])]) (m := 11) (kt := [2, 3, 5, 65]) (kh := [(116, 116), (124, 124)]) (by kernel_rfl) (.cons (Le.tt h0) (.cons (h1) (.cons (Le.iptl (g := gx0) (eL_at (xs := b116_1) (eSite_len gx0) (ixl h1))) (.cons (h2) (.cons (Le.iptl (g := gx1) (eL_at (xs := b124_1) (eSite_len gx1) (ixl h2))) (.cons (Le.ff h3) (.cons (Le.ff h4) (.cons (Le.ff h5) (.cons (c_law0_SameBacks N gx0 gx1 ((b116_1.getD t5.toNat default).Backs) ((b124_1.getD t5.toNat default).Backs) h6) .nil))))))))) (g_law0_SameConfig_3 gx0 gx1 hc N hfin (L_law0_SameConfig_2 N fuel) ih b116_0 b116_1 b124_0 b124_1 t5 (!v1) h)
    · exact hc.rt hfin (fn := Tryz.f81) (by kernel_rfl) (orc := [(4, [(4, oF)])]) (m := 7) (by kernel_rfl) (.cons (Le.ff h0) .nil) h Le.rfl rfl

theorem g_law0_SameConfig_1 (gx0 : Bool) (gx1 : Bool) {c : Cx} (hc : Is c Tryz.prog ty 81 66) (N : Nat) {r : Bool} (hfin : c.Fin [] (d_law0_SameConfig r) []) (b116_0 : Int) (b116_1 : (List GSite)) (b124_0 : Int) (b124_1 : (List GSite)) (t21 : Bool) (h : L_law0_SameConfig_1 N b116_0 b116_1 b124_0 b124_1 t21 = some r) : c.Goes (items (bodyOf Tryz.f81) [.c 13, .c 7]) ⟨[(2, .ptr 116 0), (3, .ptr 124 0), (21, .bool t21)], [(116, some ⟨false, 0, [.int .i64 b116_0, .sl gx0 (eL (eSite gx0) b116_1) b116_1.length b116_1.length]⟩), (124, some ⟨false, 0, [.int .i64 b124_0, .sl gx1 (eL (eSite gx1) b124_1) b124_1.length b124_1.length]⟩)]⟩ := by
  unfold L_law0_SameConfig_1 at h
  rcases brk h with ⟨h0, k0⟩ | ⟨h0, k0⟩
  · subst h0
    replace h := k0
    exact hc.rt hfin (fn := Tryz.f81) (by kernel_rfl) (orc := []) (m := 3) (by kernel_rfl) .nil h Le.rfl rfl
  · subst h0
    replace h := k0
    exact hc.jump (orc := []) (m := 7) (kt := [2, 3, 5]) (kh := [(116, 116), (124, 124)]) (by kernel_rfl) .nil (g_law0_SameConfig_2 gx0 gx1 hc N hfin N b116_0 b116_1 b124_0 b124_1 0 h)

theorem g_law0_SameConfig_0 (gx0 : Bool) (gx1 : Bool) {c : Cx} (hc : Is c Tryz.prog ty 81 66) (N : Nat) {r : Bool} (hfin : c.Fin [] (d_law0_SameConfig r) []) (x0 x1 : GConfig) (h : L_law0_SameConfig N x0 x1 = some r) : c.Goes (items (bodyOf Tryz.f81) [.c 1]) ⟨[(0, .agg [.int .i64 x0.Version, .sl gx0 (eL (eSite gx0) x0.Sites) x0.Sites.length x0.Sites.length]), (1, .agg [.int .i64 x1.Version, .sl gx1 (eL (eSite gx1) x1.Sites) x1.Sites.length x1.Sites.length])], []⟩ := by
  unfold L_law0_SameConfig at h
  rcases brk h with ⟨h0, h⟩ | ⟨h0, h⟩
  · exact hc.jump (orc := [(1, [(5, oT)])]) (m := 5) (kt := [2, 3, 21]) (kh := [(116, 116), (124, 124)]) (by kernel_rfl) (.cons (Le.tt h0) .nil) (g_law0_SameConfig_1 gx0 gx1 hc N hfin x0.Version x0.Sites x1.Version x1.Sites true h)
  · exact hc.jump (orc := [(1, [(5, oF)])]) (m := 5) (kt := [2, 3, 21]) (kh := [(116, 116), (124, 124)]) (by kernel_rfl) (.cons (Le.ff h0) .nil) (g_law0_SameConfig_1 gx0 gx1 hc N hfin x0.Version x0.Sites x1.Version x1.Sites ((x0.Sites.length : Int) != (x1.Sites.length : Int)) h)

theorem c_law0_SameConfig (N : Nat) (gx0 : Bool) (gx1 : Bool) (x0 x1 : GConfig) {r : Bool} (h : L_law0_SameConfig N x0 x1 = some r) : Con Tryz.prog 81 [.agg [.int .i64 x0.Version, .sl gx0 (eL (eSite gx0) x0.Sites) x0.Sites.length x0.Sites.length], .agg [.int .i64 x1.Version, .sl gx1 (eL (eSite gx1) x1.Sites) x1.Sites.length x1.Sites.length]] [] (d_law0_SameConfig r) [] :=
  con_in ok mix (fn := Tryz.f81) (by kernel_rfl) (by kernel_rfl) fun hc hfin => g_law0_SameConfig_0 gx0 gx1 hc N hfin x0 x1 h
/-! ### wharfage/wharfagelaw0.SameHealths -/
def L_law0_SameHealths_1 (N : Nat) : Nat → (List GHealth) → (List GHealth) → Int → Option (Bool)
  | 0, _, _, _ => none
  | fuel + 1, t0, t1, t5 =>
    bif (decide (t5 < (t0.length : Int))) then
      if 0 ≤ t5 ∧ t5 < ((t0.length : Nat) : Int) then
      if 0 ≤ t5 ∧ t5 < ((t1.length : Nat) : Int) then
      bif (!(((t0.getD t5.toNat default).Up == (t1.getD t5.toNat default).Up) && (((t0.getD t5.toNat default).Count == (t1.getD t5.toNat default).Count) && true))) then
        some false
      else
        L_law0_SameHealths_1 N fuel t0 t1 (IntKind.i64.wrap (t5 + 1))
      else none
      else none
    else
      some true
def L_law0_SameHealths (N : Nat) (x0 x1 : (List GHealth)) : Option (Bool) :=
  bif ((x0.length : Int) != (x1.length : Int)) then
    some false
  else
    L_law0_SameHealths_1 N N x0 x1 0
def d_law0_SameHealths (r : Bool) : D := .bool r
theorem g_law0_SameHealths_1 (gx0 : Bool) (gx1 : Bool) {c : Cx} (hc : Is c Tryz.prog ty 82 26) (N : Nat) {r : Bool} (hfin : c.Fin [] (d_law0_SameHealths r) []) : ∀ (fuel : Nat) (t0 t1 : (List GHealth)) (t5 : Int), L_law0_SameHealths_1 N fuel t0 t1 t5 = some r → c.Goes (items (bodyOf Tryz.f82) [.c 75, .l 75, .b 0, .c 15]) ⟨[(0, .sl gx0 (eL eHealth t0) t0.length t0.length), (1, .sl gx1 (eL eHealth t1) t1.length t1.length), (5, .int .i64 t5)], []⟩ := by
  intro fuel
  induction fuel with
  | zero => intro t0 t1 t5 h; simp [L_law0_SameHealths_1] at h
  | succ fuel ih =>
    intro t0 t1 t5 h
    unfold L_law0_SameHealths_1 at h
    rcases brk h with ⟨h0, h⟩ | ⟨h0, h⟩
    · obtain ⟨h1, h⟩ := chk h
      obtain ⟨h2, h⟩ := chk h
      rcases brk h with ⟨h3, h⟩ | ⟨h3, h⟩
      · exact hc.rt hfin (fn := Tryz.f82) (by kernel_rfl) (orc := [(4, [(3, oT)]), (6, [(2, oC (.ip gx0 [.bool ((t0.getD t5.toNat default).Up), .int .i64 ((t0.getD t5.toNat default).Count)])), (6, oC (.ip gx1 [.bool ((t1.getD t5.toNat default).Up), .int .i64 ((t1.getD t5.toNat default).Count)])), (8, oT)])]) (m := 12) (by kernel_rfl) (.cons (Le.tt h0) (.cons (h1) (.cons (Le.iptl (g := gx0) (eL_at (xs := t0) eHealth_len (ixl h1))) (.cons (h2) (.cons (Le.iptl (g := gx1) (eL_at (xs := t1) eHealth_len (ixl h2))) (.cons (Le.tt h3) .nil)))))) h Le.rfl rfl
      · exact hc.jump (orc := [(4, [(3, oT)]), (6, [(2, oC (.ip gx0 [.bool ((t0.getD t5.toNat default).Up), .int .i64 ((t0.getD t5.toNat default).Count)])), (6, oC (.ip gx1 [.bool ((t1.getD t5.toNat default).Up), .int .i64 ((t1.getD t5.toNat default).Count)])), (8, oF)])]) (m := 14) (kt := [0, 1, 5]) (kh := []) (by kernel_rfl) (.cons (Le.tt h0) (.cons (h1) (.cons (Le.iptl (g := gx0) (eL_at (xs := t0) eHealth_len (ixl h1))) (.cons (h2) (.cons (Le.iptl (g := gx1) (eL_at (xs := t1) eHealth_len (ixl h2))) (.cons (Le.ff h3) .nil)))))) (ih t0 t1 (IntKind.i64.wrap (t5 + 1)) h)
    · exact hc.rt hfin (fn := Tryz.f82) (by kernel_rfl) (orc := [(4, [(3, oF)])]) (m := 7) (by kernel_rfl) (.cons (Le.ff h0) .nil) h Le.rfl rfl

theorem g_law0_SameHealths_0 (gx0 : Bool) (gx1 : Bool) {c : Cx} (hc : Is c Tryz.prog ty 82 26) (N : Nat) {r : Bool} (hfin : c.Fin [] (d_law0_SameHealths r) []) (x0 x1 : (List GHealth)) (h : L_law0_SameHealths N x0 x1 = some r) : c.Goes (items (bodyOf Tryz.f82) [.c 1]) ⟨[(0, .sl gx0 (eL eHealth x0) x0.length x0.length), (1, .sl gx1 (eL eHealth x1) x1.length x1.length)], []⟩ := by
  unfold L_law0_SameHealths at h
  rcases brk h with ⟨h0, h⟩ | ⟨h0, h⟩
  · exact hc.rt hfin (fn := Tryz.f82) (by kernel_rfl) (orc := [(1, [(4, oT)])]) (m := 8) (by kernel_rfl) (.cons (Le.tt h0) .nil) h Le.rfl rfl
  · exact hc.jump (orc := [(1, [(4, oF)])]) (m := 12) (kt := [0, 1, 5]) (kh := []) (by kernel_rfl) (.cons (Le.ff h0) .nil) (g_law0_SameHealths_1 gx0 gx1 hc N hfin N x0 x1 0 h)

theorem c_law0_SameHealths (N : Nat) (gx0 : Bool) (gx1 : Bool) (x0 x1 : (List GHealth)) {r : Bool} (h : L_law0_SameHealths N x0 x1 = some r) : Con Tryz.prog 82 [.sl gx0 (eL eHealth x0) x0.length x0.length, .sl gx1 (eL eHealth x1) x1.length x1.length] [] (d_law0_SameHealths r) [] :=
  con_in ok mix (fn := Tryz.f82) (by kernel_rfl) (by kernel_rfl) fun hc hfin => g_law0_SameHealths_0 gx0 gx1 hc N hfin x0 x1 h
/-! ### wharfage/wharfagelaw0.SameEntrys -/
def L_law0_SameEntrys_1 (N : Nat) : Nat → (List GEntry) → (List GEntry) → Int → Option (Bool)
  | 0, _, _, _ => none
  | fuel + 1, t0, t1, t5 =>
    bif (decide (t5 < (t0.length : Int))) then
      if 0 ≤ t5 ∧ t5 < ((t0.length : Nat) : Int) then
      if 0 ≤ t5 ∧ t5 < ((t1.length : Nat) : Int) then
      bif (!((((t0.getD t5.toNat default).Flow).Src == ((t1.getD t5.toNat default).Flow).Src) && ((((t0.getD t5.toNat default).Flow).Dst == ((t1.getD t5.toNat default).Flow).Dst) && ((((t0.getD t5.toNat default).Flow).Proto == ((t1.getD t5.toNat default).Flow).Proto) && ((((t0.getD t5.toNat default).Flow).Sport == ((t1.getD t5.toNat default).Flow).Sport) && ((((t0.getD t5.toNat default).Flow).Dport == ((t1.getD t5.toNat default).Flow).Dport) && (((t0.getD t5.toNat default).To == (t1.getD t5.toNat default).To) && (((t0.getD t5.toNat default).Away == (t1.getD t5.toNat default).Away) && (((t0.getD t5.toNat default).Phase == (t1.getD t5.toNat default).Phase) && (((t0.getD t5.toNat default).Used == (t1.getD t5.toNat default).Used) && true)))))))))) then
        some false
      else
        L_law0_SameEntrys_1 N fuel t0 t1 (IntKind.i64.wrap (t5 + 1))
      else none
      else none
    else
      some true
def L_law0_SameEntrys (N : Nat) (x0 x1 : (List GEntry)) : Option (Bool) :=
  bif ((x0.length : Int) != (x1.length : Int)) then
    some false
  else
    L_law0_SameEntrys_1 N N x0 x1 0
def d_law0_SameEntrys (r : Bool) : D := .bool r
theorem g_law0_SameEntrys_1 (gx0 : Bool) (gx1 : Bool) {c : Cx} (hc : Is c Tryz.prog ty 57 26) (N : Nat) {r : Bool} (hfin : c.Fin [] (d_law0_SameEntrys r) []) : ∀ (fuel : Nat) (t0 t1 : (List GEntry)) (t5 : Int), L_law0_SameEntrys_1 N fuel t0 t1 t5 = some r → c.Goes (items (bodyOf Tryz.f57) [.c 75, .l 75, .b 0, .c 15]) ⟨[(0, .sl gx0 (eL eEntry t0) t0.length t0.length), (1, .sl gx1 (eL eEntry t1) t1.length t1.length), (5, .int .i64 t5)], []⟩ := by
  intro fuel
  induction fuel with
  | zero => intro t0 t1 t5 h; simp [L_law0_SameEntrys_1] at h
  | succ fuel ih =>
    intro t0 t1 t5 h
    unfold L_law0_SameEntrys_1 at h
    rcases brk h with ⟨h0, h⟩ | ⟨h0, h⟩
    · obtain ⟨h1, h⟩ := chk h
      obtain ⟨h2, h⟩ := chk h
      rcases brk h with ⟨h3, h⟩ | ⟨h3, h⟩
      · exact hc.rt hfin (fn := Tryz.f57) (by kernel_rfl) (orc := [(4, [(3, oT)]), (6, [(2, oC (.ip gx0 [.int .i64 (((t0.getD t5.toNat default).Flow).Src), .int .i64 (((t0.getD t5.toNat default).Flow).Dst), .int .i64 (((t0.getD t5.toNat default).Flow).Proto), .int .i64 (((t0.getD t5.toNat default).Flow).Sport), .int .i64 (((t0.getD t5.toNat default).Flow).Dport), .int .i64 ((t0.getD t5.toNat default).To), .bool ((t0.getD t5.toNat default).Away), .int .i64 ((t0.getD t5.toNat default).Phase), .int .i64 ((t0.getD t5.toNat default).Used)])), (6, oC (.ip gx1 [.int .i64 (((t1.getD t5.toNat default).Flow).Src), .int .i64 (((t1.getD t5.toNat default).Flow).Dst), .int .i64 (((t1.getD t5.toNat default).Flow).Proto), .int .i64 (((t1.getD t5.toNat default).Flow).Sport), .int .i64 (((t1.getD t5.toNat default).Flow).Dport), .int .i64 ((t1.getD t5.toNat default).To), .bool ((t1.getD t5.toNat default).Away), .int .i64 ((t1.getD t5.toNat default).Phase), .int .i64 ((t1.getD t5.toNat default).Used)])), (8, oT)])]) (m := 12) (by kernel_rfl) (.cons (Le.tt h0) (.cons (h1) (.cons (Le.iptl (g := gx0) (eL_at (xs := t0) eEntry_len (ixl h1))) (.cons (h2) (.cons (Le.iptl (g := gx1) (eL_at (xs := t1) eEntry_len (ixl h2))) (.cons (Le.tt h3) .nil)))))) h Le.rfl rfl
      · exact hc.jump (orc := [(4, [(3, oT)]), (6, [(2, oC (.ip gx0 [.int .i64 (((t0.getD t5.toNat default).Flow).Src), .int .i64 (((t0.getD t5.toNat default).Flow).Dst), .int .i64 (((t0.getD t5.toNat default).Flow).Proto), .int .i64 (((t0.getD t5.toNat default).Flow).Sport), .int .i64 (((t0.getD t5.toNat default).Flow).Dport), .int .i64 ((t0.getD t5.toNat default).To), .bool ((t0.getD t5.toNat default).Away), .int .i64 ((t0.getD t5.toNat default).Phase), .int .i64 ((t0.getD t5.toNat default).Used)])), (6, oC (.ip gx1 [.int .i64 (((t1.getD t5.toNat default).Flow).Src), .int .i64 (((t1.getD t5.toNat default).Flow).Dst), .int .i64 (((t1.getD t5.toNat default).Flow).Proto), .int .i64 (((t1.getD t5.toNat default).Flow).Sport), .int .i64 (((t1.getD t5.toNat default).Flow).Dport), .int .i64 ((t1.getD t5.toNat default).To), .bool ((t1.getD t5.toNat default).Away), .int .i64 ((t1.getD t5.toNat default).Phase), .int .i64 ((t1.getD t5.toNat default).Used)])), (8, oF)])]) (m := 14) (kt := [0, 1, 5]) (kh := []) (by kernel_rfl) (.cons (Le.tt h0) (.cons (h1) (.cons (Le.iptl (g := gx0) (eL_at (xs := t0) eEntry_len (ixl h1))) (.cons (h2) (.cons (Le.iptl (g := gx1) (eL_at (xs := t1) eEntry_len (ixl h2))) (.cons (Le.ff h3) .nil)))))) (ih t0 t1 (IntKind.i64.wrap (t5 + 1)) h)
    · exact hc.rt hfin (fn := Tryz.f57) (by kernel_rfl) (orc := [(4, [(3, oF)])]) (m := 7) (by kernel_rfl) (.cons (Le.ff h0) .nil) h Le.rfl rfl

theorem g_law0_SameEntrys_0 (gx0 : Bool) (gx1 : Bool) {c : Cx} (hc : Is c Tryz.prog ty 57 26) (N : Nat) {r : Bool} (hfin : c.Fin [] (d_law0_SameEntrys r) []) (x0 x1 : (List GEntry)) (h : L_law0_SameEntrys N x0 x1 = some r) : c.Goes (items (bodyOf Tryz.f57) [.c 1]) ⟨[(0, .sl gx0 (eL eEntry x0) x0.length x0.length), (1, .sl gx1 (eL eEntry x1) x1.length x1.length)], []⟩ := by
  unfold L_law0_SameEntrys at h
  rcases brk h with ⟨h0, h⟩ | ⟨h0, h⟩
  · exact hc.rt hfin (fn := Tryz.f57) (by kernel_rfl) (orc := [(1, [(4, oT)])]) (m := 8) (by kernel_rfl) (.cons (Le.tt h0) .nil) h Le.rfl rfl
  · exact hc.jump (orc := [(1, [(4, oF)])]) (m := 12) (kt := [0, 1, 5]) (kh := []) (by kernel_rfl) (.cons (Le.ff h0) .nil) (g_law0_SameEntrys_1 gx0 gx1 hc N hfin N x0 x1 0 h)

theorem c_law0_SameEntrys (N : Nat) (gx0 : Bool) (gx1 : Bool) (x0 x1 : (List GEntry)) {r : Bool} (h : L_law0_SameEntrys N x0 x1 = some r) : Con Tryz.prog 57 [.sl gx0 (eL eEntry x0) x0.length x0.length, .sl gx1 (eL eEntry x1) x1.length x1.length] [] (d_law0_SameEntrys r) [] :=
  con_in ok mix (fn := Tryz.f57) (by kernel_rfl) (by kernel_rfl) fun hc hfin => g_law0_SameEntrys_0 gx0 gx1 hc N hfin x0 x1 h
/-! ### wharfage/wharfagelaw0.SameEdge -/
def L_law0_SameEdge_1 (N : Nat) (t4 : Bool) : Option (Bool) :=
  some t4
def L_law0_SameEdge (N : Nat) (x0 x1 : GEdge) : Option (Bool) :=
  bif (x0.Id == x1.Id) then
    (L_law0_SameConfig N x0.Config x1.Config).bind fun v1 =>
    bif v1 then
      (L_law0_SameHealths N x0.Health x1.Health).bind fun v2 =>
      bif v2 then
        (L_law0_SameEntrys N x0.Flows x1.Flows).bind fun v3 =>
        L_law0_SameEdge_1 N v3
      else
        L_law0_SameEdge_1 N false
    else
      L_law0_SameEdge_1 N false
  else
    L_law0_SameEdge_1 N false
def d_law0_SameEdge (r : Bool) : D := .bool r
theorem g_law0_SameEdge_1 (gx0 : Bool) (gx1 : Bool) {c : Cx} (hc : Is c Tryz.prog ty 23 31) (N : Nat) {r : Bool} (hfin : c.Fin [] (d_law0_SameEdge r) []) (t4 : Bool) (h : L_law0_SameEdge_1 N t4 = some r) : c.Goes (items (bodyOf Tryz.f23) [.c 7]) ⟨[(4, .bool t4)], []⟩ := by
  unfold L_law0_SameEdge_1 at h
  exact hc.rt hfin (fn := Tryz.f23) (by kernel_rfl) (orc := []) (m := 0) (by kernel_rfl) .nil h Le.rfl rfl

theorem g_law0_SameEdge_0 (gx0 : Bool) (gx1 : Bool) {c : Cx} (hc : Is c Tryz.prog ty 23 31) (N : Nat) {r : Bool} (hfin : c.Fin [] (d_law0_SameEdge r) []) (x0 x1 : GEdge) (h : L_law0_SameEdge N x0 x1 = some r) : c.Goes (items (bodyOf Tryz.f23) [.c 1]) ⟨[(0, .agg [.int .i64 x0.Id, .int .i64 x0.Config.Version, .sl gx0 (eL (eSite gx0) x0.Config.Sites) x0.Config.Sites.length x0.Config.Sites.length, .sl gx0 (eL eHealth x0.Health) x0.Health.length x0.Health.length, .sl gx0 (eL eEntry x0.Flows) x0.Flows.length x0.Flows.length]), (1, .agg [.int .i64 x1.Id, .int .i64 x1.Config.Version, .sl gx1 (eL (eSite gx1) x1.Config.Sites) x1.Config.Sites.length x1.Config.Sites.length, .sl gx1 (eL eHealth x1.Health) x1.Health.length x1.Health.length, .sl gx1 (eL eEntry x1.Flows) x1.Flows.length x1.Flows.length])], []⟩ := by
  unfold L_law0_SameEdge at h
  rcases brk h with ⟨h0, h⟩ | ⟨h0, h⟩
  · obtain ⟨v1, h1, h⟩ := bind_of h
    rcases brk h with ⟨h2, h⟩ | ⟨h2, h⟩
    · obtain ⟨v2, h3, h⟩ := bind_of h
      rcases brk h with ⟨h4, h⟩ | ⟨h4, h⟩
      · obtain ⟨v3, h5, h⟩ := bind_of h
        exact hc.jump (orc := [(1, [(5, oT), (10, oR (d_law0_SameConfig v1)), (12, oT), (17, oR (d_law0_SameHealths v2)), (19, oT), (24, oR (d_law0_SameEntrys v3))])]) (m := 4) (kt := [4]) (kh := []) (by kernel_rfl) (.cons (Le.tt h0) (.cons (c_law0_SameConfig N gx0 gx1 x0.Config x1.Config h1) (.cons (Le.tt h2) (.cons (c_law0_SameHealths N gx0 gx1 x0.Health x1.Health h3) (.cons (Le.tt h4) (.cons (c_law0_SameEntrys N gx0 gx1 x0.Flows x1.Flows h5) .nil)))))) (g_law0_SameEdge_1 gx0 gx1 hc N hfin v3 h)
      · exact hc.jump (orc := [(1, [(5, oT), (10, oR (d_law0_SameConfig v1)), (12, oT), (17, oR (d_law0_SameHealths v2)), (19, oF)])]) (m := 4) (kt := [4]) (kh := []) (by kernel_rfl) (.cons (Le.tt h0) (.cons (c_law0_SameConfig N gx0 gx1 x0.Config x1.Config h1) (.cons (Le.tt h2) (.cons (c_law0_SameHealths N gx0 gx1 x0.Health x1.Health h3) (.cons (Le.ff h4) .nil))))) (g_law0_SameEdge_1 gx0 gx1 hc N hfin false h)
    · exact hc.jump (orc := [(1, [(5, oT), (10, oR (d_law0_SameConfig v1)), (12, oF)])]) (m := 4) (kt := [4]) (kh := []) (by kernel_rfl) (.cons (Le.tt h0) (.cons (c_law0_SameConfig N gx0 gx1 x0.Config x1.Config h1) (.cons (Le.ff h2) .nil))) (g_law0_SameEdge_1 gx0 gx1 hc N hfin false h)
  · exact hc.jump (orc := [(1, [(5, oF)])]) (m := 4) (kt := [4]) (kh := []) (by kernel_rfl) (.cons (Le.ff h0) .nil) (g_law0_SameEdge_1 gx0 gx1 hc N hfin false h)

theorem c_law0_SameEdge (N : Nat) (gx0 : Bool) (gx1 : Bool) (x0 x1 : GEdge) {r : Bool} (h : L_law0_SameEdge N x0 x1 = some r) : Con Tryz.prog 23 [.agg [.int .i64 x0.Id, .int .i64 x0.Config.Version, .sl gx0 (eL (eSite gx0) x0.Config.Sites) x0.Config.Sites.length x0.Config.Sites.length, .sl gx0 (eL eHealth x0.Health) x0.Health.length x0.Health.length, .sl gx0 (eL eEntry x0.Flows) x0.Flows.length x0.Flows.length], .agg [.int .i64 x1.Id, .int .i64 x1.Config.Version, .sl gx1 (eL (eSite gx1) x1.Config.Sites) x1.Config.Sites.length x1.Config.Sites.length, .sl gx1 (eL eHealth x1.Health) x1.Health.length x1.Health.length, .sl gx1 (eL eEntry x1.Flows) x1.Flows.length x1.Flows.length]] [] (d_law0_SameEdge r) [] :=
  con_in ok mix (fn := Tryz.f23) (by kernel_rfl) (by kernel_rfl) fun hc hfin => g_law0_SameEdge_0 gx0 gx1 hc N hfin x0 x1 h
/-! ### wharfage/wharfagelaw0.SameEvents -/
def L_law0_SameEvents_1 (N : Nat) : Nat → (List GEvent) → (List GEvent) → Int → Option (Bool)
  | 0, _, _, _ => none
  | fuel + 1, t0, t1, t5 =>
    bif (decide (t5 < (t0.length : Int))) then
      if 0 ≤ t5 ∧ t5 < ((t0.length : Nat) : Int) then
      if 0 ≤ t5 ∧ t5 < ((t1.length : Nat) : Int) then
      bif (!(((t0.getD t5.toNat default).Kind == (t1.getD t5.toNat default).Kind) && (((t0.getD t5.toNat default).Role == (t1.getD t5.toNat default).Role) && (((t0.getD t5.toNat default).Site == (t1.getD t5.toNat default).Site) && (((t0.getD t5.toNat default).Node == (t1.getD t5.toNat default).Node) && (((t0.getD t5.toNat default).To == (t1.getD t5.toNat default).To) && ((((t0.getD t5.toNat default).Flow).Src == ((t1.getD t5.toNat default).Flow).Src) && ((((t0.getD t5.toNat default).Flow).Dst == ((t1.getD t5.toNat default).Flow).Dst) && ((((t0.getD t5.toNat default).Flow).Proto == ((t1.getD t5.toNat default).Flow).Proto) && ((((t0.getD t5.toNat default).Flow).Sport == ((t1.getD t5.toNat default).Flow).Sport) && ((((t0.getD t5.toNat default).Flow).Dport == ((t1.getD t5.toNat default).Flow).Dport) && true))))))))))) then
        some false
      else
        L_law0_SameEvents_1 N fuel t0 t1 (IntKind.i64.wrap (t5 + 1))
      else none
      else none
    else
      some true
def L_law0_SameEvents (N : Nat) (x0 x1 : (List GEvent)) : Option (Bool) :=
  bif ((x0.length : Int) != (x1.length : Int)) then
    some false
  else
    L_law0_SameEvents_1 N N x0 x1 0
def d_law0_SameEvents (r : Bool) : D := .bool r
theorem g_law0_SameEvents_1 (gx0 : Bool) (gx1 : Bool) {c : Cx} (hc : Is c Tryz.prog ty 83 26) (N : Nat) {r : Bool} (hfin : c.Fin [] (d_law0_SameEvents r) []) : ∀ (fuel : Nat) (t0 t1 : (List GEvent)) (t5 : Int), L_law0_SameEvents_1 N fuel t0 t1 t5 = some r → c.Goes (items (bodyOf Tryz.f83) [.c 75, .l 75, .b 0, .c 15]) ⟨[(0, .sl gx0 (eL eEvent t0) t0.length t0.length), (1, .sl gx1 (eL eEvent t1) t1.length t1.length), (5, .int .i64 t5)], []⟩ := by
  intro fuel
  induction fuel with
  | zero => intro t0 t1 t5 h; simp [L_law0_SameEvents_1] at h
  | succ fuel ih =>
    intro t0 t1 t5 h
    unfold L_law0_SameEvents_1 at h
    rcases brk h with ⟨h0, h⟩ | ⟨h0, h⟩
    · obtain ⟨h1, h⟩ := chk h
      obtain ⟨h2, h⟩ := chk h
      rcases brk h with ⟨h3, h⟩ | ⟨h3, h⟩
      · exact hc.rt hfin (fn := Tryz.f83) (by kernel_rfl) (orc := [(4, [(3, oT)]), (6, [(2, oC (.ip gx0 [.int .i64 ((t0.getD t5.toNat default).Kind), .int .i64 ((t0.getD t5.toNat default).Role), .int .i64 ((t0.getD t5.toNat default).Site), .int .i64 ((t0.getD t5.toNat default).Node), .int .i64 ((t0.getD t5.toNat default).To), .int .i64 (((t0.getD t5.toNat default).Flow).Src), .int .i64 (((t0.getD t5.toNat default).Flow).Dst), .int .i64 (((t0.getD t5.toNat default).Flow).Proto), .int .i64 (((t0.getD t5.toNat default).Flow).Sport), .int .i64 (((t0.getD t5.toNat default).Flow).Dport)])), (6, oC (.ip gx1 [.int .i64 ((t1.getD t5.toNat default).Kind), .int .i64 ((t1.getD t5.toNat default).Role), .int .i64 ((t1.getD t5.toNat default).Site), .int .i64 ((t1.getD t5.toNat default).Node), .int .i64 ((t1.getD t5.toNat default).To), .int .i64 (((t1.getD t5.toNat default).Flow).Src), .int .i64 (((t1.getD t5.toNat default).Flow).Dst), .int .i64 (((t1.getD t5.toNat default).Flow).Proto), .int .i64 (((t1.getD t5.toNat default).Flow).Sport), .int .i64 (((t1.getD t5.toNat default).Flow).Dport)])), (8, oT)])]) (m := 12) (by kernel_rfl) (.cons (Le.tt h0) (.cons (h1) (.cons (Le.iptl (g := gx0) (eL_at (xs := t0) eEvent_len (ixl h1))) (.cons (h2) (.cons (Le.iptl (g := gx1) (eL_at (xs := t1) eEvent_len (ixl h2))) (.cons (Le.tt h3) .nil)))))) h Le.rfl rfl
      · exact hc.jump (orc := [(4, [(3, oT)]), (6, [(2, oC (.ip gx0 [.int .i64 ((t0.getD t5.toNat default).Kind), .int .i64 ((t0.getD t5.toNat default).Role), .int .i64 ((t0.getD t5.toNat default).Site), .int .i64 ((t0.getD t5.toNat default).Node), .int .i64 ((t0.getD t5.toNat default).To), .int .i64 (((t0.getD t5.toNat default).Flow).Src), .int .i64 (((t0.getD t5.toNat default).Flow).Dst), .int .i64 (((t0.getD t5.toNat default).Flow).Proto), .int .i64 (((t0.getD t5.toNat default).Flow).Sport), .int .i64 (((t0.getD t5.toNat default).Flow).Dport)])), (6, oC (.ip gx1 [.int .i64 ((t1.getD t5.toNat default).Kind), .int .i64 ((t1.getD t5.toNat default).Role), .int .i64 ((t1.getD t5.toNat default).Site), .int .i64 ((t1.getD t5.toNat default).Node), .int .i64 ((t1.getD t5.toNat default).To), .int .i64 (((t1.getD t5.toNat default).Flow).Src), .int .i64 (((t1.getD t5.toNat default).Flow).Dst), .int .i64 (((t1.getD t5.toNat default).Flow).Proto), .int .i64 (((t1.getD t5.toNat default).Flow).Sport), .int .i64 (((t1.getD t5.toNat default).Flow).Dport)])), (8, oF)])]) (m := 14) (kt := [0, 1, 5]) (kh := []) (by kernel_rfl) (.cons (Le.tt h0) (.cons (h1) (.cons (Le.iptl (g := gx0) (eL_at (xs := t0) eEvent_len (ixl h1))) (.cons (h2) (.cons (Le.iptl (g := gx1) (eL_at (xs := t1) eEvent_len (ixl h2))) (.cons (Le.ff h3) .nil)))))) (ih t0 t1 (IntKind.i64.wrap (t5 + 1)) h)
    · exact hc.rt hfin (fn := Tryz.f83) (by kernel_rfl) (orc := [(4, [(3, oF)])]) (m := 7) (by kernel_rfl) (.cons (Le.ff h0) .nil) h Le.rfl rfl

theorem g_law0_SameEvents_0 (gx0 : Bool) (gx1 : Bool) {c : Cx} (hc : Is c Tryz.prog ty 83 26) (N : Nat) {r : Bool} (hfin : c.Fin [] (d_law0_SameEvents r) []) (x0 x1 : (List GEvent)) (h : L_law0_SameEvents N x0 x1 = some r) : c.Goes (items (bodyOf Tryz.f83) [.c 1]) ⟨[(0, .sl gx0 (eL eEvent x0) x0.length x0.length), (1, .sl gx1 (eL eEvent x1) x1.length x1.length)], []⟩ := by
  unfold L_law0_SameEvents at h
  rcases brk h with ⟨h0, h⟩ | ⟨h0, h⟩
  · exact hc.rt hfin (fn := Tryz.f83) (by kernel_rfl) (orc := [(1, [(4, oT)])]) (m := 8) (by kernel_rfl) (.cons (Le.tt h0) .nil) h Le.rfl rfl
  · exact hc.jump (orc := [(1, [(4, oF)])]) (m := 12) (kt := [0, 1, 5]) (kh := []) (by kernel_rfl) (.cons (Le.ff h0) .nil) (g_law0_SameEvents_1 gx0 gx1 hc N hfin N x0 x1 0 h)

theorem c_law0_SameEvents (N : Nat) (gx0 : Bool) (gx1 : Bool) (x0 x1 : (List GEvent)) {r : Bool} (h : L_law0_SameEvents N x0 x1 = some r) : Con Tryz.prog 83 [.sl gx0 (eL eEvent x0) x0.length x0.length, .sl gx1 (eL eEvent x1) x1.length x1.length] [] (d_law0_SameEvents r) [] :=
  con_in ok mix (fn := Tryz.f83) (by kernel_rfl) (by kernel_rfl) fun hc hfin => g_law0_SameEvents_0 gx0 gx1 hc N hfin x0 x1 h
end Go.Proofs.YtmhlgpdoedbedaaGreat.Lf
