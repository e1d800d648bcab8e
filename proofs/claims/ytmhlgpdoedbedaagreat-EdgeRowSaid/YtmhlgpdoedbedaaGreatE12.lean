/- Plain laws: EdgeRow. -/
import Derived.Test.YtmhlgpdoedbedaaGreatE11
namespace Go.Proofs.YtmhlgpdoedbedaaGreat.Pu
set_option linter.unusedSimpArgs false
set_option linter.unusedVariables false
open Go Go.RowKit Go.Proofs.YtmhlgpdoedbedaaGreat.Sv Go.Proofs.YtmhlgpdoedbedaaGreat.Lf
theorem and_3 (x : Int) : bAnd .i64 x 3 = x % 4 := and_mask 2 (by decide) x
def wantN (w : List Int) (k : Int) : List Int := (w.filter fun y => y != k) ++ [k]
theorem row_4 {N : Nat} (r1 : List Int → Int → Int → List GSite → List GHealth → List GEntry → List Int → Int → Option Bool) (t0 : List Int) (e0 e1 : Int) (e2 : List GSite) (e3 : List GHealth) (e4 : List GEntry) (w : List Int) (hw : w.length ≤ 100) (t6 k f0 f1 : Int) (f2 : List GSite) (f3 : List GHealth) (f4 : List GEntry) (o0 : List ByteArray) (o1 : List GEvent) :
    ∀ (d fuel i : Nat) (b : List Int), w.length = i + d → d < fuel → b.length ≤ i →
    L_law19_EdgeRow_4 N r1 fuel t0 e0 e1 e2 e3 e4 w t6 k f0 f1 f2 f3 f4 o0 o1 b (i : Int) = L_law19_EdgeRow_4 N r1 1 t0 e0 e1 e2 e3 e4 w t6 k f0 f1 f2 f3 f4 o0 o1 (b ++ (w.drop i).filter fun y => y != k) (w.length : Int) := by
  intro d
  induction d with
  | zero =>
    intro fuel i b hi hf hb
    obtain ⟨fuel, rfl⟩ : ∃ f, fuel = f + 1 := ⟨fuel - 1, by omega⟩
    rw [List.drop_of_length_le (by omega), List.filter_nil, List.append_nil, L_law19_EdgeRow_4, L_law19_EdgeRow_4]
    rw [decide_eq_false (show ¬ ((i : Int) < (w.length : Int)) by omega), decide_eq_false (show ¬ ((w.length : Int) < (w.length : Int)) by omega), cond_false, cond_false]
  | succ d ih =>
    intro fuel i b hi hf hb
    obtain ⟨fuel, rfl⟩ : ∃ f, fuel = f + 1 := ⟨fuel - 1, by omega⟩
    have hil : i < w.length := by omega
    rw [L_law19_EdgeRow_4, Int.toNat_natCast, drop_at hil]
    refine stDT (by omega) (stIf (by omega) ?_)
    unfold L_law19_EdgeRow_5
    rw [w64 (n := (i : Int) + 1) (by omega) (by omega)]
    cases hq : (w.getD i default != k) with
    | true =>
      refine stTT (stIf (by omega) (stIf (growOk_small (by omega) (by omega)) ?_))
      rw [List.filter_cons_of_pos (by exact hq)]
      have := ih fuel (i + 1) (b ++ [w.getD i default]) (by omega) (by omega) (by rw [List.length_append, List.length_singleton]; omega)
      rw [List.append_assoc] at this
      exact this
    | false =>
      refine stFF ?_
      rw [List.filter_cons_of_neg (by rw [hq]; decide)]
      exact ih fuel (i + 1) b (by omega) (by omega) (by omega)
theorem row_8 {N : Nat} (r1 : List Int → Int → Int → List GSite → List GHealth → List GEntry → List Int → Int → Option Bool) (t0 : List Int) (e0 e1 : Int) (e2 : List GSite) (e3 : List GHealth) (es : List GEntry) (t6 : Int) (hes : es.length ≤ 100) :
    ∀ (d fuel i : Nat), es.length = i + d → d < fuel →
    L_law19_EdgeRow_8 N r1 fuel t0 e0 e1 e2 e3 es (es.map fun x => x.Flow.Src) t6 (i : Int) = r1 t0 e0 e1 e2 e3 es (es.map fun x => x.Flow.Src) (IntKind.i64.wrap (t6 + 1)) := by
  intro d
  induction d with
  | zero =>
    intro fuel i hi hf
    obtain ⟨fuel, rfl⟩ : ∃ f, fuel = f + 1 := ⟨fuel - 1, by omega⟩
    rw [L_law19_EdgeRow_8]
    exact stDF (by rw [List.length_map]; omega) rfl
  | succ d ih =>
    intro fuel i hi hf
    obtain ⟨fuel, rfl⟩ : ∃ f, fuel = f + 1 := ⟨fuel - 1, by omega⟩
    have hil : i < es.length := by omega
    rw [L_law19_EdgeRow_8, Int.toNat_natCast, w64 (n := (i : Int) + 1) (by omega) (by omega)]
    refine stDT (by rw [List.length_map]; omega) (stIf (by omega) (stIf (by rw [List.length_map]; omega) ?_))
    have : ((es.map fun x => x.Flow.Src).getD i default) = (es.getD i default).Flow.Src := by
      rw [getD_el (by rw [List.length_map]; exact hil), List.getElem_map, getD_el hil]
    rw [this]
    exact stNT rfl (ih fuel (i + 1) (by omega) (by omega))
structure RowInv (e : GEdge) : Prop where
  ok : EdgeOk e
  id : e.Id = 0
  conf : e.Config = givenC
  hs : e.Health = newsH
  fl : ∀ x ∈ e.Flows, x.Flow = flowI x.Flow.Src ∧ 0 ≤ x.Flow.Src ∧ x.Flow.Src < 11
theorem src_of {x : GEntry} (h : x.Flow = flowI x.Flow.Src ∧ 0 ≤ x.Flow.Src ∧ x.Flow.Src < 11) {k : Int} (hk : 0 ≤ k ∧ k < 11) : (!eqF x.Flow (flowI k)) = (x.Flow.Src != k) := by
  obtain ⟨h1, h2, h3⟩ := h
  by_cases c : x.Flow.Src = k
  · rw [show x.Flow = flowI k by rw [h1, c], eqF_rfl]
    show false = ((flowI k).Src != k)
    rw [show (flowI k).Src = k from (by unfold flowI; dsimp only; omega)]
    simp
  · have : eqF x.Flow (flowI k) = false := by
      rw [← Bool.not_eq_true, eqF_iff]
      intro q
      refine c ?_
      rw [q]; unfold flowI; dsimp only; omega
    rw [this, show (x.Flow.Src != k) = true from bne_iff_ne.2 c]; rfl
theorem rest_map {es : List GEntry} {k : Int} (hk : 0 ≤ k ∧ k < 11) (h : ∀ x ∈ es, x.Flow = flowI x.Flow.Src ∧ 0 ≤ x.Flow.Src ∧ x.Flow.Src < 11) : (rest es (flowI k)).map (fun x => x.Flow.Src) = (es.map fun x => x.Flow.Src).filter fun y => y != k := by
  unfold rest
  induction es with
  | nil => rfl
  | cons x es ih =>
    have hx := src_of (h x List.mem_cons_self) hk
    have ih := ih fun y hy => h y (List.mem_cons_of_mem _ hy)
    rw [List.map_cons, List.filter_cons, List.filter_cons, hx]
    cases (x.Flow.Src != k) with
    | true => rw [if_pos rfl, if_pos rfl, List.map_cons, ih]
    | false => rw [if_neg (by decide), if_neg (by decide), ih]
theorem src_flowI {k : Int} (hk : 0 ≤ k ∧ k < 11) : (flowI k).Src = k := by unfold flowI; dsimp only; omega
theorem put_map {es : List GEntry} {k : Int} (hk : 0 ≤ k ∧ k < 11) (h : ∀ x ∈ es, x.Flow = flowI x.Flow.Src ∧ 0 ≤ x.Flow.Src ∧ x.Flow.Src < 11) {u : GEntry} (hu : u.Flow = flowI k) :
    (rest es u.Flow ++ [u]).map (fun x => x.Flow.Src) = wantN (es.map fun x => x.Flow.Src) k := by
  rw [List.map_append, hu, rest_map hk h]
  unfold wantN
  rw [List.map_singleton, hu, src_flowI hk]
theorem row_loop (xs : List Int) : ∀ (d fuel i : Nat) (e : GEdge), 30 ≤ i + d → i ≤ 30 → d < fuel → RowInv e →
    L_law19_EdgeRow_1 281474976710656 fuel xs e.Id e.Config.Version e.Config.Sites e.Health e.Flows (e.Flows.map fun x => x.Flow.Src) (i : Int) = some true := by
  intro d
  induction d with
  | zero =>
    intro fuel i e hi hi' hf h
    obtain ⟨fuel, rfl⟩ : ∃ f, fuel = f + 1 := ⟨fuel - 1, by omega⟩
    rw [L_law19_EdgeRow_1]
    unfold L_law19_EdgeRow_2
    rw [decide_eq_false (show ¬ ((i : Int) < 30) by omega)]
    cases decide ((i : Int) < (xs.length : Int)) <;> rfl
  | succ d ih =>
    intro fuel i e hi hi' hf h
    obtain ⟨fuel, rfl⟩ : ∃ f, fuel = f + 1 := ⟨fuel - 1, by omega⟩
    rw [L_law19_EdgeRow_1]
    unfold L_law19_EdgeRow_2
    by_cases c : (i : Int) < (xs.length : Int)
    case neg => exact stDF c (stFF rfl)
    refine stDT c ?_
    by_cases c30 : (i : Int) < 30
    case neg => rw [decide_eq_false c30]; rfl
    rw [decide_eq_true c30]
    refine stTT (stIf (by omega) (stVia ?_))
    have wr : 0 ≤ IntKind.u64.wrap (xs.getD (i : Int).toNat default) := by rw [wu64]; omega
    generalize IntKind.u64.wrap (xs.getD (i : Int).toNat default) = v at *
    have hk : 0 ≤ v.tmod 11 ∧ v.tmod 11 < 11 := by
      rw [Int.tmod_eq_emod_of_nonneg wr]; omega
    generalize v.tmod 11 = k at *
    rw [w64 (n := k) (by omega) (by omega), and_3]
    obtain ⟨r, r1, r2⟩ := Take_eq (ok_bd h.ok) ((i : Int) % 4) (sayS k 16 ⟨#[114]⟩)
    have hof := say_of k 16 ⟨#[114]⟩
    have hsz := say_size k 16 ⟨#[114]⟩
    have hsay := Said19_eq k 16 ⟨#[114]⟩
    generalize sayS k 16 ⟨#[114]⟩ = s at *
    have hf0 : (ofF s).1 = flowI k := by rw [hof]
    have hn : timeOk ((i : Int) % 4) = true := by unfold timeOk; exact decide_eq_true (by omega)
    obtain ⟨x, p, x1, x2, x3, rfl⟩ := sent_of h.ok hn (by rw [hof]) (by omega) (by rw [h.conf, h.hs]; decide +kernel) r2
    have hok := then_ok h.ok x2 x3 hn
    obtain ⟨e0, e1, e2, e3⟩ := e
    have hid : e0 = 0 := h.id
    have hfl := h.fl
    have h8 := ((cacheOk_iff _).1 h.ok.cache).2.2
    dsimp only at hfl h8
    unfold thenE usedE at hok r1
    dsimp only at hok r1 ⊢
    rw [hf0] at hok r1
    generalize hu : (⟨flowI k, x.To, false, p, (i : Int) % 4⟩ : GEntry) = u at *
    have huf : u.Flow = flowI k := by rw [← hu]
    have hmap := put_map hk hfl huf
    have hmem : ∀ y ∈ (putE e3 u).1, y.Flow = flowI y.Flow.Src ∧ 0 ≤ y.Flow.Src ∧ y.Flow.Src < 11 := by
      intro y hy
      rcases put_mem hy with hy | rfl
      · exact hfl y hy
      · rw [huf, src_flowI hk]; exact ⟨rfl, hk⟩
    refine stB hsay (stB r1 (stB (x := 0) rfl (stNT rfl ?_)))
    dsimp only
    rw [show ((([pushI (outO (GEdge.mk e0 e1 e2 e3) x s)] : List ByteArray).length : Int) != 1) = false from rfl]
    unfold L_law19_EdgeRow_3
    refine stFF ?_
    have h4 := row_4 (N := 281474976710656) (L_law19_EdgeRow_1 281474976710656 fuel) xs e0 e1.Version e1.Sites e2 e3 (e3.map fun x => x.Flow.Src) (by rw [List.length_map]; omega) (i : Int) k e0 e1.Version e1.Sites e2 (putE e3 u).1 [pushI (outO ⟨e0, e1, e2, e3⟩ x s)] (putEv ⟨e0, e1, e2, e3⟩ u) (e3.map fun x => x.Flow.Src).length 281474976710656 0 [] (by omega) (by rw [List.length_map]; omega) (by simp)
    refine h4.trans ?_
    rw [List.drop_zero, List.nil_append, L_law19_EdgeRow_4]
    refine stDF (by omega) (stIf (growOk_small (by decide) (by
      have := List.length_filter_le (fun y => y != k) (e3.map fun x => x.Flow.Src)
      rw [List.length_map] at this; omega)) ?_)
    have hwn : ((e3.map fun x => x.Flow.Src).filter fun y => y != k) ++ [k] = wantN (e3.map fun x => x.Flow.Src) k := rfl
    have hlen : (rest e3 u.Flow ++ [u]).length = (wantN (e3.map fun x => x.Flow.Src) k).length := by rw [← hmap, List.length_map]
    have hlen2 : (rest e3 u.Flow ++ [u]).length = (rest e3 u.Flow).length + 1 := by rw [List.length_append, List.length_singleton]
    have hwl : (wantN (e3.map fun x => x.Flow.Src) k).length ≤ 100 := by
      have := rest_le e3 u.Flow
      omega
    have hgo : ∀ es : List GEntry, es = (putE e3 u).1 → L_law19_EdgeRow_7 281474976710656 (L_law19_EdgeRow_1 281474976710656 fuel) xs e0 e1.Version e1.Sites e2 e3 (i : Int) e0 e1.Version e1.Sites e2 es (es.map fun x => x.Flow.Src) = some true := by
      intro es hes
      have hokE : EdgeOk ⟨e0, e1, e2, es⟩ := by rw [hes]; exact hok
      have hl8 : es.length ≤ 8 := ((cacheOk_iff _).1 hokE.cache).2.2
      unfold L_law19_EdgeRow_7
      refine stNT (by rw [List.length_map]) ?_
      refine (row_8 (N := 281474976710656) (L_law19_EdgeRow_1 281474976710656 fuel) xs e0 e1.Version e1.Sites e2 es (i : Int) (by omega) es.length 281474976710656 0 (by omega) (by omega)).trans ?_
      rw [w64 (n := (i : Int) + 1) (by omega) (by omega)]
      exact ih fuel (i + 1) ⟨e0, e1, e2, es⟩ (by omega) (by omega) (by omega) ⟨hokE, hid, h.conf, h.hs, by rw [hes]; exact hmem⟩
    rw [hwn]
    by_cases c8 : 8 < (rest e3 u.Flow).length + 1
    · have hp : putE e3 u = ((rest e3 u.Flow ++ [u]).drop 1, (rest e3 u.Flow ++ [u]).getD 0 default, true, 0) := if_pos c8
      have hev : putEv ⟨e0, e1, e2, e3⟩ u = [evE 11 ⟨e0, e1, e2, e3⟩ ((rest e3 u.Flow ++ [u]).getD 0 default).To ((rest e3 u.Flow ++ [u]).getD 0 default).Flow, evE 0 ⟨e0, e1, e2, e3⟩ u.To u.Flow] := by
        unfold putEv; dsimp only; rw [hp]; rfl
      rw [hev]
      refine stDT (by omega) (stNT rfl (stIf (by show (0 : Int) ≤ 0 ∧ (0 : Int) < 2; decide) (stNT rfl (stIf (by show (0 : Int) ≤ 0 ∧ (0 : Int) < 2; decide) (stVia (stIf (by omega) ?_))))))
      have hhead : ((wantN (e3.map fun x => x.Flow.Src) k).getD (Int.toNat 0) default) = ((rest e3 u.Flow ++ [u]).getD 0 default).Flow.Src := by
        rw [← hmap]
        show ((rest e3 u.Flow ++ [u]).map fun x => x.Flow.Src).getD 0 default = _
        rw [getD_el (by rw [List.length_map]; omega), List.getElem_map, getD_el (by omega)]
      rw [hhead]
      show L_law19_EdgeRow_6 281474976710656 _ xs e0 e1.Version e1.Sites e2 e3 (i : Int) e0 e1.Version e1.Sites e2 (putE e3 u).1 (wantN (e3.map fun x => x.Flow.Src) k) (((rest e3 u.Flow ++ [u]).getD 0 default).Flow.Src != ((rest e3 u.Flow ++ [u]).getD 0 default).Flow.Src) = _
      rw [bne_self_eq_false]
      unfold L_law19_EdgeRow_6
      refine stFF (stIf (by omega) (stIf (by omega) (stIf (growOk_small (by decide) (by omega)) ?_)))
      have := hgo _ rfl
      rw [hp] at this ⊢
      dsimp only at this ⊢
      rw [List.map_drop, hmap] at this
      rw [List.nil_append, show (Int.toNat 1) = 1 from rfl, List.take_of_length_le (by rw [List.length_drop]; omega)]
      exact this
    · have hp : putE e3 u = (rest e3 u.Flow ++ [u], zE, false, 0) := if_neg c8
      have hev : putEv ⟨e0, e1, e2, e3⟩ u = [evE 0 ⟨e0, e1, e2, e3⟩ u.To u.Flow] := by
        unfold putEv; dsimp only; rw [hp]; rfl
      rw [hev]
      refine stDF (by omega) (stNT rfl ?_)
      have := hgo _ rfl
      rw [hp] at this ⊢
      dsimp only at this ⊢
      rw [hmap] at this
      exact this
theorem EdgeRow (rows : List Int) (_ : rows.length ≤ 140737488355328) : L_law19_EdgeRow 281474976710656 rows = some true := by
  have n0 := New_eq (id := 0) (c := givenC) (by decide) given_ok
  rw [show edgeOk ⟨0, givenC, newsH, []⟩ = true by decide +kernel, if_pos rfl] at n0
  have hok0 : EdgeOk gE := (edgeOk_iff _).1 (by decide +kernel)
  unfold L_law19_EdgeRow
  refine stB awake19 (stNTT (stB (x := givenC) rfl (stB n0 (stB (x := 0) rfl (stNT rfl ?_)))))
  exact row_loop rows 30 281474976710656 0 gE (by decide) (by decide) (by decide) ⟨hok0, rfl, rfl, rfl, fun x hx => by cases hx⟩
end Go.Proofs.YtmhlgpdoedbedaaGreat.Pu
