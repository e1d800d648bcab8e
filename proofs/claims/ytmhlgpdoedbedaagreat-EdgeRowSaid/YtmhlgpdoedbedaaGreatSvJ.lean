/- A block that is written; one that is dead; one that has nothing. -/
import Derived.Test.YtmhlgpdoedbedaaGreatSvI
namespace Go.Proofs.YtmhlgpdoedbedaaGreat.Sv
set_option linter.unusedVariables false
set_option linter.unusedSimpArgs false
open Go Go.RowKit

def putBlk (w : World) (B : Nat) (o : Obj) : World := { w with heap := w.heap.setIfInBounds B o }
theorem putBlk_same {w : World} {B : Nat} {o : Obj} (h : B < w.heap.size) : (putBlk w B o).heap[B]? = some o := by
  simp [putBlk, h]
theorem putBlk_other {w : World} {B b : Nat} {o : Obj} (h : b ≠ B) : (putBlk w B o).heap[b]? = w.heap[b]? := by
  simp only [putBlk]
  rw [Array.getElem?_setIfInBounds_ne (fun e => h e.symm)]
theorem putBlk_size (w : World) (B : Nat) (o : Obj) : (putBlk w B o).heap.size = w.heap.size := by simp [putBlk]
theorem setCell_put {w : World} {B j : Nat} {c : Array Value} {el : TypeId} {fz : Nat × Nat} (h : w.heap[B]? = some (.cells c el fz)) (v : Value) : w.setCell ⟨B, j, none⟩ v = putBlk w B (.cells (c.setIfInBounds j v) el fz) := by
  have hB : B < w.heap.size := by
    rcases Nat.lt_or_ge B w.heap.size with h' | h'
    · exact h'
    · rw [Array.getElem?_eq_none h'] at h; simp at h
  have e : w.heap[B] = .cells c el fz := by rw [Array.getElem?_eq_getElem hB] at h; exact Option.some.inj h
  unfold World.setCell putBlk
  congr 1
  apply Array.ext
  · simp
  · intro i h1 h2
    simp only [Array.getElem_modify, Array.getElem_setIfInBounds]
    split
    · rename_i hi; subst hi; simp [e]
    · rename_i hi
      rw [Array.getElem_setIfInBounds, if_neg hi]
theorem putBlk_put (w : World) (B : Nat) (o p : Obj) : putBlk (putBlk w B o) B p = putBlk w B p := by
  simp [putBlk]
theorem putBlk_id {w : World} {B : Nat} {o : Obj} (h : w.heap[B]? = some o) : putBlk w B o = w := by
  unfold putBlk
  have : w.heap.setIfInBounds B o = w.heap := by
    apply Array.ext
    · simp
    · intro i h1 h2
      rw [Array.getElem_setIfInBounds]
      split
      · rename_i hi; subst hi; rw [Array.getElem?_eq_getElem h2] at h; exact (Option.some.inj h).symm
      · rfl
  rw [this]
theorem run_storeCells (P : Program) {B : Nat} {el : TypeId} {fz : Nat × Nat} : ∀ (vs : List Value) (o i : Nat) (w : World) (c : Array Value), w.heap[B]? = some (.cells c el fz) → o + i + vs.length ≤ c.size → (fz.2 ≤ fz.1 ∨ c.size ≤ fz.1) → (∀ v ∈ vs, v.oneCell' = true) →
    (storeCells ⟨B, o, none⟩ vs i).run P w = .ok () (putBlk w B (.cells (c.toList.take (o + i) ++ vs ++ c.toList.drop (o + i + vs.length)).toArray el fz))
  | [], o, i, w, c, h, hl, hf, h1 => by
    simp only [storeCells, Sem.run_pure, List.append_nil, List.length_nil, Nat.add_zero, List.take_append_drop]
    rw [putBlk_id h]
  | v :: vs, o, i, w, c, h, hl, hf, h1 => by
    simp only [List.length_cons] at hl
    have hc : w.cell? ⟨B, o + i, none⟩ = some c[o + i] := by rw [cell_of h, Array.getElem?_eq_getElem (by omega)]
    have hz : w.frozen? ⟨B, o + i, none⟩ = false := by
      simp only [World.frozen?, h]
      rcases hf with hf | hf
      · simp; omega
      · simp; omega
    have ih := run_storeCells P vs o (i + 1) (putBlk w B (.cells (c.setIfInBounds (o + i) v) el fz)) (c.setIfInBounds (o + i) v) (putBlk_same (by
        rcases Nat.lt_or_ge B w.heap.size with h' | h'
        · exact h'
        · rw [Array.getElem?_eq_none h'] at h; simp at h)) (by simp; omega) (by simpa using hf) (fun u hu => h1 u (by simp [hu]))
    simp only [storeCells, Sem.run_bind, Addr.add_none, run_store P w _ v .plain (h1 v (by simp)), hc, hz, Bool.false_eq_true, if_false, Result.andThen_ok, setCell_put h, ih, putBlk_put]
    congr 3
    simp only [Array.toList_setIfInBounds, List.length_cons]
    have e1 : (c.toList.set (o + i) v).take (o + (i + 1)) = c.toList.take (o + i) ++ [v] := by
      rw [show o + (i + 1) = (o + i) + 1 by omega, List.take_succ_eq_append_getElem (by simp; omega), List.take_set_of_le (Nat.le_refl _)]
      simp
    have e2 : (c.toList.set (o + i) v).drop (o + (i + 1) + vs.length) = c.toList.drop (o + i + (vs.length + 1)) := by
      rw [List.drop_set_of_lt (by omega)]
      congr 1
      omega
    rw [e1, e2]
    simp
/-- What names no block reads the same with none. -/
theorem free_sim {im bo : Nat → Prop} {φ : Env} {w : World} {d : D} {v : Value} (h : R im w bo φ d v) (hd : d.free = true) : R im w noB noEnv d v := by
  cases h with
  | ip k1 k2 k3 ko k4 =>
    rename_i g _ _ _ _ _ _ _
    cases g
    · exact absurd (show false = true from hd) Bool.false_ne_true
    · exact .ip (.inl (k1.elim id fun h => by simp at h)) k2 k3 ko (by simpa using k4)
  | sl k1 k2 k3 k4 ko k5 =>
    rename_i g _ _ _ _ _ _ _ _ _ _
    cases g
    · exact absurd (show false = true from hd) Bool.false_ne_true
    · exact .sl (.inl (k1.elim id fun h => by simp at h)) k2 k3 k4 ko (by simpa using k5)
  | bool => exact .bool _
  | int => exact .int _ _
  | str => exact .str _
  | nilp => exact .nilp
  | nils => exact .nils
  | sl0 a c hac =>
    rename_i g _
    cases g
    · exact absurd (show false = true from hd) Bool.false_ne_true
    · exact .sl0 a c hac
  | nilf => exact .nilf
  | _ => exact absurd (show false = true from hd) Bool.false_ne_true
theorem frees_sim {im bo : Nat → Prop} {φ : Env} {w : World} {ds : List D} {vs : List Value} (h : Rs im w bo φ ds vs) (hd : frees ds = true) : Rs im w noB noEnv ds vs := by
  induction ds generalizing vs with
  | nil => cases h; exact .nil
  | cons d ds ih =>
    cases h with
    | cons a b =>
      simp only [frees, Bool.and_eq_true] at hd
      exact .cons (free_sim a hd.1) (ih b hd.2)
theorem Rs.pureOr {im bo : Nat → Prop} {φ : Env} {w : World} {ds : List D} {vs : List Value} {p : Bool} (h : Rs im w bo φ ds vs) (hp : (!p || frees ds) = true) : Rs im w (if p then noB else bo) (if p then noEnv else φ) ds vs := by
  cases p
  · simpa using h
  · simpa using frees_sim h (by simpa using hp)
section
variable {P : Program} {ty : Ty} {n : Nat} {w0 : World} {S im0 bo im : Nat → Prop} {φ0 φ : Env} {s : St} {a : Act} {w : World}

theorem slot_one (s : St) (m : Nat) (x : Option Blk) (b : Nat) : (s.setH [(m, x)]).slot b = if m = b then some x else s.slot b := by
  rw [St.slot_setH, look_cons]
  split <;> simp [look]
/-- A block of one's own, as it is written. -/
theorem Rel.put (hr : Rel n w0 S im0 bo φ0 im φ s a w) {m B base lim : Nat} {φ' : Env} {blk : Blk} {c : Array Value} {el : TypeId} {fz : Nat × Nat} (hext : ∀ b p, φ b = some p → φ' b = some p)
    (hm : φ' m = some (.at_ B base blk.sz lim)) (hoth : ∀ b, b ≠ m → φ' b = φ b) (hB : B < w.heap.size) (hS : S B ∨ w0.heap.size ≤ B) (hi : ¬ im B) (hb : ¬ bo B)
    (hun : ∀ b k base sz lim, b ≠ m → s.slot b = some (some k) → φ b ≠ some (.at_ B base sz lim)) (h1 : base + lim ≤ c.size) (h2 : blk.cs.length ≤ lim) (h3 : fz.2 ≤ fz.1 ∨ c.size ≤ fz.1) (h5 : Ones ((c.toList.drop base).take blk.cs.length))
    (h4 : Rs im w (if blk.pure then noB else bo) (if blk.pure then noEnv else φ') blk.cs ((c.toList.drop base).take blk.cs.length)) :
    Rel n w0 S im0 bo φ0 im φ' (s.setH [(m, some blk)]) a (putBlk w B (.cells c el fz)) := by
  have hold : ∀ b, im b ∨ bo b → (putBlk w B (.cells c el fz)).heap[b]? = w.heap[b]? := fun b h => putBlk_other (by rintro rfl; exact h.elim hi hb)
  refine { hr with tmp := ?_, own := ?_, kept := ?_, imlt := ?_, owo := ?_, dom := ?_, arg := fun b p h => hext b p (hr.arg b p h) }
  · exact fun t => (hr.tmp t).mono (fun _ h => h) hold (fun _ h => h) hext
  · refine ⟨?_, ?_, ?_⟩
    · intro b k hs
      rw [slot_one] at hs
      split at hs
      · rename_i e
        subst e
        simp only [Option.some.injEq] at hs
        subst hs
        refine ⟨_, hm, c, el, fz, putBlk_same hB, h1, h2, rfl, h3, h5, h4.mono (fun _ h => h) (fun b h => hold b (h.imp id ?_)) (fun _ h => h) (fun _ _ h => h)⟩
        intro h; split at h
        · exact h.elim
        · exact h
      · rename_i hne
        obtain ⟨pl, k1, k2⟩ := hr.own.blk b k hs
        refine ⟨pl, hext b pl k1, k2.mono (fun _ h => h) hold (fun _ h => h) hext fun B' base' sz' lim' e => putBlk_other ?_⟩
        rintro rfl
        exact hun b k base' sz' lim' (fun e => hne e.symm) hs (e ▸ k1)
    · intro b k B' base' sz' lim' hs hp
      rw [slot_one] at hs
      split at hs
      · rename_i e
        subst e
        rw [hm] at hp
        simp only [Option.some.injEq, Pl.at_.injEq] at hp
        obtain ⟨rfl, _⟩ := hp
        exact ⟨hi, hb⟩
      · rename_i hne
        rw [hoth b (fun e => hne e.symm)] at hp
        exact hr.own.out b k B' base' sz' lim' hs hp
    · intro b d k l B' base1 sz1 lim1 base2 sz2 lim2 hs hd hp hq
      rw [slot_one] at hs hd
      split at hs <;> split at hd
      · rename_i e1 e2; exact e1.symm.trans e2
      · rename_i e1 e2
        subst e1
        rw [hm] at hp
        rw [hoth d (fun e => e2 e.symm)] at hq
        simp only [Option.some.injEq, Pl.at_.injEq] at hp
        obtain ⟨rfl, _⟩ := hp
        exact absurd hq (hun d l base2 sz2 lim2 (fun e => e2 e.symm) hd)
      · rename_i e1 e2
        subst e2
        rw [hm] at hq
        rw [hoth b (fun e => e1 e.symm)] at hp
        simp only [Option.some.injEq, Pl.at_.injEq] at hq
        obtain ⟨rfl, _⟩ := hq
        exact absurd hp (hun b k base1 sz1 lim1 (fun e => e1 e.symm) hs)
      · rename_i e1 e2
        rw [hoth b (fun e => e1 e.symm)] at hp
        rw [hoth d (fun e => e2 e.symm)] at hq
        exact hr.own.inj b d k l B' base1 sz1 lim1 base2 sz2 lim2 hs hd hp hq
  · refine ⟨hr.kept.os, hr.kept.tape, hr.kept.output, by rw [putBlk_size]; exact hr.kept.size, fun b k1 k2 => (putBlk_other ?_).trans (hr.kept.block b k1 k2)⟩
    rintro rfl
    exact hS.elim k2 fun h => absurd k1 (by omega)
  · intro b h
    rw [putBlk_size]
    exact hr.imlt b h
  · intro b k B' base' sz' lim' hs hp
    rw [slot_one] at hs
    split at hs
    · rename_i e
      subst e
      rw [hm] at hp
      simp only [Option.some.injEq, Pl.at_.injEq] at hp
      obtain ⟨rfl, _⟩ := hp
      exact hS
    · rename_i hne
      rw [hoth b (fun e => hne e.symm)] at hp
      exact hr.owo b k B' base' sz' lim' hs hp
  · intro b hs
    rw [slot_one] at hs
    split at hs
    · simp at hs
    · rename_i hne
      rw [hoth b (fun e => hne e.symm)]
      exact hr.dom b hs
/-- A block of which nothing is known any more. -/
theorem Rel.dead (hr : Rel n w0 S im0 bo φ0 im φ s a w) (b : Nat) (hb : s.slot b ≠ none) : Rel n w0 S im0 bo φ0 im φ (s.setH [(b, none)]) a w := by
  have hs : ∀ c k, (s.setH [(b, none)]).slot c = some (some k) → s.slot c = some (some k) := by
    intro c k h
    rw [slot_one] at h
    split at h
    · simp at h
    · exact h
  refine { hr with own := ⟨fun c k h => hr.own.blk c k (hs c k h), fun c k B base sz lim h => hr.own.out c k B base sz lim (hs c k h), fun c d k l B b1 s1 l1 b2 s2 l2 h h' => hr.own.inj c d k l B b1 s1 l1 b2 s2 l2 (hs c k h) (hs d l h')⟩, owo := fun c k B base sz lim h => hr.owo c k B base sz lim (hs c k h), dom := ?_ }
  intro c h
  rw [slot_one] at h
  split at h
  · simp at h
  · exact hr.dom c h
/-- A block without memory. -/
theorem Rel.newNil (hr : Rel n w0 S im0 bo φ0 im φ s a w) {m : Nat} (hm : s.slot m = none) (blk : Blk) (hc : blk.cs = []) : Rel n w0 S im0 bo φ0 im (φ.upd m .nil) (s.setH [(m, some blk)]) a w := by
  have hext := Env.upd_ext (φ := φ) .nil (hr.dom m hm)
  refine { hr with tmp := fun t => (hr.tmp t).mono (fun _ h => h) (fun _ _ => rfl) (fun _ h => h) hext, own := ⟨?_, ?_, ?_⟩, owo := ?_, dom := ?_, arg := fun b p h => hext b p (hr.arg b p h) }
  · intro b k hs
    rw [slot_one] at hs
    split at hs
    · rename_i e
      subst e
      simp only [Option.some.injEq] at hs
      subst hs
      exact ⟨_, Env.upd_same _ _ _, hc⟩
    · rename_i hne
      obtain ⟨pl, k1, k2⟩ := hr.own.blk b k hs
      exact ⟨pl, hext b pl k1, k2.mono (fun _ h => h) (fun _ _ => rfl) (fun _ h => h) hext fun _ _ _ _ _ => rfl⟩
  · intro b k B base sz lim hs hp
    rw [slot_one] at hs
    split at hs
    · rename_i e; subst e; rw [Env.upd_same] at hp; simp at hp
    · rename_i hne; rw [Env.upd_other _ _ (fun e => hne e.symm)] at hp; exact hr.own.out b k B base sz lim hs hp
  · intro b d k l B b1 s1 l1 b2 s2 l2 hs hd hp hq
    rw [slot_one] at hs hd
    split at hs
    · rename_i e; subst e; rw [Env.upd_same] at hp; simp at hp
    · split at hd
      · rename_i e; subst e; rw [Env.upd_same] at hq; simp at hq
      · rename_i h1 h2
        rw [Env.upd_other _ _ (fun e => h1 e.symm)] at hp
        rw [Env.upd_other _ _ (fun e => h2 e.symm)] at hq
        exact hr.own.inj b d k l B b1 s1 l1 b2 s2 l2 hs hd hp hq
  · intro b k B base sz lim hs hp
    rw [slot_one] at hs
    split at hs
    · rename_i e; subst e; rw [Env.upd_same] at hp; simp at hp
    · rename_i hne; rw [Env.upd_other _ _ (fun e => hne e.symm)] at hp; exact hr.owo b k B base sz lim hs hp
  · intro b hs
    rw [slot_one] at hs
    split at hs
    · simp at hs
    · rename_i hne; rw [Env.upd_other _ _ (fun e => hne e.symm)]; exact hr.dom b hs
end
end Go.Proofs.YtmhlgpdoedbedaaGreat.Sv
