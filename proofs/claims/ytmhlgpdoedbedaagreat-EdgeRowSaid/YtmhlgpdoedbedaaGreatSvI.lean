/- Writing memory: how a state follows the world. -/
import Derived.Test.YtmhlgpdoedbedaaGreatSvH
namespace Go.Proofs.YtmhlgpdoedbedaaGreat.Sv
set_option linter.unusedVariables false
set_option linter.unusedSimpArgs false
open Go Go.RowKit

theorem look_cons {α : Type} (k : Nat) (v : α) (r : List (Nat × α)) (m : Nat) : look ((k, v) :: r) m = if k = m then some v else look r m := by
  simp only [look]
  by_cases h : k = m
  · subst h; simp
  · have : Nat.beq k m = false := by
      cases hb : Nat.beq k m with
      | false => rfl
      | true => exact absurd (Nat.eq_of_beq_eq_true hb) h
    rw [this, if_neg h]; rfl
theorem look_append {α : Type} (l r : List (Nat × α)) (m : Nat) : look (l ++ r) m = (look l m).or (look r m) := by
  induction l with
  | nil => simp [look]
  | cons p l ih =>
    obtain ⟨k, v⟩ := p
    rw [List.cons_append, look_cons, look_cons]
    split <;> simp [ih]
theorem St.tmp_setT (s : St) (t : Nat) (d : D) (u : Nat) : (s.setT t d).tmp u = if t = u then d else s.tmp u := by
  simp only [St.tmp, St.setT, look_cons]
  split <;> simp
theorem St.slot_setO (s : St) (o : Option Nat) (d : D) : (s.setO o d).slot = s.slot := by cases o <;> rfl
theorem St.tmp_setH (s : St) (l : List (Nat × Option Blk)) : (s.setH l).tmp = s.tmp := rfl
theorem St.slot_setH (s : St) (l : List (Nat × Option Blk)) (b : Nat) : (s.setH l).slot b = (look l b).or (s.slot b) := look_append l s.H b
def Env.upd (φ : Env) (m : Nat) (p : Pl) : Env := fun b => if b = m then some p else φ b
theorem Env.upd_same (φ : Env) (m : Nat) (p : Pl) : φ.upd m p m = some p := by simp [Env.upd]
theorem Env.upd_other (φ : Env) {m b : Nat} (p : Pl) (h : b ≠ m) : φ.upd m p b = φ b := by simp [Env.upd, h]
theorem Env.upd_ext {φ : Env} {m : Nat} (p : Pl) (hm : φ m = none) : ∀ b q, φ b = some q → φ.upd m p b = some q := by
  intro b q h
  rw [Env.upd_other _ _ (by rintro rfl; rw [hm] at h; simp at h), h]

section
variable {P : Program} {ty : Ty} {n : Nat} {w0 : World} {S im0 bo im : Nat → Prop} {φ0 φ : Env} {s : St} {a : Act} {w : World}

theorem put_get (a : Act) (o : Option Nat) (v : Value) (u : Nat) (ho : ∀ t, o = some t → t < a.tmps.size) : (a.put o v).tmps.getD u Go.undef = if o = some u then v else a.tmps.getD u Go.undef := by
  cases o with
  | none => simp [Act.put]
  | some t =>
    have ht := ho t rfl
    simp only [Act.put, Option.some.injEq]
    by_cases h : t = u
    · subst h
      simp [Array.getD, ht]
    · simp only [h, if_false]
      simp only [Array.getD, Array.size_setIfInBounds]
      split
      · rename_i hu
        have hu' : u < (a.tmps.setIfInBounds t v).size := by simpa using hu
        show (a.tmps.setIfInBounds t v)[u]'hu' = a.tmps[u]
        rw [Array.getElem_setIfInBounds, if_neg h]
      · rfl
theorem Rel.setO (hr : Rel n w0 S im0 bo φ0 im φ s a w) {o : Option Nat} {d : D} {v : Value} (hd : R im w bo φ d v) (ho : ∀ t, o = some t → t < n) : Rel n w0 S im0 bo φ0 im φ (s.setO o d) (a.put o v) w := by
  refine { hr with size := ?_, defers := ?_, tmp := ?_, own := ?_, owo := ?_, dom := ?_ }
  · cases o <;> simp [Act.put, hr.size]
  · cases o <;> exact hr.defers
  · intro t
    rw [put_get a o v t (by rw [hr.size]; exact ho)]
    cases o with
    | none => simpa [St.setO] using hr.tmp t
    | some u =>
      simp only [St.setO, St.tmp_setT, Option.some.injEq]
      split
      · exact hd
      · exact hr.tmp t
  · rw [St.slot_setO]; exact hr.own
  · rw [St.slot_setO]; exact hr.owo
  · rw [St.slot_setO]; exact hr.dom
/-- Nothing has turned but the tape. -/
theorem Rel.same (hr : Rel n w0 S im0 bo φ0 im φ s a w) {w' : World} (hh : w'.heap = w.heap) (ho : w'.os = w.os) (ht : w'.tape = w.tape) (hu : w'.output = w.output) : Rel n w0 S im0 bo φ0 im φ s a w' := by
  have hb : ∀ b : Nat, w'.heap[b]? = w.heap[b]? := fun b => by rw [hh]
  refine { hr with tmp := fun t => (hr.tmp t).mono (fun _ h => h) (fun b _ => hb b) (fun _ h => h) (fun _ _ h => h), own := ?_, kept := ?_, imlt := fun b h => by rw [hh]; exact hr.imlt b h }
  · refine { hr.own with blk := fun b k h => ?_ }
    obtain ⟨pl, h1, h2⟩ := hr.own.blk b k h
    refine ⟨pl, h1, ?_⟩
    cases pl with
    | nil => exact h2
    | at_ B base sz lim =>
      obtain ⟨c, el, fz, k1, k2, k3, k4, k5, k7, k6⟩ := h2
      exact ⟨c, el, fz, (hb B).trans k1, k2, k3, k4, k5, k7, k6.mono (fun _ h => h) (fun b _ => hb b) (fun _ h => h) (fun _ _ h => h)⟩
  · exact ⟨ho.trans hr.kept.os, ht.trans hr.kept.tape, hu.trans hr.kept.output, by rw [hh]; exact hr.kept.size, fun b h1 h2 => (hb b).trans (hr.kept.block b h1 h2)⟩
theorem BlkAt.mono {im' bo' : Nat → Prop} {φ' : Env} {w' : World} {blk : Blk} {pl : Pl} (h : BlkAt im bo φ w blk pl) (hi : ∀ b, im b → im' b) (hw : ∀ b, im b ∨ bo b → w'.heap[b]? = w.heap[b]?) (hb : ∀ b, bo b → bo' b) (hp : ∀ b p, φ b = some p → φ' b = some p)
    (hB : ∀ B base sz lim, pl = .at_ B base sz lim → w'.heap[B]? = w.heap[B]?) : BlkAt im' bo' φ' w' blk pl := by
  cases pl with
  | nil => exact h
  | at_ B base sz lim =>
    obtain ⟨c, el, fz, k1, k2, k3, k4, k5, k7, k6⟩ := h
    refine ⟨c, el, fz, (hB _ _ _ _ rfl).trans k1, k2, k3, k4, k5, k7, k6.mono hi (fun b h => hw b (h.imp id ?_)) ?_ ?_⟩
    · intro h; split at h
      · exact h.elim
      · exact h
    · intro b h; split at h
      · exact h.elim
      · rename_i hp'; simp [hp', hb b h]
    · intro b p h; split at h
      · simp [noEnv] at h
      · rename_i hp'; simp [hp', hp b p h]
theorem live_lt (hr : Rel n w0 S im0 bo φ0 im φ s a w) {b : Nat} {k : Blk} {B base sz lim : Nat} (h : s.slot b = some (some k)) (hp : φ b = some (.at_ B base sz lim)) : B < w.heap.size := by
  obtain ⟨pl, h1, h2⟩ := hr.own.blk b k h
  rw [hp] at h1
  obtain rfl := Option.some.inj h1
  obtain ⟨c, el, fz, k1, _⟩ := h2
  rcases Nat.lt_or_ge B w.heap.size with h | h
  · exact h
  · rw [Array.getElem?_eq_none h] at k1; simp at k1
theorem heap_push (w : World) (o : Obj) (b : Nat) (h : b < w.heap.size) : (w.alloc o).heap[b]? = w.heap[b]? := Below.heap_alloc w o b h
/-- A new block. -/
theorem Rel.new (hr : Rel n w0 S im0 bo φ0 im φ s a w) {m : Nat} (hm : s.slot m = none) {blk : Blk} {c : Array Value} {el : TypeId} {fz : Nat × Nat} (h1 : blk.cs.length ≤ c.size) (h2 : fz.2 ≤ fz.1 ∨ c.size ≤ fz.1) (h4 : Ones (c.toList.take blk.cs.length))
    (h3 : Rs im w (if blk.pure then noB else bo) (if blk.pure then noEnv else φ) blk.cs (c.toList.take blk.cs.length)) :
    Rel n w0 S im0 bo φ0 im (φ.upd m (.at_ w.heap.size 0 blk.sz c.size)) (s.setH [(m, some blk)]) a (w.alloc (.cells c el fz)) := by
  have hφ := hr.dom m hm
  have hext := Env.upd_ext (φ := φ) (.at_ w.heap.size 0 blk.sz c.size) hφ
  have hold : ∀ b, im b ∨ bo b → (w.alloc (.cells c el fz)).heap[b]? = w.heap[b]? := fun b h => heap_push _ _ _ (h.elim (hr.imlt b) fun h => Nat.lt_of_lt_of_le (hr.base.lt b (.inr h)) hr.kept.size)
  have hsl : ∀ b, (s.setH [(m, some blk)]).slot b = if m = b then some (some blk) else s.slot b := by
    intro b
    rw [St.slot_setH, look_cons]
    split <;> simp [look]
  have hB : (w.alloc (.cells c el fz)).heap[w.heap.size]? = some (.cells c el fz) := by
    show (w.heap.push _)[w.heap.size]? = _
    simp
  refine { hr with tmp := ?_, own := ?_, kept := ?_, imlt := ?_, owo := ?_, dom := ?_, arg := fun b p h => hext b p (hr.arg b p h) }
  · intro t
    exact (hr.tmp t).mono (fun _ h => h) hold (fun _ h => h) hext
  · refine ⟨?_, ?_, ?_⟩
    · intro b k hb
      rw [hsl] at hb
      split at hb
      · rename_i e
        subst e
        simp only [Option.some.injEq] at hb
        subst hb
        refine ⟨_, Env.upd_same _ _ _, c, el, fz, hB, by omega, h1, rfl, h2, by simpa using h4, ?_⟩
        have := h3.mono (im' := im) (w' := w.alloc (.cells c el fz)) (fun _ h => h) (bo' := if blk.pure then noB else bo) (φ' := if blk.pure then noEnv else φ.upd m (.at_ w.heap.size 0 blk.sz c.size)) (by
          intro b hb
          refine hold b (hb.imp id fun h => ?_)
          split at h
          · exact h.elim
          · exact h) (fun _ h => h) (by
          intro b p h
          split at h
          · simp [noEnv] at h
          · rename_i hp; simp only [hp, Bool.false_eq_true, if_false]; exact hext b p h)
        simpa using this
      · rename_i hne
        obtain ⟨pl, k1, k2⟩ := hr.own.blk b k hb
        exact ⟨pl, hext b pl k1, k2.mono (fun _ h => h) hold (fun _ h => h) hext (fun B base sz lim e => heap_push _ _ _ (live_lt hr hb (e ▸ k1)))⟩
    · intro b k B base sz lim hb hp
      rw [hsl] at hb
      split at hb
      · rename_i e
        subst e
        rw [Env.upd_same] at hp
        simp only [Option.some.injEq, Pl.at_.injEq] at hp
        obtain ⟨rfl, _⟩ := hp
        exact ⟨fun h => Nat.lt_irrefl _ (hr.imlt _ h), fun h => Nat.lt_irrefl _ (Nat.lt_of_lt_of_le (hr.base.lt _ (.inr h)) hr.kept.size)⟩
      · rename_i hne
        rw [Env.upd_other _ _ (fun e => hne e.symm)] at hp
        exact hr.own.out b k B base sz lim hb hp
    · intro b d k l B base sz lim base' sz' lim' hb hd hp hq
      rw [hsl] at hb hd
      split at hb <;> split at hd
      · rename_i e1 e2; exact e1.symm.trans e2
      · rename_i e1 e2
        subst e1
        rw [Env.upd_same] at hp
        rw [Env.upd_other _ _ (fun e => e2 e.symm)] at hq
        simp only [Option.some.injEq, Pl.at_.injEq] at hp
        obtain ⟨rfl, _⟩ := hp
        exact absurd (live_lt hr hd hq) (Nat.lt_irrefl _)
      · rename_i e1 e2
        subst e2
        rw [Env.upd_same] at hq
        rw [Env.upd_other _ _ (fun e => e1 e.symm)] at hp
        simp only [Option.some.injEq, Pl.at_.injEq] at hq
        obtain ⟨rfl, _⟩ := hq
        exact absurd (live_lt hr hb hp) (Nat.lt_irrefl _)
      · rename_i e1 e2
        rw [Env.upd_other _ _ (fun e => e1 e.symm)] at hp
        rw [Env.upd_other _ _ (fun e => e2 e.symm)] at hq
        exact hr.own.inj b d k l B base sz lim base' sz' lim' hb hd hp hq
  · have hsz : (w.alloc (.cells c el fz)).heap.size = w.heap.size + 1 := by show (w.heap.push _).size = _; simp
    exact ⟨hr.kept.os, hr.kept.tape, hr.kept.output, by rw [hsz]; have := hr.kept.size; omega, fun b h1 h2 => (heap_push _ _ _ (Nat.lt_of_lt_of_le h1 hr.kept.size)).trans (hr.kept.block b h1 h2)⟩
  · intro b h
    have hsz : (w.alloc (.cells c el fz)).heap.size = w.heap.size + 1 := by show (w.heap.push _).size = _; simp
    have := hr.imlt b h
    omega
  · intro b k B base sz lim hb hp
    rw [hsl] at hb
    split at hb
    · rename_i e
      subst e
      rw [Env.upd_same] at hp
      simp only [Option.some.injEq, Pl.at_.injEq] at hp
      obtain ⟨rfl, _⟩ := hp
      exact .inr hr.kept.size
    · rename_i hne
      rw [Env.upd_other _ _ (fun e => hne e.symm)] at hp
      exact hr.owo b k B base sz lim hb hp
  · intro b hb
    rw [hsl] at hb
    split at hb
    · simp at hb
    · rename_i hne
      rw [Env.upd_other _ _ (fun e => hne e.symm)]
      exact hr.dom b hb
end
end Go.Proofs.YtmhlgpdoedbedaaGreat.Sv
