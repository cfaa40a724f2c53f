/- A house in its box, as the program walks its log: what stays and what changes. -/
import Derived.Test.YtgbhpghgohggcaaM2
namespace Go.Proofs.Ytgbhpghgohggcaa
open Go.RowKit
abbrev zrow : Array Value := #[.slice none 0 0, .int .i64 0, .int .i64 0, .int .i64 0, .int .i64 0, .slice none 0 0, .slice none 0 0]
/-- new memory, but for the call's boxes and own rows -/
def hmem (w w1 wr : World) (vl vr vd : Value) : CM := fr w wr [vl.ownBlock, vr.ownBlock, vd.ownBlock, some w.heap.size, some w1.heap.size]
structure LBox (w w1 wr : World) (vl vr vd : Value) (l : List Rc) (h : Hs) : Prop where
  res : wr.heap[w.heap.size]? = some (.cells zrow 29 (0, 0))
  row : wr.heap[w1.heap.size]? = some (.cells #[vl, .int .i64 h.sums.a, .int .i64 h.sums.b, .int .i64 h.sums.c, .int .i64 h.sums.d, vr, vd] 29 (0, 0))
  log : OwnC Ty.rc (hmem w w1 wr vl vr vd) wr (w.heap.size + 1) 48 vl l
  ready : OwnC Ty.rd (hmem w w1 wr vl vr vd) wr (w1.heap.size + 1) 45 vr h.ready
  done : wr.ownsRow (w1.heap.size + 1) 3 1 vd h.done.length (h.done.flatMap intCell)
  grow : Grow w wr
  size : w1.heap.size + 1 ≤ wr.heap.size
  lt : ∀ k, vl.ownBlock = some k → k < w1.heap.size
  w1 : w.heap.size + 1 ≤ w1.heap.size
  disj : vr.ownBlock = none ∨ vr.ownBlock ≠ vd.ownBlock
/-- blocks that a round may change: the box and the two rows -/
structure Chg (w1 wr w' : World) (vr vd vr' vd' : Value) : Prop where
  size : wr.heap.size ≤ w'.heap.size
  block : ∀ k, k < wr.heap.size → k ≠ w1.heap.size → vr.ownBlock ≠ some k → vd.ownBlock ≠ some k → w'.heap[k]? = wr.heap[k]?
  ready : vr'.ownBlock = vr.ownBlock ∨ ∃ g, vr'.ownBlock = some g ∧ wr.heap.size ≤ g
  done : vd'.ownBlock = vd.ownBlock ∨ ∃ g, vd'.ownBlock = some g ∧ wr.heap.size ≤ g
theorem Chg.mem {w w1 wr w' : World} {vl vr vd vr' vd' : Value} (c : Chg w1 wr w' vr vd vr' vd') : Sub (hmem w w1 wr vl vr vd) (hmem w w1 w' vl vr' vd') := by
  refine fr_step fun k hk _ hx => ?_
  simp only [List.mem_cons, List.not_mem_nil, or_false, not_or] at hx ⊢
  obtain ⟨x1, x2, x3, x4, x5⟩ := hx
  refine ⟨c.block k hk (fun e => x5 (by rw [e])) (fun e => x2 e.symm) (fun e => x3 e.symm), x1, ?_, ?_, x4, x5⟩
  · rcases c.ready with e | ⟨g, e, hg⟩
    · rw [e]; exact x2
    · rw [e]; simp; omega
  · rcases c.done with e | ⟨g, e, hg⟩
    · rw [e]; exact x3
    · rw [e]; simp; omega
theorem owns_block {w w' : World} {base e size n : Nat} {v : Value} {xs : List Value} (h : w.ownsRow base e size v n xs) (hb : ∀ k, v.ownBlock = some k → w'.heap[k]? = w.heap[k]?) : w'.ownsRow base e size v n xs := by
  obtain ⟨hl, h' | ⟨g, cap, cur, rfl, hg, hrow, hrest⟩⟩ := h
  · exact ⟨hl, .inl h'⟩
  · exact ⟨hl, .inr ⟨g, cap, cur, rfl, hg, by rw [hb g rfl]; exact hrow, hrest⟩⟩
theorem OwnC.block {α : Type} {T : Ty α} {c : CM} {w w' : World} {base e : Nat} {v : Value} {l : List α} (h : OwnC T c w base e v l) (hb : ∀ k, v.ownBlock = some k → w'.heap[k]? = w.heap[k]?) : OwnC T c w' base e v l := by
  obtain ⟨css, k1, k2, k3⟩ := h
  exact ⟨css, owns_block k1 hb, k2, k3⟩
theorem LBox.put {w w1 wr w' : World} {vl vr vd vr' vd' : Value} {l : List Rc} {h h' : Hs} (b : LBox w w1 wr vl vr vd l h) (c : Chg w1 wr w' vr vd vr' vd') (hG : Grow w w')
    (row : w'.heap[w1.heap.size]? = some (.cells #[vl, .int .i64 h'.sums.a, .int .i64 h'.sums.b, .int .i64 h'.sums.c, .int .i64 h'.sums.d, vr', vd'] 29 (0, 0)))
    (ready : OwnC Ty.rd (hmem w w1 w' vl vr' vd') w' (w1.heap.size + 1) 45 vr' h'.ready) (done : w'.ownsRow (w1.heap.size + 1) 3 1 vd' h'.done.length (h'.done.flatMap intCell)) (disj : vr'.ownBlock = none ∨ vr'.ownBlock ≠ vd'.ownBlock) : LBox w w1 w' vl vr' vd' l h' where
  res := by
    have h1 := b.w1
    have h2 := b.size
    rw [c.block _ (by omega) (by omega) (fun e => by have := (b.ready.lt _ e).1; omega) (fun e => by have := (b.done.lt _ e).1; omega)]; exact b.res
  row := row
  log := by
    refine (b.log.mono c.mem).block fun k hk => ?_
    have h1 := b.lt k hk
    have h2 := b.size
    exact c.block k (by omega) (by omega) (fun e => by have := (b.ready.lt _ e).1; omega) (fun e => by have := (b.done.lt _ e).1; omega)
  ready := ready
  done := done
  grow := hG
  size := Nat.le_trans b.size c.size
  lt := b.lt
  w1 := b.w1
  disj := disj
theorem LBox.later {w w1 wr w' : World} {vl vr vd : Value} {l : List Rc} {h : Hs} (b : LBox w w1 wr vl vr vd l h) (hg : Grow wr w') : LBox w w1 w' vl vr vd l h :=
  have c : Chg w1 wr w' vr vd vr vd := ⟨hg.size, fun k hk _ _ _ => hg.block k hk, .inl rfl, .inl rfl⟩
  b.put c (b.grow.trans hg) (row_grow b.row hg) ((b.ready.mono c.mem).grow hg) (b.done.kept (grownBy_of_grow hg none) (by cases vd.ownBlock <;> simp)) b.disj
theorem row_set5' {w : World} {B : Nat} {a b c d e f g : Value} {t : TypeId} (h : w.heap[B]? = some (.cells #[a, b, c, d, e, f, g] t (0, 0))) (u : Value) : (w.setCell ⟨B, 5, none⟩ u).heap[B]? = some (.cells #[a, b, c, d, e, u, g] t (0, 0)) := by
  simp only [World.setCell, Array.getElem?_modify, h]; simp
theorem row_set6' {w : World} {B : Nat} {a b c d e f g : Value} {t : TypeId} (h : w.heap[B]? = some (.cells #[a, b, c, d, e, f, g] t (0, 0))) (u : Value) : (w.setCell ⟨B, 6, none⟩ u).heap[B]? = some (.cells #[a, b, c, d, e, f, u] t (0, 0)) := by
  simp only [World.setCell, Array.getElem?_modify, h]; simp
theorem row_set1234 {w : World} {B : Nat} {a b c d e f g : Value} {t : TypeId} (h : w.heap[B]? = some (.cells #[a, b, c, d, e, f, g] t (0, 0))) (u1 u2 u3 u4 : Value) :
    ((((w.setCell ⟨B, 1, none⟩ u1).setCell ⟨B, 2, none⟩ u2).setCell ⟨B, 3, none⟩ u3).setCell ⟨B, 4, none⟩ u4).heap[B]? = some (.cells #[a, u1, u2, u3, u4, f, g] t (0, 0)) := by
  simp only [World.setCell, Array.getElem?_modify, h]; simp
/-- something is ready -/
theorem LBox.appR {w w1 wr wq w' : World} {vl vr vd : Value} {l : List Rc} {h : Hs} {x : Rd} {a' : Option Addr} {n c' : Nat} (b : LBox w w1 wr vl vr vd l h) (hG : Grow wr wq)
    (ho : OwnC Ty.rd (hmem w w1 wq vl vr vd) w' (w1.heap.size + 1) 45 (.slice a' n c') (h.ready ++ [x])) (hg : wq.grownBy w' vr.ownBlock) (hb : (Value.slice a' n c').ownBlock = vr.ownBlock ∨ ∃ g, (Value.slice a' n c').ownBlock = some g ∧ wq.heap.size ≤ g) :
    LBox w w1 (w'.setCell ⟨w1.heap.size, 5, none⟩ (.slice a' n c')) vl (.slice a' n c') vd l { h with ready := h.ready ++ [x] } ∧ Chg w1 wr (w'.setCell ⟨w1.heap.size, 5, none⟩ (.slice a' n c')) vr vd (.slice a' n c') vd := by
  have bq := b.later hG
  have hs := hG.size
  have hs1 := b.size
  have hw1 := b.w1
  have hlt := bq.ready.lt
  have hdl := bq.done.lt
  have hB : ∀ k, k ≠ w1.heap.size → (w'.setCell ⟨w1.heap.size, 5, none⟩ (.slice a' n c')).heap[k]? = w'.heap[k]? := fun k hk => Below.heap_setCell _ _ _ _ (fun e => hk e)
  have c1 : Chg w1 wq (w'.setCell ⟨w1.heap.size, 5, none⟩ (.slice a' n c')) vr vd (.slice a' n c') vd := ⟨by simpa using hg.size, fun k hk h1 h2 _ => by rw [hB k h1, hg.block k hk (fun e => h2 e.symm)], hb, .inl rfl⟩
  have hGw : Grow w (w'.setCell ⟨w1.heap.size, 5, none⟩ (.slice a' n c')) := (bq.grow.grown hg (fun k hk => by have := (hlt k hk).1; omega)).setCell (by simp; omega) _
  have hdj : ∀ k, vd.ownBlock = some k → vr.ownBlock ≠ some k := fun k hk e => by
    rcases b.disj with d | d
    · rw [d] at e; cases e
    · exact d (e.trans hk.symm)
  refine ⟨bq.put c1 hGw (row_set5' (row_by bq.row hg (fun e => by have := (hlt _ e.symm).1; omega)) _) ((ho.mono c1.mem).block fun k hk => ?_) (owns_block bq.done fun k hk => ?_) ?_, ?_⟩
  · exact hB k (by have := (ho.lt k hk).1; omega)
  · have := hdl k hk
    rw [hB k (by omega), hg.block k this.2 (fun e => hdj k hk e.symm)]
  · rcases hb with e | ⟨g, e, hge⟩
    · rw [e]; exact b.disj
    · right; rw [e]; intro e'
      have := hdl g e'.symm; omega
  · exact ⟨Nat.le_trans hs c1.size, fun k hk h1 h2 h3 => (c1.block k (by omega) h1 h2 h3).trans (hG.block k hk), by
      rcases hb with e | ⟨g, e, hge⟩
      · exact .inl e
      · exact .inr ⟨g, e, by omega⟩, .inl rfl⟩
/-- something is done -/
theorem LBox.appD {w w1 wr wq w' : World} {vl vr vd : Value} {l : List Rc} {h : Hs} {x : Int} {a' : Option Addr} {n c' : Nat} (b : LBox w w1 wr vl vr vd l h) (hG : Grow wr wq)
    (ho : w'.ownsRow (w1.heap.size + 1) 3 1 (.slice a' n c') (h.done ++ [x]).length ((h.done ++ [x]).flatMap intCell)) (hg : wq.grownBy w' vd.ownBlock) (hb : (Value.slice a' n c').ownBlock = vd.ownBlock ∨ ∃ g, (Value.slice a' n c').ownBlock = some g ∧ wq.heap.size ≤ g) :
    LBox w w1 (w'.setCell ⟨w1.heap.size, 6, none⟩ (.slice a' n c')) vl vr (.slice a' n c') l { h with done := h.done ++ [x] } ∧ Chg w1 wr (w'.setCell ⟨w1.heap.size, 6, none⟩ (.slice a' n c')) vr vd vr (.slice a' n c') := by
  have bq := b.later hG
  have hs := hG.size
  have hs1 := b.size
  have hw1 := b.w1
  have hlt := bq.ready.lt
  have hdl := bq.done.lt
  have hB : ∀ k, k ≠ w1.heap.size → (w'.setCell ⟨w1.heap.size, 6, none⟩ (.slice a' n c')).heap[k]? = w'.heap[k]? := fun k hk => Below.heap_setCell _ _ _ _ (fun e => hk e)
  have c1 : Chg w1 wq (w'.setCell ⟨w1.heap.size, 6, none⟩ (.slice a' n c')) vr vd vr (.slice a' n c') := ⟨by simpa using hg.size, fun k hk h1 _ h2 => by rw [hB k h1, hg.block k hk (fun e => h2 e.symm)], .inl rfl, hb⟩
  have hGw : Grow w (w'.setCell ⟨w1.heap.size, 6, none⟩ (.slice a' n c')) := (bq.grow.grown hg (fun k hk => by have := (hdl k hk).1; omega)).setCell (by simp; omega) _
  have hdj : ∀ k, vr.ownBlock = some k → vd.ownBlock ≠ some k := fun k hk e => by
    rcases b.disj with d | d
    · rw [d] at hk; cases hk
    · exact d (hk.trans e.symm)
  refine ⟨bq.put c1 hGw (row_set6' (row_by bq.row hg (fun e => by have := (hdl _ e.symm).1; omega)) _) ((bq.ready.mono c1.mem).block fun k hk => ?_) (owns_block ho fun k hk => ?_) ?_, ?_⟩
  · have := hlt k hk
    rw [hB k (by omega), hg.block k this.2 (fun e => hdj k hk e.symm)]
  · exact hB k (by have := (ho.lt k hk).1; omega)
  · cases e0 : vr.ownBlock with
    | none => exact .inl rfl
    | some q =>
      right
      rcases hb with e | ⟨g, e, hge⟩
      · rw [e]; intro e'; exact hdj q e0 e'.symm
      · rw [e]; intro e'; have := hlt q e0; simp at e'; omega
  · exact ⟨Nat.le_trans hs c1.size, fun k hk h1 h2 h3 => (c1.block k (by omega) h1 h2 h3).trans (hG.block k hk), .inl rfl, by
      rcases hb with e | ⟨g, e, hge⟩
      · exact .inl e
      · exact .inr ⟨g, e, by omega⟩⟩
/-- sums change -/
theorem LBox.sum {w w1 wr wq : World} {vl vr vd : Value} {l : List Rc} {h : Hs} {s : Sm} (b : LBox w w1 wr vl vr vd l h) (hG : Grow wr wq) :
    LBox w w1 ((((wq.setCell ⟨w1.heap.size, 1, none⟩ (.int .i64 s.a)).setCell ⟨w1.heap.size, 2, none⟩ (.int .i64 s.b)).setCell ⟨w1.heap.size, 3, none⟩ (.int .i64 s.c)).setCell ⟨w1.heap.size, 4, none⟩ (.int .i64 s.d)) vl vr vd l { h with sums := s } ∧
    Chg w1 wr ((((wq.setCell ⟨w1.heap.size, 1, none⟩ (.int .i64 s.a)).setCell ⟨w1.heap.size, 2, none⟩ (.int .i64 s.b)).setCell ⟨w1.heap.size, 3, none⟩ (.int .i64 s.c)).setCell ⟨w1.heap.size, 4, none⟩ (.int .i64 s.d)) vr vd vr vd := by
  have bq := b.later hG
  have hs := hG.size
  have hs1 := b.size
  have hw1 := b.w1
  have hB : ∀ k, k ≠ w1.heap.size → ((((wq.setCell ⟨w1.heap.size, 1, none⟩ (.int .i64 s.a)).setCell ⟨w1.heap.size, 2, none⟩ (.int .i64 s.b)).setCell ⟨w1.heap.size, 3, none⟩ (.int .i64 s.c)).setCell ⟨w1.heap.size, 4, none⟩ (.int .i64 s.d)).heap[k]? = wq.heap[k]? := fun k hk => by
    rw [Below.heap_setCell _ _ _ _ (fun e => hk e), Below.heap_setCell _ _ _ _ (fun e => hk e), Below.heap_setCell _ _ _ _ (fun e => hk e), Below.heap_setCell _ _ _ _ (fun e => hk e)]
  have c1 : Chg w1 wq ((((wq.setCell ⟨w1.heap.size, 1, none⟩ (.int .i64 s.a)).setCell ⟨w1.heap.size, 2, none⟩ (.int .i64 s.b)).setCell ⟨w1.heap.size, 3, none⟩ (.int .i64 s.c)).setCell ⟨w1.heap.size, 4, none⟩ (.int .i64 s.d)) vr vd vr vd := ⟨by simp, fun k hk h1 _ _ => hB k h1, .inl rfl, .inl rfl⟩
  have hGw : Grow w ((((wq.setCell ⟨w1.heap.size, 1, none⟩ (.int .i64 s.a)).setCell ⟨w1.heap.size, 2, none⟩ (.int .i64 s.b)).setCell ⟨w1.heap.size, 3, none⟩ (.int .i64 s.c)).setCell ⟨w1.heap.size, 4, none⟩ (.int .i64 s.d)) := (((bq.grow.setCell (by simp; omega) _).setCell (by simp; omega) _).setCell (by simp; omega) _).setCell (by simp; omega) _
  refine ⟨bq.put c1 hGw (row_set1234 bq.row _ _ _ _) ((bq.ready.mono c1.mem).block fun k hk => hB k (by have := (bq.ready.lt k hk).1; omega)) (owns_block bq.done fun k hk => hB k (by have := (bq.done.lt k hk).1; omega)) b.disj, ?_⟩
  exact ⟨Nat.le_trans hs c1.size, fun k hk h1 h2 h3 => (c1.block k (by omega) h1 h2 h3).trans (hG.block k hk), .inl rfl, .inl rfl⟩
/-- something is ready no more -/
theorem LBox.delR {w w1 wr wq w' : World} {vl vd : Value} {l : List Rc} {h : Hs} {g cap i : Nat} (b : LBox w w1 wr vl (.slice (some ⟨g, 0, none⟩) h.ready.length cap) vd l h) (hG : Grow wr wq) (hi : i < h.ready.length)
    {css : List (List Value)} (k2 : css.length = h.ready.length) (k3 : ∀ (i : Nat) (cs : List Value) (x : Rd), css[i]? = some cs → h.ready[i]? = some x → Ty.rd.R (hmem w w1 wq vl (.slice (some ⟨g, 0, none⟩) h.ready.length cap) vd) cs x)
    (hnew : w'.ownsRow (w1.heap.size + 1) 45 2 (.slice (some ⟨g, 0, none⟩) (h.ready.length - 1) cap) (h.ready.length - 1) (css.flatten.take (i * 2) ++ css.flatten.drop ((i + 1) * 2))) (hg : wq.grownBy w' (some g)) :
    LBox w w1 (w'.setCell ⟨w1.heap.size, 5, none⟩ (.slice (some ⟨g, 0, none⟩) (h.ready.length - 1) cap)) vl (.slice (some ⟨g, 0, none⟩) (h.ready.length - 1) cap) vd l { h with ready := h.ready.eraseIdx i } ∧
    Chg w1 wr (w'.setCell ⟨w1.heap.size, 5, none⟩ (.slice (some ⟨g, 0, none⟩) (h.ready.length - 1) cap)) (.slice (some ⟨g, 0, none⟩) h.ready.length cap) vd (.slice (some ⟨g, 0, none⟩) (h.ready.length - 1) cap) vd := by
  have bq := b.later hG
  have hsz := hG.size
  have hs1 := b.size
  have hw1 := b.w1
  have hlt := bq.ready.lt g rfl
  have hdl := bq.done.lt
  have hB : ∀ k, k ≠ w1.heap.size → (w'.setCell ⟨w1.heap.size, 5, none⟩ (.slice (some ⟨g, 0, none⟩) (h.ready.length - 1) cap)).heap[k]? = w'.heap[k]? := fun k hk => Below.heap_setCell _ _ _ _ (fun e => hk e)
  have c1 : Chg w1 wq (w'.setCell ⟨w1.heap.size, 5, none⟩ (.slice (some ⟨g, 0, none⟩) (h.ready.length - 1) cap)) (.slice (some ⟨g, 0, none⟩) h.ready.length cap) vd (.slice (some ⟨g, 0, none⟩) (h.ready.length - 1) cap) vd := ⟨by simpa using hg.size, fun k hk h1 h2 _ => by rw [hB k h1, hg.block k hk (fun e => h2 e.symm)], .inl rfl, .inl rfl⟩
  have hGw : Grow w (w'.setCell ⟨w1.heap.size, 5, none⟩ (.slice (some ⟨g, 0, none⟩) (h.ready.length - 1) cap)) := (bq.grow.grown hg (fun k hk => by simp at hk; omega)).setCell (by simp; omega) _
  have hdj : ∀ k, vd.ownBlock = some k → g ≠ k := fun k hk e => by
    rcases b.disj with d | d
    · cases d
    · exact d (by rw [hk, ← e]; rfl)
  have hcl := css_len k2 k3
  refine ⟨bq.put c1 hGw (row_set5' (row_by bq.row hg (by simp; omega)) _) ⟨css.eraseIdx i, ?_, ?_, ?_⟩ (owns_block bq.done fun k hk => ?_) (.inr fun e => hdj g e.symm rfl), ?_⟩
  · have e : (css.eraseIdx i).flatten = css.flatten.take (i * 2) ++ css.flatten.drop ((i + 1) * 2) := by
      rw [flatten_take (size := 2) css i hcl, flatten_drop (size := 2) css (i + 1) hcl, List.eraseIdx_eq_take_drop_succ, List.flatten_append]
    rw [e]
    have e2 : (h.ready.eraseIdx i).length = h.ready.length - 1 := List.length_eraseIdx_of_lt hi
    rw [e2]
    refine owns_block hnew fun k hk => hB k ?_
    have : g = k := by simpa [Value.ownBlock] using hk
    omega
  · simp only [List.length_eraseIdx_of_lt hi, List.length_eraseIdx_of_lt (by omega : i < css.length)]; omega
  · intro j cs x a e
    rw [List.getElem?_eraseIdx] at a e
    by_cases hj : j < i
    · rw [if_pos hj] at a e
      exact Ty.rd.mono c1.mem (k3 j cs x a e)
    · rw [if_neg hj] at a e
      exact Ty.rd.mono c1.mem (k3 (j + 1) cs x a e)
  · have := hdl k hk
    rw [hB k (by omega), hg.block k this.2 (fun e => hdj k hk (Option.some.inj e).symm)]
  · exact ⟨Nat.le_trans hsz c1.size, fun k hk h1 h2 h3 => (c1.block k (by omega) h1 h2 h3).trans (hG.block k hk), .inl rfl, .inl rfl⟩
end Go.Proofs.Ytgbhpghgohggcaa
