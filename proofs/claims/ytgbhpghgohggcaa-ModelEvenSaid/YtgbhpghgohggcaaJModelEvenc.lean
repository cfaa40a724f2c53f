/- The parts that ModelEven is proved of, joined: M3, M4, R3, R7, R8, B4, R9, R10, Lit, A4, K16, Trod, Trod2, Trod3. No condition beside those that each theorem names. -/
import Derived.Sort.OwnSortedInts
import Derived.Test.YtgbhpghgohggcaaShelf
import Derived.IntWalk
import Derived.Deep.Slices
import Derived.OpenShut
import Derived.Below
import Derived.ChangeOld
import Derived.ProofKit
import Derived.SizedLaws
import Derived.Test.YtgbhpghgohggcaaJModelEvenb
/- A house in its box, as the program walks its log: what stays and what changes. -/
namespace Go.Proofs.Ytgbhpghgohggcaa
open Go.RowKit
abbrev zrow : Array Value := #[.slice none 0 0, .int .i64 0, .int .i64 0, .int .i64 0, .int .i64 0, .slice none 0 0, .slice none 0 0]
/-- new memory, but for the call's boxes and own rows -/
def hmem (w w1 wr : World) (vl vr vd : Value) : CM := fr w wr [vl.ownBlock, vr.ownBlock, vd.ownBlock, some w.heap.size, some w1.heap.size]
structure LBox (w w1 wr : World) (vl vr vd : Value) (l : List Rc) (h : Hs) : Prop where
  res : wr.heap[w.heap.size]? = some (.cells zrow 29 (0, 0))
  row : wr.heap[w1.heap.size]? = some (.cells #[vl, .int .i64 h.sums.a, .int .i64 h.sums.b, .int .i64 h.sums.c, .int .i64 h.sums.d, vr, vd] 29 (0, 0))
  log : OwnC Ty.rc (hmem w w1 wr vl vr vd) wr (w.heap.size + 1) 48 vl l
  ready : OwnC Ty.rd (hmem w w1 wr vl vr vd) wr (w1.heap.size + 1) 45 vr h.ready
  done : wr.ownsRow (w1.heap.size + 1) 3 1 vd h.done.length (h.done.flatMap intCell)
  grow : Grow w wr
  size : w1.heap.size + 1 ≤ wr.heap.size
  lt : ∀ k, vl.ownBlock = some k → k < w1.heap.size
  w1 : w.heap.size + 1 ≤ w1.heap.size
  disj : vr.ownBlock = none ∨ vr.ownBlock ≠ vd.ownBlock
/-- blocks that a round may change: the box and the two rows -/
structure Chg (w1 wr w' : World) (vr vd vr' vd' : Value) : Prop where
  size : wr.heap.size ≤ w'.heap.size
  block : ∀ k, k < wr.heap.size → k ≠ w1.heap.size → vr.ownBlock ≠ some k → vd.ownBlock ≠ some k → w'.heap[k]? = wr.heap[k]?
  ready : vr'.ownBlock = vr.ownBlock ∨ ∃ g, vr'.ownBlock = some g ∧ wr.heap.size ≤ g
  done : vd'.ownBlock = vd.ownBlock ∨ ∃ g, vd'.ownBlock = some g ∧ wr.heap.size ≤ g
theorem Chg.mem {w w1 wr w' : World} {vl vr vd vr' vd' : Value} (c : Chg w1 wr w' vr vd vr' vd') : Sub (hmem w w1 wr vl vr vd) (hmem w w1 w' vl vr' vd') := by
  refine fr_step fun k hk _ hx => ?_
  simp only [List.mem_cons, List.not_mem_nil, or_false, not_or] at hx ⊢
  obtain ⟨x1, x2, x3, x4, x5⟩ := hx
  refine ⟨c.block k hk (fun e => x5 (by rw [e])) (fun e => x2 e.symm) (fun e => x3 e.symm), x1, ?_, ?_, x4, x5⟩
  · rcases c.ready with e | ⟨g, e, hg⟩
    · rw [e]; exact x2
    · rw [e]; simp; omega
  · rcases c.done with e | ⟨g, e, hg⟩
    · rw [e]; exact x3
    · rw [e]; simp; omega
theorem owns_block {w w' : World} {base e size n : Nat} {v : Value} {xs : List Value} (h : w.ownsRow base e size v n xs) (hb : ∀ k, v.ownBlock = some k → w'.heap[k]? = w.heap[k]?) : w'.ownsRow base e size v n xs := by
  obtain ⟨hl, h' | ⟨g, cap, cur, rfl, hg, hrow, hrest⟩⟩ := h
  · exact ⟨hl, .inl h'⟩
  · exact ⟨hl, .inr ⟨g, cap, cur, rfl, hg, by rw [hb g rfl]; exact hrow, hrest⟩⟩
theorem OwnC.block {α : Type} {T : Ty α} {c : CM} {w w' : World} {base e : Nat} {v : Value} {l : List α} (h : OwnC T c w base e v l) (hb : ∀ k, v.ownBlock = some k → w'.heap[k]? = w.heap[k]?) : OwnC T c w' base e v l := by
  obtain ⟨css, k1, k2, k3⟩ := h
  exact ⟨css, owns_block k1 hb, k2, k3⟩
theorem LBox.put {w w1 wr w' : World} {vl vr vd vr' vd' : Value} {l : List Rc} {h h' : Hs} (b : LBox w w1 wr vl vr vd l h) (c : Chg w1 wr w' vr vd vr' vd') (hG : Grow w w')
    (row : w'.heap[w1.heap.size]? = some (.cells #[vl, .int .i64 h'.sums.a, .int .i64 h'.sums.b, .int .i64 h'.sums.c, .int .i64 h'.sums.d, vr', vd'] 29 (0, 0)))
    (ready : OwnC Ty.rd (hmem w w1 w' vl vr' vd') w' (w1.heap.size + 1) 45 vr' h'.ready) (done : w'.ownsRow (w1.heap.size + 1) 3 1 vd' h'.done.length (h'.done.flatMap intCell)) (disj : vr'.ownBlock = none ∨ vr'.ownBlock ≠ vd'.ownBlock) : LBox w w1 w' vl vr' vd' l h' where
  res := by
    have h1 := b.w1
    have h2 := b.size
    rw [c.block _ (by omega) (by omega) (fun e => by have := (b.ready.lt _ e).1; omega) (fun e => by have := (b.done.lt _ e).1; omega)]; exact b.res
  row := row
  log := by
    refine (b.log.mono c.mem).block fun k hk => ?_
    have h1 := b.lt k hk
    have h2 := b.size
    exact c.block k (by omega) (by omega) (fun e => by have := (b.ready.lt _ e).1; omega) (fun e => by have := (b.done.lt _ e).1; omega)
  ready := ready
  done := done
  grow := hG
  size := Nat.le_trans b.size c.size
  lt := b.lt
  w1 := b.w1
  disj := disj
theorem LBox.later {w w1 wr w' : World} {vl vr vd : Value} {l : List Rc} {h : Hs} (b : LBox w w1 wr vl vr vd l h) (hg : Grow wr w') : LBox w w1 w' vl vr vd l h :=
  have c : Chg w1 wr w' vr vd vr vd := ⟨hg.size, fun k hk _ _ _ => hg.block k hk, .inl rfl, .inl rfl⟩
  b.put c (b.grow.trans hg) (row_grow b.row hg) ((b.ready.mono c.mem).grow hg) (b.done.kept (grownBy_of_grow hg none) (by cases vd.ownBlock <;> simp)) b.disj
theorem row_set5' {w : World} {B : Nat} {a b c d e f g : Value} {t : TypeId} (h : w.heap[B]? = some (.cells #[a, b, c, d, e, f, g] t (0, 0))) (u : Value) : (w.setCell ⟨B, 5, none⟩ u).heap[B]? = some (.cells #[a, b, c, d, e, u, g] t (0, 0)) := by
  simp only [World.setCell, Array.getElem?_modify, h]; simp
theorem row_set6' {w : World} {B : Nat} {a b c d e f g : Value} {t : TypeId} (h : w.heap[B]? = some (.cells #[a, b, c, d, e, f, g] t (0, 0))) (u : Value) : (w.setCell ⟨B, 6, none⟩ u).heap[B]? = some (.cells #[a, b, c, d, e, f, u] t (0, 0)) := by
  simp only [World.setCell, Array.getElem?_modify, h]; simp
theorem row_set1234 {w : World} {B : Nat} {a b c d e f g : Value} {t : TypeId} (h : w.heap[B]? = some (.cells #[a, b, c, d, e, f, g] t (0, 0))) (u1 u2 u3 u4 : Value) :
    ((((w.setCell ⟨B, 1, none⟩ u1).setCell ⟨B, 2, none⟩ u2).setCell ⟨B, 3, none⟩ u3).setCell ⟨B, 4, none⟩ u4).heap[B]? = some (.cells #[a, u1, u2, u3, u4, f, g] t (0, 0)) := by
  simp only [World.setCell, Array.getElem?_modify, h]; simp
/-- something is ready -/
theorem LBox.appR {w w1 wr wq w' : World} {vl vr vd : Value} {l : List Rc} {h : Hs} {x : Rd} {a' : Option Addr} {n c' : Nat} (b : LBox w w1 wr vl vr vd l h) (hG : Grow wr wq)
    (ho : OwnC Ty.rd (hmem w w1 wq vl vr vd) w' (w1.heap.size + 1) 45 (.slice a' n c') (h.ready ++ [x])) (hg : wq.grownBy w' vr.ownBlock) (hb : (Value.slice a' n c').ownBlock = vr.ownBlock ∨ ∃ g, (Value.slice a' n c').ownBlock = some g ∧ wq.heap.size ≤ g) :
    LBox w w1 (w'.setCell ⟨w1.heap.size, 5, none⟩ (.slice a' n c')) vl (.slice a' n c') vd l { h with ready := h.ready ++ [x] } ∧ Chg w1 wr (w'.setCell ⟨w1.heap.size, 5, none⟩ (.slice a' n c')) vr vd (.slice a' n c') vd := by
  have bq := b.later hG
  have hs := hG.size
  have hs1 := b.size
  have hw1 := b.w1
  have hlt := bq.ready.lt
  have hdl := bq.done.lt
  have hB : ∀ k, k ≠ w1.heap.size → (w'.setCell ⟨w1.heap.size, 5, none⟩ (.slice a' n c')).heap[k]? = w'.heap[k]? := fun k hk => Below.heap_setCell _ _ _ _ (fun e => hk e)
  have c1 : Chg w1 wq (w'.setCell ⟨w1.heap.size, 5, none⟩ (.slice a' n c')) vr vd (.slice a' n c') vd := ⟨by simpa using hg.size, fun k hk h1 h2 _ => by rw [hB k h1, hg.block k hk (fun e => h2 e.symm)], hb, .inl rfl⟩
  have hGw : Grow w (w'.setCell ⟨w1.heap.size, 5, none⟩ (.slice a' n c')) := (bq.grow.grown hg (fun k hk => by have := (hlt k hk).1; omega)).setCell (by simp; omega) _
  have hdj : ∀ k, vd.ownBlock = some k → vr.ownBlock ≠ some k := fun k hk e => by
    rcases b.disj with d | d
    · rw [d] at e; cases e
    · exact d (e.trans hk.symm)
  refine ⟨bq.put c1 hGw (row_set5' (row_by bq.row hg (fun e => by have := (hlt _ e.symm).1; omega)) _) ((ho.mono c1.mem).block fun k hk => ?_) (owns_block bq.done fun k hk => ?_) ?_, ?_⟩
  · exact hB k (by have := (ho.lt k hk).1; omega)
  · have := hdl k hk
    rw [hB k (by omega), hg.block k this.2 (fun e => hdj k hk e.symm)]
  · rcases hb with e | ⟨g, e, hge⟩
    · rw [e]; exact b.disj
    · right; rw [e]; intro e'
      have := hdl g e'.symm; omega
  · exact ⟨Nat.le_trans hs c1.size, fun k hk h1 h2 h3 => (c1.block k (by omega) h1 h2 h3).trans (hG.block k hk), by
      rcases hb with e | ⟨g, e, hge⟩
      · exact .inl e
      · exact .inr ⟨g, e, by omega⟩, .inl rfl⟩
/-- something is done -/
theorem LBox.appD {w w1 wr wq w' : World} {vl vr vd : Value} {l : List Rc} {h : Hs} {x : Int} {a' : Option Addr} {n c' : Nat} (b : LBox w w1 wr vl vr vd l h) (hG : Grow wr wq)
    (ho : w'.ownsRow (w1.heap.size + 1) 3 1 (.slice a' n c') (h.done ++ [x]).length ((h.done ++ [x]).flatMap intCell)) (hg : wq.grownBy w' vd.ownBlock) (hb : (Value.slice a' n c').ownBlock = vd.ownBlock ∨ ∃ g, (Value.slice a' n c').ownBlock = some g ∧ wq.heap.size ≤ g) :
    LBox w w1 (w'.setCell ⟨w1.heap.size, 6, none⟩ (.slice a' n c')) vl vr (.slice a' n c') l { h with done := h.done ++ [x] } ∧ Chg w1 wr (w'.setCell ⟨w1.heap.size, 6, none⟩ (.slice a' n c')) vr vd vr (.slice a' n c') := by
  have bq := b.later hG
  have hs := hG.size
  have hs1 := b.size
  have hw1 := b.w1
  have hlt := bq.ready.lt
  have hdl := bq.done.lt
  have hB : ∀ k, k ≠ w1.heap.size → (w'.setCell ⟨w1.heap.size, 6, none⟩ (.slice a' n c')).heap[k]? = w'.heap[k]? := fun k hk => Below.heap_setCell _ _ _ _ (fun e => hk e)
  have c1 : Chg w1 wq (w'.setCell ⟨w1.heap.size, 6, none⟩ (.slice a' n c')) vr vd vr (.slice a' n c') := ⟨by simpa using hg.size, fun k hk h1 _ h2 => by rw [hB k h1, hg.block k hk (fun e => h2 e.symm)], .inl rfl, hb⟩
  have hGw : Grow w (w'.setCell ⟨w1.heap.size, 6, none⟩ (.slice a' n c')) := (bq.grow.grown hg (fun k hk => by have := (hdl k hk).1; omega)).setCell (by simp; omega) _
  have hdj : ∀ k, vr.ownBlock = some k → vd.ownBlock ≠ some k := fun k hk e => by
    rcases b.disj with d | d
    · rw [d] at hk; cases hk
    · exact d (hk.trans e.symm)
  refine ⟨bq.put c1 hGw (row_set6' (row_by bq.row hg (fun e => by have := (hdl _ e.symm).1; omega)) _) ((bq.ready.mono c1.mem).block fun k hk => ?_) (owns_block ho fun k hk => ?_) ?_, ?_⟩
  · have := hlt k hk
    rw [hB k (by omega), hg.block k this.2 (fun e => hdj k hk e.symm)]
  · exact hB k (by have := (ho.lt k hk).1; omega)
  · cases e0 : vr.ownBlock with
    | none => exact .inl rfl
    | some q =>
      right
      rcases hb with e | ⟨g, e, hge⟩
      · rw [e]; intro e'; exact hdj q e0 e'.symm
      · rw [e]; intro e'; have := hlt q e0; simp at e'; omega
  · exact ⟨Nat.le_trans hs c1.size, fun k hk h1 h2 h3 => (c1.block k (by omega) h1 h2 h3).trans (hG.block k hk), .inl rfl, by
      rcases hb with e | ⟨g, e, hge⟩
      · exact .inl e
      · exact .inr ⟨g, e, by omega⟩⟩
/-- sums change -/
theorem LBox.sum {w w1 wr wq : World} {vl vr vd : Value} {l : List Rc} {h : Hs} {s : Sm} (b : LBox w w1 wr vl vr vd l h) (hG : Grow wr wq) :
    LBox w w1 ((((wq.setCell ⟨w1.heap.size, 1, none⟩ (.int .i64 s.a)).setCell ⟨w1.heap.size, 2, none⟩ (.int .i64 s.b)).setCell ⟨w1.heap.size, 3, none⟩ (.int .i64 s.c)).setCell ⟨w1.heap.size, 4, none⟩ (.int .i64 s.d)) vl vr vd l { h with sums := s } ∧
    Chg w1 wr ((((wq.setCell ⟨w1.heap.size, 1, none⟩ (.int .i64 s.a)).setCell ⟨w1.heap.size, 2, none⟩ (.int .i64 s.b)).setCell ⟨w1.heap.size, 3, none⟩ (.int .i64 s.c)).setCell ⟨w1.heap.size, 4, none⟩ (.int .i64 s.d)) vr vd vr vd := by
  have bq := b.later hG
  have hs := hG.size
  have hs1 := b.size
  have hw1 := b.w1
  have hB : ∀ k, k ≠ w1.heap.size → ((((wq.setCell ⟨w1.heap.size, 1, none⟩ (.int .i64 s.a)).setCell ⟨w1.heap.size, 2, none⟩ (.int .i64 s.b)).setCell ⟨w1.heap.size, 3, none⟩ (.int .i64 s.c)).setCell ⟨w1.heap.size, 4, none⟩ (.int .i64 s.d)).heap[k]? = wq.heap[k]? := fun k hk => by
    rw [Below.heap_setCell _ _ _ _ (fun e => hk e), Below.heap_setCell _ _ _ _ (fun e => hk e), Below.heap_setCell _ _ _ _ (fun e => hk e), Below.heap_setCell _ _ _ _ (fun e => hk e)]
  have c1 : Chg w1 wq ((((wq.setCell ⟨w1.heap.size, 1, none⟩ (.int .i64 s.a)).setCell ⟨w1.heap.size, 2, none⟩ (.int .i64 s.b)).setCell ⟨w1.heap.size, 3, none⟩ (.int .i64 s.c)).setCell ⟨w1.heap.size, 4, none⟩ (.int .i64 s.d)) vr vd vr vd := ⟨by simp, fun k hk h1 _ _ => hB k h1, .inl rfl, .inl rfl⟩
  have hGw : Grow w ((((wq.setCell ⟨w1.heap.size, 1, none⟩ (.int .i64 s.a)).setCell ⟨w1.heap.size, 2, none⟩ (.int .i64 s.b)).setCell ⟨w1.heap.size, 3, none⟩ (.int .i64 s.c)).setCell ⟨w1.heap.size, 4, none⟩ (.int .i64 s.d)) := (((bq.grow.setCell (by simp; omega) _).setCell (by simp; omega) _).setCell (by simp; omega) _).setCell (by simp; omega) _
  refine ⟨bq.put c1 hGw (row_set1234 bq.row _ _ _ _) ((bq.ready.mono c1.mem).block fun k hk => hB k (by have := (bq.ready.lt k hk).1; omega)) (owns_block bq.done fun k hk => hB k (by have := (bq.done.lt k hk).1; omega)) b.disj, ?_⟩
  exact ⟨Nat.le_trans hs c1.size, fun k hk h1 h2 h3 => (c1.block k (by omega) h1 h2 h3).trans (hG.block k hk), .inl rfl, .inl rfl⟩
/-- something is ready no more -/
theorem LBox.delR {w w1 wr wq w' : World} {vl vd : Value} {l : List Rc} {h : Hs} {g cap i : Nat} (b : LBox w w1 wr vl (.slice (some ⟨g, 0, none⟩) h.ready.length cap) vd l h) (hG : Grow wr wq) (hi : i < h.ready.length)
    {css : List (List Value)} (k2 : css.length = h.ready.length) (k3 : ∀ (i : Nat) (cs : List Value) (x : Rd), css[i]? = some cs → h.ready[i]? = some x → Ty.rd.R (hmem w w1 wq vl (.slice (some ⟨g, 0, none⟩) h.ready.length cap) vd) cs x)
    (hnew : w'.ownsRow (w1.heap.size + 1) 45 2 (.slice (some ⟨g, 0, none⟩) (h.ready.length - 1) cap) (h.ready.length - 1) (css.flatten.take (i * 2) ++ css.flatten.drop ((i + 1) * 2))) (hg : wq.grownBy w' (some g)) :
    LBox w w1 (w'.setCell ⟨w1.heap.size, 5, none⟩ (.slice (some ⟨g, 0, none⟩) (h.ready.length - 1) cap)) vl (.slice (some ⟨g, 0, none⟩) (h.ready.length - 1) cap) vd l { h with ready := h.ready.eraseIdx i } ∧
    Chg w1 wr (w'.setCell ⟨w1.heap.size, 5, none⟩ (.slice (some ⟨g, 0, none⟩) (h.ready.length - 1) cap)) (.slice (some ⟨g, 0, none⟩) h.ready.length cap) vd (.slice (some ⟨g, 0, none⟩) (h.ready.length - 1) cap) vd := by
  have bq := b.later hG
  have hsz := hG.size
  have hs1 := b.size
  have hw1 := b.w1
  have hlt := bq.ready.lt g rfl
  have hdl := bq.done.lt
  have hB : ∀ k, k ≠ w1.heap.size → (w'.setCell ⟨w1.heap.size, 5, none⟩ (.slice (some ⟨g, 0, none⟩) (h.ready.length - 1) cap)).heap[k]? = w'.heap[k]? := fun k hk => Below.heap_setCell _ _ _ _ (fun e => hk e)
  have c1 : Chg w1 wq (w'.setCell ⟨w1.heap.size, 5, none⟩ (.slice (some ⟨g, 0, none⟩) (h.ready.length - 1) cap)) (.slice (some ⟨g, 0, none⟩) h.ready.length cap) vd (.slice (some ⟨g, 0, none⟩) (h.ready.length - 1) cap) vd := ⟨by simpa using hg.size, fun k hk h1 h2 _ => by rw [hB k h1, hg.block k hk (fun e => h2 e.symm)], .inl rfl, .inl rfl⟩
  have hGw : Grow w (w'.setCell ⟨w1.heap.size, 5, none⟩ (.slice (some ⟨g, 0, none⟩) (h.ready.length - 1) cap)) := (bq.grow.grown hg (fun k hk => by simp at hk; omega)).setCell (by simp; omega) _
  have hdj : ∀ k, vd.ownBlock = some k → g ≠ k := fun k hk e => by
    rcases b.disj with d | d
    · cases d
    · exact d (by rw [hk, ← e]; rfl)
  have hcl := css_len k2 k3
  refine ⟨bq.put c1 hGw (row_set5' (row_by bq.row hg (by simp; omega)) _) ⟨css.eraseIdx i, ?_, ?_, ?_⟩ (owns_block bq.done fun k hk => ?_) (.inr fun e => hdj g e.symm rfl), ?_⟩
  · have e : (css.eraseIdx i).flatten = css.flatten.take (i * 2) ++ css.flatten.drop ((i + 1) * 2) := by
      rw [flatten_take (size := 2) css i hcl, flatten_drop (size := 2) css (i + 1) hcl, List.eraseIdx_eq_take_drop_succ, List.flatten_append]
    rw [e]
    have e2 : (h.ready.eraseIdx i).length = h.ready.length - 1 := List.length_eraseIdx_of_lt hi
    rw [e2]
    refine owns_block hnew fun k hk => hB k ?_
    have : g = k := by simpa [Value.ownBlock] using hk
    omega
  · simp only [List.length_eraseIdx_of_lt hi, List.length_eraseIdx_of_lt (by omega : i < css.length)]; omega
  · intro j cs x a e
    rw [List.getElem?_eraseIdx] at a e
    by_cases hj : j < i
    · rw [if_pos hj] at a e
      exact Ty.rd.mono c1.mem (k3 j cs x a e)
    · rw [if_neg hj] at a e
      exact Ty.rd.mono c1.mem (k3 (j + 1) cs x a e)
  · have := hdl k hk
    rw [hB k (by omega), hg.block k this.2 (fun e => hdj k hk (Option.some.inj e).symm)]
  · exact ⟨Nat.le_trans hsz c1.size, fun k hk h1 h2 h3 => (c1.block k (by omega) h1 h2 h3).trans (hG.block k hk), .inl rfl, .inl rfl⟩
end Go.Proofs.Ytgbhpghgohggcaa

/- Walks: log.House of the program. -/
namespace Go.Proofs.Ytgbhpghgohggcaa
open Go.RowKit
theorem cells3 {w : World} {B : Nat} {a b c : Value} {t : TypeId} (h : w.heap[B]? = some (.cells #[a, b, c] t (0, 0))) : w.cell? ⟨B, 0, none⟩ = some a ∧ w.cell? ⟨B, 1, none⟩ = some b ∧ w.cell? ⟨B, 2, none⟩ = some c := by
  refine ⟨?_, ?_, ?_⟩ <;> simp [World.cell?, h]
theorem ints_back {c : CM} {w : World} {base e : Nat} {v : Value} {l : List Int} (h : OwnC Ty.int c w base e v l) : w.ownsRow base e 1 v l.length (l.flatMap intCell) := by
  obtain ⟨css, h1, h2, h3⟩ := h
  have : css.flatten = l.flatMap intCell := by
    rw [List.flatMap_def]
    congr 1
    apply List.ext_getElem?
    intro i
    rw [List.getElem?_map]
    by_cases hi : i < l.length
    · have e1 : css[i]? = some css[i] := List.getElem?_eq_getElem (by omega)
      have e2 : l[i]? = some l[i] := List.getElem?_eq_getElem hi
      rw [e1, e2]
      simp only [Option.map_some, Option.some.injEq]
      exact (h3 i _ _ e1 e2).1
    · rw [List.getElem?_eq_none (by omega), List.getElem?_eq_none (by omega)]; rfl
  rw [← this]; exact h1
theorem hok_step {h : Hs} {n : Nat} (k : HOk h n) {r : Rc} (hd : I64 r.deed) (hr : KeysOk r.parts) : HOk (refStep h r) (n + 1) := by
  have h1 := k.ready
  have h2 := k.done
  cases hf : h.ready.find? (isD r.deed) with
  | none =>
    rw [step_out hf]
    split
    · exact ⟨by simp; omega, by show h.done.length ≤ _; omega, fun x hx => by
        rcases List.mem_append.1 hx with hx | hx
        · exact k.keys x hx
        · rw [List.mem_singleton.1 hx]; exact hr, k.sums, k.ints⟩
    · exact ⟨by omega, by omega, k.keys, k.sums, k.ints⟩
  | some x =>
    rw [step_in hf]
    have hle : (h.ready.eraseP (isD r.deed)).length ≤ h.ready.length := List.eraseP_sublist.length_le
    split
    · exact ⟨by show (h.ready.eraseP _).length ≤ _; omega, by simp; omega, fun y hy => k.keys y (List.eraseP_sublist.subset hy), k.sums.doP _, fun y hy => by
        rcases List.mem_append.1 hy with hy | hy
        · exact k.ints y hy
        · rw [List.mem_singleton.1 hy]; exact hd⟩
    · split
      · exact ⟨by show (h.ready.eraseP _).length ≤ _; omega, by show h.done.length ≤ _; omega, fun y hy => k.keys y (List.eraseP_sublist.subset hy), k.sums, k.ints⟩
      · exact ⟨by omega, by omega, k.keys, k.sums, k.ints⟩
set_option maxRecDepth 100000 in
set_option maxHeartbeats 4000000 in
theorem wlog_house {v : Value} {l : List Rc} (w : World) (hv : Rcs w.cell? v l) (hk : ∀ r ∈ l, KeysOk r.parts) (hm : l.length * 40 ≤ 140737488351232) (hp : ∀ r ∈ l, r.parts.length * 24 ≤ 140737488355328) :
    Calls Try.prog 36 #[v] w fun e w' => ∃ v', e = .returned v' ∧ Of Ty.hs (ov (fun _ => none) w w') v' (houseR l) ∧ Grow w w' := by
  have HOWN := Lib.hid (log_own (w.alloc (.cells zrow 29)) (hv.mono ((Grow.refl w).alloc _).sub) (by omega) hp)
  have HK := Lib.hid hk
  have HM := Lib.hid hm
  have HP := Lib.hid hp
  obtain ⟨al0, cl0, rfl, -⟩ := hv
  have hlm : l.length ≤ 3518437208883 := by omega
  clear hk hm hp
  go_enter Try.func36, Try.ntmps36
  go_wp2_with fail
  refine HOWN.out.mono ?_
  rintro e w1 ⟨vl, rfl, hown, hb1⟩
  obtain ⟨al, cl, rfl⟩ := hown.form
  have HOW := Lib.hid hown
  have HB1 := Lib.hid hb1
  have z1 : w.heap.size + 1 ≤ w1.heap.size := by have := hb1.size; simpa using this
  clear hown hb1
  go_wp2
  go_loopw [13] (fun i wr => ∃ (k : Nat) (h : Hs) (vr vd : Value), k ≤ l.length ∧ i = .int .i64 k ∧ (l.take k).foldl refStep ⟨l, ⟨0, 0, 0, 0⟩, [], []⟩ = h ∧ LBox w w1 wr (.slice al l.length cl) vr vd l h ∧ HOk h k) (fun i _ => l.length - (intOf i).toNat)
  case atStart =>
    refine ⟨0, ⟨l, ⟨0, 0, 0, 0⟩, [], []⟩, .slice none 0 0, .slice none 0 0, by omega, rfl, rfl, ?_, ⟨by simp, by simp, by simp, ⟨zero_ok, zero_ok, zero_ok, zero_ok⟩, by simp⟩⟩
    have hl := HOW.out.lt
    refine ⟨row_grow (row_new w _) (HB1.out.alloc _), row_new _ _, ?_, OwnC.nil _ _ _ _ _, World.ownsRow_nil _ _ _ _, ((Grow.refl w).alloc _).trans (HB1.out.alloc _), by simp, fun k hk => (hl k hk).2, z1, .inl rfl⟩
    have hs0 : (w.alloc (.cells zrow 29)).heap.size = w.heap.size + 1 := by simp
    have h2 := HOW.out
    rw [hs0] at h2
    refine (h2.mono fun a u e => ?_).grow ((Grow.refl _).alloc _)
    unfold fr at e
    split at e
    · cases e
    · rename_i hn
      have hlt := World.block_lt_of_cell? w1 a e
      rw [hs0] at hn
      unfold hmem
      rw [fr_new (by omega)]
      · exact ((Grow.refl w1).alloc _).sub _ _ e
      · simp only [List.mem_cons, List.not_mem_nil, or_false, not_or]
        refine ⟨fun e => hn (.inr (by simp [e])), by simp [Value.ownBlock], by simp [Value.ownBlock], fun e => ?_, fun e => ?_⟩
        · have := Option.some.inj e; exact hn (.inl (by omega))
        · have := Option.some.inj e; omega
  case round =>
    obtain ⟨k, h, vr, vd, hk', rfl, hfold, hbox, hok⟩ := hrel
    obtain ⟨ar, cr, rfl⟩ := hbox.ready.form
    obtain ⟨ad, cd, rfl⟩ := owns_form hbox.done
    have HFD := Lib.hid hfold
    have HBX := Lib.hid hbox
    have HOK0 := Lib.hid hok
    have z3 := hbox.size
    have z4 : w1.heap.size < wr.heap.size := by omega
    by_cases hlt : k < l.length
    · obtain ⟨gl, cs, rfl, ⟨vp, rfl, i0, i1, hP⟩, hA⟩ := hbox.log.get (by decide) k hlt
      have hP' := hP.mono (fr_sub _ _ _)
      obtain ⟨ap, cp, rfl, -⟩ := id hP'
      have c0 := hA 0 _ rfl
      have c1 := hA 1 _ rfl
      have c2 := hA 2 _ rfl
      simp only [Nat.add_zero, Ty.rc] at c0 c1 c2
      have htk : (l.take (k + 1)).foldl refStep ⟨l, ⟨0, 0, 0, 0⟩, [], []⟩ = refStep h l[k] := by rw [List.take_succ_eq_append_getElem hlt, List.foldl_append, HFD.out]; rfl
      have HTK := Lib.hid htk
      have hkk := HK.out l[k] (List.getElem_mem _)
      have hpl := HP.out l[k] (List.getElem_mem _)
      have HCL := Lib.hid (fun (W : World) (hW : Grow wr W) => clone_pt W (hP'.mono hW.sub) hpl)
      have HI := Lib.hid (And.intro i0 (And.intro i1 (Pts.ok (c := wr.cell?) hP')))
      have HRDY := Lib.hid (fun (W : World) (hW : Grow wr W) => log_ready (d := l[k].deed) W ((hbox.ready.sl (by decide) (fr_sub _ _ _)).mono hW.sub))
      have HOK1 := Lib.hid (hok_step hok i1 hkk)
      have HRL : Hid (h.ready.length < 3518437208883) := Lib.hid (by have := hok.ready; have := HM.out; omega)
      have HDL : Hid (h.done.length < 3518437208883) := Lib.hid (by have := hok.done; have := HM.out; omega)
      have HINT := Lib.hid hok.ints
      have HKEYS := Lib.hid hok.keys
      have HLT : Hid (∀ q, (Value.slice ar h.ready.length cr).ownBlock = some q → q < wr.heap.size) := fun q hq => (hbox.ready.lt q hq).2
      have HLD : Hid (∀ q, (Value.slice ad h.done.length cd).ownBlock = some q → q < wr.heap.size) := fun q hq => (hbox.done.lt q hq).2
      have HSZ := Lib.hid z3
      clear hfold hok htk hkk hpl hP hP' hA i0 i1 hbox
      generalize l[k] = r at *
      obtain ⟨s0, s1, s2, s3, s4, s5, s6⟩ := cells7 HBX.out.row
      go_wp2_with fail
      refine (HRDY.out _ ((Grow.refl _).alloc _)).mono ?_
      rintro e w2 ⟨rfl, hb2⟩
      have HG2 : Hid (Grow wr w2) := Lib.hid (((Grow.refl wr).alloc _).trans hb2)
      have HB2 := Lib.hid (HBX.out.later HG2.out)
      have HR5 := Lib.hid (row_grow (row_new wr (.cells #[.int .i64 r.kind, .int .i64 r.deed, .slice ap r.parts.length cp] 48)) hb2)
      clear hb2 s0 s1 s2 s3 s4 s5 s6 c0 c1 c2
      obtain ⟨s0, s1, s2, s3, s4, s5, s6⟩ := cells7 HB2.out.row
      obtain ⟨q0, q1, q2⟩ := cells3 HR5.out
      have s9 : w1.heap.size < w2.heap.size := (Array.getElem?_eq_some_iff.1 HB2.out.row).1
      have q9 : wr.heap.size < w2.heap.size := (Array.getElem?_eq_some_iff.1 HR5.out).1
      cases hix : h.ready.findIdx? (isD r.deed) with
      | none =>
        have hid : idxOf (isD r.deed) h.ready = -1 := by unfold idxOf; rw [hix]
        have hst := step_idx_none hix
        rw [hid]
        clear hix hid
        by_cases k1 : r.kind = 1
        · have b1 : (r.kind == 1) = true := by simp [k1]
          rw [if_pos k1] at hst
          have HFO := Lib.hid (HTK.out.trans hst)
          have HOK := Lib.hid (hst ▸ HOK1.out)
          clear hst k1
          have l3 : w1.heap.size < w2.heap.size := by have := HB2.out.size; omega
          have l5 : wr.heap.size < w2.heap.size := (Array.getElem?_eq_some_iff.1 HR5.out).1
          have n3 : (Value.slice ar h.ready.length cr).ownBlock ≠ some w1.heap.size := fun e => by have := (HB2.out.ready.lt _ e).1; omega
          have n5 : (Value.slice ar h.ready.length cr).ownBlock ≠ some wr.heap.size := fun e => by have := HLT.out _ e; omega
          have HS : Hid (∀ W, w2.grownBy W (Value.slice ar h.ready.length cr).ownBlock → W.cell? ⟨w1.heap.size, 5, none⟩ = some (.slice ar h.ready.length cr) ∧ W.cell? ⟨wr.heap.size, 1, none⟩ = some (.int .i64 r.deed) ∧ W.cell? ⟨wr.heap.size, 2, none⟩ = some (.slice ap r.parts.length cp)) := fun W hW => ⟨by rw [World.cell?_of_block (hW.block w1.heap.size l3 (fun e => n3 e.symm))]; exact s5, by rw [World.cell?_of_block (hW.block wr.heap.size l5 (fun e => n5 e.symm))]; exact q1, by rw [World.cell?_of_block (hW.block wr.heap.size l5 (fun e => n5 e.symm))]; exact q2⟩
          go_wp2
          clear s0 s1 s2 s3 s4 s5 s6 q0 q1 q2
          refine but_start (fun w' => w'.cell? ⟨w1.heap.size, 5, none⟩ = some (.slice ar h.ready.length cr) ∧ w'.cell? ⟨wr.heap.size, 1, none⟩ = some (.int .i64 r.deed) ∧ w'.cell? ⟨wr.heap.size, 2, none⟩ = some (.slice ap r.parts.length cp)) 11 (by kernel_rfl) ?_
          obtain ⟨wd, hWd⟩ : ∃ x : World, x = w2.drew := ⟨_, rfl⟩
          rw [← hWd]
          have GD : Grow w2 wd := by rw [hWd]; exact (Grow.refl _).drew
          have zD : w2.heap.size = wd.heap.size := by rw [hWd]; rfl
          have ZD := Lib.hid zD
          clear hWd zD
          refine but_take (i := 0) (v := ?_) 8 rfl (by kernel_rfl) (by kernel_rfl) (by kernel_rfl) (by kernel_rfl) (by kernel_rfl) (fun _ _ _ h => h) (HS.out _ (grownBy_of_grow GD _)) (Or.inl ⟨by rfl, ?_⟩) ?_
          rotate_left
          · (intro w' hSw; (try dsimp only at hSw); obtain ⟨hs0, hs1, hs2⟩ := hSw; go_simp <;> with_reducible rfl)
          try simp only [Act.put, List.getElem_toArray, List.getElem_cons_zero, List.setIfInBounds_toArray, List.set_cons_zero, List.set_cons_succ]
          refine but_take (i := 1) (v := ?_) 8 rfl (by kernel_rfl) (by kernel_rfl) (by kernel_rfl) (by kernel_rfl) (by kernel_rfl) (fun _ _ _ h => h) (HS.out _ (grownBy_of_grow GD _)) (Or.inl ⟨by rfl, ?_⟩) ?_
          rotate_left
          · (intro w' hSw; (try dsimp only at hSw); obtain ⟨hs0, hs1, hs2⟩ := hSw; go_simp <;> with_reducible rfl)
          try simp only [Act.put, List.getElem_toArray, List.getElem_cons_succ, List.getElem_cons_zero, List.setIfInBounds_toArray, List.set_cons_zero, List.set_cons_succ]
          refine but_take (i := 2) (v := ?_) 8 rfl (by kernel_rfl) (by kernel_rfl) (by kernel_rfl) (by kernel_rfl) (by kernel_rfl) (fun _ _ _ h => h) (HS.out _ (grownBy_of_grow GD _)) (Or.inl ⟨by rfl, ?_⟩) ?_
          rotate_left
          · (intro w' hSw; (try dsimp only at hSw); obtain ⟨hs0, hs1, hs2⟩ := hSw; go_simp <;> with_reducible rfl)
          try simp only [Act.put, List.getElem_toArray, List.getElem_cons_succ, List.getElem_cons_zero, List.setIfInBounds_toArray, List.set_cons_zero, List.set_cons_succ]
          refine but_take (i := 3) (v := ?_) 8 rfl (by kernel_rfl) (by kernel_rfl) (by kernel_rfl) (by kernel_rfl) (by kernel_rfl) (fun _ _ _ h => h) (HS.out _ (grownBy_of_grow GD _)) (Or.inl ⟨by rfl, ?_⟩) ?_
          rotate_left
          · (intro w' hSw; (try dsimp only at hSw); obtain ⟨hs0, hs1, hs2⟩ := hSw; go_simp <;> with_reducible rfl)
          try simp only [Act.put, List.getElem_toArray, List.getElem_cons_succ, List.getElem_cons_zero, List.setIfInBounds_toArray, List.set_cons_zero, List.set_cons_succ]
          refine but_take (i := 4) (v := ?_) 8 rfl (by kernel_rfl) (by kernel_rfl) (by kernel_rfl) (by kernel_rfl) (by kernel_rfl) (fun _ _ _ h => h) (HS.out _ (grownBy_of_grow GD _)) (Or.inl ⟨by rfl, ?_⟩) ?_
          rotate_left
          · (intro w' hSw; (try dsimp only at hSw); obtain ⟨hs0, hs1, hs2⟩ := hSw; go_simp <;> with_reducible rfl)
          try simp only [Act.put, List.getElem_toArray, List.getElem_cons_succ, List.getElem_cons_zero, List.setIfInBounds_toArray, List.set_cons_zero, List.set_cons_succ]
          refine but_take (i := 5) (v := ?_) 8 rfl (by kernel_rfl) (by kernel_rfl) (by kernel_rfl) (by kernel_rfl) (by kernel_rfl) (fun _ _ _ h => h) (HS.out _ (grownBy_of_grow GD _)) (Or.inl ⟨by rfl, ?_⟩) ?_
          rotate_left
          · (intro w' hSw; (try dsimp only at hSw); obtain ⟨hs0, hs1, hs2⟩ := hSw; go_simp <;> with_reducible rfl)
          try simp only [Act.put, List.getElem_toArray, List.getElem_cons_succ, List.getElem_cons_zero, List.setIfInBounds_toArray, List.set_cons_zero, List.set_cons_succ]
          refine but_one (i := 6) (by kernel_rfl) rfl ?_
          intro K HK'
          have HK := Lib.hid HK'
          clear HK'
          skip
          try simp only [List.getElem_toArray, List.getElem_cons_succ, List.getElem_cons_zero]
          go_simp
          go_at_call 122
          refine (HCL.out _ (HG2.out.trans GD)).mono ?_
          rintro e w3 ⟨v3, rfl, ho3, hb3⟩
          obtain ⟨a3, c3, rfl⟩ := owns_form ho3
          have HO3 := Lib.hid ho3
          have G3 := GD.trans hb3
          clear ho3 hb3
          refine HK.out _ _ ⟨fun _ => HS.out _ (grownBy_of_grow G3 _), ?_⟩
          clear HK K
          try simp only [Act.put, List.getElem_toArray, List.getElem_cons_succ, List.getElem_cons_zero, List.setIfInBounds_toArray, List.set_cons_zero, List.set_cons_succ]
          refine but_one (i := 7) (by kernel_rfl) rfl ?_
          intro K HK'
          have HK := Lib.hid HK'
          clear HK'
          skip
          try simp only [List.getElem_toArray, List.getElem_cons_succ, List.getElem_cons_zero]
          go_simp
          refine HK.out _ _ ⟨fun _ => HS.out _ (grownBy_of_grow G3 _), ?_⟩
          clear HK K
          try simp only [Act.put, List.getElem_toArray, List.getElem_cons_succ, List.getElem_cons_zero, List.setIfInBounds_toArray, List.set_cons_zero, List.set_cons_succ]
          refine but_one (i := 8) (by kernel_rfl) rfl ?_
          intro K HK'
          have HK := Lib.hid HK'
          clear HK'
          skip
          try simp only [List.getElem_toArray, List.getElem_cons_succ, List.getElem_cons_zero]
          go_simp
          refine HK.out _ _ ⟨fun _ => HS.out _ (grownBy_of_grow (G3.alloc _) _), ?_⟩
          clear HK K
          try simp only [Act.put, List.getElem_toArray, List.getElem_cons_succ, List.getElem_cons_zero, List.setIfInBounds_toArray, List.set_cons_zero, List.set_cons_succ]
          refine but_one (i := 9) (by kernel_rfl) rfl ?_
          intro K HK'
          have HK := Lib.hid HK'
          clear HK'
          refine wanted_go rfl ?_
          try simp only [List.getElem_toArray, List.getElem_cons_succ, List.getElem_cons_zero]
          have bA := HB2.out.later (w' := (w3.alloc (.cells #[.int .i64 r.deed, .slice a3 r.parts.length c3] 45))) (G3.alloc _)
          have hR9 : Ty.rd.R (hmem w w1 (w3.alloc (.cells #[.int .i64 r.deed, .slice a3 r.parts.length c3] 45)) (.slice (some ⟨gl, 0, none⟩) l.length cl) (.slice ar h.ready.length cr) (.slice ad h.done.length cd)) (#[.int .i64 r.deed, .slice a3 r.parts.length c3] : Array Value).toList ⟨r.deed, r.parts⟩ := by
            refine ⟨_, rfl, HI.out.2.1, pts_fr (w1 := wd) ((HO3.out).kept (grownBy_of_grow ((Grow.refl _).alloc _) none) (by cases (Value.slice a3 r.parts.length c3).ownBlock <;> simp)) HI.out.2.2 (by have := HB2.out.grow.size; have := GD.size; omega) fun q hq => ?_⟩
            have z1 := HB2.out.ready.lt
            have z2 := HB2.out.log.lt
            have z3 := HB2.out.done.lt
            have z4 := HB2.out.size
            have z5 := HB2.out.w1
            have z6 := GD.size
            simp only [List.mem_cons, List.not_mem_nil, or_false, not_or]
            exact ⟨fun e => by have := (z2 q e.symm).2; omega, fun e => by have := (z1 q e.symm).2; omega, fun e => by have := (z3 q e.symm).2; omega, fun e => by have := Option.some.inj e; omega, fun e => by have := Option.some.inj e; omega⟩
          have HR9 := Lib.hid hR9
          have HBA := Lib.hid bA
          clear hR9 bA
          refine wp_appc (c := (hmem w w1 (w3.alloc (.cells #[.int .i64 r.deed, .slice a3 r.parts.length c3] 45)) (.slice (some ⟨gl, 0, none⟩) l.length cl) (.slice ar h.ready.length cr) (.slice ad h.done.length cd))) (base := w1.heap.size + 1) (l := h.ready) (m := [⟨r.deed, r.parts⟩]) ei_rd rfl one_Trd (by decide) (.tmp 31) (.tmp 38) rfl rfl HBA.out.ready rfl (Src.of_new (T := Ty.rd) (cs := #[.int .i64 r.deed, .slice a3 r.parts.length c3]) HR9.out _ _ rfl) (by have := HRL.out; simp; omega) HBA.out.size ?_
          intro a9 c9 w9 ho9 hg9 hb9
          have HO9 := Lib.hid ho9
          have HG9 := Lib.hid hg9
          have HB9 := Lib.hid hb9
          have GB9 := Lib.hid (grownBy_trans (grownBy_of_grow (G3.alloc _) _) hg9)
          obtain ⟨t5, -, -⟩ := HS.out _ GB9.out
          have tf : ∀ o, w9.frozen? ⟨w1.heap.size, o, none⟩ = false := row_free (row_by HBA.out.row hg9 (fun e => n3 e.symm))
          have t9 : w1.heap.size < w9.heap.size := World.block_lt_of_cell? w9 _ t5
          clear ho9 hg9 hb9
          refine HK.out _ _ ⟨fun _ => HS.out _ GB9.out, ?_⟩
          clear HK K
          try simp only [Act.put, List.setIfInBounds_toArray, List.set_cons_zero, List.set_cons_succ]
          refine but_one (i := 10) (by kernel_rfl) rfl ?_
          intro K HK'
          have HK := Lib.hid HK'
          clear HK'
          skip
          try simp only [List.getElem_toArray, List.getElem_cons_succ, List.getElem_cons_zero]
          go_simp
          refine HK.out _ _ ⟨fun _ => HS.out _ GB9.out, ?_⟩
          clear HK K
          try simp only [Act.put, List.getElem_toArray, List.getElem_cons_succ, List.getElem_cons_zero, List.setIfInBounds_toArray, List.set_cons_zero, List.set_cons_succ]
          refine but_one (i := 11) (by kernel_rfl) rfl ?_
          intro K HK'
          have HK := Lib.hid HK'
          clear HK'
          skip
          try simp only [List.getElem_toArray, List.getElem_cons_succ, List.getElem_cons_zero]
          go_simp
          refine HK.out _ _ ⟨fun h => absurd rfl h, ?_⟩
          clear HK K
          try simp only [Act.put, List.getElem_toArray, List.getElem_cons_succ, List.getElem_cons_zero, List.setIfInBounds_toArray, List.set_cons_zero, List.set_cons_succ]
          refine but_done (by kernel_rfl) ?_
          have HX := LBox.appR HB2.out (G3.alloc _) HO9.out HG9.out (HB9.out.imp_right fun ⟨g, e, hge⟩ => ⟨g, e, by simpa using hge⟩)
          go_wp2
          go_roundw
          case rel => exact ⟨k + 1, _, _, _, by omega, by go_num, HFO.out, HX.1, HOK.out⟩
          case measure => simp [intOf]; omega
        · rw [if_neg k1] at hst
          have HFO := Lib.hid (HTK.out.trans hst)
          have HOK := Lib.hid (hst ▸ HOK1.out)
          have b1 : (r.kind == 1) = false := by simp [k1]
          clear hst
          by_cases k2 : r.kind = 2
          · have b2 : (r.kind == 2) = true := by simp [k2]
            have b3 : (r.kind == 3) = false := by simp [k2]
            clear k1 k2
            go_wp2
            go_roundw
            case rel => exact ⟨k + 1, _, _, _, by omega, by go_num, HFO.out, HB2.out, HOK.out⟩
            case measure => simp [intOf]; omega
          · have b2 : (r.kind == 2) = false := by simp [k2]
            by_cases k3 : r.kind = 3
            · have b3 : (r.kind == 3) = true := by simp [k3]
              clear k1 k2 k3
              go_wp2
              go_roundw
              case rel => exact ⟨k + 1, _, _, _, by omega, by go_num, HFO.out, HB2.out, HOK.out⟩
              case measure => simp [intOf]; omega
            · have b3 : (r.kind == 3) = false := by simp [k3]
              clear k1 k2 k3
              go_wp2
              go_roundw
              case rel => exact ⟨k + 1, _, _, _, by omega, by go_num, HFO.out, HB2.out, HOK.out⟩
              case measure => simp [intOf]; omega
      | some i =>
        have hid : idxOf (isD r.deed) h.ready = (i : Int) := by unfold idxOf; rw [hix]
        obtain ⟨hi, hst⟩ := step_idx_some hix
        rw [hid]
        clear hix hid
        obtain ⟨gr, csx, rfl, ⟨vx, rfl, -, hX⟩, hAx⟩ := HB2.out.ready.get (by decide) i hi
        have hX' := hX.mono (fr_sub _ _ _)
        obtain ⟨ax, cx, rfl, -⟩ := id hX'
        have x1 := hAx 1 _ rfl
        simp only [Ty.rd] at x1
        have HDO := Lib.hid (fun (W : World) (hW : Grow w2 W) => part_do (s := h.sums) W (hX'.mono hW.sub) (HKEYS.out _ (List.getElem_mem hi)))
        have HII := Lib.hid hi
        have hib : i < 3518437208883 := by have := HRL.out; omega
        have gr9 : gr < w2.heap.size := World.block_lt_of_cell? w2 _ x1
        clear hX hX' hAx
        by_cases k2 : r.kind = 2
        · have b1 : (r.kind == 1) = false := by simp [k2]
          have b2 : (r.kind == 2) = true := by simp [k2]
          rw [if_pos k2] at hst
          have HFO := Lib.hid (HTK.out.trans hst)
          have HOK := Lib.hid (hst ▸ HOK1.out)
          clear hst k2
          generalize h.ready[i] = x at *
          have HS : Hid (∀ W, Grow w2 W → W.cell? ⟨w1.heap.size, 1, none⟩ = some (.int .i64 h.sums.a) ∧ W.cell? ⟨w1.heap.size, 2, none⟩ = some (.int .i64 h.sums.b) ∧ W.cell? ⟨w1.heap.size, 3, none⟩ = some (.int .i64 h.sums.c) ∧ W.cell? ⟨w1.heap.size, 4, none⟩ = some (.int .i64 h.sums.d) ∧ W.cell? ⟨w1.heap.size, 5, none⟩ = some (.slice (some ⟨gr, 0, none⟩) h.ready.length cr) ∧ W.cell? ⟨gr, i * 2 + 1, none⟩ = some (.slice ax x.parts.length cx)) := fun W hW => ⟨hW.sub _ _ s1, hW.sub _ _ s2, hW.sub _ _ s3, hW.sub _ _ s4, hW.sub _ _ s5, hW.sub _ _ x1⟩
          go_wp2
          clear s0 s1 s2 s3 s4 s5 s6 q0 q1 q2
          refine but_start (fun w' => w'.cell? ⟨w1.heap.size, 1, none⟩ = some (.int .i64 h.sums.a) ∧ w'.cell? ⟨w1.heap.size, 2, none⟩ = some (.int .i64 h.sums.b) ∧ w'.cell? ⟨w1.heap.size, 3, none⟩ = some (.int .i64 h.sums.c) ∧ w'.cell? ⟨w1.heap.size, 4, none⟩ = some (.int .i64 h.sums.d) ∧ w'.cell? ⟨w1.heap.size, 5, none⟩ = some (.slice (some ⟨gr, 0, none⟩) h.ready.length cr) ∧ w'.cell? ⟨gr, i * 2 + 1, none⟩ = some (.slice ax x.parts.length cx)) 10 (by kernel_rfl) ?_
          obtain ⟨wd, hWd⟩ : ∃ x : World, x = w2.drew := ⟨_, rfl⟩
          rw [← hWd]
          have GD : Grow w2 wd := by rw [hWd]; exact (Grow.refl _).drew
          have zD : w2.heap.size = wd.heap.size := by rw [hWd]; rfl
          have ZD := Lib.hid zD
          clear hWd zD
          refine but_take (i := 0) (v := ?_) 8 rfl (by kernel_rfl) (by kernel_rfl) (by kernel_rfl) (by kernel_rfl) (by kernel_rfl) (fun _ _ _ h => h) (HS.out _ GD) (Or.inl ⟨by rfl, ?_⟩) ?_
          rotate_left
          · (intro w' hSw; (try dsimp only at hSw); obtain ⟨hs0, hs1, hs2, hs3, hs4, hs5⟩ := hSw; go_simp <;> with_reducible rfl)
          try simp only [Act.put, List.getElem_toArray, List.getElem_cons_zero, List.setIfInBounds_toArray, List.set_cons_zero, List.set_cons_succ]
          refine but_take (i := 1) (v := ?_) 8 rfl (by kernel_rfl) (by kernel_rfl) (by kernel_rfl) (by kernel_rfl) (by kernel_rfl) (fun _ _ _ h => h) (HS.out _ GD) (Or.inl ⟨by rfl, ?_⟩) ?_
          rotate_left
          · (intro w' hSw; (try dsimp only at hSw); obtain ⟨hs0, hs1, hs2, hs3, hs4, hs5⟩ := hSw; go_simp <;> with_reducible rfl)
          try simp only [Act.put, List.getElem_toArray, List.getElem_cons_succ, List.getElem_cons_zero, List.setIfInBounds_toArray, List.set_cons_zero, List.set_cons_succ]
          refine but_take (i := 2) (v := ?_) 8 rfl (by kernel_rfl) (by kernel_rfl) (by kernel_rfl) (by kernel_rfl) (by kernel_rfl) (fun _ _ _ h => h) (HS.out _ GD) (Or.inl ⟨by rfl, ?_⟩) ?_
          rotate_left
          · (intro w' hSw; (try dsimp only at hSw); obtain ⟨hs0, hs1, hs2, hs3, hs4, hs5⟩ := hSw; go_simp <;> with_reducible rfl)
          try simp only [Act.put, List.getElem_toArray, List.getElem_cons_succ, List.getElem_cons_zero, List.setIfInBounds_toArray, List.set_cons_zero, List.set_cons_succ]
          refine but_take (i := 3) (v := ?_) 8 rfl (by kernel_rfl) (by kernel_rfl) (by kernel_rfl) (by kernel_rfl) (by kernel_rfl) (fun _ _ _ h => h) (HS.out _ GD) (Or.inl ⟨by rfl, ?_⟩) ?_
          rotate_left
          · (intro w' hSw; (try dsimp only at hSw); obtain ⟨hs0, hs1, hs2, hs3, hs4, hs5⟩ := hSw; go_simp <;> with_reducible rfl)
          try simp only [Act.put, List.getElem_toArray, List.getElem_cons_succ, List.getElem_cons_zero, List.setIfInBounds_toArray, List.set_cons_zero, List.set_cons_succ]
          refine but_take (i := 4) (v := ?_) 8 rfl (by kernel_rfl) (by kernel_rfl) (by kernel_rfl) (by kernel_rfl) (by kernel_rfl) (fun _ _ _ h => h) (HS.out _ GD) (Or.inl ⟨by rfl, ?_⟩) ?_
          rotate_left
          · (intro w' hSw; (try dsimp only at hSw); obtain ⟨hs0, hs1, hs2, hs3, hs4, hs5⟩ := hSw; go_simp <;> with_reducible rfl)
          try simp only [Act.put, List.getElem_toArray, List.getElem_cons_succ, List.getElem_cons_zero, List.setIfInBounds_toArray, List.set_cons_zero, List.set_cons_succ]
          refine but_take (i := 5) (v := ?_) 8 rfl (by kernel_rfl) (by kernel_rfl) (by kernel_rfl) (by kernel_rfl) (by kernel_rfl) (fun _ _ _ h => h) (HS.out _ GD) (Or.inl ⟨by rfl, ?_⟩) ?_
          rotate_left
          · (intro w' hSw; (try dsimp only at hSw); obtain ⟨hs0, hs1, hs2, hs3, hs4, hs5⟩ := hSw; go_simp <;> with_reducible rfl)
          try simp only [Act.put, List.getElem_toArray, List.getElem_cons_succ, List.getElem_cons_zero, List.setIfInBounds_toArray, List.set_cons_zero, List.set_cons_succ]
          refine but_take (i := 6) (v := ?_) 8 rfl (by kernel_rfl) (by kernel_rfl) (by kernel_rfl) (by kernel_rfl) (by kernel_rfl) (fun _ _ _ h => h) (HS.out _ GD) (Or.inl ⟨by rfl, ?_⟩) ?_
          rotate_left
          · (intro w' hSw; (try dsimp only at hSw); obtain ⟨hs0, hs1, hs2, hs3, hs4, hs5⟩ := hSw; go_simp <;> with_reducible rfl)
          try simp only [Act.put, List.getElem_toArray, List.getElem_cons_succ, List.getElem_cons_zero, List.setIfInBounds_toArray, List.set_cons_zero, List.set_cons_succ]
          refine but_take (i := 7) (v := ?_) 8 rfl (by kernel_rfl) (by kernel_rfl) (by kernel_rfl) (by kernel_rfl) (by kernel_rfl) (fun _ _ _ h => h) (HS.out _ GD) (Or.inl ⟨by rfl, ?_⟩) ?_
          rotate_left
          · (intro w' hSw; (try dsimp only at hSw); obtain ⟨hs0, hs1, hs2, hs3, hs4, hs5⟩ := hSw; go_simp <;> with_reducible rfl)
          try simp only [Act.put, List.getElem_toArray, List.getElem_cons_succ, List.getElem_cons_zero, List.setIfInBounds_toArray, List.set_cons_zero, List.set_cons_succ]
          refine but_one (i := 8) (by kernel_rfl) rfl ?_
          intro K HK'
          have HK := Lib.hid HK'
          clear HK'
          skip
          try simp only [List.getElem_toArray, List.getElem_cons_succ, List.getElem_cons_zero]
          go_simp
          go_at_call 88
          refine (HDO.out _ GD).mono ?_
          rintro e w3 ⟨rfl, hb3⟩
          have G3 := GD.trans hb3
          clear hb3
          obtain ⟨u1, u2, u3, u4, -, -⟩ := HS.out _ G3
          have uf : ∀ o, w3.frozen? ⟨w1.heap.size, o, none⟩ = false := row_free (row_grow HB2.out.row G3)
          have u9 : w1.heap.size < w3.heap.size := World.block_lt_of_cell? w3 _ u1
          refine HK.out _ _ ⟨fun _ => HS.out _ G3, ?_⟩
          clear HK K
          try simp only [Act.put, List.getElem_toArray, List.getElem_cons_succ, List.getElem_cons_zero, List.setIfInBounds_toArray, List.set_cons_zero, List.set_cons_succ]
          refine but_one (i := 9) (by kernel_rfl) rfl ?_
          intro K HK'
          have HK := Lib.hid HK'
          clear HK'
          skip
          try simp only [List.getElem_toArray, List.getElem_cons_succ, List.getElem_cons_zero]
          go_simp
          refine HK.out _ _ ⟨fun _ => HS.out _ G3, ?_⟩
          clear HK K
          try simp only [Act.put, List.getElem_toArray, List.getElem_cons_succ, List.getElem_cons_zero, List.setIfInBounds_toArray, List.set_cons_zero, List.set_cons_succ]
          refine but_one (i := 10) (by kernel_rfl) rfl ?_
          intro K HK'
          have HK := Lib.hid HK'
          clear HK'
          skip
          try simp only [List.getElem_toArray, List.getElem_cons_succ, List.getElem_cons_zero]
          go_simp
          refine HK.out _ _ ⟨fun h => absurd rfl h, ?_⟩
          clear HK K
          try simp only [Act.put, List.getElem_toArray, List.getElem_cons_succ, List.getElem_cons_zero, List.setIfInBounds_toArray, List.set_cons_zero, List.set_cons_succ]
          refine but_done (by kernel_rfl) ?_
          obtain ⟨bs, cs4⟩ := LBox.sum (s := doP h.sums x.parts) HB2.out G3
          have r5 : ((((w3.setCell ⟨w1.heap.size, 1, none⟩ (.int .i64 (doP h.sums x.parts).a)).setCell ⟨w1.heap.size, 2, none⟩ (.int .i64 (doP h.sums x.parts).b)).setCell ⟨w1.heap.size, 3, none⟩ (.int .i64 (doP h.sums x.parts).c)).setCell ⟨w1.heap.size, 4, none⟩ (.int .i64 (doP h.sums x.parts).d)).heap[wr.heap.size]? = some (.cells #[.int .i64 r.kind, .int .i64 r.deed, .slice ap r.parts.length cp] 48 (0, 0)) := by rw [cs4.block _ (Array.getElem?_eq_some_iff.1 HR5.out).1 (by have := HB2.out.size; have := HSZ.out; omega) (fun e => by have := HLT.out _ e; omega) (fun e => by have := HLD.out _ e; omega)]; exact HR5.out
          clear u1 u2 u3 u4 uf u9
          generalize ((((w3.setCell ⟨w1.heap.size, 1, none⟩ (.int .i64 (doP h.sums x.parts).a)).setCell ⟨w1.heap.size, 2, none⟩ (.int .i64 (doP h.sums x.parts).b)).setCell ⟨w1.heap.size, 3, none⟩ (.int .i64 (doP h.sums x.parts).c)).setCell ⟨w1.heap.size, 4, none⟩ (.int .i64 (doP h.sums x.parts).d)) = w4 at *
          have HB4 := Lib.hid bs
          have HR54 := Lib.hid r5
          clear bs cs4 r5
          obtain ⟨s0, s1, s2, s3, s4, s5, s6⟩ := cells7 HB4.out.row
          have sf := row_free HB4.out.row
          have s9 : w1.heap.size < w4.heap.size := (Array.getElem?_eq_some_iff.1 HB4.out.row).1
          obtain ⟨q0, q1, q2⟩ := cells3 HR54.out
          have q9 : wr.heap.size < w4.heap.size := (Array.getElem?_eq_some_iff.1 HR54.out).1
          dsimp only at s0 s1 s2 s3 s4 s5 s6
          go_wp2_with (first | (at_builtin; refine wpList_appc (c := fun _ => none) (base := w1.heap.size + 1) (l := h.done) (m := [r.deed]) ei_int rfl one_Tint (by decide) rfl (.tmp 60) (.tmp 63) rfl rfl ?own rfl (Src.of_new (T := Ty.int) (cs := #[.int .i64 r.deed]) ⟨rfl, HI.out.2.1⟩ _ _ ?d1) ?d2 ?d3 ?_))
          case own => exact (OwnC.ints HB4.out.done HINT.out).grow ((Grow.refl _).alloc _)
          case d1 => rfl
          case d2 => have := HDL.out; simp; omega
          case d3 => have := HB4.out.size; simp; omega
          intro a5 c5 w5 ho5 hg5 hb5
          obtain ⟨bd, cd5⟩ := LBox.appD (x := r.deed) HB4.out ((Grow.refl w4).alloc (.cells #[.int .i64 r.deed] 3)) (ints_back ho5) hg5 (hb5.imp_right fun ⟨g, e, hge⟩ => ⟨g, e, by simpa using hge⟩)
          have HBD := Lib.hid bd
          have HCD := Lib.hid cd5
          have t6 : w5.heap[w1.heap.size]? = _ := row_by (row_grow HB4.out.row ((Grow.refl w4).alloc (.cells #[.int .i64 r.deed] 3))) hg5 (fun e => by have := (HB4.out.done.lt _ e.symm).1; omega)
          clear bd cd5 s0 s1 s2 s3 s4 s5 s6 sf q0 q1 q2
          obtain ⟨s0, s1, s2, s3, s4, s5, s6⟩ := cells7 t6
          have sf := row_free t6
          have s8 : w1.heap.size < w5.heap.size := (Array.getElem?_eq_some_iff.1 t6).1
          dsimp only at s0 s1 s2 s3 s4 s5 s6
          clear t6 ho5 hg5 hb5
          go_wp2_with fail
          generalize w5.setCell ⟨w1.heap.size, 6, none⟩ (.slice a5 (h.done.length + 1) c5) = w6 at *
          obtain ⟨css, k1, k2, k3⟩ := HBD.out.ready
          have h1c : ∀ u ∈ css.flatten, u.oneCell' = true := by
            intro u hu
            obtain ⟨cs, hcs, huc⟩ := List.mem_flatten.1 hu
            obtain ⟨j, hj, rfl⟩ := List.mem_iff_getElem.1 hcs
            exact one_Trd _ _ _ (k3 j css[j] _ (by simp) (List.getElem?_eq_getElem (by omega))) u huc
          have HK1 := Lib.hid k1
          have HK2 := Lib.hid k2
          have HK3 := Lib.hid k3
          have H1C := Lib.hid h1c
          clear k1 k2 k3 h1c
          refine (delete_rd (i := i) HK1.out HII.out H1C.out).mono ?_
          rintro e w7 ⟨rfl, ho7, hg7⟩
          have t7 := row_by HBD.out.row hg7 (fun e => by have := (HBD.out.ready.lt gr rfl).1; have := Option.some.inj e; omega)
          obtain ⟨u0, u1, u2, u3, u4, u5, u6⟩ := cells7 t7
          have uf := row_free t7
          have u9 : w1.heap.size < w7.heap.size := (Array.getElem?_eq_some_iff.1 t7).1
          have HX := Lib.hid (LBox.delR (h := { h with sums := doP h.sums x.parts, done := h.done ++ [r.deed] }) HBD.out (Grow.refl _) HII.out HK2.out HK3.out ho7 hg7)
          clear t7 ho7 hg7
          go_wp2
          go_roundw
          case rel => exact ⟨k + 1, _, _, _, by omega, by go_num, HFO.out, HX.out.1, HOK.out⟩
          case measure => simp [intOf]; omega
        · have b2 : (r.kind == 2) = false := by simp [k2]
          rw [if_neg k2] at hst
          by_cases k3 : r.kind = 3
          · have b1 : (r.kind == 1) = false := by simp [k3]
            have b3 : (r.kind == 3) = true := by simp [k3]
            rw [if_pos k3] at hst
            have HFO := Lib.hid (HTK.out.trans hst)
            have HOK := Lib.hid (hst ▸ HOK1.out)
            clear hst k2 k3
            go_wp2_with fail
            obtain ⟨css, k1, k2, k3⟩ := HB2.out.ready
            have h1c : ∀ u ∈ css.flatten, u.oneCell' = true := by
              intro u hu
              obtain ⟨cs, hcs, huc⟩ := List.mem_flatten.1 hu
              obtain ⟨j, hj, rfl⟩ := List.mem_iff_getElem.1 hcs
              exact one_Trd _ _ _ (k3 j css[j] _ (by simp) (List.getElem?_eq_getElem (by omega))) u huc
            have HK1 := Lib.hid k1
            have HK2 := Lib.hid k2
            have HK3 := Lib.hid k3
            have H1C := Lib.hid h1c
            clear k1 k2 k3 h1c
            refine (delete_rd (i := i) HK1.out HII.out H1C.out).mono ?_
            rintro e w7 ⟨rfl, ho7, hg7⟩
            have t7 := row_by HB2.out.row hg7 (fun e => by have := (HB2.out.ready.lt gr rfl).1; have := Option.some.inj e; omega)
            obtain ⟨u0, u1, u2, u3, u4, u5, u6⟩ := cells7 t7
            have uf := row_free t7
            have u9 : w1.heap.size < w7.heap.size := (Array.getElem?_eq_some_iff.1 t7).1
            have HX := Lib.hid (LBox.delR HB2.out (Grow.refl _) HII.out HK2.out HK3.out ho7 hg7)
            clear t7 ho7 hg7
            go_wp2
            go_roundw
            case rel => exact ⟨k + 1, _, _, _, by omega, by go_num, HFO.out, HX.out.1, HOK.out⟩
            case measure => simp [intOf]; omega
          · have b3 : (r.kind == 3) = false := by simp [k3]
            rw [if_neg k3] at hst
            have HFO := Lib.hid (HTK.out.trans hst)
            have HOK := Lib.hid (hst ▸ HOK1.out)
            by_cases k1 : r.kind = 1
            · have b1 : (r.kind == 1) = true := by simp [k1]
              clear hst k1 k2 k3
              go_wp2
              go_roundw
              case rel => exact ⟨k + 1, _, _, _, by omega, by go_num, HFO.out, HB2.out, HOK.out⟩
              case measure => simp [intOf]; omega
            · have b1 : (r.kind == 1) = false := by simp [k1]
              clear hst k1 k2 k3
              go_wp2
              go_roundw
              case rel => exact ⟨k + 1, _, _, _, by omega, by go_num, HFO.out, HB2.out, HOK.out⟩
              case measure => simp [intOf]; omega
    · have HH : Hid (h = houseR l) := by show h = _; rw [← HFD.out, List.take_of_length_le (by omega)]; rfl
      obtain ⟨s0, s1, s2, s3, s4, s5, s6⟩ := cells7 hbox.row
      clear hfold hok hbox
      go_wp2_with (first | (refine wpList_store_row rfl (.tmp 2) (.tmp 89) rfl rfl rfl HBX.out.res info_hs rfl rfl ?_))
      intro wf r2 g2
      obtain ⟨p0, p1, p2, p3, p4, p5, p6⟩ := cells7 r2
      have pf := row_free r2
      clear s0 s1 s2 s3 s4 s5 s6
      go_wp2
      refine bodyPost_ret (v := .agg #[.slice al l.length cl, .int .i64 h.sums.a, .int .i64 h.sums.b, .int .i64 h.sums.c, .int .i64 h.sums.d, .slice ar h.ready.length cr, .slice ad h.done.length cd]) (by simp [results, Try.results36, go_sem, p0, p1, p2, p3, p4, p5, p6]) rfl ?_
      have hlog : h.log = l := by rw [HH.out]; exact log_house l
      have sub : Sub (hmem w w1 wr (.slice al l.length cl) (.slice ar h.ready.length cr) (.slice ad h.done.length cd)) (ov (fun _ => none) w wf) := fun a u e => by
        unfold hmem fr at e
        split at e
        · cases e
        · rename_i hn
          have hne : a.block ≠ w.heap.size := fun e => hn (.inr (by simp [e]))
          rw [ov_new (by omega), by_cell g2 (World.block_lt_of_cell? wr a e) hne]
          exact e
      have hb : ∀ k, w.heap.size + 1 ≤ k → k < wr.heap.size → wf.heap[k]? = wr.heap[k]? := fun k h1 h2 => g2.block k h2 (by simp; omega)
      have hw1 := HBX.out.w1
      have e1 := ((HBX.out.log.mono sub).block fun k hk => hb k (HBX.out.log.lt k hk).1 (HBX.out.log.lt k hk).2).slc (by decide) (Sub.refl _) fun a ha => ov_new (by omega)
      have e2 := ((HBX.out.ready.mono sub).block fun k hk => hb k (by have := (HBX.out.ready.lt k hk).1; omega) (HBX.out.ready.lt k hk).2).slc (by decide) (Sub.refl _) fun a ha => ov_new (by omega)
      have e3 := (OwnC.ints (c := ov (fun _ => none) w wf) (owns_block HBX.out.done fun k hk => hb k (by have := (HBX.out.done.lt k hk).1; omega) (HBX.out.done.lt k hk).2) HOK0.out.ints).slc (by decide) (Sub.refl _) fun a ha => ov_new (by omega)
      have hs := HOK0.out.sums
      rw [← HH.out]
      refine ⟨_, rfl, ⟨_, rfl, _, _, _, rfl, ?_, hs.1, hs.2.1, hs.2.2.1, hs.2.2.2, e2, e3⟩, HBX.out.grow.grown g2 (fun k hk => by simp at hk; omega)⟩
      rw [hlog]; exact e1
end Go.Proofs.Ytgbhpghgohggcaa

/- Walks: Houses of the program's parts. -/
namespace Go.Proofs.Ytgbhpghgohggcaa
open Go.RowKit
theorem flat_ints (l : List Int) : l.flatMap intCell = l.map (Value.int .i64) := by
  induction l with
  | nil => rfl
  | cons x l ih => rw [List.flatMap_cons, ih]; rfl
/-- a row of numbers of the call's own, sorted -/
theorem own_sort {w : World} {base : Nat} {v : Value} {l : List Int} (h : w.ownsRow base 3 1 v l.length (l.flatMap intCell)) (hne : l ≠ []) (hs : l.length < 4611686018427387904) :
    ∃ g, v.ownBlock = some g ∧ base ≤ g ∧ Calls Try.prog 139 #[v] w fun e w' => e = .returned (.tuple #[]) ∧ w'.ownsRow base 3 1 v (l.mergeSort fun x y => decide (x ≤ y)).length ((l.mergeSort fun x y => decide (x ≤ y)).flatMap intCell) ∧ w.grownBy w' (some g) := by
  obtain ⟨hl, ⟨rfl, hn⟩ | ⟨g, cap, cur, rfl, hg, hrow, hnc, hcm, hcs, htake⟩⟩ := h
  · exact absurd (List.eq_nil_of_length_eq_zero hn) hne
  · have ht : cur.toList.take l.length = l.map (Value.int .i64) := by rw [← flat_ints, ← htake, Nat.mul_one]
    refine ⟨g, rfl, hg, (Try.slices_Sort_int g 0 cap l w (holds_of_blockI hrow ht) (Array.getElem?_eq_some_iff.1 hrow).1 hs).mono fun e w' ⟨he, n, os, hw⟩ => ⟨he, ?_, ?_⟩⟩
    · have e : (l.mergeSort fun x y => decide (x ≤ y)).length = l.length := List.length_mergeSort _
      rw [hw, flat_ints, e]
      exact ownsRow_sortedI e hg hrow hnc hcm hcs
    · rw [hw]
      exact grownBy_sortedI _
theorem dedup_snoc : ∀ (l : List Pt) (had : List Int) (p : Pt), dedupE had (l ++ [p]) = if p.h ∈ dedupE had l then dedupE had l else dedupE had l ++ [p.h]
  | [], had, p => rfl
  | q :: l, had, p => by rw [List.cons_append, dedupE, dedupE, dedup_snoc l]
theorem dedup_ok {l : List Pt} (h : ∀ p ∈ l, I64 p.h) : ∀ x ∈ dedupE [] l, I64 x := fun x hx => by
  rcases dedup_mem.1 hx with h0 | ⟨p, hp, rfl⟩
  · simp at h0
  · exact h p hp
theorem dedup_ne {l : List Pt} (h : l ≠ []) : dedupE [] l ≠ [] := by
  intro e
  cases l with
  | nil => exact h rfl
  | cons p l =>
    have : p.h ∈ dedupE [] (p :: l) := dedup_mem.2 (.inr ⟨p, List.mem_cons_self, rfl⟩)
    rw [e] at this
    simp at this
set_option maxRecDepth 100000 in
set_option maxHeartbeats 1000000 in
theorem part_houses {v : Value} {l : List Pt} (w : World) (hv : Pts w.cell? v l) (hm : l.length * 24 ≤ 140737488355328) (hne : l ≠ []) (hp : ∀ p ∈ l, 0 ≤ p.h ∧ p.h < 3) :
    Calls Try.prog 81 #[v] w fun e w' => ∃ v', e = .returned v' ∧ w'.ownsRow w.heap.size 3 1 v' (housesE l).length ((housesE l).flatMap intCell) ∧ Grow w w' := by
  have hok := Pts.ok hv
  have HOK := Lib.hid (fun k => dedup_ok (l := l.take k) fun p hp => (hok p (List.mem_of_mem_take hp)).1)
  have HNE := Lib.hid (dedup_ne hne)
  have HSO := Lib.hid (houses_sort hp)
  have HM := Lib.hid hm
  obtain ⟨a, cap, rfl, h1, h2, -, hel⟩ := hv
  unfold maxLen at h2
  clear hok hp hne hm
  go_enter Try.func81, Try.ntmps81
  go_wp2
  go_loopw [3, 8] (fun v i wr => ∃ k : Nat, k ≤ l.length ∧ i = .int .i64 k ∧ Grow w wr ∧ wr.ownsRow w.heap.size 3 1 v (dedupE [] (l.take k)).length ((dedupE [] (l.take k)).flatMap intCell)) (fun _ i _ => l.length - (intOf i).toNat)
  case atStart => exact ⟨0, by omega, rfl, Grow.refl _, World.ownsRow_nil _ _ _ _⟩
  case round =>
    obtain ⟨k, hk', rfl, hb, hown⟩ := hrel
    obtain ⟨a1, c1, rfl⟩ := owns_form hown
    by_cases hlt : k < l.length
    · obtain ⟨b, o, rfl, c0, d1, d2, -, -, -⟩ := Pts.at_ hel k hlt
      replace c0 := hb.sub _ _ c0
      replace d1 := hb.sub _ _ d1
      replace d2 := hb.sub _ _ d2
      have hD : dedupE [] (l.take (k + 1)) = if l[k].h ∈ dedupE [] (l.take k) then dedupE [] (l.take k) else dedupE [] (l.take k) ++ [l[k].h] := by
        rw [List.take_succ_eq_append_getElem hlt, dedup_snoc]
      have HD := Lib.hid hD
      have hle : (dedupE [] (l.take k)).length ≤ k := by have := dedup_len (l.take k) []; simp at this; omega
      have HIN := Lib.hid (fun (W : World) (hW : Grow wr W) => contains_int (n := l[k].h) W ((Ints.of_own hown (HOK.out k)).mono hW.sub))
      have HOW := Lib.hid hown
      have HB := Lib.hid hb
      clear hel hown hD hb
      generalize dedupE [] (l.take k) = acc at *
      generalize l[k] = p at *
      obtain ⟨ph, pk, pn⟩ := p
      simp only at c0 d1 d2
      go_wp2_with fail
      refine (HIN.out _ ((Grow.refl wr).alloc _)).mono ?_
      by_cases hin : ph ∈ acc
      · rw [decide_eq_true hin]
        rintro e w3 ⟨rfl, hb3⟩
        have HB3 := Lib.hid ((HB.out.alloc _).trans hb3)
        have HO3 := Lib.hid (owns_grow HOW.out (((Grow.refl wr).alloc _).trans hb3))
        have HI := Lib.hid hin
        clear hb3 hin
        go_wp2
        go_roundw
        case rel => exact ⟨k + 1, by omega, by go_num, HB3.out, by rw [HD.out, if_pos HI.out]; exact HO3.out⟩
        case measure => simp [intOf]; omega
      · rw [decide_eq_false hin]
        rintro e w3 ⟨rfl, hb3⟩
        have R3 := Lib.hid (row_grow (row_new wr (.cells #[.int .i64 ph, .int .i64 pk, .int .i64 pn] 32)) hb3)
        have HB3 := Lib.hid ((HB.out.alloc (.cells #[.int .i64 ph, .int .i64 pk, .int .i64 pn] 32)).trans hb3)
        have HO3 := Lib.hid (owns_grow HOW.out (((Grow.refl wr).alloc _).trans hb3))
        have HI := Lib.hid hin
        clear hb3 hin
        obtain ⟨q0, q1, q2⟩ := cells3 R3.out
        have zq : wr.heap.size < w3.heap.size := (Array.getElem?_eq_some_iff.1 R3.out).1
        go_wp2_with (at_builtin; refine app1 ei_int rfl _ _ rfl HB3.out rfl HO3.out rfl (by simp) rfl (by simp [Value.oneCell']) (by have := HM.out; omega) (by decide) ?_; intro v' w' hown' hb' _)
        go_roundw
        case rel => exact ⟨k + 1, by omega, by go_num, hb', by rw [HD.out, if_neg HI.out]; simpa [intCell] using hown'⟩
        case measure => simp [intOf]; omega
    · have hk2 : k = l.length := by omega
      rw [List.take_of_length_le (by omega)] at hown
      have hln : (dedupE [] l).length ≤ l.length := by have := dedup_len l []; simp at this; omega
      obtain ⟨g, hg1, hg2, hc⟩ := own_sort hown HNE.out (by have := HM.out; omega)
      rw [HSO.out] at hc
      have HC := Lib.hid hc
      have HB := Lib.hid hb
      clear hel hc hown hb
      go_wp2_with fail
      refine HC.out.mono ?_
      rintro e w3 ⟨rfl, hown3, hg3⟩
      have HO3 := Lib.hid hown3
      have HG3 : Hid (Grow w w3) := Lib.hid (HB.out.grown hg3 fun k hk => by obtain rfl := Option.some.inj hk; exact hg2)
      clear hown3 hg3
      go_wp2
      go_ret
      exact ⟨_, rfl, HO3.out, HG3.out⟩
end Go.Proofs.Ytgbhpghgohggcaa

/- Walks: model.Do. -/
namespace Go.Proofs.Ytgbhpghgohggcaa
open Go.RowKit
theorem getD_at {S : List Sm} {n : Nat} (h : n < S.length) : S.getD n ⟨0, 0, 0, 0⟩ = S[n] := by
  rw [List.getD_eq_getElem?_getD, List.getElem?_eq_getElem h]; rfl
set_option maxRecDepth 100000 in
set_option maxHeartbeats 4000000 in
theorem model_do {v vp : Value} {S : List Sm} {P : List Pt} (w : World) (hv : Sms w.cell? v S) (hp : Pts w.cell? vp P) (hw : wrongE P S.length = 0) (h1 : 1 ≤ S.length) (h3 : S.length ≤ 3) :
    Calls Try.prog 92 #[v, vp] w fun e w' => ∃ v', e = .returned (.tuple #[v', .int .i64 (doAllE S P).2]) ∧ Sms w'.cell? v' (doAllE S P).1 ∧ Grow w w' ∧ OwnC Ty.sm (fun _ => none) w' w.heap.size 25 v' (doAllE S P).1 := by
  have h0 := wrong_ok hw
  have HALL : Hid (doGo P S S (housesE P) = doAllE S P) := Lib.hid (doGo_all h1 h3 fun p hp => by have := h0.2.2.1 p hp; omega)
  have HIN : Hid (∀ n ∈ housesE P, 0 ≤ n ∧ n < S.length) := fun n hn => houses_lt hw hn
  have hne : P ≠ [] := by intro e; rw [e] at h0; simp at h0
  have HCL := Lib.hid (fun (W : World) (hW : Grow w W) => clone_sm W (hv.mono hW.sub) (by omega))
  have HPH := Lib.hid (fun (W : World) (hW : Grow w W) => part_houses W (hp.mono hW.sub) (by omega) hne (fun p hp => by have := h0.2.2.1 p hp; omega))
  have HPO := Lib.hid (fun (n : Int) (W : World) (hW : Grow w W) => part_of (n := n) W (hp.mono hW.sub) (by omega))
  have HKA := Lib.hid (fun (n : Int) => ofL_ok hw n)
  have HSO : Hid (∀ x ∈ S, SmOk x) := fun x hx => by
    obtain ⟨a, cap, rfl, -, -, -, hel⟩ := hv
    obtain ⟨i, hi⟩ := List.mem_iff_getElem?.1 hx
    obtain ⟨b, o, cs, -, hR, -⟩ := hel i x hi
    exact hR.2
  obtain ⟨ap, cp, rfl, -⟩ := hp
  obtain ⟨a, cap, rfl, h1', h2, -, hel⟩ := hv
  unfold maxLen at h2
  clear hw hne h0
  go_enter Try.func92, Try.ntmps92
  go_wp2_with fail
  refine (HCL.out _ (Grow.refl _)).mono ?_
  rintro e w1 ⟨v1, rfl, ho1, hb1⟩
  have HO1 : Hid (OwnC Ty.sm (fun _ => none) w1 w.heap.size 25 v1 S) := Lib.hid (OwnC.of_flat (T := Ty.sm) (f := Sm.cells) ho1 fun x hx => ⟨rfl, HSO.out x hx⟩)
  obtain ⟨a1, c1, rfl⟩ := HO1.out.form
  have HB1 := Lib.hid hb1
  have hmx : S.length ≤ c1 ∧ c1 ≤ 9223372036854775807 := by
    obtain ⟨a0, c0, he, h0, h01, -⟩ := HO1.out.sl (by decide) (fun a v e => by cases e)
    simp only [Value.slice.injEq] at he
    unfold maxLen at h01
    omega
  obtain ⟨g, cs0, rfl, -, -⟩ := HO1.out.get (by decide) 0 (by omega)
  have HGB := Lib.hid ((HO1.out.lt g rfl).1)
  clear hb1 ho1
  go_wp2_with fail
  refine (HPH.out _ HB1.out).mono ?_
  rintro e w2 ⟨v2, rfl, ho2, hb2⟩
  obtain ⟨a2, c2, rfl⟩ := owns_form ho2
  have HB2 := Lib.hid (HB1.out.trans hb2)
  have HI2 := (OwnC.ints (c := fun _ => none) ho2 (fun x hx => by have := HIN.out x hx; unfold I64; simp [Lit.wf, IntKind.min, IntKind.max, IntKind.signed, IntKind.bits]; omega)).slc (d := ov (fun _ => none) w1 w2) (by decide) (fun a v e => by cases e) (fun a h => ov_new h)
  have HS2 := Lib.hid (ov_sub (c := fun _ => none) (W := w1) (w := w2) (fun a v e => by cases e) hb2)
  have HNG : Hid (g < w1.heap.size) := Lib.hid (HO1.out.lt g rfl).2
  obtain ⟨a2', c2', he2, p1, p2, -, hel2⟩ := HI2
  obtain ⟨rfl, rfl⟩ : a2 = a2' ∧ c2 = c2' := by simpa using he2
  unfold maxLen at p2
  have HO2 := Lib.hid (HO1.out.grow hb2)
  clear ho2 hb2 he2
  generalize housesE P = ns at *
  go_wp2
  go_loopw [4, 5, 8, 9, 10, 16] (fun _ _ _ _ _ i wr => ∃ (k : Nat) (out : List Sm), k ≤ ns.length ∧ i = .int .i64 k ∧ Grow w wr ∧ Sub (ov (fun _ => none) w1 w2) wr.cell? ∧ out.length = S.length ∧ OwnC Ty.sm (fun _ => none) wr w.heap.size 25 (.slice (some ⟨g, 0, none⟩) S.length c1) out ∧ doGo P S S ns = doGo P S out (ns.drop k)) (fun _ _ _ _ _ i _ => ns.length - (intOf i).toNat)
  case atStart => exact ⟨0, S, by omega, rfl, HB2.out, HS2.out, rfl, HO2.out, rfl⟩
  case round =>
    obtain ⟨k, out, hk', rfl, hb, hsub, hlo, hown, hE⟩ := hrel
    by_cases hlt : k < ns.length
    · obtain ⟨b2, o2, rfl, e0, -⟩ := intAt hel2 k hlt
      replace e0 := hsub _ _ e0
      have hn := HIN.out ns[k] (List.getElem_mem hlt)
      rw [List.drop_eq_getElem_cons hlt, doGo] at hE
      generalize ns[k] = n at *
      obtain ⟨m, rfl⟩ : ∃ m : Nat, n = m := ⟨n.toNat, by omega⟩
      have hmS : m < S.length := by omega
      obtain ⟨b, o, rfl, q0, q1, q2, q3, i0, i1, i2, i3⟩ := smAt hel m hmS
      replace q0 := hb.sub _ _ q0
      replace q1 := hb.sub _ _ q1
      replace q2 := hb.sub _ _ q2
      replace q3 := hb.sub _ _ q3
      simp only [Int.toNat_natCast] at hE
      rw [getD_at hmS] at hE
      have HSK : Hid (SmOk (doP S[m] (ofL P m))) := Lib.hid (SmOk.doP ⟨i0, i1, i2, i3⟩ _)
      have hown2 := hown
      rw [← hlo] at hown2
      have HOW := Lib.hid hown2
      have HLO := Lib.hid hlo
      have HB := Lib.hid hb
      have HSB := Lib.hid hsub
      have HKO := Lib.hid (HKA.out (m : Int))
      have HMS := Lib.hid hmS
      clear hel hel2 hown hown2 i0 i1 i2 i3 hb hlo hn hsub
      generalize S[m] = s at *
      rw [show s.get = S4 s.a s.b s.c s.d from rfl] at hE
      by_cases hf : fitsE (S4 s.a s.b s.c s.d) (ofL P m) = 0
      · have HEN := Lib.hid (show doGo P S S ns = doGo P S (out.set m (doP s (ofL P m))) (ns.drop (k + 1)) by rw [hE, if_pos hf])
        have hbf : (fitsE (S4 s.a s.b s.c s.d) (ofL P m) != 0) = false := by simp [hf]
        clear hE hf
        go_wp2_with fail
        refine (HPO.out _ _ HB.out).mono ?_
        rintro e w3 ⟨v3, rfl, ho3, hb3⟩
        obtain ⟨a3, c3, rfl⟩ := ho3.form
        have HP3 := Lib.hid (ho3.sl (by decide) (fun a v e => by cases e))
        have HB3 := Lib.hid hb3
        replace q0 := hb3.sub _ _ q0
        replace q1 := hb3.sub _ _ q1
        replace q2 := hb3.sub _ _ q2
        replace q3 := hb3.sub _ _ q3
        clear ho3 hb3 e0
        go_wp2_with fail
        refine (part_fits (s0 := s.a) (s1 := s.b) (s2 := s.c) (s3 := s.d) _ HP3.out HKO.out).mono ?_
        rintro e w4 ⟨rfl, hb4⟩
        have HB4 := Lib.hid (HB3.out.trans hb4)
        have HP4 := Lib.hid (HP3.out.mono hb4.sub)
        replace q0 := hb4.sub _ _ q0
        replace q1 := hb4.sub _ _ q1
        replace q2 := hb4.sub _ _ q2
        replace q3 := hb4.sub _ _ q3
        clear hb4
        go_wp2_with fail
        refine (part_do (s := s) _ HP4.out HKO.out).mono ?_
        rintro e w5 ⟨rfl, hb5⟩
        have HB5 := Lib.hid (HB4.out.trans hb5)
        clear hb5 q0 q1 q2 q3
        have HOB := Lib.hid (HOW.out.grow HB5.out)
        go_wp2_with (first | (refine wpList_store_el (T := Ty.sm) (i := m) (x := doP s (ofL P m)) (cells := #[.int .i64 (doP s (ofL P m)).a, .int .i64 (doP s (ofL P m)).b, .int .i64 (doP s (ofL P m)).c, .int .i64 (doP s (ofL P m)).d]) rfl (.tmp 42) (.tmp 41) rfl rfl rfl ?hp HOB.out ?hi info_sm ⟨rfl, HSK.out.1, HSK.out.2.1, HSK.out.2.2.1, HSK.out.2.2.2⟩ rfl ?_))
        case hp => show _ = m * 4; omega
        case hi => rw [HLO.out]; exact HMS.out
        intro wz hoz hgz
        have HOZ : Hid (OwnC Ty.sm (fun _ => none) wz w.heap.size 25 (.slice (some ⟨g, 0, none⟩) S.length c1) (out.set m (doP s (ofL P m)))) := Lib.hid (by rw [← HLO.out]; exact hoz)
        have HGZ := Lib.hid (Grow.grown (HB.out.trans HB5.out) hgz (fun q hq => by obtain rfl := Option.some.inj hq; exact HGB.out))
        have HSZ : Hid (Sub (ov (fun _ => none) w1 w2) wz.cell?) := Lib.hid (fun a v e => by
          have e2 := (HSB.out.trans HB5.out.sub) a v e
          have hag : a.block ≠ g := by
            intro hag
            unfold ov at e
            rw [if_pos (by have := HNG.out; omega)] at e
            cases e
          rw [by_cell hgz (World.block_lt_of_cell? w5 a e2) hag]; exact e2)
        clear hoz hgz
        go_wp2
        go_roundw
        case rel => exact ⟨k + 1, _, by omega, by go_num, HGZ.out, HSZ.out, by rw [List.length_set]; exact HLO.out, HOZ.out, HEN.out⟩
        case measure => simp [intOf]; omega
      · have HER := Lib.hid (show doAllE S P = (S, fitsE (S4 s.a s.b s.c s.d) (ofL P m)) by
          rw [← HALL.out, hE, if_neg hf])
        have hbf : (fitsE (S4 s.a s.b s.c s.d) (ofL P m) != 0) = true := by simp [hf]
        clear hE hf
        go_wp2_with fail
        refine (HPO.out _ _ HB.out).mono ?_
        rintro e w3 ⟨v3, rfl, ho3, hb3⟩
        obtain ⟨a3, c3, rfl⟩ := ho3.form
        have HP3 := Lib.hid (ho3.sl (by decide) (fun a v e => by cases e))
        have HB3 := Lib.hid hb3
        replace q0 := hb3.sub _ _ q0
        replace q1 := hb3.sub _ _ q1
        replace q2 := hb3.sub _ _ q2
        replace q3 := hb3.sub _ _ q3
        clear ho3 hb3 e0
        go_wp2_with fail
        refine (part_fits (s0 := s.a) (s1 := s.b) (s2 := s.c) (s3 := s.d) _ HP3.out HKO.out).mono ?_
        rintro e w4 ⟨rfl, hb4⟩
        have HB4 := Lib.hid (HB.out.trans (HB3.out.trans hb4))
        clear hb4 q0 q1 q2 q3
        go_wp2_with fail
        refine (HCL.out _ HB4.out).mono ?_
        rintro e w5 ⟨v5, rfl, ho5, hb5⟩
        have HO5 : Hid (OwnC Ty.sm (fun _ => none) w5 w4.heap.size 25 v5 S) := Lib.hid (OwnC.of_flat (T := Ty.sm) (f := Sm.cells) ho5 fun x hx => ⟨rfl, HSO.out x hx⟩)
        have HB5 := Lib.hid (HB4.out.trans hb5)
        clear ho5 hb5
        obtain ⟨a5, c5, rfl⟩ := HO5.out.form
        go_wp2
        refine bodyPost_ret (v := .tuple #[.slice a5 S.length c5, .int .i64 (fitsE (S4 s.a s.b s.c s.d) (ofL P m))]) (by simp [results, Try.results92, go_sem]) rfl ?_
        exact ⟨_, by rw [HER.out], by rw [HER.out]; exact HO5.out.sl (by decide) (fun a v e => by cases e), HB5.out, by rw [HER.out]; exact HO5.out.base HB4.out.size⟩
    · have HR9 := Lib.hid (show doAllE S P = (out, 0) by
        rw [← HALL.out, hE, List.drop_of_length_le (by omega)]; rfl)
      have H10 := Lib.hid hown
      have H9 : Hid (Sms wr.cell? (.slice (some ⟨g, 0, none⟩) S.length c1) out) := Lib.hid (by
        have h8 := hown
        rw [← hlo] at h8
        have h9 := h8.sl (by decide) (fun a v e => by cases e)
        rw [hlo] at h9
        exact h9)
      clear hel hel2 hE hown
      go_wp2
      refine bodyPost_ret (v := .tuple #[.slice (some ⟨g, 0, none⟩) S.length c1, .int .i64 0]) (by simp [results, Try.results92, go_sem]) rfl ?_
      exact ⟨_, by rw [HR9.out], by rw [HR9.out]; exact H9.out, hb, by rw [HR9.out]; exact H10.out⟩
end Go.Proofs.Ytgbhpghgohggcaa

/- Walks: model.All; All of the document's answer. -/
namespace Go.Proofs.Ytgbhpghgohggcaa
open Go.RowKit
theorem all_snoc : ∀ (S : List Sm) (D : List Rd) (r : Rd), allE S (D ++ [r]) = ((doAllE (allE S D).1 r.parts).1, (allE S D).2 ++ [(doAllE (allE S D).1 r.parts).2])
  | S, [], r => rfl
  | S, q :: D, r => by rw [List.cons_append, allE, all_snoc, allE]; rfl
theorem all_len : ∀ (S : List Sm) (D : List Rd), (allE S D).2.length = D.length
  | _, [] => rfl
  | S, r :: D => by rw [allE, List.length_cons, List.length_cons, all_len]
theorem doAll_len' (S : List Sm) (P : List Pt) : (doAllE S P).1.length = S.length := by
  unfold doAllE
  split
  · exact putGo_len _ _
  · rfl
theorem all_len1 : ∀ (S : List Sm) (D : List Rd), (allE S D).1.length = S.length
  | _, [] => rfl
  | S, r :: D => by rw [allE, all_len1, doAll_len']
theorem fits_i64 (f : Int → Int) : ∀ l : List Pt, I64 (fitsE f l)
  | [] => zero_ok
  | p :: l => by
    unfold fitsE
    split
    · show I64 11; unfold I64; decide
    · split
      · show I64 4; unfold I64; decide
      · exact fits_i64 f l
theorem err_i64 (P : List Pt) : ∀ (S : List Sm) (k : Nat), I64 (errGo P k S)
  | [], _ => zero_ok
  | s :: S, k => by
    unfold errGo
    split
    · exact err_i64 P S _
    · exact fits_i64 _ _
theorem doAll_i64 (S : List Sm) (P : List Pt) : I64 (doAllE S P).2 := by
  unfold doAllE
  split
  · exact zero_ok
  · exact err_i64 P S 0
theorem make_sums {n : Nat} (h : 1 ≤ n ∧ n ≤ 3) : ∃ cs : Array Value, (∀ w : World, (Instr.makeSlice 98 (.int .i64 n) (.int .i64 n)).run Try.prog w = .ok (.slice (some ⟨w.heap.size, 0, none⟩) n n) (w.alloc (.cells cs 25))) ∧
    ∀ (w : World), OwnC Ty.sm (fun _ => none) (w.alloc (.cells cs 25)) w.heap.size 25 (.slice (some ⟨w.heap.size, 0, none⟩) n n) (List.replicate n ⟨0, 0, 0, 0⟩) := by
  have key : ∀ (m : Nat) (cs : Array Value), m ≤ 3 → cs.toList = (List.replicate m (⟨0, 0, 0, 0⟩ : Sm)).flatMap Sm.cells → ∀ (w : World), OwnC Ty.sm (fun _ => none) (w.alloc (.cells cs 25)) w.heap.size 25 (.slice (some ⟨w.heap.size, 0, none⟩) m m) (List.replicate m ⟨0, 0, 0, 0⟩) := by
    intro m cs hm hc w
    have h1 := World.ownsRow_lit (base := w.heap.size) (e := 25) (size := 4) w cs m (Nat.le_refl _) (by unfold maxLen; omega) (by rw [← Array.length_toList, hc, flat_len (f := Sm.cells) (size := 4) (fun _ => rfl)]; simp)
    rw [hc] at h1
    have h2 := OwnC.of_flat (T := Ty.sm) (f := Sm.cells) (c := fun _ => none) (l := List.replicate m ⟨0, 0, 0, 0⟩) (by rw [List.length_replicate]; exact h1) (fun x hx => by
      rw [List.eq_of_mem_replicate hx]
      exact ⟨rfl, zero_ok, zero_ok, zero_ok, zero_ok⟩)
    exact h2
  obtain ⟨h1, h2⟩ := h
  match n, h1, h2 with
  | 1, _, _ => exact ⟨#[.int .i64 0, .int .i64 0, .int .i64 0, .int .i64 0], fun w => by kernel_rfl, key 1 _ (by decide) rfl⟩
  | 2, _, _ => exact ⟨#[.int .i64 0, .int .i64 0, .int .i64 0, .int .i64 0, .int .i64 0, .int .i64 0, .int .i64 0, .int .i64 0], fun w => by kernel_rfl, key 2 _ (by decide) rfl⟩
  | 3, _, _ => exact ⟨#[.int .i64 0, .int .i64 0, .int .i64 0, .int .i64 0, .int .i64 0, .int .i64 0, .int .i64 0, .int .i64 0, .int .i64 0, .int .i64 0, .int .i64 0, .int .i64 0], fun w => by kernel_rfl, key 3 _ (by decide) rfl⟩
set_option maxRecDepth 100000 in
set_option maxHeartbeats 2000000 in
theorem model_all {v : Value} {n : Nat} {D : List Rd} (w : World) (hn : 1 ≤ n ∧ n ≤ 3) (hv : Sl Ty.rd w.cell? v D) (hD : ∀ r ∈ D, wrongE r.parts n = 0) (hm : D.length * 8 ≤ 140737488355328) :
    Calls Try.prog 95 #[.int .i64 n, v] w fun e w' => ∃ v1 v2, e = .returned (.tuple #[v1, v2]) ∧ Sms w'.cell? v1 (allE (List.replicate n ⟨0, 0, 0, 0⟩) D).1 ∧ Sl Ty.int w'.cell? v2 (allE (List.replicate n ⟨0, 0, 0, 0⟩) D).2 ∧ Grow w w' := by
  obtain ⟨cs, hmk, hms⟩ := make_sums hn
  have HMS := Lib.hid (hms w)
  obtain ⟨a, cap, rfl, h1, h2, -, hel⟩ := hv
  unfold maxLen at h2
  have HN := Lib.hid hn
  have HM := Lib.hid hm
  clear hms hm
  go_enter Try.func95, Try.ntmps95
  go_wp2
  clear hmk
  go_loopw [6, 7, 10, 11, 16] (fun sS sE _ _ i wr => ∃ k : Nat, k ≤ D.length ∧ i = .int .i64 k ∧ Grow w wr ∧ OwnC Ty.sm (fun _ => none) wr w.heap.size 25 sS (allE (List.replicate n ⟨0, 0, 0, 0⟩) (D.take k)).1 ∧ (∀ g, sS.ownBlock = some g → sE.ownBlock ≠ some g) ∧ OwnC Ty.int (fun _ => none) wr w.heap.size 40 sE (allE (List.replicate n ⟨0, 0, 0, 0⟩) (D.take k)).2) (fun _ _ _ _ i _ => D.length - (intOf i).toNat)
  case atStart => exact ⟨0, by omega, rfl, (Grow.refl w).alloc _, HMS.out, fun g _ e => by simp [Value.ownBlock] at e, OwnC.nil _ _ _ _ _⟩
  case round =>
    obtain ⟨k, hk', rfl, hb, hOS, hne, hE⟩ := hrel
    have hS := hOS.sl (by decide) (fun a v e => by cases e)
    obtain ⟨aS, cS, rfl⟩ := hOS.form
    obtain ⟨aE, cE, rfl⟩ := hE.form
    by_cases hlt : k < D.length
    · obtain ⟨b, o, vp, rfl, c0, c1, i0, hP⟩ := Rds.at_ hel k hlt
      obtain ⟨ap, cp, rfl, -⟩ := id hP
      have hw := hD D[k] (List.getElem_mem hlt)
      have HSN := Lib.hid (all_snoc (List.replicate n ⟨0, 0, 0, 0⟩) (D.take k) D[k])
      rw [← List.take_succ_eq_append_getElem hlt] at HSN
      have hel2 : (allE (List.replicate n ⟨0, 0, 0, 0⟩) (D.take k)).2.length = k := by rw [all_len]; simp; omega
      have HEL := Lib.hid hel2
      clear hel2
      have hsl : (allE (List.replicate n ⟨0, 0, 0, 0⟩) (D.take k)).1.length = n := by rw [all_len1]; simp
      replace c0 := hb.sub _ _ c0
      replace c1 := hb.sub _ _ c1
      have h0 := wrong_ok hw
      have HCA := Lib.hid (fun (W : World) (hW : Grow wr W) => model_do W (hS.mono hW.sub) (hP.mono (hb.trans hW).sub) (by rw [hsl]; exact hw) (by rw [hsl]; exact HN.out.1) (by rw [hsl]; exact HN.out.2))
      have HI := Lib.hid (doAll_i64 (allE (List.replicate n ⟨0, 0, 0, 0⟩) (D.take k)).1 D[k].parts)
      have HE := Lib.hid hE
      have HOS := Lib.hid hOS
      have HNE := Lib.hid hne
      have HB := Lib.hid hb
      clear hel hS hE hP hw h0 hD hb i0 hsl hOS hne
      generalize (allE (List.replicate n ⟨0, 0, 0, 0⟩) (D.take k)).1 = S at *
      generalize (allE (List.replicate n ⟨0, 0, 0, 0⟩) (D.take k)).2 = E at *
      generalize D[k] = r at *
      generalize (doAllE S r.parts).1 = S' at *
      generalize (doAllE S r.parts).2 = er at *
      go_wp2_with fail
      refine (HCA.out _ ((Grow.refl wr).alloc _)).mono ?_
      rintro e w3 ⟨v3, rfl, hS3, hb3, hO3⟩
      obtain ⟨a3, c3, rfl, -⟩ := id hS3
      have HS3 : Hid (OwnC Ty.sm (fun _ => none) w3 w.heap.size 25 (.slice a3 S'.length c3) S' ∧ ∀ g, (Value.slice a3 S'.length c3).ownBlock = some g → (Value.slice aE E.length cE).ownBlock ≠ some g) := Lib.hid ⟨hO3.base (by have := HB.out.size; simp; omega), fun g hg e => by have := (hO3.lt g hg).1; have := (HE.out.lt g e).2; simp at *; omega⟩
      have HB3 := Lib.hid (((Grow.refl wr).alloc _).trans hb3)
      clear hS3 hb3 hO3
      go_wp2_with (first | (at_builtin; refine wpList_appc (c := fun _ => none) (base := w.heap.size) (l := E) (m := [er]) ei_errno rfl one_Tint (by decide) rfl (.tmp 28) (.tmp 30) rfl rfl ?own rfl (Src.of_new (T := Ty.int) (cs := #[.int .i64 er]) ⟨rfl, HI.out⟩ _ _ ?d1) ?d2 ?d3 ?_))
      case own => exact (HE.out.grow HB3.out).grow ((Grow.refl _).alloc _)
      case d1 => simp
      case d2 => have := HM.out; have := HEL.out; simp; omega
      case d3 => have := (HB.out.trans HB3.out).size; simp; omega
      intro a9 c9 w9 ho9 hg9 hb9
      have HO9 := Lib.hid ho9
      have HG9 := Lib.hid (grow_by (w0 := w) ((HB.out.trans HB3.out).alloc _) hg9 (fun q hq => (HE.out.lt q hq).1))
      have HS9 : Hid (OwnC Ty.sm (fun _ => none) w9 w.heap.size 25 (.slice a3 S'.length c3) S') := Lib.hid ((HS3.out.1.grow ((Grow.refl _).alloc _)).kept hg9 (by
        cases hq : (Value.slice a3 S'.length c3).ownBlock with
        | none => exact .inl rfl
        | some q => exact .inr (fun e => HS3.out.2 q hq e.symm)))
      have HN9 : Hid (∀ g, (Value.slice a3 S'.length c3).ownBlock = some g → (Value.slice a9 (E.length + [er].length) c9).ownBlock ≠ some g) := Lib.hid (fun q hq e => by
        change (Value.slice a9 (E.length + 1) c9).ownBlock = some q at e
        rcases hb9 with h | ⟨g2, h, hg2⟩
        · rw [h] at e; exact HS3.out.2 q hq e
        · rw [h] at e
          obtain rfl := Option.some.inj e
          have := (HS3.out.1.lt _ hq).2
          (try simp at hg2); omega)
      clear ho9 hg9 hb9
      go_wp2
      go_roundw
      case rel => exact ⟨k + 1, by omega, by go_num, HG9.out, by rw [HSN.out]; exact HS9.out, HN9.out, by rw [HSN.out]; exact HO9.out⟩
      case measure => simp [intOf]; omega
    · rw [List.take_of_length_le (by omega)] at hS hE ⊢
      clear hOS hne
      have HS := Lib.hid hS
      have HE := Lib.hid (hE.sl (by decide) (fun a v e => by cases e))
      clear hel hS hE
      go_wp2
      refine bodyPost_ret (v := .tuple #[.slice aS (allE (List.replicate n ⟨0, 0, 0, 0⟩) D).1.length cS, .slice aE (allE (List.replicate n ⟨0, 0, 0, 0⟩) D).2.length cE]) (by simp [results, Try.results95, go_sem]) rfl ?_
      exact ⟨_, _, rfl, HS.out, HE.out, hb⟩
set_option maxRecDepth 100000 in
set_option maxHeartbeats 2000000 in
theorem ref_all {v : Value} {n : Nat} {D : List Rd} (w : World) (hn : 1 ≤ n ∧ n ≤ 3) (hv : Sl Ty.rd w.cell? v D) (hD : ∀ r ∈ D, wrongE r.parts n = 0) (hm : D.length * 8 ≤ 140737488355328) :
    Calls Try.prog 96 #[.int .i64 n, v] w fun e w' => ∃ v1 v2, e = .returned (.tuple #[v1, v2]) ∧ Sms w'.cell? v1 (allE (List.replicate n ⟨0, 0, 0, 0⟩) D).1 ∧ Sl Ty.int w'.cell? v2 (allE (List.replicate n ⟨0, 0, 0, 0⟩) D).2 ∧ Grow w w' := by
  obtain ⟨cs, hmk, hms⟩ := make_sums hn
  have HMS := Lib.hid (hms w)
  obtain ⟨a, cap, rfl, h1, h2, -, hel⟩ := hv
  unfold maxLen at h2
  have HN := Lib.hid hn
  have HM := Lib.hid hm
  clear hms hm
  go_enter Try.func96, Try.ntmps96
  go_wp2
  clear hmk
  go_loopw [6, 7, 10, 11, 16] (fun sS sE _ _ i wr => ∃ k : Nat, k ≤ D.length ∧ i = .int .i64 k ∧ Grow w wr ∧ OwnC Ty.sm (fun _ => none) wr w.heap.size 25 sS (allE (List.replicate n ⟨0, 0, 0, 0⟩) (D.take k)).1 ∧ (∀ g, sS.ownBlock = some g → sE.ownBlock ≠ some g) ∧ OwnC Ty.int (fun _ => none) wr w.heap.size 40 sE (allE (List.replicate n ⟨0, 0, 0, 0⟩) (D.take k)).2) (fun _ _ _ _ i _ => D.length - (intOf i).toNat)
  case atStart => exact ⟨0, by omega, rfl, (Grow.refl w).alloc _, HMS.out, fun g _ e => by simp [Value.ownBlock] at e, OwnC.nil _ _ _ _ _⟩
  case round =>
    obtain ⟨k, hk', rfl, hb, hOS, hne, hE⟩ := hrel
    have hS := hOS.sl (by decide) (fun a v e => by cases e)
    obtain ⟨aS, cS, rfl⟩ := hOS.form
    obtain ⟨aE, cE, rfl⟩ := hE.form
    by_cases hlt : k < D.length
    · obtain ⟨b, o, vp, rfl, c0, c1, i0, hP⟩ := Rds.at_ hel k hlt
      obtain ⟨ap, cp, rfl, -⟩ := id hP
      have hw := hD D[k] (List.getElem_mem hlt)
      have HSN := Lib.hid (all_snoc (List.replicate n ⟨0, 0, 0, 0⟩) (D.take k) D[k])
      rw [← List.take_succ_eq_append_getElem hlt] at HSN
      have hel2 : (allE (List.replicate n ⟨0, 0, 0, 0⟩) (D.take k)).2.length = k := by rw [all_len]; simp; omega
      have HEL := Lib.hid hel2
      clear hel2
      have hsl : (allE (List.replicate n ⟨0, 0, 0, 0⟩) (D.take k)).1.length = n := by rw [all_len1]; simp
      replace c0 := hb.sub _ _ c0
      replace c1 := hb.sub _ _ c1
      have h0 := wrong_ok hw
      have HCA := Lib.hid (fun (W : World) (hW : Grow wr W) => ref_doAll W (hS.mono hW.sub) (hP.mono (hb.trans hW).sub) (wrong_keys hw) (by omega) (by rw [hsl]; have := HN.out; omega))
      have HI := Lib.hid (doAll_i64 (allE (List.replicate n ⟨0, 0, 0, 0⟩) (D.take k)).1 D[k].parts)
      have HE := Lib.hid hE
      have HOS := Lib.hid hOS
      have HNE := Lib.hid hne
      have HB := Lib.hid hb
      clear hel hS hE hP hw h0 hD hb i0 hsl hOS hne
      generalize (allE (List.replicate n ⟨0, 0, 0, 0⟩) (D.take k)).1 = S at *
      generalize (allE (List.replicate n ⟨0, 0, 0, 0⟩) (D.take k)).2 = E at *
      generalize D[k] = r at *
      generalize (doAllE S r.parts).1 = S' at *
      generalize (doAllE S r.parts).2 = er at *
      go_wp2_with fail
      refine (HCA.out _ ((Grow.refl wr).alloc _)).mono ?_
      rintro e w3 ⟨v3, rfl, hS3, hb3, hO3⟩
      obtain ⟨a3, c3, rfl, -⟩ := id hS3
      have HS3 : Hid (OwnC Ty.sm (fun _ => none) w3 w.heap.size 25 (.slice a3 S'.length c3) S' ∧ ∀ g, (Value.slice a3 S'.length c3).ownBlock = some g → (Value.slice aE E.length cE).ownBlock ≠ some g) := Lib.hid (by
        rcases hO3 with hO3 | ⟨e1, e2⟩
        · exact ⟨hO3.base (by have := HB.out.size; simp; omega), fun g hg e => by have := (hO3.lt g hg).1; have := (HE.out.lt g e).2; simp at *; omega⟩
        · rw [e1, e2]
          exact ⟨HOS.out.grow (((Grow.refl wr).alloc _).trans hb3), HNE.out⟩)
      have HB3 := Lib.hid (((Grow.refl wr).alloc _).trans hb3)
      clear hS3 hb3 hO3
      go_wp2_with (first | (at_builtin; refine wpList_appc (c := fun _ => none) (base := w.heap.size) (l := E) (m := [er]) ei_errno rfl one_Tint (by decide) rfl (.tmp 28) (.tmp 30) rfl rfl ?own rfl (Src.of_new (T := Ty.int) (cs := #[.int .i64 er]) ⟨rfl, HI.out⟩ _ _ ?d1) ?d2 ?d3 ?_))
      case own => exact (HE.out.grow HB3.out).grow ((Grow.refl _).alloc _)
      case d1 => simp
      case d2 => have := HM.out; have := HEL.out; simp; omega
      case d3 => have := (HB.out.trans HB3.out).size; simp; omega
      intro a9 c9 w9 ho9 hg9 hb9
      have HO9 := Lib.hid ho9
      have HG9 := Lib.hid (grow_by (w0 := w) ((HB.out.trans HB3.out).alloc _) hg9 (fun q hq => (HE.out.lt q hq).1))
      have HS9 : Hid (OwnC Ty.sm (fun _ => none) w9 w.heap.size 25 (.slice a3 S'.length c3) S') := Lib.hid ((HS3.out.1.grow ((Grow.refl _).alloc _)).kept hg9 (by
        cases hq : (Value.slice a3 S'.length c3).ownBlock with
        | none => exact .inl rfl
        | some q => exact .inr (fun e => HS3.out.2 q hq e.symm)))
      have HN9 : Hid (∀ g, (Value.slice a3 S'.length c3).ownBlock = some g → (Value.slice a9 (E.length + [er].length) c9).ownBlock ≠ some g) := Lib.hid (fun q hq e => by
        change (Value.slice a9 (E.length + 1) c9).ownBlock = some q at e
        rcases hb9 with h | ⟨g2, h, hg2⟩
        · rw [h] at e; exact HS3.out.2 q hq e
        · rw [h] at e
          obtain rfl := Option.some.inj e
          have := (HS3.out.1.lt _ hq).2
          (try simp at hg2); omega)
      clear ho9 hg9 hb9
      go_wp2
      go_roundw
      case rel => exact ⟨k + 1, by omega, by go_num, HG9.out, by rw [HSN.out]; exact HS9.out, HN9.out, by rw [HSN.out]; exact HO9.out⟩
      case measure => simp [intOf]; omega
    · rw [List.take_of_length_le (by omega)] at hS hE ⊢
      clear hOS hne
      have HS := Lib.hid hS
      have HE := Lib.hid (hE.sl (by decide) (fun a v e => by cases e))
      clear hel hS hE
      go_wp2
      refine bodyPost_ret (v := .tuple #[.slice aS (allE (List.replicate n ⟨0, 0, 0, 0⟩) D).1.length cS, .slice aE (allE (List.replicate n ⟨0, 0, 0, 0⟩) D).2.length cE]) (by simp [results, Try.results96, go_sem]) rfl ?_
      exact ⟨_, _, rfl, HS.out, HE.out, hb⟩
end Go.Proofs.Ytgbhpghgohggcaa

/- Plain: ModelApart's and ModelEven's laws. -/
namespace Go.Proofs.Ytgbhpghgohggcaa
open Go.RowKit
theorem errGo_congr {P : List Pt} : ∀ {a b : List Sm} {k0 : Nat}, a.length = b.length → (∀ (k : Nat) s t, a[k]? = some s → b[k]? = some t → fitsE s.get (ofL P ((k0 + k : Nat) : Int)) = fitsE t.get (ofL P ((k0 + k : Nat) : Int))) → errGo P k0 a = errGo P k0 b
  | [], [], _, _, _ => rfl
  | [], _ :: _, _, h, _ => by simp at h
  | _ :: _, [], _, h, _ => by simp at h
  | s :: a, t :: b, k0, h, hk => by
    have h0 := hk 0 s t rfl rfl
    rw [Nat.add_zero] at h0
    unfold errGo
    rw [h0, errGo_congr (a := a) (b := b) (k0 := k0 + 1) (by simpa using h) fun k x y hx hy => by
      have := hk (k + 1) x y (by simpa using hx) (by simpa using hy)
      rwa [show k0 + (k + 1) = k0 + 1 + k by omega] at this]
theorem doAll_len (s : List Sm) (P : List Pt) : (doAllE s P).1.length = s.length := by
  unfold doAllE
  split
  · exact putGo_len _ _
  · rfl
/-- two deeds' parts have no key in common -/
def ApartP (a b : List Pt) : Prop := ∀ p ∈ a, ∀ q ∈ b, ¬ (p.h = q.h ∧ p.k = q.k)
theorem ApartP.symm {a b : List Pt} (h : ApartP a b) : ApartP b a := fun p hp q hq e => h q hq p hp ⟨e.1.symm, e.2.symm⟩
theorem apart_of {a b : List Pt} (h : ApartP a b) (k : Int) : ∀ p ∈ ofL a k, ∀ q ∈ ofL b k, q.k ≠ p.k := by
  intro p hp q hq e
  unfold ofL at hp hq
  rw [List.mem_filter] at hp hq
  exact h p hp.1 q hq.1 ⟨by have h1 := hp.2; have h2 := hq.2; simp at h1 h2; rw [h1, h2], e.symm⟩
theorem err_apart {s : List Sm} {a b : List Pt} {n : Int} (hwa : wrongE a n = 0) (hwb : wrongE b n = 0) (h : ApartP a b) : errGo a 0 (doAllE s b).1 = errGo a 0 s := by
  unfold doAllE
  split
  · refine errGo_congr (putGo_len _ _) fun k x y hx hy => ?_
    rw [putGo_get, hy] at hx
    obtain rfl := Option.some.inj hx
    refine fits_congr fun p hp => ?_
    have hk := ofL_ok hwa _ p hp
    rw [doP_get _ _ (ofL_ok hwb _) p.k hk.1 hk.2]
    exact keyFold_none _ (apart_of h _ p hp)
  · rfl
theorem doP_comm {A B : List Pt} {s : Sm} (ha : KeysOk A) (hb : KeysOk B) (h : ∀ p ∈ A, ∀ q ∈ B, q.k ≠ p.k) : doP (doP s A) B = doP (doP s B) A :=
  Sm.ext_get fun j h0 h1 => by
    rw [doP_get _ _ hb j h0 h1, doP_get _ _ ha j h0 h1, doP_get _ _ ha j h0 h1, doP_get _ _ hb j h0 h1]
    by_cases e : ∃ p ∈ A, p.k = j
    · obtain ⟨p, hp, rfl⟩ := e
      rw [keyFold_none _ (h p hp), keyFold_none _ (h p hp)]
    · rw [keyFold_none (l := A) _ fun p hp e' => e ⟨p, hp, e'⟩, keyFold_none (l := A) _ fun p hp e' => e ⟨p, hp, e'⟩]
theorem apart_law {s : List Sm} {a b : List Pt} {n : Int} (hwa : wrongE a n = 0) (hwb : wrongE b n = 0) (h : ApartP a b) :
    (doAllE (doAllE s a).1 b).1 = (doAllE (doAllE s b).1 a).1 ∧ (doAllE s a).2 = (doAllE (doAllE s b).1 a).2 ∧ (doAllE (doAllE s a).1 b).2 = (doAllE s b).2 := by
  have e1 := err_apart (s := s) hwa hwb h
  have e2 := err_apart (s := s) hwb hwa h.symm
  have u : ∀ t P, doAllE t P = if errGo P 0 t = 0 then (putGo P 0 t, 0) else (t, errGo P 0 t) := fun _ _ => rfl
  rw [u (doAllE s a).1 b, u (doAllE s b).1 a, e1, e2]
  by_cases ha : errGo a 0 s = 0 <;> by_cases hb : errGo b 0 s = 0
  · rw [if_pos hb, if_pos ha, u s a, u s b, if_pos ha, if_pos hb]
    refine ⟨List.ext_getElem? fun k => ?_, rfl, rfl⟩
    simp only [putGo_get]
    cases s[k]? with
    | none => rfl
    | some x =>
      simp only [Option.map_some]
      rw [doP_comm (ofL_ok hwa _) (ofL_ok hwb _) (apart_of h _)]
  · rw [if_neg hb, if_pos ha, u s a, u s b, if_pos ha, if_neg hb]
    exact ⟨rfl, rfl, rfl⟩
  · rw [if_pos hb, if_neg ha, u s a, u s b, if_neg ha, if_pos hb]
    exact ⟨rfl, rfl, rfl⟩
  · rw [if_neg hb, if_neg ha, u s a, u s b, if_neg ha, if_neg hb]
    exact ⟨rfl, rfl, rfl⟩
def totalE : List Sm → Int
  | [] => 0
  | s :: l => smSum s + totalE l
theorem errGo_all {P : List Pt} : ∀ {l : List Sm} {k0 : Nat}, errGo P k0 l = 0 → ∀ (k : Nat) s, l[k]? = some s → fitsE s.get (ofL P ((k0 + k : Nat) : Int)) = 0
  | [], _, _, k, s, h => by simp at h
  | x :: l, k0, e, k, s, h => by
    unfold errGo at e
    split at e
    · rename_i hf
      cases k with
      | zero =>
        simp at h
        subst h
        exact hf
      | succ k =>
        have := errGo_all (l := l) (k0 := k0 + 1) e k s (by simpa using h)
        rwa [show k0 + 1 + k = k0 + (k + 1) by omega] at this
    · rename_i hf
      exact absurd e hf
theorem smSum_get (s : Sm) : smSum s = s.get 0 + s.get 1 + s.get 2 + s.get 3 := rfl
theorem put_sum {P : List Pt} {n : Int} (hw : wrongE P n = 0) {s : Sm} (hs : rightS s = true) (k : Int) : smSum (doP s (ofL P k)) = smSum s + (amt k 0 P + amt k 1 P + amt k 2 P + amt k 3 P) := by
  rw [smSum_get, smSum_get, doP_sum hw hs k (by omega) (by omega), doP_sum hw hs k (by omega) (by omega), doP_sum hw hs k (by omega) (by omega), doP_sum hw hs k (by omega) (by omega)]
  omega
theorem amt_far {P : List Pt} {n : Int} (hw : wrongE P n = 0) {k : Int} (h : n ≤ k) (q : Int) : amt k q P = 0 := by
  refine amt_none ?_
  cases hh : has k q P with
  | false => rfl
  | true =>
    obtain ⟨p, hp, a, b⟩ := has_mem.1 hh
    have := (wrong_ok hw).2.2.1 p hp
    omega
theorem put_total {P : List Pt} {s : List Sm} (hw : wrongE P s.length = 0) (hs : ∀ x ∈ s, rightS x = true) (h1 : 1 ≤ s.length) (h3 : s.length ≤ 3) : totalE (putGo P 0 s) = totalE s + psum P := by
  obtain ⟨-, -, hb, hn⟩ := wrong_ok hw
  rw [← S12_amt hn fun p hp => by have := hb p hp; omega]
  have z : ∀ k : Int, (s.length : Int) ≤ k → ∀ q, amt k q P = 0 := fun k h q => amt_far hw h q
  simp only [S12]
  match s, h1, h3 with
  | [x], _, _ =>
    have p0 := put_sum hw (hs x (by simp)) 0
    simp only [List.length_cons, List.length_nil] at z
    simp only [putGo, totalE]
    rw [z 1 (by omega), z 1 (by omega), z 1 (by omega), z 1 (by omega), z 2 (by omega), z 2 (by omega), z 2 (by omega), z 2 (by omega)]
    push_cast
    omega
  | [x, y], _, _ =>
    have p0 := put_sum hw (hs x (by simp)) 0
    have p1 := put_sum hw (hs y (by simp)) 1
    simp only [List.length_cons, List.length_nil] at z
    simp only [putGo, totalE]
    rw [z 2 (by omega), z 2 (by omega), z 2 (by omega), z 2 (by omega)]
    push_cast at *
    omega
  | [x, y, t], _, _ =>
    have p0 := put_sum hw (hs x (by simp)) 0
    have p1 := put_sum hw (hs y (by simp)) 1
    have p2 := put_sum hw (hs t (by simp)) 2
    simp only [putGo, totalE]
    push_cast at *
    omega
theorem amt_at : ∀ {P : List Pt}, (P.map fun p => (p.h, p.k)).Nodup → ∀ p ∈ P, amt p.h p.k P = p.n
  | [], _, p, h => by simp at h
  | x :: P, hn, p, h => by
    rw [amt_cons hn]
    have hn' := hn
    rw [List.map_cons, List.nodup_cons] at hn'
    rcases List.mem_cons.1 h with rfl | h
    · rw [if_pos ⟨rfl, rfl⟩]
      have h0 : has p.h p.k P = false := by
        cases hh : has p.h p.k P with
        | false => rfl
        | true =>
          obtain ⟨r, hr, a, b⟩ := has_mem.1 hh
          exact absurd (List.mem_map.2 ⟨r, hr, by rw [a, b]⟩) hn'.1
      rw [amt_none h0]; omega
    · rw [if_neg (fun e => hn'.1 (List.mem_map.2 ⟨p, h, by rw [e.1, e.2]⟩)), amt_at hn'.2 p h]; omega
theorem even_law {s : List Sm} {P : List Pt} (hw : wrongE P s.length = 0) (hs : ∀ x ∈ s, rightS x = true) (h1 : 1 ≤ s.length) (h3 : s.length ≤ 3) :
    ((doAllE s P).2 ≠ 0 → (doAllE s P).1 = s) ∧ ((doAllE s P).2 = 0 → totalE (doAllE s P).1 = totalE s + psum P ∧
      ∀ p ∈ P, ∃ x y, s[p.h.toNat]? = some x ∧ (doAllE s P).1[p.h.toNat]? = some y ∧ y.get p.k = x.get p.k + p.n ∧ 0 ≤ y.get p.k) := by
  unfold doAllE
  by_cases he : errGo P 0 s = 0
  · rw [if_pos he]
    refine ⟨fun h => absurd rfl h, fun _ => ⟨put_total hw hs h1 h3, fun p hp => ?_⟩⟩
    obtain ⟨-, -, hb, hn⟩ := wrong_ok hw
    have hp' := hb p hp
    have hlt : p.h.toNat < s.length := by omega
    refine ⟨s[p.h.toNat], doP s[p.h.toNat] (ofL P ((0 + p.h.toNat : Nat) : Int)), List.getElem?_eq_getElem hlt, ?_, ?_⟩
    · rw [putGo_get, List.getElem?_eq_getElem hlt]; rfl
    · have hr := hs _ (List.getElem_mem hlt)
      have hf := errGo_all he _ _ (List.getElem?_eq_getElem hlt)
      rw [Nat.zero_add, show ((p.h.toNat : Nat) : Int) = p.h by omega] at hf ⊢
      have := (fits_sum hw hr p.h).1 hf p.k hp'.2.2.1 hp'.2.2.2.1
      rw [doP_sum hw hr p.h hp'.2.2.1 hp'.2.2.2.1, amt_at hn p hp]
      rw [amt_at hn p hp] at this
      exact ⟨rfl, this.1⟩
  · rw [if_neg he]
    exact ⟨fun _ => rfl, fun h => absurd h he⟩
end Go.Proofs.Ytgbhpghgohggcaa

/- Walks: model.Total. -/
namespace Go.Proofs.Ytgbhpghgohggcaa
open Go.RowKit
theorem idx_sm (a b c d : Int) (w : World) : (Instr.index 25 (.agg #[.int .i64 a, .int .i64 b, .int .i64 c, .int .i64 d]) (.int .i64 0)).run Try.prog w = .ok (.int .i64 a) w ∧ (Instr.index 25 (.agg #[.int .i64 a, .int .i64 b, .int .i64 c, .int .i64 d]) (.int .i64 1)).run Try.prog w = .ok (.int .i64 b) w ∧
    (Instr.index 25 (.agg #[.int .i64 a, .int .i64 b, .int .i64 c, .int .i64 d]) (.int .i64 2)).run Try.prog w = .ok (.int .i64 c) w ∧ (Instr.index 25 (.agg #[.int .i64 a, .int .i64 b, .int .i64 c, .int .i64 d]) (.int .i64 3)).run Try.prog w = .ok (.int .i64 d) w :=
  ⟨by kernel_rfl, by kernel_rfl, by kernel_rfl, by kernel_rfl⟩
theorem total_snoc : ∀ (l : List Sm) (s : Sm), totalE (l ++ [s]) = totalE l + smSum s
  | [], s => by simp [totalE]
  | x :: l, s => by simp only [List.cons_append, totalE, total_snoc l s]; omega
theorem total_bound : ∀ {l : List Sm}, (∀ s ∈ l, rightS s = true) → 0 ≤ totalE l ∧ totalE l ≤ 4194304 * l.length
  | [], _ => by simp [totalE]
  | x :: l, h => by
    have h1 := total_bound fun s hs => h s (List.mem_cons_of_mem _ hs)
    have h2 := (rightS_iff x).1 (h x List.mem_cons_self)
    have a0 := h2 0 (by omega)
    have a1 := h2 1 (by omega)
    have a2 := h2 2 (by omega)
    have a3 := h2 3 (by omega)
    simp only [Sm.get, S4] at a0 a1 a2 a3
    simp at a0 a1 a2 a3
    simp only [totalE, smSum, List.length_cons]
    omega
set_option maxRecDepth 100000 in
set_option maxHeartbeats 2000000 in
theorem model_total {v : Value} {S : List Sm} (w : World) (hv : Sms w.cell? v S) (hr : ∀ s ∈ S, rightS s = true) (hl : S.length ≤ 3) :
    Calls Try.prog 94 #[v] w fun e w' => e = .returned (.int .i64 (totalE S)) ∧ Grow w w' := by
  have HR := Lib.hid hr
  obtain ⟨a, cap, rfl, h1, h2, -, hel⟩ := hv
  unfold maxLen at h2
  clear hr
  go_enter Try.func94, Try.ntmps94
  go_wp2
  go_loopw [3, 10] (fun t i wr => ∃ k : Nat, k ≤ S.length ∧ i = .int .i64 k ∧ t = .int .i64 (totalE (S.take k)) ∧ Grow w wr) (fun _ i _ => S.length - (intOf i).toNat)
  case atStart => exact ⟨0, by omega, rfl, rfl, Grow.refl _⟩
  case round =>
    obtain ⟨k, hk', rfl, rfl, hb⟩ := hrel
    by_cases hlt : k < S.length
    · obtain ⟨b, o, rfl, c0, c1, c2, c3, -, -, -, -⟩ := smAt hel k hlt
      replace c0 := hb.sub _ _ c0
      replace c1 := hb.sub _ _ c1
      replace c2 := hb.sub _ _ c2
      replace c3 := hb.sub _ _ c3
      have HTS := Lib.hid (show totalE (S.take (k + 1)) = totalE (S.take k) + smSum S[k] by rw [List.take_succ_eq_append_getElem hlt, total_snoc])
      have hbd := total_bound (l := S.take k) fun s hs => HR.out s (List.mem_of_mem_take hs)
      rw [List.length_take, Nat.min_eq_left (by omega)] at hbd
      have hs := (rightS_iff S[k]).1 (HR.out _ (List.getElem_mem hlt))
      have a0 := hs 0 (by omega)
      have a1 := hs 1 (by omega)
      have a2 := hs 2 (by omega)
      have a3 := hs 3 (by omega)
      simp only [Sm.get, S4] at a0 a1 a2 a3
      simp at a0 a1 a2 a3
      clear hel hs
      generalize totalE (S.take k) = acc at *
      generalize S[k] = s at *
      obtain ⟨sa, sb, sc, sd⟩ := s
      simp only at c0 c1 c2 c3 a0 a1 a2 a3
      have hix := idx_sm sa sb sc sd
      have h0 := fun w => (hix w).1
      have h1x := fun w => (hix w).2.1
      have h2x := fun w => (hix w).2.2.1
      have h3x := fun w => (hix w).2.2.2
      clear hix
      have HB : Hid (Grow w wr) := Lib.hid hb
      obtain ⟨wo, rfl⟩ : ∃ x : World, x = wr := ⟨_, rfl⟩
      go_wp2
      clear c0 c1 c2 c3
      go_loopw [3, 15] (fun t i wx => ∃ j : Nat, j ≤ 4 ∧ i = .int .i64 j ∧ t = .int .i64 (acc + (if j = 0 then 0 else if j = 1 then sa else if j = 2 then sa + sb else if j = 3 then sa + sb + sc else sa + sb + sc + sd)) ∧ Grow w wx) (fun _ i _ => 4 - (intOf i).toNat)
      case atStart => exact ⟨0, by omega, rfl, by simp, HB.out.alloc _⟩
      case round =>
        obtain ⟨j, hj', rfl, rfl, hbx⟩ := hrel
        by_cases hj4 : j < 4
        · have hj : j = 0 ∨ j = 1 ∨ j = 2 ∨ j = 3 := by omega
          rcases hj with rfl | rfl | rfl | rfl
          · simp only [if_true]
            go_wp2
            go_roundw
            case rel => exact ⟨1, by omega, by go_num, by simp, hbx⟩
            case measure => simp [intOf]
          · simp only [if_true, if_neg (show ¬ (1 : Nat) = 0 by omega)]
            go_wp2
            go_roundw
            case rel => exact ⟨2, by omega, by go_num, by simp; omega, hbx⟩
            case measure => simp [intOf]
          · simp only [if_true, if_neg (show ¬ (2 : Nat) = 0 by omega), if_neg (show ¬ (2 : Nat) = 1 by omega)]
            go_wp2
            go_roundw
            case rel => exact ⟨3, by omega, by go_num, by simp; omega, hbx⟩
            case measure => simp [intOf]
          · simp only [if_true, if_neg (show ¬ (3 : Nat) = 0 by omega), if_neg (show ¬ (3 : Nat) = 1 by omega), if_neg (show ¬ (3 : Nat) = 2 by omega)]
            go_wp2
            go_roundw
            case rel => exact ⟨4, by omega, by go_num, by simp; omega, hbx⟩
            case measure => simp [intOf]
        · obtain rfl : j = 4 := by omega
          go_wp2
          go_roundw
          case rel => exact ⟨k + 1, by omega, by go_num, by rw [HTS.out]; simp [smSum] <;> omega, hbx⟩
          case measure => simp [intOf]; omega
    · rw [List.take_of_length_le (by omega)]
      clear hel
      go_wp2
      go_ret
      exact ⟨rfl, hb⟩
end Go.Proofs.Ytgbhpghgohggcaa

/- Walks: what chapter 4's laws ask of sums and parts. -/
namespace Go.Proofs.Ytgbhpghgohggcaa
open Go.RowKit
def right4E (S : List Sm) (P : List Pt) : Bool := S.all rightS && decide (1 ≤ S.length) && decide (S.length ≤ 3) && decide (wrongE P S.length = 0)
theorem right4_ok {S : List Sm} {P : List Pt} (h : right4E S P = true) : (∀ s ∈ S, rightS s = true) ∧ 1 ≤ S.length ∧ S.length ≤ 3 ∧ wrongE P S.length = 0 := by
  unfold right4E at h
  simp only [Bool.and_eq_true, decide_eq_true_eq, List.all_eq_true] at h
  exact ⟨h.1.1.1, h.1.1.2, h.1.2, h.2⟩
theorem doAll_right {S : List Sm} {P : List Pt} (hw : wrongE P S.length = 0) (hs : ∀ x ∈ S, rightS x = true) : ∀ x ∈ (doAllE S P).1, rightS x = true := by
  intro x hx
  unfold doAllE at hx
  by_cases he : errGo P 0 S = 0
  · rw [if_pos he] at hx
    obtain ⟨k, hk⟩ := List.mem_iff_getElem?.1 hx
    rw [putGo_get] at hk
    cases hS : S[k]? with
    | none => rw [hS] at hk; simp at hk
    | some s =>
      rw [hS] at hk
      simp only [Option.map_some, Option.some.injEq, Nat.zero_add] at hk
      have hr := hs s (List.mem_of_getElem? hS)
      have hf := errGo_all he k s hS
      rw [Nat.zero_add] at hf
      rw [← hk]
      refine rightS_get.2 fun q a b => ?_
      rw [doP_sum hw hr k a b]
      exact (fits_sum hw hr k).1 hf q a b
  · rw [if_neg he] at hx
    exact hs x hx
set_option maxRecDepth 100000 in
set_option maxHeartbeats 1000000 in
theorem law4_right {v vp : Value} {S : List Sm} {P : List Pt} (w : World) (hv : Sms w.cell? v S) (hp : Pts w.cell? vp P) :
    Calls Try.prog 91 #[v, vp] w fun e w' => e = .returned (.bool (right4E S P)) ∧ Grow w w' := by
  have HWP := Lib.hid (fun (W : World) (hW : Grow w W) => ref_wrongParts (h := S.length) W (hp.mono hW.sub))
  obtain ⟨ap, cp, rfl, -⟩ := hp
  obtain ⟨a, cap, rfl, h1, h2, -, hel⟩ := hv
  unfold maxLen at h2
  go_enter Try.func91, Try.ntmps91
  go_wp2
  go_loopw [4, 9] (fun _ i wr => ∃ k : Nat, k ≤ S.length ∧ i = .int .i64 k ∧ Grow w wr ∧ ∀ s ∈ S.take k, rightS s = true) (fun _ i _ => S.length - (intOf i).toNat)
  case atStart => exact ⟨0, by omega, rfl, Grow.refl _, by simp⟩
  case round =>
    obtain ⟨k, hk', rfl, hb, hall⟩ := hrel
    by_cases hlt : k < S.length
    · obtain ⟨b, o, rfl, c0, c1, c2, c3, -, -, -, -⟩ := smAt hel k hlt
      replace c0 := hb.sub _ _ c0
      replace c1 := hb.sub _ _ c1
      replace c2 := hb.sub _ _ c2
      replace c3 := hb.sub _ _ c3
      have htk := List.take_succ_eq_append_getElem hlt
      have hmem : S[k] ∈ S := List.getElem_mem hlt
      have HAL := Lib.hid (fun (h : rightS S[k] = true) => (show ∀ s ∈ S.take (k + 1), rightS s = true by
        rw [htk]; intro s hs
        rcases List.mem_append.1 hs with hs | hs
        · exact hall s hs
        · rw [List.mem_singleton.1 hs]; exact h))
      have HNO := Lib.hid (fun (h : rightS S[k] = false) => (show right4E S P = false by
        have : S.all rightS = false := by rw [List.all_eq_false]; exact ⟨_, hmem, by rw [h]; simp⟩
        unfold right4E; rw [this]; rfl))
      have HRS := Lib.hid (fun (W : World) => ref_rightSums W S[k])
      have HB := Lib.hid hb
      clear hel htk hmem hall hb
      generalize S[k] = s at *
      go_wp2_with fail
      refine (HRS.out _).mono ?_
      cases hr : rightS s with
      | true =>
        rintro e w3 ⟨rfl, hb3⟩
        have HB3 := Lib.hid ((HB.out.alloc _).trans hb3)
        have HA := Lib.hid (HAL.out hr)
        clear hb3 hr
        go_wp2
        go_roundw
        case rel => exact ⟨k + 1, by omega, by go_num, HB3.out, HA.out⟩
        case measure => simp [intOf]; omega
      | false =>
        rintro e w3 ⟨rfl, hb3⟩
        have HB3 := Lib.hid ((HB.out.alloc _).trans hb3)
        have HA := Lib.hid (HNO.out hr)
        clear hb3 hr
        go_wp2
        go_ret
        exact ⟨ret_bool HA.out.symm, HB3.out⟩
    · rw [List.take_of_length_le (by omega)] at hall
      have hA : S.all rightS = true := by rw [List.all_eq_true]; exact hall
      clear hel
      by_cases g1 : 1 ≤ S.length
      · by_cases g3 : S.length ≤ 3
        · have HE := Lib.hid (show right4E S P = (wrongE P S.length == 0) by
            unfold right4E; rw [hA, decide_eq_true g1, decide_eq_true g3]
            rw [Bool.eq_iff_iff]; simp)
          have HB := Lib.hid hb
          clear hA hall hb
          go_wp2_with fail
          refine (HWP.out _ HB.out).mono ?_
          rintro e w3 ⟨rfl, hb3⟩
          have HB3 := Lib.hid (HB.out.trans hb3)
          clear hb3
          generalize wrongE P S.length = we at *
          go_wp2
          go_ret
          exact ⟨ret_bool HE.out.symm, HB3.out⟩
        · have HE := Lib.hid (show right4E S P = false by
            unfold right4E; rw [decide_eq_false g3]; simp)
          clear hA hall
          have g4 : 3 < S.length := by omega
          go_wp2
          go_ret
          exact ⟨ret_bool HE.out.symm, hb⟩
      · have HE := Lib.hid (show right4E S P = false by
          unfold right4E; rw [decide_eq_false g1]; simp)
        have g0 : S.length = 0 := by omega
        clear hA hall
        have g4 : S.length < 1 := by omega
        go_wp2
        go_ret
        exact ⟨ret_bool HE.out.symm, hb⟩
end Go.Proofs.Ytgbhpghgohggcaa

/- Literal rows: what has just been laid whole reads as a list. -/
namespace Go.Proofs.Ytgbhpghgohggcaa
open Go.RowKit
def All2 {α β : Type} (R : α → β → Prop) : List α → List β → Prop
  | [], [] => True
  | a :: l, b :: m => R a b ∧ All2 R l m
  | _, _ => False
theorem All2.len {α β : Type} {R : α → β → Prop} : ∀ {l : List α} {m : List β}, All2 R l m → l.length = m.length
  | [], [], _ => rfl
  | _ :: _, _ :: _, h => by rw [List.length_cons, List.length_cons, All2.len h.2]
  | [], _ :: _, h => h.elim
  | _ :: _, [], h => h.elim
theorem All2.get {α β : Type} {R : α → β → Prop} : ∀ {l : List α} {m : List β}, All2 R l m → ∀ (i : Nat) (a : α) (b : β), l[i]? = some a → m[i]? = some b → R a b
  | [], [], _, i, a, b, h1, _ => by simp at h1
  | _ :: _, _ :: _, h, 0, a, b, h1, h2 => by
    simp only [List.getElem?_cons_zero, Option.some.injEq] at h1 h2
    subst h1 h2
    exact h.1
  | _ :: _, _ :: _, h, i + 1, a, b, h1, h2 => All2.get h.2 i a b (by simpa using h1) (by simpa using h2)
  | [], _ :: _, h, _, _, _, _, _ => h.elim
  | _ :: _, [], h, _, _, _, _, _ => h.elim
theorem OwnC.lit {α : Type} {T : Ty α} {c : CM} {base e : Nat} (w : World) {cs : Array Value} (css : List (List Value)) {l : List α} {g n : Nat} (hg : g = w.heap.size) (hn : n = l.length) (hb : base ≤ w.heap.size) (hm : l.length ≤ maxLen) (hcs : cs.toList = css.flatten) (hR : All2 (T.R c) css l) : OwnC T c (w.alloc (.cells cs e)) base e (.slice (some ⟨g, 0, none⟩) n n) l := by
  subst hg hn
  have hl := hR.len
  have h3 := hR.get
  refine ⟨css, ?_, hl, h3⟩
  have h := World.ownsRow_lit (base := base) (e := e) (size := T.size) w cs l.length hb hm (by rw [← Array.length_toList, hcs, flatten_len css (css_len hl h3), hl])
  rw [hcs] at h
  exact h
/-- what has just been laid whole, and what it leads to was there -/
theorem Sl.lit {α : Type} {T : Ty α} {e : Nat} (w : World) {W : World} {cs : Array Value} (css : List (List Value)) {l : List α} {g n : Nat} (h0 : 0 < T.size) (hW : Grow (w.alloc (.cells cs e)) W) (hg : g = w.heap.size) (hn : n = l.length) (hm : l.length ≤ maxLen) (hcs : cs.toList = css.flatten) (hR : All2 (T.R w.cell?) css l) : Sl T W.cell? (.slice (some ⟨g, 0, none⟩) n n) l :=
  ((OwnC.lit (base := w.heap.size) (e := e) w css hg hn (Nat.le_refl _) hm hcs hR).sl h0 ((Grow.refl _).alloc _).sub).mono hW.sub
end Go.Proofs.Ytgbhpghgohggcaa

/- The closed fact that chapter 4's laws ask first, walked. -/
namespace Go.Proofs.Ytgbhpghgohggcaa
open Go.RowKit
def p127 : List Pt := [⟨1, 2, 7⟩]
def p027 : List Pt := [⟨0, 2, -7⟩]
def s2z : List Sm := [⟨0, 0, 0, 0⟩, ⟨0, 0, 0, 0⟩]
def s27 : List Sm := [⟨0, 0, 0, 0⟩, ⟨0, 0, 7, 0⟩]
theorem pts_at (a b c : Int) (ha : I64 a) (hb : I64 b) (hc : I64 c) (w W : World) (t : TypeId) {g : Nat} (hg : g = w.heap.size) (hW : Grow (w.alloc (.cells #[.int .i64 a, .int .i64 b, .int .i64 c] t)) W) : Pts W.cell? (.slice (some ⟨g, 0, none⟩) 1 1) [⟨a, b, c⟩] := by
  subst hg
  exact pts_one a b c ha hb hc w W t hW
set_option maxRecDepth 100000 in
set_option maxHeartbeats 2000000 in
theorem alive4 (w : World) : Calls Try.prog 97 #[] w fun e w' => e = .returned (.bool true) ∧ Grow w w' := by
  obtain ⟨cs, hmk0, hms⟩ := make_sums (n := 2) (by omega)
  have hmk : ∀ w : World, (Instr.makeSlice 98 (.int .i64 2) (.int .i64 2)).run Try.prog w = .ok (.slice (some ⟨w.heap.size, 0, none⟩) 2 2) (w.alloc (.cells cs 25)) := hmk0
  have i0 : I64 0 := by unfold I64; decide
  have i1 : I64 1 := by unfold I64; decide
  have i2 : I64 2 := by unfold I64; decide
  have i7 : I64 7 := by unfold I64; decide
  have im : I64 (-7) := by unfold I64; decide
  have HS0 : Hid (Sms (w.alloc (.cells cs 25)).cell? (.slice (some ⟨w.heap.size, 0, none⟩) 2 2) s2z) := Lib.hid ((hms w).sl (by decide) (fun a v e => by cases e))
  have HP1 := Lib.hid (fun (w : World) => pts_one 1 2 7 i1 i2 i7 w)
  have HPA : Hid (Pts ((w.alloc (.cells cs 25)).alloc (.cells #[.int .i64 1, .int .i64 2, .int .i64 7] 32)).cell? (.slice (some ⟨w.heap.size + 1, 0, none⟩) 1 1) p127) := Lib.hid (pts_at 1 2 7 i1 i2 i7 (w.alloc (.cells cs 25)) _ _ (by simp) (Grow.refl _))
  have HP2 := Lib.hid (fun (w W : World) (t : TypeId) (g : Nat) (hg : g = w.heap.size) => pts_at 0 2 (-7) i0 i2 im w W t hg)
  have HI0 := Lib.hid i0
  have HDO := Lib.hid (fun (vp : Value) (W : World) (hW : Grow (w.alloc (.cells cs 25)) W) (hp : Pts W.cell? vp p127) => model_do W (HS0.out.mono hW.sub) hp (by decide) (by decide) (by decide))
  have HAL := Lib.hid (fun (v : Value) (W : World) (hD : Sl Ty.rd W.cell? v [⟨0, p127⟩, ⟨0, p027⟩]) => model_all (n := 2) W (by omega) hD (by intro r hr; simp at hr; rcases hr with rfl | rfl <;> decide) (by decide))
  have HTO := Lib.hid (fun (v : Value) (W : World) (hv : Sms W.cell? v s27) => model_total W hv (by intro s hs; simp [s27] at hs; rcases hs with rfl | rfl <;> decide) (by decide))
  have e1 : (doAllE s2z p127).2 = 0 := by kernel_rfl
  have e2 : (doAllE s2z p127).1 = s27 := by kernel_rfl
  have e3 : (allE (List.replicate 2 ⟨0, 0, 0, 0⟩) [⟨0, p127⟩, ⟨0, p027⟩]).1 = s27 := by kernel_rfl
  have e4 : (allE (List.replicate 2 ⟨0, 0, 0, 0⟩) [⟨0, p127⟩, ⟨0, p027⟩]).2 = [0, 11] := by kernel_rfl
  have e5 : totalE s27 = 7 := by kernel_rfl
  rw [e1, e2] at HDO
  rw [e3, e4] at HAL
  rw [e5] at HTO
  have HG0 : Hid (Grow w (w.alloc (.cells cs 25))) := Lib.hid ((Grow.refl w).alloc _)
  clear i0 i1 i2 i7 im e1 e2 e3 e4 e5 hms hmk0
  go_enter Try.func97, Try.ntmps97
  go_wp2_with fail
  refine (HDO.out (.slice (some ⟨w.heap.size + 1, 0, none⟩) 1 1) ((w.alloc (.cells cs 25)).alloc (.cells #[.int .i64 1, .int .i64 2, .int .i64 7] 32)) ((Grow.refl _).alloc _) HPA.out).mono ?_
  rintro e w1 ⟨v1, rfl, hS1, hb1, -⟩
  obtain ⟨a1, c1, rfl, p1, p2, -, hel1⟩ := id hS1
  have HS1 := Lib.hid hS1
  have HB1 := Lib.hid ((HG0.out.alloc _).trans hb1)
  obtain ⟨b1, o1, rfl, -, -, q2, -⟩ := smAt hel1 1 (by decide)
  have HQ2 := Lib.hid q2
  simp only [show s27.length = 2 from rfl] at p1 ⊢
  clear hS1 hb1 hel1 q2 hmk
  go_wp2_with fail
  have hD : ∀ (W : World), Grow (((w1.alloc (.cells #[.int .i64 1, .int .i64 2, .int .i64 7] 32)).alloc (.cells #[.int .i64 0, .int .i64 2, .int .i64 (-7)] 32)).alloc (.cells #[.int .i64 0, .slice (some ⟨w1.heap.size, 0, none⟩) 1 1, .int .i64 0, .slice (some ⟨w1.heap.size + 1, 0, none⟩) 1 1] 45)) W → Sl Ty.rd W.cell? (.slice (some ⟨w1.heap.size + 1 + 1, 0, none⟩) 2 2) [⟨0, p127⟩, ⟨0, p027⟩] := fun W hW => by
    refine Sl.lit (T := Ty.rd) ((w1.alloc (.cells #[.int .i64 1, .int .i64 2, .int .i64 7] 32)).alloc (.cells #[.int .i64 0, .int .i64 2, .int .i64 (-7)] 32)) [[.int .i64 0, .slice (some ⟨w1.heap.size, 0, none⟩) 1 1], [.int .i64 0, .slice (some ⟨w1.heap.size + 1, 0, none⟩) 1 1]] (by decide) hW (by simp) rfl (by decide) rfl ⟨⟨_, rfl, HI0.out, HP1.out _ _ _ ((Grow.refl _).alloc _)⟩, ⟨_, rfl, HI0.out, HP2.out (w1.alloc (.cells #[.int .i64 1, .int .i64 2, .int .i64 7] 32)) _ _ _ (by simp) (Grow.refl _)⟩, trivial⟩
  refine (HAL.out _ _ (hD _ (Grow.refl _))).mono ?_
  rintro e w2 ⟨v2, v3, rfl, hS2, hE2, hb2⟩
  obtain ⟨a2, c2, rfl, -⟩ := id hS2
  obtain ⟨a3, c3, rfl, p3, p4, -, hel3⟩ := id hE2
  obtain ⟨b3, o3, rfl, r1, -⟩ := intAt hel3 1 (by decide)
  have HB2 := Lib.hid (((((Grow.refl w1).alloc _).alloc _).alloc _).trans hb2)
  have HS2 := Lib.hid hS2
  have q2 := HB2.out.sub _ _ HQ2.out
  have zq := World.block_lt_of_cell? w2 _ q2
  have zr := World.block_lt_of_cell? w2 _ r1
  have HR1 := Lib.hid r1
  simp only [show s27.length = 2 from rfl, List.length_cons, List.length_nil, Nat.zero_add, Nat.one_mul, show s27[1].c = 7 from rfl] at zq zr p3 q2 ⊢
  have q2' : w2.cell? ⟨b1, o1 + 6, none⟩ = some (.int .i64 7) := q2
  clear hD hS2 hE2 hel3 hb2 r1
  go_wp2_with fail
  refine (HTO.out _ _ (HS1.out.mono HB2.out.sub)).mono ?_
  rintro e w3 ⟨rfl, hb3⟩
  have HB3 := Lib.hid (HB2.out.trans hb3)
  have HS3 := Lib.hid (HS2.out.mono hb3.sub)
  have r1 := hb3.sub _ _ HR1.out
  have zr3 := World.block_lt_of_cell? w3 _ r1
  simp only [List.getElem_cons_succ, List.getElem_cons_zero] at r1 zr3
  clear hb3 q2 q2' zq
  go_wp2_with fail
  refine (ref_sameSums _ (HS1.out.mono HB3.out.sub) HS3.out).mono ?_
  rw [decide_eq_true rfl]
  rintro e w4 ⟨rfl, hb4⟩
  have HB4 := Lib.hid (HB1.out.trans (HB3.out.trans hb4))
  have r2 := hb4.sub _ _ r1
  have zr4 := World.block_lt_of_cell? w4 _ r2
  simp only at zr4
  clear hb4 r1 zr3
  go_wp2
  go_ret
  exact ⟨rfl, HB4.out⟩
end Go.Proofs.Ytgbhpghgohggcaa

/- The law ModelEven, walked. -/
namespace Go.Proofs.Ytgbhpghgohggcaa
open Go.RowKit
theorem psum_bound : ∀ {l : List Pt}, (∀ p ∈ l, -1048576 ≤ p.n ∧ p.n ≤ 1048576) → -1048576 * (l.length : Int) ≤ psum l ∧ psum l ≤ 1048576 * l.length
  | [], _ => by simp [psum]
  | p :: l, h => by
    have h1 := psum_bound fun q hq => h q (List.mem_cons_of_mem _ hq)
    have h2 := h p List.mem_cons_self
    simp only [psum, List.length_cons]
    omega
theorem psum_snoc : ∀ (l : List Pt) (p : Pt), psum (l ++ [p]) = psum l + p.n
  | [], p => by simp [psum]
  | x :: l, p => by simp only [List.cons_append, psum, psum_snoc l p]; omega
set_option maxRecDepth 100000 in
set_option maxHeartbeats 8000000 in
theorem modelEven_walk {v va : Value} {S : List Sm} {A : List Pt} (w : World) (hv : Sms w.cell? v S) (_hs : S.length * 32 ≤ 140737488351232) (ha : Pts w.cell? va A) (_has : A.length * 24 ≤ 140737488351232) :
    Calls Try.prog 22 #[v, va] w fun e w' => e = .returned (.bool true) ∧ Grow w w' := by
  have HAL := Lib.hid (alive4 w)
  have HRA := Lib.hid (fun (W : World) (hW : Grow w W) => law4_right W (hv.mono hW.sub) (ha.mono hW.sub))
  have HV := Lib.hid hv
  have HA := Lib.hid ha
  obtain ⟨a, cap, rfl, h1, h2, -, hel⟩ := hv
  obtain ⟨ap, cp, rfl, h3, h4, -, hael⟩ := ha
  unfold maxLen at h2 h4
  cases hok : right4E S A with
  | false =>
    clear hel hael
    go_enter Try.func22, Try.ntmps22
    go_wp2_with fail
    refine HAL.out.mono ?_
    rintro e w1 ⟨rfl, hb1⟩
    have G1 := Lib.hid hb1
    clear hb1
    go_wp2_with fail
    refine (HRA.out _ G1.out).mono ?_
    rw [hok]
    rintro e w2 ⟨rfl, hb2⟩
    go_wp2
    go_ret
    exact ⟨rfl, G1.out.trans hb2⟩
  | true =>
    have HOK := Lib.hid hok
    have h0 := right4_ok hok
    have hev := even_law h0.2.2.2 h0.1 h0.2.1 h0.2.2.1
    have hD := doAll_right h0.2.2.2 h0.1
    have la := doAll_len' S A
    have hwo := wrong_ok h0.2.2.2
    have HPN : Hid (∀ p ∈ A, 0 ≤ p.h ∧ p.h < S.length ∧ 0 ≤ p.k ∧ p.k < 4 ∧ p.n ≤ 1048576 ∧ -1048576 ≤ p.n) := hwo.2.2.1
    have hA4 : A.length ≤ 4 := hwo.2.1
    have hS3 := h0.2.2.1
    have HPB := Lib.hid (fun k => psum_bound (l := A.take k) fun p hp => by have := HPN.out p (List.mem_of_mem_take hp); omega)
    have HD1 := Lib.hid (fun (W : World) (hW : Grow w W) => model_do W (HV.out.mono hW.sub) (HA.out.mono hW.sub) h0.2.2.2 h0.2.1 h0.2.2.1)
    have HT1 := Lib.hid (fun (v1 : Value) (W : World) (h1 : Sms W.cell? v1 (doAllE S A).1) => model_total W h1 hD (by rw [la]; exact h0.2.2.1))
    have HT2 := Lib.hid (fun (W : World) (hW : Grow w W) => model_total W (HV.out.mono hW.sub) h0.1 h0.2.2.1)
    have HTB := Lib.hid (total_bound h0.1)
    have HRG : Hid (∀ (m : Nat) s, S[m]? = some s → rightS s = true) := fun m s hs => h0.1 s (List.mem_of_getElem? hs)
    have HRG2 : Hid (∀ (m : Nat) s, (doAllE S A).1[m]? = some s → rightS s = true) := fun m s hs => hD s (List.mem_of_getElem? hs)
    clear hok h0 hD hwo
    go_enter Try.func22, Try.ntmps22
    go_wp2_with fail
    refine HAL.out.mono ?_
    rintro e w1 ⟨rfl, hb1⟩
    have G1 := Lib.hid hb1
    clear hb1
    go_wp2_with fail
    refine (HRA.out _ G1.out).mono ?_
    rw [HOK.out]
    rintro e w2 ⟨rfl, hb2⟩
    have G2 := Lib.hid (G1.out.trans hb2)
    clear hb2
    go_wp2_with fail
    refine (HD1.out _ G2.out).mono ?_
    rintro e w3 ⟨v3, rfl, hs3, hb3, -⟩
    obtain ⟨a3, c3, rfl, p1, p2, -, hel3⟩ := id hs3
    have HS3 := Lib.hid hs3
    have G3 := Lib.hid (G2.out.trans hb3)
    unfold maxLen at p2
    clear hs3 hb3
    by_cases he : (doAllE S A).2 = 0
    · have hbe : ((doAllE S A).2 != 0) = false := by simp [he]
      have HTE := Lib.hid (hev.2 he).1
      have HPE := Lib.hid (hev.2 he).2
      have HLA := Lib.hid la
      clear hev he
      generalize (doAllE S A).2 = er at *
      generalize (doAllE S A).1 = S' at *
      have p3 : S'.length = S.length := HLA.out
      go_wp2
      go_loopw [4, 7, 29] (fun _ t i wr => ∃ k : Nat, k ≤ A.length ∧ i = .int .i64 k ∧ t = .int .i64 (psum (A.take k)) ∧ Grow w3 wr) (fun _ _ i _ => A.length - (intOf i).toNat)
      case atStart => exact ⟨0, by omega, rfl, rfl, Grow.refl _⟩
      case round =>
        obtain ⟨k, hk', rfl, rfl, hb⟩ := hrel
        by_cases hlt : k < A.length
        · obtain ⟨b, o, rfl, c0, c1', c2', -, -, -⟩ := Pts.at_ hael k hlt
          replace c0 := (G3.out.trans hb).sub _ _ c0
          replace c1' := (G3.out.trans hb).sub _ _ c1'
          replace c2' := (G3.out.trans hb).sub _ _ c2'
          have HPS := Lib.hid (show psum (A.take (k + 1)) = psum (A.take k) + A[k].n by rw [List.take_succ_eq_append_getElem hlt, psum_snoc])
          have hbd := HPB.out k
          rw [List.length_take, Nat.min_eq_left (by omega)] at hbd
          have hp := HPN.out _ (List.getElem_mem hlt)
          obtain ⟨x, y, hx, hy, hyx, hy0⟩ := HPE.out _ (List.getElem_mem hlt)
          clear hael
          generalize psum (A.take k) = acc at *
          generalize A[k] = p at *
          obtain ⟨ph, pk, pn⟩ := p
          simp only at c0 c1' c2' hp hx hy hyx hy0
          obtain ⟨m, rfl⟩ : ∃ m : Nat, ph = m := ⟨ph.toNat, by omega⟩
          simp only [Int.toNat_natCast] at hx hy
          have hm : m < S.length := by omega
          have hm' : m < S'.length := by omega
          obtain ⟨b1, o1, rfl, x0, x1, x2, x3, -, -, -, -⟩ := smAt hel m hm
          obtain ⟨b2, o2, rfl, y0, y1, y2, y3, -, -, -, -⟩ := smAt hel3 m hm'
          have ex : S[m] = x := by rw [List.getElem?_eq_getElem hm] at hx; exact Option.some.inj hx
          have ey : S'[m] = y := by rw [List.getElem?_eq_getElem hm'] at hy; exact Option.some.inj hy
          have rx := (rightS_iff x).1 (HRG.out m x hx)
          rw [ex] at x0 x1 x2 x3
          rw [ey] at y0 y1 y2 y3
          replace x0 := (G3.out.trans hb).sub _ _ x0
          replace x1 := (G3.out.trans hb).sub _ _ x1
          replace x2 := (G3.out.trans hb).sub _ _ x2
          replace x3 := (G3.out.trans hb).sub _ _ x3
          replace y0 := hb.sub _ _ y0
          replace y1 := hb.sub _ _ y1
          replace y2 := hb.sub _ _ y2
          replace y3 := hb.sub _ _ y3
          have r0 := rx 0 (by omega)
          have r1 := rx 1 (by omega)
          have r2 := rx 2 (by omega)
          have r3 := rx 3 (by omega)
          obtain ⟨xa, xb, xc, xd⟩ := x
          obtain ⟨ya, yb, yc, yd⟩ := y
          simp only [Sm.get, S4] at r0 r1 r2 r3
          simp at r0 r1 r2 r3
          simp only at x0 x1 x2 x3 y0 y1 y2 y3
          have zb1 := World.block_lt_of_cell? wr _ x0
          have zb2 := World.block_lt_of_cell? wr _ y0
          simp only at zb1 zb2
          clear hel hel3 hx hy ex ey rx
          have hk4 : pk = 0 ∨ pk = 1 ∨ pk = 2 ∨ pk = 3 := by omega
          rcases hk4 with rfl | rfl | rfl | rfl
          · simp [Sm.get, S4] at hyx hy0
            subst hyx
            have t1 : (xa + pn != xa + pn) = false := by simp
            have t2 : IntKind.i64.wrap (xa + pn) = xa + pn := IntWalk.i64_in _ (by omega)
            go_wp2_with (go_quiet (fail))
            clear t2
            go_roundw
            case rel => exact ⟨k + 1, by omega, by go_num, by rw [HPS.out], (by repeat (first | with_reducible assumption | with_reducible exact Grow.refl _ | with_reducible apply Grow.drewN | with_reducible apply Grow.drew | with_reducible apply Grow.alloc | (refine Grow.setCell ?_ (by simp; done) _)))⟩
            case measure => simp [intOf]; omega
          · simp [Sm.get, S4] at hyx hy0
            subst hyx
            have t1 : (xb + pn != xb + pn) = false := by simp
            have t2 : IntKind.i64.wrap (xb + pn) = xb + pn := IntWalk.i64_in _ (by omega)
            go_wp2_with (go_quiet (fail))
            clear t2
            go_roundw
            case rel => exact ⟨k + 1, by omega, by go_num, by rw [HPS.out], (by repeat (first | with_reducible assumption | with_reducible exact Grow.refl _ | with_reducible apply Grow.drewN | with_reducible apply Grow.drew | with_reducible apply Grow.alloc | (refine Grow.setCell ?_ (by simp; done) _)))⟩
            case measure => simp [intOf]; omega
          · simp [Sm.get, S4] at hyx hy0
            subst hyx
            have t1 : (xc + pn != xc + pn) = false := by simp
            have t2 : IntKind.i64.wrap (xc + pn) = xc + pn := IntWalk.i64_in _ (by omega)
            go_wp2_with (go_quiet (fail))
            clear t2
            go_roundw
            case rel => exact ⟨k + 1, by omega, by go_num, by rw [HPS.out], (by repeat (first | with_reducible assumption | with_reducible exact Grow.refl _ | with_reducible apply Grow.drewN | with_reducible apply Grow.drew | with_reducible apply Grow.alloc | (refine Grow.setCell ?_ (by simp; done) _)))⟩
            case measure => simp [intOf]; omega
          · simp [Sm.get, S4] at hyx hy0
            subst hyx
            have t1 : (xd + pn != xd + pn) = false := by simp
            have t2 : IntKind.i64.wrap (xd + pn) = xd + pn := IntWalk.i64_in _ (by omega)
            go_wp2_with (go_quiet (fail))
            clear t2
            go_roundw
            case rel => exact ⟨k + 1, by omega, by go_num, by rw [HPS.out], (by repeat (first | with_reducible assumption | with_reducible exact Grow.refl _ | with_reducible apply Grow.drewN | with_reducible apply Grow.drew | with_reducible apply Grow.alloc | (refine Grow.setCell ?_ (by simp; done) _)))⟩
            case measure => simp [intOf]; omega
        · have hk2 : k = A.length := by omega
          have hbd := HPB.out A.length
          rw [List.take_of_length_le (Nat.le_refl _)] at hbd
          rw [List.take_of_length_le (by omega)]
          have htb := HTB.out
          have G4 := Lib.hid (G3.out.trans hb)
          have HS4 : Hid (Sms wr.cell? (.slice a3 S.length c3) S') := Lib.hid (by have h9 := HS3.out.mono hb.sub; rwa [HLA.out] at h9)
          clear hel hel3 hael hb
          go_wp2_with fail
          refine (HT1.out _ _ HS4.out).mono ?_
          rw [HTE.out]
          rintro e w5 ⟨rfl, hb5⟩
          have G5 := Lib.hid (G4.out.trans hb5)
          clear hb5
          go_wp2_with fail
          refine (HT2.out _ G5.out).mono ?_
          rintro e w6 ⟨rfl, hb6⟩
          have G6 := Lib.hid (G5.out.trans hb6)
          have t1 : (totalE S + psum A == totalE S + psum A) = true := by simp
          clear hb6
          generalize totalE S = ts at *
          generalize psum A = ps at *
          go_wp2
          go_ret
          exact ⟨rfl, G6.out⟩
    · have hbe : ((doAllE S A).2 != 0) = true := by simp [he]
      have HES := Lib.hid (hev.1 he)
      have HS5 : Hid (Sms w3.cell? (.slice a3 S.length c3) (doAllE S A).1) := Lib.hid (by have h9 := HS3.out; rwa [la] at h9)
      clear hev he hel hael hel3
      generalize (doAllE S A).2 = er at *
      go_wp2_with fail
      refine (ref_sameSums _ HS5.out (HV.out.mono G3.out.sub)).mono ?_
      rw [decide_eq_true HES.out]
      rintro e w5 ⟨rfl, hb5⟩
      have G5 := Lib.hid (G3.out.trans hb5)
      clear hb5
      go_wp2
      go_ret
      exact ⟨rfl, G5.out⟩
end Go.Proofs.Ytgbhpghgohggcaa

/- From the form's reading of an argument to plain readings of cells. -/
namespace Go.Proofs.Ytgbhpghgohggcaa
open Go.RowKit Go.ChangeShapes Go.WideShapes Go.ChangeAt

def Reads {α : Type} (P : Program) (t : TypeId) (T : Ty α) : Prop := ∀ (H : Type) (enc : TypeId × Value → H) (W : World) (fuel : Nat) (cs : List Value) (x : DataW H × List MemPlace),
  DataW.trod enc P W 0 (fun _ => true) true fuel t cs = some x → ∃ y, T.R W.cell? cs y
theorem reads_int {P : Program} {t : TypeId} (ht : P.underlying t = some (.int .i64)) : Reads P t Ty.int := by
  intro H enc W fuel cs x h
  obtain ⟨n, rfl, _, hw⟩ := DataW.trod_int ht h
  exact ⟨n, rfl, hw⟩
theorem reads_sl {α : Type} {P : Program} {t e : TypeId} {T : Ty α} (hR : Reads P e T) (ht : P.underlying t = some (.slice e)) (hc : P.cellsOf e = T.size) (h0 : 0 < T.size) : Reads P t T.sl := by
  intro H enc W fuel cs x h
  rcases Deep.open_slice ht h with ⟨rfl, _⟩ | ⟨a, len, cap, m, n, D, Pl, rfl, _, hl, hm, hmm, hxe, hx⟩
  · exact ⟨[], _, rfl, none, 0, rfl, Nat.le_refl _, Nat.zero_le _, fun _ => rfl, fun i x e => by simp at e⟩
  · simp only [if_true] at hmm
    subst m
    have h2 : ∀ i, i < len → ∃ (p : List Value × α), T.R W.cell? p.1 p.2 ∧ W.cells? 0 (a.add (i * T.size)) T.size = some p.1 := by
      intro i hi
      obtain ⟨cs', h1, h2⟩ := hx i (by omega)
      obtain ⟨y, hy⟩ := hR H enc W n cs' _ h2
      rw [hc] at h1
      exact ⟨(cs', y), hy, h1⟩
    have h3 : ∃ l : List α, l.length = len ∧ ∀ i y, l[i]? = some y → ∃ cs', T.R W.cell? cs' y ∧ W.cells? 0 (a.add (i * T.size)) T.size = some cs' := by
      clear hx hl h hxe
      induction len with
      | zero => exact ⟨[], rfl, by simp⟩
      | succ len ih =>
        obtain ⟨l, hl, hi⟩ := ih (by intro i hi; exact h2 i (by omega))
        obtain ⟨⟨cs', y⟩, hy, h1⟩ := h2 len (by omega)
        refine ⟨l ++ [y], by simp [hl], fun i z hz => ?_⟩
        rcases Nat.lt_or_ge i l.length with hlt | hge
        · rw [List.getElem?_append_left hlt] at hz; exact hi i z hz
        · have hb := (List.getElem?_eq_some_iff.1 hz).1
          simp at hb
          obtain rfl : i = len := by omega
          rw [List.getElem?_append_right hge, hl] at hz
          simp at hz
          subst hz
          exact ⟨cs', hy, h1⟩
    obtain ⟨l, hlen, hl2⟩ := h3
    refine ⟨l, _, rfl, some a, cap, by rw [hlen], by omega, hm, by simp, fun i y hy => ?_⟩
    obtain ⟨cs', hR', hcs⟩ := hl2 i y hy
    obtain ⟨_, hlen', hat⟩ := World.cells?_some hcs
    have hpos : 0 < l.length := by have := (List.getElem?_eq_some_iff.1 hy).1; omega
    obtain ⟨cs0, _, hcs0⟩ := hl2 0 l[0] (List.getElem?_eq_getElem hpos)
    obtain ⟨_, hlen0, hat0⟩ := World.cells?_some hcs0
    have hfirst := hat0 0 h0
    rw [List.getElem?_eq_getElem (by omega)] at hfirst
    have hsp := World.cell?_spot hfirst
    obtain ⟨b, o, s⟩ := a
    have hs : s = none := by simpa [Addr.add] using hsp
    subst hs
    refine ⟨b, o, cs', rfl, hR', fun j u hu => ?_⟩
    have hj : j < T.size := by rw [← hlen']; exact (List.getElem?_eq_some_iff.1 hu).1
    have := hat j hj
    rw [Addr.add_lit, Addr.add_lit, hu] at this
    exact this
/-- a struct's fields: type, place, cells -/
def structOf (P : Program) (t : TypeId) : Option (List (TypeId × Nat × Nat)) :=
  match P.underlying t with
  | some (.struct fs) => some (fs.toList.map fun f => (f.type, f.offset, P.cellsOf f.type))
  | _ => none
theorem struct_fields {P : Program} {t : TypeId} {fs' : List (TypeId × Nat × Nat)} (hs : structOf P t = some fs') {H : Type} {enc : TypeId × Value → H} {W : World} {fuel : Nat} {cs : List Value} {x : DataW H × List MemPlace}
    (h : DataW.trod enc P W 0 (fun _ => true) true fuel t cs = some x) : cs.length = P.cellsOf t ∧ ∀ (i : Nat) (f : TypeId × Nat × Nat), fs'[i]? = some f → ∃ n y, DataW.trod enc P W 0 (fun _ => true) true n f.1 ((cs.drop f.2.1).take f.2.2) = some y := by
  unfold structOf at hs
  split at hs
  · rename_i fs hu
    obtain rfl := Option.some.inj hs
    obtain ⟨xs, n, _, _, hl, hlen, hf⟩ := DataW.trod_struct hu h
    refine ⟨hl, fun i f hi => ?_⟩
    rw [List.getElem?_map] at hi
    cases hfi : fs.toList[i]? with
    | none => rw [hfi] at hi; cases hi
    | some fd =>
      rw [hfi] at hi
      obtain rfl := Option.some.inj hi
      have hfi' : fs[i]? = some fd := by simpa using hfi
      have hlt : i < xs.length := by rw [hlen]; exact (Array.getElem?_eq_some_iff.1 hfi').1
      have := hf i fd hfi'
      rw [List.getElem?_eq_getElem hlt] at this
      exact ⟨n, _, this⟩
  · cases hs
theorem reads_pt : Reads Try.prog 32 Ty.pt := by
  intro H enc W fuel cs x h
  obtain ⟨hl, hf⟩ := struct_fields (fs' := [(3, 0, 1), (3, 1, 1), (3, 2, 1)]) (by kernel_rfl) h
  rw [show (Try.prog).cellsOf 32 = 3 by kernel_rfl] at hl
  match cs, hl with
  | [a, b, c], _ =>
    obtain ⟨_, _, h0⟩ := hf 0 _ rfl
    obtain ⟨_, _, h1⟩ := hf 1 _ rfl
    obtain ⟨_, _, h2⟩ := hf 2 _ rfl
    obtain ⟨x0, e0, w0⟩ := reads_int (by kernel_rfl) _ _ _ _ _ _ h0
    obtain ⟨x1, e1, w1⟩ := reads_int (by kernel_rfl) _ _ _ _ _ _ h1
    obtain ⟨x2, e2, w2⟩ := reads_int (by kernel_rfl) _ _ _ _ _ _ h2
    refine ⟨⟨x0, x1, x2⟩, ?_, w0, w1, w2⟩
    simp at e0 e1 e2
    subst e0 e1 e2
    rfl
theorem reads_pts : Reads Try.prog 23 Ty.pts := reads_sl reads_pt (by kernel_rfl) (by kernel_rfl) (by decide)
theorem reads_ints : Reads Try.prog 27 (Ty.sl Ty.int) := reads_sl (reads_int (t := 3) (by kernel_rfl)) (by kernel_rfl) (by kernel_rfl) (by decide)
theorem reads_rc : Reads Try.prog 48 Ty.rc := by
  intro H enc W fuel cs x h
  obtain ⟨hl, hf⟩ := struct_fields (fs' := [(3, 0, 1), (3, 1, 1), (23, 2, 1)]) (by kernel_rfl) h
  rw [show (Try.prog).cellsOf 48 = 3 by kernel_rfl] at hl
  match cs, hl with
  | [a, b, c], _ =>
    obtain ⟨_, _, h0⟩ := hf 0 _ rfl
    obtain ⟨_, _, h1⟩ := hf 1 _ rfl
    obtain ⟨_, _, h2⟩ := hf 2 _ rfl
    obtain ⟨x0, e0, w0⟩ := reads_int (by kernel_rfl) _ _ _ _ _ _ h0
    obtain ⟨x1, e1, w1⟩ := reads_int (by kernel_rfl) _ _ _ _ _ _ h1
    obtain ⟨x2, v2, e2, w2⟩ := reads_pts _ _ _ _ _ _ h2
    refine ⟨⟨x0, x1, x2⟩, v2, ?_, w0, w1, w2⟩
    simp at e0 e1 e2
    subst e0 e1 e2
    rfl
theorem reads_rcs : Reads Try.prog 22 (Ty.sl Ty.rc) := reads_sl reads_rc (by kernel_rfl) (by kernel_rfl) (by decide)
theorem reads_rd : Reads Try.prog 45 Ty.rd := by
  intro H enc W fuel cs x h
  obtain ⟨hl, hf⟩ := struct_fields (fs' := [(3, 0, 1), (23, 1, 1)]) (by kernel_rfl) h
  rw [show (Try.prog).cellsOf 45 = 2 by kernel_rfl] at hl
  match cs, hl with
  | [a, b], _ =>
    obtain ⟨_, _, h0⟩ := hf 0 _ rfl
    obtain ⟨_, _, h1⟩ := hf 1 _ rfl
    obtain ⟨x0, e0, w0⟩ := reads_int (by kernel_rfl) _ _ _ _ _ _ h0
    obtain ⟨x2, v2, e2, w2⟩ := reads_pts _ _ _ _ _ _ h1
    refine ⟨⟨x0, x2⟩, v2, ?_, w0, w2⟩
    simp at e0 e2
    subst e0 e2
    rfl
theorem reads_ms : Reads Try.prog 39 Ty.ms := by
  intro H enc W fuel cs x h
  obtain ⟨hl, hf⟩ := struct_fields (fs' := [(3, 0, 1), (3, 1, 1), (3, 2, 1), (23, 3, 1)]) (by kernel_rfl) h
  rw [show (Try.prog).cellsOf 39 = 4 by kernel_rfl] at hl
  match cs, hl with
  | [a, b, c, d], _ =>
    obtain ⟨_, _, h0⟩ := hf 0 _ rfl
    obtain ⟨_, _, h1⟩ := hf 1 _ rfl
    obtain ⟨_, _, h2⟩ := hf 2 _ rfl
    obtain ⟨_, _, h3⟩ := hf 3 _ rfl
    obtain ⟨x0, e0, w0⟩ := reads_int (by kernel_rfl) _ _ _ _ _ _ h0
    obtain ⟨x1, e1, w1⟩ := reads_int (by kernel_rfl) _ _ _ _ _ _ h1
    obtain ⟨x2, e2, w2⟩ := reads_int (by kernel_rfl) _ _ _ _ _ _ h2
    obtain ⟨x3, v3, e3, w3⟩ := reads_pts _ _ _ _ _ _ h3
    refine ⟨⟨x0, x1, x2, x3⟩, v3, ?_, w0, w1, w2, w3⟩
    simp at e0 e1 e2 e3
    subst e0 e1 e2 e3
    rfl
theorem reads_mss : Reads Try.prog 36 (Ty.sl Ty.ms) := reads_sl reads_ms (by kernel_rfl) (by kernel_rfl) (by decide)
/-- an argument that is a slice -/
theorem arg_sl {α : Type} {P : Program} {t e : TypeId} {T : Ty α} (hR : Reads P t T.sl) (ht : P.underlying t = some (.slice e)) {H : Type} {enc : TypeId × Value → H} {W : World} {r : Reach} {b : Nat} {v : Value} {d : DataW H} {p : List MemPlace}
    (hval : Value.okWide P W r b t v) (h : DataW.Trod enc P W 0 (fun _ => true) true t v d p) : ∃ l, Sl T W.cell? v l := by
  obtain ⟨a, len, cap, rfl⟩ := okWide_slice ht hval
  obtain ⟨fuel, hf⟩ := h
  obtain ⟨l, v, e, hv⟩ := hR _ _ _ _ _ _ hf
  simp [Value.cells] at e
  subst e
  exact ⟨l, hv⟩
theorem own : ownKnob (Try.prog).godebug = none := by kernel_rfl
theorem laidOut : laidOutB Try.prog = true := by kernel_rfl
end Go.Proofs.Ytgbhpghgohggcaa

/- More readings of the form's arguments; how large they are. -/
namespace Go.Proofs.Ytgbhpghgohggcaa
open Go.RowKit Go.ChangeShapes Go.WideShapes Go.ChangeAt
theorem sl_len {α : Type} {T : Ty α} {c : CM} {a : Option Addr} {n cap : Nat} {l : List α} (h : Sl T c (.slice a n cap) l) : l.length = n := by
  obtain ⟨a', cap', he, _⟩ := h
  simp only [Value.slice.injEq] at he
  exact he.2.1.symm
/-- an argument that is a slice: it takes no more bytes than a process has -/
theorem arg_size {α : Type} {P : Program} {t e : TypeId} {T : Ty α} {k : Nat} (ht : P.underlying t = some (.slice e)) (hb : P.bytesOf e = k) {H : Type} {enc : TypeId × Value → H} {W : World} {r : Reach} {b : Nat} {v : Value} {d : DataW H} {p : List MemPlace} {ts : List TypeId} {ds : List (DataW H)} {j : Nat}
    (hsz : (DataW.weightsEach P ts ds).all (· ≤ reachBytes) = true) (hj : ts[j]? = some t) (hd : ds[j]? = some d)
    (hval : Value.okWide P W r b t v) (h : DataW.Trod enc P W 0 (fun _ => true) true t v d p) {l : List α} (hl : Sl T W.cell? v l) : l.length * k ≤ 140737488351232 := by
  obtain ⟨a, len, cap, rfl⟩ := okWide_slice ht hval
  obtain ⟨fuel, hf⟩ := h
  have hll := sl_len hl
  rcases Deep.open_slice ht hf with ⟨he, _⟩ | ⟨a', len', cap', m, n, D, Pl, he, _, hlc, _, hmm, hxe, _⟩
  · simp [Value.cells] at he
    rw [hll, he.2.1]; simp
  · simp [Value.cells] at he
    obtain ⟨_, rfl, rfl⟩ := he
    obtain rfl : d = .slice ((List.range len).map D) ((List.range (m - len)).map fun j => D (len + j)) := by simpa using congrArg Prod.fst hxe
    have := sized_slice hsz hj hd ht
    rw [hb, List.length_map, List.length_range] at this
    rw [hll]
    have h2 : len * k ≤ (len + ((List.range (m - len)).map fun j => D (len + j)).length) * k := Nat.mul_le_mul_right _ (Nat.le_add_right _ _)
    have h3 : reachBytes = 140737488351232 := rfl
    omega
/-- an argument that is a struct by value -/
theorem arg_of {α : Type} {P : Program} {t : TypeId} {fs : Array Field} {T : Ty α} (hR : Reads P t T) (ht : P.underlying t = some (.struct fs)) {H : Type} {enc : TypeId × Value → H} {W : World} {r : Reach} {b : Nat} {v : Value} {d : DataW H} {p : List MemPlace}
    (hval : Value.okWide P W r b t v) (h : DataW.Trod enc P W 0 (fun _ => true) true t v d p) : ∃ x, Of T W.cell? v x := by
  obtain ⟨cs, rfl, _⟩ := okWide_struct ht hval
  obtain ⟨fuel, hf⟩ := h
  obtain ⟨x, hx⟩ := hR _ _ _ _ _ _ hf
  exact ⟨x, cs.toList, rfl, hx⟩
theorem reads_st : Reads Try.prog 164 Ty.st := by
  intro H enc W fuel cs x h
  obtain ⟨hl, hf⟩ := struct_fields (fs' := [(3, 0, 1), (3, 1, 1), (23, 2, 1)]) (by kernel_rfl) h
  rw [show (Try.prog).cellsOf 164 = 3 by kernel_rfl] at hl
  match cs, hl with
  | [a, b, c], _ =>
    obtain ⟨_, _, h0⟩ := hf 0 _ rfl
    obtain ⟨_, _, h1⟩ := hf 1 _ rfl
    obtain ⟨_, _, h2⟩ := hf 2 _ rfl
    obtain ⟨x0, e0, w0⟩ := reads_int (by kernel_rfl) _ _ _ _ _ _ h0
    obtain ⟨x1, e1, w1⟩ := reads_int (by kernel_rfl) _ _ _ _ _ _ h1
    obtain ⟨x2, v2, e2, w2⟩ := reads_pts _ _ _ _ _ _ h2
    refine ⟨⟨x0, x1, x2⟩, v2, ?_, w0, w1, w2⟩
    simp at e0 e1 e2
    subst e0 e1 e2
    rfl
theorem reads_sts : Reads Try.prog 90 (Ty.sl Ty.st) := reads_sl reads_st (by kernel_rfl) (by kernel_rfl) (by decide)
theorem reads_rds : Reads Try.prog 26 (Ty.sl Ty.rd) := reads_sl reads_rd (by kernel_rfl) (by kernel_rfl) (by decide)
theorem reads_byte : Reads Try.prog 5 Ty.byte := by
  intro H enc W fuel cs x h
  obtain ⟨n, rfl, _, hw⟩ := DataW.trod_int (k := .u8) (by kernel_rfl) h
  have hw2 : 0 ≤ n ∧ n < 256 := by
    have h2 : (Lit.int .u8 n).wf = true := hw
    have h3 : IntKind.u8.min ≤ n ∧ n ≤ IntKind.u8.max := by simpa [Lit.wf] using h2
    have h4 : IntKind.u8.min = 0 := by decide
    have h5 : IntKind.u8.max = 255 := by decide
    omega
  refine ⟨UInt8.ofNat n.toNat, ?_⟩
  show [Value.int .u8 n] = byteCell _
  unfold byteCell
  have : ((UInt8.ofNat n.toNat).toNat : Int) = n := by
    rw [UInt8.toNat_ofNat']
    omega
  rw [this]
theorem reads_bts : Reads Try.prog 69 Ty.bts := reads_sl reads_byte (by kernel_rfl) (by kernel_rfl) (by decide)
theorem reads_nets : Reads Try.prog 79 (Ty.sl Ty.bts) := reads_sl reads_bts (by kernel_rfl) (by kernel_rfl) (by decide)
end Go.Proofs.Ytgbhpghgohggcaa

/- Readings of the form's arguments that are arrays of ints. -/
namespace Go.Proofs.Ytgbhpghgohggcaa
open Go.RowKit Go.ChangeShapes Go.WideShapes Go.ChangeAt
theorem okWide_arr {P : Program} {t e : TypeId} {n : Nat} {w : World} {r : Reach} {b : Nat} {v : Value} (ht : P.underlying t = some (.array n e)) (h : Value.okWide P w r b t v) : ∃ cs, v = .agg cs ∧ cs.size = P.cellsOf t := by
  simp only [Value.okWide, ht] at h
  obtain ⟨cs, h1, h2, _⟩ := h
  exact ⟨cs, h1, h2⟩
/-- an argument that is an array by value -/
theorem arg_arr {α : Type} {P : Program} {t e : TypeId} {n : Nat} {T : Ty α} (hR : Reads P t T) (ht : P.underlying t = some (.array n e)) {H : Type} {enc : TypeId × Value → H} {W : World} {r : Reach} {b : Nat} {v : Value} {d : DataW H} {p : List MemPlace}
    (hval : Value.okWide P W r b t v) (h : DataW.Trod enc P W 0 (fun _ => true) true t v d p) : ∃ x, Of T W.cell? v x := by
  obtain ⟨cs, rfl, _⟩ := okWide_arr ht hval
  obtain ⟨fuel, hf⟩ := h
  obtain ⟨x, hx⟩ := hR _ _ _ _ _ _ hf
  exact ⟨x, cs.toList, rfl, hx⟩
theorem reads_sm : Reads Try.prog 25 Ty.sm := by
  intro H enc W fuel cs x h
  obtain ⟨xs, m, _, _, hl, hx, hf⟩ := DataW.trod_array (n := 4) (e := 3) (by kernel_rfl) h
  rw [show (Try.prog).cellsOf 25 = 4 by kernel_rfl] at hl
  rw [show (Try.prog).cellsOf 3 = 1 by kernel_rfl] at hf
  match cs, hl with
  | [a, b, c, d], _ =>
    have g : ∀ i, i < 4 → ∃ y, DataW.trod enc Try.prog W 0 (fun _ => true) true m 3 (([a, b, c, d].drop (i * 1)).take 1) = some y := fun i hi => by
      rw [hf i hi]; exact ⟨xs[i]'(by omega), List.getElem?_eq_getElem (by omega)⟩
    obtain ⟨_, h0⟩ := g 0 (by decide)
    obtain ⟨_, h1⟩ := g 1 (by decide)
    obtain ⟨_, h2⟩ := g 2 (by decide)
    obtain ⟨_, h3⟩ := g 3 (by decide)
    obtain ⟨x0, e0, w0⟩ := reads_int (by kernel_rfl) _ _ _ _ _ _ h0
    obtain ⟨x1, e1, w1⟩ := reads_int (by kernel_rfl) _ _ _ _ _ _ h1
    obtain ⟨x2, e2, w2⟩ := reads_int (by kernel_rfl) _ _ _ _ _ _ h2
    obtain ⟨x3, e3, w3⟩ := reads_int (by kernel_rfl) _ _ _ _ _ _ h3
    refine ⟨⟨x0, x1, x2, x3⟩, ?_, w0, w1, w2, w3⟩
    simp at e0 e1 e2 e3
    subst e0 e1 e2 e3
    rfl
theorem reads_sms : Reads Try.prog 98 (Ty.sl Ty.sm) := reads_sl reads_sm (by kernel_rfl) (by kernel_rfl) (by decide)
end Go.Proofs.Ytgbhpghgohggcaa
