/- A head in its box, as the program walks its log: what stays and what changes. -/
import Derived.Test.YtgbhpghgohggcaaM6
import Derived.Test.YtgbhpghgohggcaaDfn2
namespace Go.Proofs.Ytgbhpghgohggcaa
open Go.RowKit
theorem info_hd : (Try.prog.info? 57).map (·.size) = some 4 := by kernel_rfl
abbrev zhead : Array Value := #[.slice none 0 0, .int .i64 0, .int .i64 0, .slice none 0 0]
def kmem (w w1 wr : World) (vl vo : Value) : CM := fr w wr [vl.ownBlock, vo.ownBlock, some w.heap.size, some w1.heap.size]
structure KBox (w w1 wr : World) (vl vo : Value) (l : List Rc) (h : Hd) : Prop where
  res : wr.heap[w.heap.size]? = some (.cells zhead 57 (0, 0))
  row : wr.heap[w1.heap.size]? = some (.cells #[vl, .int .i64 h.boot, .int .i64 h.next, vo] 57 (0, 0))
  log : OwnC Ty.rc (kmem w w1 wr vl vo) wr (w.heap.size + 1) 48 vl l
  opn : OwnC Ty.opn (kmem w w1 wr vl vo) wr (w1.heap.size + 1) 136 vo h.opn
  grow : Grow w wr
  size : w1.heap.size + 1 ≤ wr.heap.size
  lt : ∀ k, vl.ownBlock = some k → k < w1.heap.size
  w1 : w.heap.size + 1 ≤ w1.heap.size
structure KChg (w1 wr w' : World) (vo vo' : Value) : Prop where
  size : wr.heap.size ≤ w'.heap.size
  block : ∀ k, k < wr.heap.size → k ≠ w1.heap.size → vo.ownBlock ≠ some k → w'.heap[k]? = wr.heap[k]?
  opn : vo'.ownBlock = vo.ownBlock ∨ ∃ g, vo'.ownBlock = some g ∧ wr.heap.size ≤ g
theorem KChg.mem {w w1 wr w' : World} {vl vo vo' : Value} (c : KChg w1 wr w' vo vo') : Sub (kmem w w1 wr vl vo) (kmem w w1 w' vl vo') := by
  refine fr_step fun k hk _ hx => ?_
  simp only [List.mem_cons, List.not_mem_nil, or_false, not_or] at hx ⊢
  obtain ⟨x1, x2, x4, x5⟩ := hx
  refine ⟨c.block k hk (fun e => x5 (by rw [e])) (fun e => x2 e.symm), x1, ?_, x4, x5⟩
  rcases c.opn with e | ⟨g, e, hg⟩
  · rw [e]; exact x2
  · rw [e]; simp; omega
theorem KBox.put {w w1 wr w' : World} {vl vo vo' : Value} {l : List Rc} {h h' : Hd} (b : KBox w w1 wr vl vo l h) (c : KChg w1 wr w' vo vo') (hG : Grow w w')
    (row : w'.heap[w1.heap.size]? = some (.cells #[vl, .int .i64 h'.boot, .int .i64 h'.next, vo'] 57 (0, 0))) (opn : OwnC Ty.opn (kmem w w1 w' vl vo') w' (w1.heap.size + 1) 136 vo' h'.opn) : KBox w w1 w' vl vo' l h' where
  res := by
    have h1 := b.w1
    have h2 := b.size
    rw [c.block _ (by omega) (by omega) (fun e => by have := (b.opn.lt _ e).1; omega)]; exact b.res
  row := row
  log := by
    refine (b.log.mono c.mem).block fun k hk => ?_
    have h1 := b.lt k hk
    have h2 := b.size
    exact c.block k (by omega) (by omega) (fun e => by have := (b.opn.lt _ e).1; omega)
  opn := opn
  grow := hG
  size := Nat.le_trans b.size c.size
  lt := b.lt
  w1 := b.w1
theorem KBox.later {w w1 wr w' : World} {vl vo : Value} {l : List Rc} {h : Hd} (b : KBox w w1 wr vl vo l h) (hg : Grow wr w') : KBox w w1 w' vl vo l h :=
  have c : KChg w1 wr w' vo vo := ⟨hg.size, fun k hk _ _ => hg.block k hk, .inl rfl⟩
  b.put c (b.grow.trans hg) (row_grow b.row hg) ((b.opn.mono c.mem).grow hg)
theorem row_set4_3 {w : World} {B : Nat} {a b c d : Value} {t : TypeId} (h : w.heap[B]? = some (.cells #[a, b, c, d] t (0, 0))) (u : Value) : (w.setCell ⟨B, 3, none⟩ u).heap[B]? = some (.cells #[a, b, c, u] t (0, 0)) := by
  simp only [World.setCell, Array.getElem?_modify, h]; simp
theorem row_set4_1 {w : World} {B : Nat} {a b c d : Value} {t : TypeId} (h : w.heap[B]? = some (.cells #[a, b, c, d] t (0, 0))) (u : Value) : (w.setCell ⟨B, 1, none⟩ u).heap[B]? = some (.cells #[a, u, c, d] t (0, 0)) := by
  simp only [World.setCell, Array.getElem?_modify, h]; simp
/-- the open ones change: whatever an append or a deletion leaves -/
theorem KBox.opns {w w1 wr wq w' : World} {vl vo vo' : Value} {l : List Rc} {h : Hd} {os : List Opn} (b : KBox w w1 wr vl vo l h) (hG : Grow wr wq)
    (ho : OwnC Ty.opn (kmem w w1 wq vl vo) w' (w1.heap.size + 1) 136 vo' os) (hg : wq.grownBy w' vo.ownBlock) (hb : vo'.ownBlock = vo.ownBlock ∨ ∃ g, vo'.ownBlock = some g ∧ wq.heap.size ≤ g) :
    KBox w w1 (w'.setCell ⟨w1.heap.size, 3, none⟩ vo') vl vo' l { h with opn := os } := by
  have bq := b.later hG
  have hs := hG.size
  have hs1 := b.size
  have hw1 := b.w1
  have hlt := bq.opn.lt
  have hB : ∀ k, k ≠ w1.heap.size → (w'.setCell ⟨w1.heap.size, 3, none⟩ vo').heap[k]? = w'.heap[k]? := fun k hk => Below.heap_setCell _ _ _ _ (fun e => hk e)
  have c1 : KChg w1 wq (w'.setCell ⟨w1.heap.size, 3, none⟩ vo') vo vo' := ⟨by simpa using hg.size, fun k hk h1 h2 => by rw [hB k h1, hg.block k hk (fun e => h2 e.symm)], hb⟩
  have hGw : Grow w (w'.setCell ⟨w1.heap.size, 3, none⟩ vo') := (bq.grow.grown hg (fun k hk => by have := (hlt k hk).1; omega)).setCell (by simp; omega) _
  exact bq.put c1 hGw (row_set4_3 (row_by bq.row hg (fun e => by have := (hlt _ e.symm).1; omega)) _) ((ho.mono c1.mem).block fun k hk => hB k (by have := (ho.lt k hk).1; omega))
theorem KBox.boot {w w1 wr wq : World} {vl vo : Value} {l : List Rc} {h : Hd} (b : KBox w w1 wr vl vo l h) (hG : Grow wr wq) (x : Int) : KBox w w1 (wq.setCell ⟨w1.heap.size, 1, none⟩ (.int .i64 x)) vl vo l { h with boot := x } := by
  have bq := b.later hG
  have hs := hG.size
  have hs1 := b.size
  have hw1 := b.w1
  have hB : ∀ k, k ≠ w1.heap.size → (wq.setCell ⟨w1.heap.size, 1, none⟩ (.int .i64 x)).heap[k]? = wq.heap[k]? := fun k hk => Below.heap_setCell _ _ _ _ (fun e => hk e)
  have c1 : KChg w1 wq (wq.setCell ⟨w1.heap.size, 1, none⟩ (.int .i64 x)) vo vo := ⟨by simp, fun k hk h1 _ => hB k h1, .inl rfl⟩
  exact bq.put c1 (bq.grow.setCell (by simp; omega) _) (row_set4_1 bq.row _) ((bq.opn.mono c1.mem).block fun k hk => hB k (by have := (bq.opn.lt k hk).1; omega))
theorem lhead_tells (w : World) (row : Option Nat) (B : Nat) (d : Int) (l : List Opn) (hc : w.cell? ⟨B, 1, none⟩ = some (.int .i64 d)) (hB : B < w.heap.size) (hr : row ≠ some B) : TellsG Try.prog Ty.opn aggOf w row 125 #[.pointer (some ⟨B, 0, none⟩)] l (fun o => o.deed == d) where
  ent := fun args w => by kernel_rfl
  say := fun wx cs x hg _ hR => by
    obtain ⟨vp, vh, rfl, -, hp, hh⟩ := hR
    obtain ⟨ap, cp, rfl, -⟩ := hp
    obtain ⟨ah, ch, rfl, -⟩ := hh
    have hBx : B < wx.heap.size := Nat.lt_of_lt_of_le hB hg.size
    have hc2 : wx.cell? ⟨B, 1, none⟩ = some (.int .i64 d) := by rw [World.cell?_of_block (hg.block B hB (fun e => hr e.symm))]; exact hc
    clear hc
    show Calls _ _ #[.agg #[.int .i64 x.deed, .slice ap x.parts.length cp, .bool x.dec, .slice ah x.heard.length ch], .pointer (some ⟨B, 0, none⟩)] _ _
    go_enter Try.func125, Try.ntmps125
    go_wp2
    go_ret
    exact ⟨rfl, (by repeat (first | with_reducible assumption | with_reducible exact Grow.refl _ | with_reducible apply Grow.drewN | with_reducible apply Grow.drew | with_reducible apply Grow.alloc | (refine Grow.setCell ?_ (by simp; done) _)))⟩
end Go.Proofs.Ytgbhpghgohggcaa
