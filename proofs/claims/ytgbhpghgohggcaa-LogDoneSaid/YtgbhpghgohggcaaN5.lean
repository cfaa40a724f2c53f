/- Results that lie behind the boxes of a call; a map of the call's own that is filled at once. -/
import Derived.Test.YtgbhpghgohggcaaN2
import Derived.Test.YtgbhpghgohggcaaN3
import Derived.Test.YtgbhpghgohggcaaN4
namespace Go.Proofs.Ytgbhpghgohggcaa
open Go.RowKit
/-- memory without k blocks from B on: a call's own boxes -/
def wk (B k : Nat) (c : CM) : CM := fun a => if B ≤ a.block ∧ a.block < B + k then none else c a
theorem wk_sub (B k : Nat) (c : CM) : Sub (wk B k c) c := fun a v e => by
  unfold wk at e
  split at e
  · cases e
  · exact e
theorem wk_in {c : CM} {w W : World} (hc : Sub c w.cell?) (k : Nat) : Sub c (wk w.heap.size k (ov c w W)) := fun a v e => by
  have hl := World.block_lt_of_cell? w a (hc a v e)
  unfold wk
  rw [if_neg (by omega)]
  exact ov_in hc a v e
theorem wk_ov {c : CM} {w W : World} (hc : Sub c w.cell?) (hg : Grow w W) (k : Nat) : Sub (wk w.heap.size k (ov c w W)) W.cell? := (wk_sub _ _ _).trans (ov_sub hc hg)
theorem wk_new {c : CM} {w W : World} {k : Nat} {a : Addr} (h : w.heap.size + k ≤ a.block) : wk w.heap.size k (ov c w W) a = W.cell? a := by
  unfold wk
  rw [if_neg (by omega), ov_new (by omega)]
/-- what a callee gives reads behind the call, whatever is written into the boxes -/
theorem ov_boxes {c : CM} {w W w1 w' : World} {k : Nat} (hW : Grow w W) (h1 : Grow W w1) (hk : w.heap.size + k ≤ W.heap.size) (hs : ∀ a v, w.heap.size + k ≤ a.block → w1.cell? a = some v → w'.cell? a = some v) : Sub (ov (wk w.heap.size k (ov c w W)) W w1) (ov c w w') :=
  ov_ov hW (wk_sub _ _ _) (fun a v hl e => hs a v (by omega) e) fun a v hl hl2 e => by
    have hne : w.heap.size + k ≤ a.block := by
      apply Classical.byContradiction
      intro hb
      unfold wk at e
      rw [if_pos ⟨hl, by omega⟩] at e
      cases e
    have e2 := wk_sub _ _ _ a v e
    rw [ov_new hl] at e2
    exact hs a v hne (h1.sub _ _ e2)
theorem at_ov {c : CM} {w W : World} {q : Nat} {cs : List Value} (h : At W.cell? q 0 cs) (hq : w.heap.size ≤ q) : At (ov c w W) q 0 cs := fun j v e => by
  rw [ov_new (by exact hq)]
  exact h j v e
theorem by_set7 (w : World) (B : Nat) (u0 u1 u2 u3 u4 u5 u6 : Value) : w.grownBy (((((((w.setCell ⟨B, 0, none⟩ u0).setCell ⟨B, 1, none⟩ u1).setCell ⟨B, 2, none⟩ u2).setCell ⟨B, 3, none⟩ u3).setCell ⟨B, 4, none⟩ u4).setCell ⟨B, 5, none⟩ u5).setCell ⟨B, 6, none⟩ u6) (some B) :=
  grownBy_trans (grownBy_setCell w ⟨B, 0, none⟩ u0) (grownBy_trans (grownBy_setCell _ ⟨B, 1, none⟩ u1) (grownBy_trans (grownBy_setCell _ ⟨B, 2, none⟩ u2) (grownBy_trans (grownBy_setCell _ ⟨B, 3, none⟩ u3) (grownBy_trans (grownBy_setCell _ ⟨B, 4, none⟩ u4) (grownBy_trans (grownBy_setCell _ ⟨B, 5, none⟩ u5) (grownBy_setCell _ ⟨B, 6, none⟩ u6))))))
/-- a row that was written: all else reads as before -/
theorem by_cell {w w' : World} {B : Nat} (h : w.grownBy w' (some B)) {a : Addr} (hl : a.block < w.heap.size) (hb : a.block ≠ B) : w'.cell? a = w.cell? a :=
  World.cell?_of_block (h.block a.block hl (fun e => hb (Option.some.inj e)))
theorem at_new' {w : World} {c : Array Value} {t : TypeId} {q : Nat} (hq : q = w.heap.size) : At (w.alloc (.cells c t)).cell? q 0 c.toList := by
  subst hq
  exact at_new w c t
/-- a box of seven cells, written anew -/
theorem row_set7 {w : World} {B : Nat} {a b c d e f g : Value} {t : TypeId} (h : w.heap[B]? = some (.cells #[a, b, c, d, e, f, g] t (0, 0))) (u0 u1 u2 u3 u4 u5 u6 : Value) :
    (((((((w.setCell ⟨B, 0, none⟩ u0).setCell ⟨B, 1, none⟩ u1).setCell ⟨B, 2, none⟩ u2).setCell ⟨B, 3, none⟩ u3).setCell ⟨B, 4, none⟩ u4).setCell ⟨B, 5, none⟩ u5).setCell ⟨B, 6, none⟩ u6).heap[B]? = some (.cells #[u0, u1, u2, u3, u4, u5, u6] t (0, 0)) := by
  simp only [World.setCell, Array.getElem?_modify, h]
  simp
theorem cells7 {w : World} {B : Nat} {a b c d e f g : Value} {t : TypeId} (h : w.heap[B]? = some (.cells #[a, b, c, d, e, f, g] t (0, 0))) :
    w.cell? ⟨B, 0, none⟩ = some a ∧ w.cell? ⟨B, 1, none⟩ = some b ∧ w.cell? ⟨B, 2, none⟩ = some c ∧ w.cell? ⟨B, 3, none⟩ = some d ∧ w.cell? ⟨B, 4, none⟩ = some e ∧ w.cell? ⟨B, 5, none⟩ = some f ∧ w.cell? ⟨B, 6, none⟩ = some g := by
  refine ⟨?_, ?_, ?_, ?_, ?_, ?_, ?_⟩ <;> simp [World.cell?, h]
theorem cells4 {w : World} {B : Nat} {a b c d : Value} {t : TypeId} (h : w.heap[B]? = some (.cells #[a, b, c, d] t (0, 0))) :
    w.cell? ⟨B, 0, none⟩ = some a ∧ w.cell? ⟨B, 1, none⟩ = some b ∧ w.cell? ⟨B, 2, none⟩ = some c ∧ w.cell? ⟨B, 3, none⟩ = some d := by
  refine ⟨?_, ?_, ?_, ?_⟩ <;> simp [World.cell?, h]
theorem info_hs : (Try.prog.info? 29).map (·.size) = some 7 := by kernel_rfl
theorem row_free {w : World} {B : Nat} {cs : Array Value} {t : TypeId} (h : w.heap[B]? = some (.cells cs t (0, 0))) (o : Nat) : w.frozen? ⟨B, o, none⟩ = false := by simp [World.frozen?, h]
/-- a row stays what it is while other things are written -/
theorem row_by {w w' : World} {B : Nat} {o : Obj} {row : Option Nat} (h : w.heap[B]? = some o) (hg : w.grownBy w' row) (hne : some B ≠ row) : w'.heap[B]? = some o := by
  rw [hg.block B (Array.getElem?_eq_some_iff.1 h).1 hne]; exact h
theorem row_grow {w w' : World} {B : Nat} {o : Obj} (h : w.heap[B]? = some o) (hg : Grow w w') : w'.heap[B]? = some o := by
  rw [hg.block B (Array.getElem?_eq_some_iff.1 h).1]; exact h
theorem row_new (w : World) (o : Obj) : (w.alloc o).heap[w.heap.size]? = some o := heap_alloc_new w o
/-- an operation of a region that has no guard -/
theorem wanted_go {o : Oper} {y : Nat → Option Bool} {X E : Prop} {inst : Decidable (Region.wanted o y = true)} (hgd : o.guard = none) (h : X) : @ite Prop (Region.wanted o y = true) inst X E := by
  rw [if_pos (by simp [Region.wanted, hgd])]
  exact h
/-- a struct is stored whole into a box -/
theorem wp_store_row {P : Program} {ty : TypeId} {w : World} {o : Oper} {a : Act} {K : Act → World → Prop} {Q : Exit → Act → World → Prop} (d s : Operand) (ho : o.op = .store ty d s)
    {g : Nat} {t : TypeId} {old cells : Array Value} (hd : a.eval d = .pointer (some ⟨g, 0, none⟩)) (hs : a.eval s = .agg cells) (hrow : w.heap[g]? = some (.cells old t (0, 0)))
    (hi : (P.info? ty).map (·.size) = some cells.size) (hos : old.size = cells.size) (h1 : cells.toList.all (·.oneCell') = true)
    (h : ∀ w', w'.heap[g]? = some (.cells cells t (0, 0)) → w.grownBy w' (some g) → K (a.put o.dst undef) w') : o.wp P a w K Q := by
  have hr := run_storeVar_row (P := P) w g t ty old cells hrow hi hos (by rw [← Array.all_toList]; exact h1)
  unfold Oper.wp execOp
  simp only [ho, hd, hs, Instr.storeAt, Instr.sureAddr, Sem.run_bind, Sem.run_pure, Result.andThen_ok, hr]
  exact h _ (setRow_heap w g old cells t _ hrow) ⟨rfl, rfl, rfl, by simp [World.setRow], fun k hk hne => by
    simp only [World.setRow]
    rw [Array.getElem?_modify]
    rw [if_neg (fun e => hne (by rw [e]))]⟩
theorem wpList_store_row {P : Program} {ty : TypeId} {ops : Array Oper} {rest : List Oper} {w : World} {o : Oper} {a : Act} {Q : Exit → Act → World → Prop} (hgd : o.guard = none) (d s : Operand) (ho : o.op = .store ty d s)
    {g : Nat} {t : TypeId} {old cells : Array Value} (hd : a.eval d = .pointer (some ⟨g, 0, none⟩)) (hs : a.eval s = .agg cells) (hrow : w.heap[g]? = some (.cells old t (0, 0)))
    (hi : (P.info? ty).map (·.size) = some cells.size) (hos : old.size = cells.size) (h1 : cells.toList.all (·.oneCell') = true)
    (h : ∀ w', w'.heap[g]? = some (.cells cells t (0, 0)) → w.grownBy w' (some g) → wpList P ops Q rest (a.put o.dst undef) w') : wpList P ops Q (o :: rest) a w :=
  wpList_plain hgd fun _ hK => wp_store_row d s ho hd hs hrow hi hos h1 fun w' a b => hK _ _ (h w' a b)
theorem step_store_row {P : Program} {ty : TypeId} {ops : Array Oper} {w : World} {o : Oper} {a : Act} {K : Act → World → Prop} {Q : Exit → Act → World → Prop} {E : Prop} (hgd : o.guard = none) (d s : Operand) (ho : o.op = .store ty d s)
    {g : Nat} {t : TypeId} {old cells : Array Value} (hd : a.eval d = .pointer (some ⟨g, 0, none⟩)) (hs : a.eval s = .agg cells) (hrow : w.heap[g]? = some (.cells old t (0, 0)))
    (hi : (P.info? ty).map (·.size) = some cells.size) (hos : old.size = cells.size) (h1 : cells.toList.all (·.oneCell') = true)
    (h : ∀ w', w'.heap[g]? = some (.cells cells t (0, 0)) → w.grownBy w' (some g) → K (a.put o.dst undef) w') : if Region.wanted o (yielded ops a.tmps) = true then Oper.wp P o a w K Q else E := by
  rw [if_pos (by simp [Region.wanted, hgd])]
  exact wp_store_row d s ho hd hs hrow hi hos h1 h
theorem wp_lookup' {κ : Type} [DecidableEq κ] {P : Program} {t K E : TypeId} {enc : κ → Value} (hK : KeyOk P K enc) (ht : P.underlying t = some (.map K E)) {z : Value} (hz : ∀ w, (zeroValue E).run P w = .ok z w) {w : World} {ops : Array Oper} {rest : List Oper} {o : Oper} {a : Act} {Q : Exit → Act → World → Prop} (hg : o.guard = none) (mo x : Operand) (hop : o.op = Op.lookup t mo x false)
    {m : Nat} {kv : List (κ × Value)} (h : MapIs enc w m kv) (k : κ) (v : Value) (hv : (mget kv k).getD z = v) (hm : a.eval mo = .map (some m)) (hx : a.eval x = enc k) (hC : wpList P ops Q rest (a.put o.dst v) w) : wpList P ops Q (o :: rest) a w := by
  subst hv
  exact wp_lookup hK ht hz hg mo x hop h k hm hx hC
theorem wp_insert {κ : Type} [DecidableEq κ] {P : Program} {t K E : TypeId} {enc : κ → Value} (hK : KeyOk P K enc) (ht : P.underlying t = some (.map K E)) {w : World} {ops : Array Oper} {rest : List Oper} {o : Oper} {a : Act} {Q : Exit → Act → World → Prop} (hg : o.guard = none) (mo x y : Operand) (hop : o.op = Op.insert t mo x y)
    {m : Nat} {kv : List (κ × Value)} (h : MapIs enc w m kv) (k : κ) (v : Value) (hm : a.eval mo = .map (some m)) (hx : a.eval x = enc k) (hy : a.eval y = v) (hC : ∀ w', MapIs enc w' m (mput kv k v) → w.grownBy w' (some m) → wpList P ops Q rest (a.put o.dst undef) w') : wpList P ops Q (o :: rest) a w := by
  refine wpList_plain hg fun K' hK' => ?_
  obtain ⟨w', hrun, h1, h2⟩ := run_put hK ht h k v
  unfold Oper.wp
  simp [execOp, hop, hm, hx, hy, hrun, Result.andThen]
  exact hK' _ _ (hC w' h1 h2)
end Go.Proofs.Ytgbhpghgohggcaa
