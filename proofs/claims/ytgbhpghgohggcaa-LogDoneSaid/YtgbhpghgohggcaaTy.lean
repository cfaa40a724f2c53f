/- Closed facts on the program's element types, and the law on append in one word. -/
import Derived.Test.YtgbhpghgohggcaaTypes
import Derived.Test.YtgbhpghgohggcaaRows
namespace Go.Proofs.Ytgbhpghgohggcaa
open Go.RowKit

/-- what append asks of an element type -/
structure EI (P : Program) (t e : TypeId) (size bytes : Nat) : Prop where
  ht : P.underlying t = some (.slice e)
  hi : ∃ i z, P.info? e = some i ∧ i.zero = some z ∧ i.size = size ∧ i.bytes = bytes ∧ z.cells.size = size ∧ 0 < size ∧ ∀ u ∈ z.cells, u.oneCell' = true
theorem EI.mk' {P : Program} {t e : TypeId} {size bytes : Nat} {z : Value} (ht : P.underlying t = some (.slice e)) (h : (P.info? e).map (fun i => (i.zero, i.size, i.bytes)) = some (some z, size, bytes)) (hz : z.cells.size = size) (h0 : 0 < size) (h1 : z.cells.toList.all (fun u => u.oneCell') = true) : EI P t e size bytes := by
  obtain ⟨i, hi, h1', h2, h3⟩ := info_parts h
  exact ⟨ht, i, z, hi, h1', h2, h3, hz, h0, fun u hu => by simpa using List.all_eq_true.1 h1 u (by simpa using hu)⟩
theorem ei_pt : EI Try.prog 23 32 3 24 := EI.mk' (z := .agg #[.int .i64 0, .int .i64 0, .int .i64 0]) (by kernel_rfl) (by kernel_rfl) rfl (by decide) rfl
theorem ei_int : EI Try.prog 27 3 1 8 := EI.mk' (z := .int .i64 0) (by kernel_rfl) (by kernel_rfl) rfl (by decide) rfl

theorem ei_byte : EI Try.prog 69 5 1 1 := EI.mk' (z := .int .u8 0) (by kernel_rfl) (by kernel_rfl) rfl (by decide) rfl
theorem ei_sm : EI Try.prog 98 25 4 32 := EI.mk' (z := .agg #[.int .i64 0, .int .i64 0, .int .i64 0, .int .i64 0]) (by kernel_rfl) (by kernel_rfl) rfl (by decide) rfl
theorem ei_rc : EI Try.prog 22 48 3 40 := EI.mk' (z := .agg #[.int .i64 0, .int .i64 0, .slice none 0 0]) (by kernel_rfl) (by kernel_rfl) rfl (by decide) rfl
theorem ei_rd : EI Try.prog 26 45 2 32 := EI.mk' (z := .agg #[.int .i64 0, .slice none 0 0]) (by kernel_rfl) (by kernel_rfl) rfl (by decide) rfl
theorem ei_opn : EI Try.prog 55 136 4 64 := EI.mk' (z := .agg #[.int .i64 0, .slice none 0 0, .bool false, .slice none 0 0]) (by kernel_rfl) (by kernel_rfl) rfl (by decide) rfl
theorem ei_ms : EI Try.prog 36 39 4 48 := EI.mk' (z := .agg #[.int .i64 0, .int .i64 0, .int .i64 0, .slice none 0 0]) (by kernel_rfl) (by kernel_rfl) rfl (by decide) rfl
theorem ei_bts : EI Try.prog 79 69 1 24 := EI.mk' (z := .slice none 0 0) (by kernel_rfl) (by kernel_rfl) rfl (by decide) rfl
theorem ei_errno : EI Try.prog 94 40 1 8 := EI.mk' (z := .int .i64 0) (by kernel_rfl) (by kernel_rfl) rfl (by decide) rfl
/-- append of news, that lie at ad, onto a row of the call's own -/
theorem app_own {P : Program} {t e : TypeId} {size bytes : Nat} (hE : EI P t e size bytes) {W w : World} {ops : Array Oper} {rest : List Oper} {o : Oper} {a : Act} {Q : Exit → Act → World → Prop} (hgd : o.guard = none) (s x : Operand)
    (ho : o.op = .call { callee := .builtin .append, args := #[s, x], argTypes := #[t, t] }) (hG : Grow W w)
    {v : Value} {n : Nat} {xs : List Value} (hs : a.eval s = v) (hown : w.ownsRow W.heap.size e size v n xs)
    (ad : Addr) (m c : Nat) (news : List Value) (hx : a.eval x = .slice (some ad) m c) (hl : news.length = m * size) (hnews : ∀ j u, news[j]? = some u → w.cell? (ad.add j) = some u) (h1 : ∀ u ∈ news, u.oneCell' = true)
    (h63 : n + m ≤ maxLen) (hbytes : (n + m) * bytes ≤ 140737488355328)
    (h : ∀ v' w', w'.ownsRow W.heap.size e size v' (n + m) (xs ++ news) → Grow W w' → w.grownBy w' v.ownBlock → wpList P ops Q rest (a.put o.dst v') w') : wpList P ops Q (o :: rest) a w := by
  obtain ⟨i, z, hi, hz, h2, h3, h4, h5, _⟩ := hE.hi
  exact wpList_append_own w hgd s x t ho W.heap.size e i z size bytes hE.ht hi hz h2 h3 h4 h5 v n xs hs hown ad m c news hx hl hnews h1 h63 hbytes hG.size fun v' w' a b _ =>
    h v' w' a (hG.grown b fun k hk => (hown.lt k hk).1) b
theorem new_cells (w : World) (c : Array Value) (t : TypeId) : ∀ j u, c.toList[j]? = some u → (w.alloc (.cells c t)).cell? ((⟨w.heap.size, 0, none⟩ : Addr).add j) = some u := by
  intro j u h
  have e : ((⟨w.heap.size, 0, none⟩ : Addr).add j) = ⟨w.heap.size, j, none⟩ := by unfold Addr.add; split <;> simp_all
  rw [e, World.cell?_alloc_new]
  simpa using h
/-- append of one element, that buildSlice has just laid, onto a row of the call's own -/
theorem app1 {P : Program} {t e : TypeId} {size bytes : Nat} (hE : EI P t e size bytes) {W w0 : World} {c : Array Value} {ops : Array Oper} {rest : List Oper} {o : Oper} {a : Act} {Q : Exit → Act → World → Prop} (hgd : o.guard = none) (s x : Operand)
    (ho : o.op = .call { callee := .builtin .append, args := #[s, x], argTypes := #[t, t] }) (hG : Grow W w0)
    {v : Value} {n : Nat} {xs : List Value} (hs : a.eval s = v) (hown : w0.ownsRow W.heap.size e size v n xs)
    {g : Nat} (hx : a.eval x = .slice (some ⟨g, 0, none⟩) 1 1) (hg : g = w0.heap.size) (hl : c.toList.length = size) (h1 : ∀ u ∈ c.toList, u.oneCell' = true)
    (hbytes : (n + 1) * bytes ≤ 140737488355328) (hb0 : 0 < bytes)
    (h : ∀ v' w', w'.ownsRow W.heap.size e size v' (n + 1) (xs ++ c.toList) → Grow W w' → (w0.alloc (.cells c e)).grownBy w' v.ownBlock → wpList P ops Q rest (a.put o.dst v') w') : wpList P ops Q (o :: rest) a (w0.alloc (.cells c e)) := by
  subst hg
  exact app_own hE hgd s x ho (hG.alloc _) hs (hown.alloc _) _ 1 1 c.toList hx (by omega) (new_cells w0 c e) h1 (by
    have h2 : n + 1 ≤ (n + 1) * bytes := Nat.le_mul_of_pos_right _ hb0
    unfold maxLen; omega) hbytes h
end Go.Proofs.Ytgbhpghgohggcaa
