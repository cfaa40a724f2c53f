/- Rows of the call's own, whose elements lead on to other memory. -/
import Derived.Test.YtgbhpghgohggcaaDel
import Derived.Deep.AppendLies
namespace Go.Proofs.Ytgbhpghgohggcaa
open Go.RowKit

/-- memory without one block -/
def frag (w : World) (row : Option Nat) : CM := fun a => if some a.block = row then none else w.cell? a
theorem frag_sub (w : World) (row : Option Nat) : Sub (frag w row) w.cell? := fun a v h => by
  unfold frag at h; split at h
  · cases h
  · exact h
theorem frag_grown {w w' : World} {row : Option Nat} (h : w.grownBy w' row) : Sub (frag w row) (frag w' row) := fun a v e => by
  unfold frag at e ⊢
  split at e
  · cases e
  · rename_i hne
    rw [if_neg hne, World.cell?_of_block (h.block a.block (World.block_lt_of_cell? w a e) hne)]
    exact e
theorem frag_none (w : World) : frag w none = w.cell? := by funext a; simp [frag]
/-- what reads below a block reads without it -/
theorem frag_of_lt {w w' : World} (h : Grow w w') {row : Option Nat} (hr : ∀ k, row = some k → w.heap.size ≤ k) : Sub w.cell? (frag w' row) := fun a v e => by
  have hl := World.block_lt_of_cell? w a e
  unfold frag
  rw [if_neg (fun e' => by have := hr _ e'.symm; omega)]
  exact h.sub _ _ e

/-- a row of the call's own that reads as a list; what its elements lead to lies outside it -/
def OwnT {α : Type} (T : Ty α) (w : World) (base e : Nat) (v : Value) (l : List α) : Prop :=
  ∃ css : List (List Value), w.ownsRow base e T.size v l.length css.flatten ∧ css.length = l.length ∧ ∀ (i : Nat) (cs : List Value) (x : α), css[i]? = some cs → l[i]? = some x → T.R (frag w v.ownBlock) cs x
theorem OwnT.nil {α : Type} (T : Ty α) (w : World) (base e : Nat) : OwnT T w base e (.slice none 0 0) [] := ⟨[], World.ownsRow_nil _ _ _ _, rfl, fun i cs x h => by simp at h⟩
theorem OwnT.kept {α : Type} {T : Ty α} {w w' : World} {base e : Nat} {v : Value} {l : List α} {row : Option Nat} (h : OwnT T w base e v l) (hg : w.grownBy w' row) (hne : v.ownBlock = none ∨ v.ownBlock ≠ row) (hs' : Sub (frag w v.ownBlock) (frag w' v.ownBlock)) : OwnT T w' base e v l := by
  obtain ⟨css, h1, h2, h3⟩ := h
  exact ⟨css, h1.kept hg hne, h2, fun i cs x a b => T.mono hs' (h3 i cs x a b)⟩
theorem OwnT.grow {α : Type} {T : Ty α} {w w' : World} {base e : Nat} {v : Value} {l : List α} (h : OwnT T w base e v l) (hg : Grow w w') : OwnT T w' base e v l := by
  obtain ⟨css, h1, h2, h3⟩ := h
  refine ⟨css, h1.kept (grownBy_of_grow hg none) (by cases v.ownBlock <;> simp), h2, fun i cs x a b => T.mono (frag_grown (grownBy_of_grow hg _)) (h3 i cs x a b)⟩
theorem css_len {α : Type} {T : Ty α} {c : CM} {css : List (List Value)} {l : List α} (h2 : css.length = l.length) (h3 : ∀ (i : Nat) (cs : List Value) (x : α), css[i]? = some cs → l[i]? = some x → T.R c cs x) : ∀ cs ∈ css, cs.length = T.size := by
  intro cs hcs
  obtain ⟨i, hi, rfl⟩ := List.mem_iff_getElem.1 hcs
  exact T.len (h3 i css[i] l[i] (by simp) (by simp))
theorem flatten_at {size : Nat} (h0 : 0 < size) : ∀ (css : List (List Value)), (∀ cs ∈ css, cs.length = size) → ∀ j, css.flatten[j]? = (css[j / size]?).bind fun cs => cs[j % size]? := by
  intro css
  induction css with
  | nil => intro _ j; simp
  | cons x l ih =>
    intro hf j
    rw [List.flatten_cons]
    have hx := hf x (by simp)
    by_cases hj : j < size
    · rw [List.getElem?_append_left (by rw [hx]; exact hj), Nat.div_eq_of_lt hj, Nat.mod_eq_of_lt hj]; rfl
    · rw [List.getElem?_append_right (by rw [hx]; omega), hx, ih (fun cs h => hf cs (by simp [h])), Nat.mod_eq_sub_mod (by omega : size ≤ j), Nat.div_eq_sub_div h0 (by omega : size ≤ j)]
      simp
theorem flatten_len {size : Nat} : ∀ (css : List (List Value)), (∀ cs ∈ css, cs.length = size) → css.flatten.length = css.length * size
  | [], _ => by simp
  | x :: l, h => by rw [List.flatten_cons, List.length_append, h x (by simp), flatten_len l (fun cs hc => h cs (by simp [hc])), List.length_cons, Nat.add_mul]; omega
theorem flatten_take {size : Nat} : ∀ (css : List (List Value)) (i : Nat), (∀ cs ∈ css, cs.length = size) → css.flatten.take (i * size) = (css.take i).flatten
  | [], i, _ => by simp
  | x :: l, 0, _ => by simp
  | x :: l, i + 1, h => by
    have hx := h x (by simp)
    rw [List.flatten_cons, List.take_succ_cons, List.flatten_cons, Nat.add_mul, Nat.one_mul, Nat.add_comm, List.take_append, hx, List.take_of_length_le (by omega), ← flatten_take l i (fun cs hc => h cs (by simp [hc]))]
    congr 1
    congr 1
    omega
theorem flatten_drop {size : Nat} : ∀ (css : List (List Value)) (i : Nat), (∀ cs ∈ css, cs.length = size) → css.flatten.drop (i * size) = (css.drop i).flatten
  | [], i, _ => by simp
  | x :: l, 0, _ => by simp
  | x :: l, i + 1, h => by
    have hx := h x (by simp)
    rw [List.flatten_cons, List.drop_succ_cons, Nat.add_mul, Nat.one_mul, Nat.add_comm, ← flatten_drop l i (fun cs hc => h cs (by simp [hc])), List.drop_append, hx, List.drop_of_length_le (by omega), List.nil_append]
    congr 1
    omega
/-- it reads as a list -/
theorem OwnT.sl {α : Type} {T : Ty α} (h0 : 0 < T.size) {w : World} {base e : Nat} {v : Value} {l : List α} (h : OwnT T w base e v l) : Sl T w.cell? v l := by
  obtain ⟨css, ⟨hl, hs⟩, h2, h3⟩ := h
  have hcl := css_len h2 h3
  rcases hs with ⟨rfl, hn⟩ | ⟨g, cap, cur, rfl, hg, hrow, hnc, hcm, hcs, htake⟩
  · have : l = [] := List.eq_nil_of_length_eq_zero hn
    subst this
    exact ⟨none, 0, rfl, Nat.le_refl _, Nat.zero_le _, fun _ => rfl, fun i x e => by simp at e⟩
  · refine ⟨some ⟨g, 0, none⟩, cap, rfl, hnc, hcm, by simp, fun i x e => ?_⟩
    have hi : i < l.length := (List.getElem?_eq_some_iff.1 e).1
    have hc : css[i]? = some css[i] := List.getElem?_eq_getElem (by omega)
    refine ⟨g, 0, css[i], rfl, T.mono (frag_sub _ _) (h3 i _ x hc e), fun j u hu => ?_⟩
    have hj : j < T.size := by rw [← hcl css[i] (List.getElem_mem _)]; exact (List.getElem?_eq_some_iff.1 hu).1
    have hx : css.flatten[i * T.size + j]? = some u := by
      rw [flatten_at h0 css hcl, Nat.mul_comm, Nat.mul_add_div h0, Nat.div_eq_of_lt hj, Nat.add_zero, hc, Nat.mul_add_mod, Nat.mod_eq_of_lt hj]; exact hu
    rw [← htake, List.getElem?_take] at hx
    split at hx
    · simp only [World.cell?, hrow]; simpa using hx
    · cases hx
/-- one element more, behind an append -/
theorem OwnT.snoc {α : Type} {T : Ty α} {w w' : World} {base e : Nat} {v v' : Value} {l : List α} {css : List (List Value)} {cs : List Value} {x : α} (h2 : css.length = l.length) (h3 : ∀ (i : Nat) (cs : List Value) (x : α), css[i]? = some cs → l[i]? = some x → T.R (frag w v.ownBlock) cs x)
    (ho : w'.ownsRow base e T.size v' (l.length + 1) (css.flatten ++ cs)) (hs : Sub (frag w v.ownBlock) (frag w' v'.ownBlock)) (hR : T.R (frag w' v'.ownBlock) cs x) : OwnT T w' base e v' (l ++ [x]) := by
  refine ⟨css ++ [cs], by simpa using ho, by simp [h2], fun i cs' x' a b => ?_⟩
  by_cases hi : i < l.length
  · rw [List.getElem?_append_left (by omega)] at a
    rw [List.getElem?_append_left hi] at b
    exact T.mono hs (h3 i _ _ a b)
  · have : i = l.length := by
      have := (List.getElem?_eq_some_iff.1 b).1
      simp at this; omega
    subst this
    rw [← h2] at a
    simp at a b
    subst a; subst b
    exact hR
/-- a flat list -/
theorem OwnT.of_flat {α : Type} {T : Ty α} {f : α → List Value} {w : World} {base e : Nat} {v : Value} {l : List α} (h : w.ownsRow base e T.size v l.length (l.flatMap f)) (hR : ∀ c, ∀ x ∈ l, T.R c (f x) x) : OwnT T w base e v l :=
  ⟨l.map f, by rw [← List.flatMap_def]; exact h, by simp, fun i cs x a b => by
    rw [List.getElem?_map, b] at a
    obtain rfl := Option.some.inj a
    exact hR _ x (List.mem_of_getElem? b)⟩
theorem owns_set {w : World} {base : Nat} {e : TypeId} {size g n cap : Nat} {css : List (List Value)} {cs : List Value} {i : Nat} (hcl : ∀ cs ∈ css, cs.length = size) (h : w.ownsRow base e size (.slice (some ⟨g, 0, none⟩) n cap) n css.flatten) (hi : i < css.length) (hcs : cs.length = size) :
    (w.setCells g (i * size) cs).ownsRow base e size (.slice (some ⟨g, 0, none⟩) n cap) n (css.set i cs).flatten ∧ w.grownBy (w.setCells g (i * size) cs) (some g) := by
  have hle : (i + 1) * size ≤ css.length * size := Nat.mul_le_mul_right _ (by omega)
  have hle' : i * size + size ≤ css.length * size := by rw [Nat.add_mul] at hle; omega
  obtain ⟨h1, h2⟩ := setCells_owns cs (i * size) w css.flatten h (by rw [flatten_len css hcl, hcs]; exact hle')
  refine ⟨?_, h2⟩
  rw [hcs, flatten_take css i hcl, show i * size + size = (i + 1) * size by rw [Nat.add_mul]; omega, flatten_drop css (i + 1) hcl] at h1
  rw [List.set_eq_take_append_cons_drop, if_pos hi]
  simpa using h1

/-- a row of the call's own that reads as a list, what its elements lead to being in c -/
def OwnC {α : Type} (T : Ty α) (c : CM) (w : World) (base e : Nat) (v : Value) (l : List α) : Prop :=
  ∃ css : List (List Value), w.ownsRow base e T.size v l.length css.flatten ∧ css.length = l.length ∧ ∀ (i : Nat) (cs : List Value) (x : α), css[i]? = some cs → l[i]? = some x → T.R c cs x
theorem OwnC.nil {α : Type} (T : Ty α) (c : CM) (w : World) (base e : Nat) : OwnC T c w base e (.slice none 0 0) [] := ⟨[], World.ownsRow_nil _ _ _ _, rfl, fun i cs x h => by simp at h⟩
theorem OwnC.kept {α : Type} {T : Ty α} {c : CM} {w w' : World} {base e : Nat} {v : Value} {l : List α} {row : Option Nat} (h : OwnC T c w base e v l) (hg : w.grownBy w' row) (hne : v.ownBlock = none ∨ v.ownBlock ≠ row) : OwnC T c w' base e v l := by
  obtain ⟨css, h1, h2, h3⟩ := h
  exact ⟨css, h1.kept hg hne, h2, h3⟩
theorem OwnC.grow {α : Type} {T : Ty α} {c : CM} {w w' : World} {base e : Nat} {v : Value} {l : List α} (h : OwnC T c w base e v l) (hg : Grow w w') : OwnC T c w' base e v l :=
  h.kept (grownBy_of_grow hg none) (by cases v.ownBlock <;> simp)
theorem OwnC.mono {α : Type} {T : Ty α} {c c' : CM} {w : World} {base e : Nat} {v : Value} {l : List α} (hs : Sub c c') (h : OwnC T c w base e v l) : OwnC T c' w base e v l := by
  obtain ⟨css, h1, h2, h3⟩ := h
  exact ⟨css, h1, h2, fun i cs x a b => T.mono hs (h3 i cs x a b)⟩
theorem OwnC.lt {α : Type} {T : Ty α} {c : CM} {w : World} {base e : Nat} {v : Value} {l : List α} (h : OwnC T c w base e v l) : ∀ k, v.ownBlock = some k → base ≤ k ∧ k < w.heap.size := by
  obtain ⟨css, h1, _⟩ := h
  exact h1.lt
theorem OwnC.form {α : Type} {T : Ty α} {c : CM} {w : World} {base e : Nat} {v : Value} {l : List α} (h : OwnC T c w base e v l) : ∃ a cap, v = .slice a l.length cap := by
  obtain ⟨css, ⟨_, ⟨rfl, h0⟩ | ⟨g, cap, cur, rfl, _⟩⟩, _⟩ := h
  · rw [h0]; exact ⟨_, _, rfl⟩
  · exact ⟨_, _, rfl⟩
theorem owns_form {w : World} {base : Nat} {e : TypeId} {size n : Nat} {v : Value} {xs : List Value} (h : w.ownsRow base e size v n xs) : ∃ a cap, v = .slice a n cap := by
  obtain ⟨_, ⟨rfl, rfl⟩ | ⟨g, cap, cur, rfl, _⟩⟩ := h
  · exact ⟨_, _, rfl⟩
  · exact ⟨_, _, rfl⟩
theorem OwnC.sl {α : Type} {T : Ty α} {c : CM} (h0 : 0 < T.size) {w : World} {base e : Nat} {v : Value} {l : List α} (hs : Sub c w.cell?) (h : OwnC T c w base e v l) : Sl T w.cell? v l := by
  obtain ⟨css, ⟨hl, hs'⟩, h2, h3⟩ := h
  have hcl := css_len h2 h3
  rcases hs' with ⟨rfl, hn⟩ | ⟨g, cap, cur, rfl, hg, hrow, hnc, hcm, hcs, htake⟩
  · have : l = [] := List.eq_nil_of_length_eq_zero hn
    subst this
    exact ⟨none, 0, rfl, Nat.le_refl _, Nat.zero_le _, fun _ => rfl, fun i x e => by simp at e⟩
  · refine ⟨some ⟨g, 0, none⟩, cap, rfl, hnc, hcm, by simp, fun i x e => ?_⟩
    have hi : i < l.length := (List.getElem?_eq_some_iff.1 e).1
    have hc : css[i]? = some css[i] := List.getElem?_eq_getElem (by omega)
    refine ⟨g, 0, css[i], rfl, T.mono hs (h3 i _ x hc e), fun j u hu => ?_⟩
    have hj : j < T.size := by rw [← hcl css[i] (List.getElem_mem _)]; exact (List.getElem?_eq_some_iff.1 hu).1
    have hx : css.flatten[i * T.size + j]? = some u := by
      rw [flatten_at h0 css hcl, Nat.mul_comm, Nat.mul_add_div h0, Nat.div_eq_of_lt hj, Nat.add_zero, hc, Nat.mul_add_mod, Nat.mod_eq_of_lt hj]; exact hu
    rw [← htake, List.getElem?_take] at hx
    split at hx
    · simp only [World.cell?, hrow]; simpa using hx
    · cases hx
theorem OwnC.snoc {α : Type} {T : Ty α} {c : CM} {w' : World} {base e : Nat} {v' : Value} {l : List α} {css : List (List Value)} {cs : List Value} {x : α} (h2 : css.length = l.length) (h3 : ∀ (i : Nat) (cs : List Value) (x : α), css[i]? = some cs → l[i]? = some x → T.R c cs x)
    (ho : w'.ownsRow base e T.size v' (l.length + 1) (css.flatten ++ cs)) (hR : T.R c cs x) : OwnC T c w' base e v' (l ++ [x]) := by
  refine ⟨css ++ [cs], by simpa using ho, by simp [h2], fun i cs' x' a b => ?_⟩
  by_cases hi : i < l.length
  · rw [List.getElem?_append_left (by omega)] at a
    rw [List.getElem?_append_left hi] at b
    exact h3 i _ _ a b
  · have : i = l.length := by
      have := (List.getElem?_eq_some_iff.1 b).1
      simp at this; omega
    subst this
    rw [← h2] at a
    simp at a b
    subst a; subst b
    exact hR
/-- append of one element that has just been laid -/
theorem app_c {P : Program} {t e : TypeId} {size bytes : Nat} (hE : EI P t e size bytes) {α : Type} {T : Ty α} (hT : T.size = size) {c : CM} {W w0 : World} {cs : Array Value} {ops : Array Oper} {rest : List Oper} {o : Oper} {a : Act} {Q : Exit → Act → World → Prop} (hgd : o.guard = none) (s x : Operand)
    (ho : o.op = .call { callee := .builtin .append, args := #[s, x], argTypes := #[t, t] }) (hG : Grow W w0) {base : Nat} (hB : W.heap.size ≤ base) (hB' : base ≤ w0.heap.size)
    {v : Value} {l : List α} {y : α} (hs : a.eval s = v) (hown : OwnC T c w0 base e v l) (hR : T.R c cs.toList y)
    {g : Nat} (hx : a.eval x = .slice (some ⟨g, 0, none⟩) 1 1) (hg : g = w0.heap.size) (h1 : ∀ u ∈ cs.toList, u.oneCell' = true)
    (hbytes : (l.length + 1) * bytes ≤ 140737488355328) (hb0 : 0 < bytes)
    (h : ∀ g c' w', OwnC T c w' base e (.slice (some ⟨g, 0, none⟩) (l.length + 1) c') (l ++ [y]) → Grow W w' → (w0.alloc (.cells cs e)).grownBy w' v.ownBlock → (v.ownBlock = some g ∨ g = w0.heap.size + 1) → wpList P ops Q rest (a.put o.dst (.slice (some ⟨g, 0, none⟩) (l.length + 1) c')) w') : wpList P ops Q (o :: rest) a (w0.alloc (.cells cs e)) := by
  subst hg
  obtain ⟨css, h4, h5, h6⟩ := hown
  obtain ⟨i, z, hi, hz, k2, k3, k4, k5, _⟩ := hE.hi
  subst hT
  have h2 : l.length + 1 ≤ (l.length + 1) * bytes := Nat.le_mul_of_pos_right _ hb0
  refine wpList_append_lies _ hgd s x t ho base e i z T.size bytes hE.ht hi hz k2 k3 k4 k5 v l.length css.flatten hs (h4.alloc _) _ 1 1 cs.toList hx (by rw [T.len hR, Nat.one_mul]) (new_cells w0 cs e) h1 (by decide) (by unfold maxLen; omega) hbytes (by simp; omega) (w0.heap.size + 1) (by simp) fun g c' w' a1 a2 a3 _ => ?_
  exact h g c' w' (OwnC.snoc h5 h6 a1 hR) ((hG.alloc _).grown a2 fun k hk => Nat.le_trans hB (h4.lt k hk).1) a2 a3
theorem OwnC.get {α : Type} {T : Ty α} {c : CM} {w : World} {base e : Nat} {a : Option Addr} {cap : Nat} {l : List α} (h0 : 0 < T.size) (h : OwnC T c w base e (.slice a l.length cap) l) (i : Nat) (hi : i < l.length) : ∃ g cs, a = some ⟨g, 0, none⟩ ∧ T.R c cs l[i] ∧ At w.cell? g (i * T.size) cs := by
  obtain ⟨css, h1, h2, h3⟩ := h
  have hcl := css_len h2 h3
  have hc : css[i]? = some css[i] := List.getElem?_eq_getElem (by omega)
  have hR := h3 i _ l[i] hc (List.getElem?_eq_getElem hi)
  obtain ⟨hl, ⟨_, hn⟩ | ⟨g, cap', cur, he, hg, hrow, hnc, hcm, hcs, htake⟩⟩ := id h1
  · omega
  · simp only [Value.slice.injEq, true_and] at he
    obtain ⟨rfl, rfl⟩ := he
    refine ⟨g, css[i], rfl, hR, fun j u hu => ?_⟩
    have hj : j < T.size := by rw [← T.len hR]; exact (List.getElem?_eq_some_iff.1 hu).1
    have := h1.cells (g := g) rfl (i * T.size + j) u (by
      rw [flatten_at h0 css hcl, Nat.mul_comm, Nat.mul_add_div h0, Nat.div_eq_of_lt hj, Nat.add_zero, hc, Nat.mul_add_mod, Nat.mod_eq_of_lt hj]; exact hu)
    rw [Addr.add_lit, Nat.zero_add] at this
    exact this
theorem owns_base {w : World} {base b' : Nat} {e : TypeId} {size n : Nat} {v : Value} {xs : List Value} (hb : b' ≤ base) (h : w.ownsRow base e size v n xs) : w.ownsRow b' e size v n xs := by
  obtain ⟨h1, h2⟩ := h
  refine ⟨h1, ?_⟩
  rcases h2 with h2 | ⟨g, cap, cur, hv, hg, r⟩
  · exact .inl h2
  · exact .inr ⟨g, cap, cur, hv, Nat.le_trans hb hg, r⟩
theorem OwnC.base {α : Type} {T : Ty α} {c : CM} {w : World} {base b' e : Nat} {v : Value} {l : List α} (h : OwnC T c w base e v l) (hb : b' ≤ base) : OwnC T c w b' e v l := by
  obtain ⟨css, h1, h2, h3⟩ := h
  exact ⟨css, owns_base hb h1, h2, h3⟩
end Go.Proofs.Ytgbhpghgohggcaa
