/- Slices as sources of appends; appends onto rows of the call's own, whatever is appended. -/
import Derived.Test.YtgbhpghgohggcaaApp
namespace Go.Proofs.Ytgbhpghgohggcaa
open Go.RowKit
/-- each cell of a thing is one cell -/
def TOne {α : Type} (T : Ty α) : Prop := ∀ c cs x, T.R c cs x → ∀ u ∈ cs, u.oneCell' = true
theorem sl_oneCell {α : Type} {T : Ty α} {c : CM} {v : Value} {l : List α} (h : Sl T c v l) : v.oneCell' = true := by
  obtain ⟨a, cap, rfl, -⟩ := h
  rfl
theorem one_Tpt : TOne Ty.pt := by
  rintro c cs x ⟨rfl, -⟩ u hu
  exact one_pt x u hu
theorem one_Tint : TOne Ty.int := by
  rintro c cs x ⟨rfl, -⟩ u hu
  simp only [List.mem_cons, List.not_mem_nil, or_false] at hu
  subst hu; rfl
theorem one_Tbyte : TOne Ty.byte := by
  rintro c cs x rfl u hu
  exact one_byte x u hu
theorem one_Tsm : TOne Ty.sm := by
  rintro c cs x ⟨rfl, -⟩ u hu
  exact one_sm x u hu
theorem one_Trc : TOne Ty.rc := by
  rintro c cs x ⟨v, rfl, -, -, h⟩ u hu
  simp only [List.mem_cons, List.not_mem_nil, or_false] at hu
  rcases hu with rfl | rfl | rfl
  · rfl
  · rfl
  · exact sl_oneCell h
theorem one_Trd : TOne Ty.rd := by
  rintro c cs x ⟨v, rfl, -, h⟩ u hu
  simp only [List.mem_cons, List.not_mem_nil, or_false] at hu
  rcases hu with rfl | rfl
  · rfl
  · exact sl_oneCell h
theorem one_Topn : TOne Ty.opn := by
  rintro c cs x ⟨v, v', rfl, -, h, h'⟩ u hu
  simp only [List.mem_cons, List.not_mem_nil, or_false] at hu
  rcases hu with rfl | rfl | rfl | rfl
  · rfl
  · exact sl_oneCell h
  · rfl
  · exact sl_oneCell h'
theorem one_Tms : TOne Ty.ms := by
  rintro c cs x ⟨v, rfl, -, -, -, h⟩ u hu
  simp only [List.mem_cons, List.not_mem_nil, or_false] at hu
  rcases hu with rfl | rfl | rfl | rfl
  · rfl
  · rfl
  · rfl
  · exact sl_oneCell h
theorem one_Ths : TOne Ty.hs := by
  rintro c cs x ⟨v, v', v'', rfl, h, -, -, -, -, h', h''⟩ u hu
  simp only [List.mem_cons, List.not_mem_nil, or_false] at hu
  rcases hu with rfl | rfl | rfl | rfl | rfl | rfl | rfl
  · exact sl_oneCell h
  · rfl
  · rfl
  · rfl
  · rfl
  · exact sl_oneCell h'
  · exact sl_oneCell h''
theorem one_Tsl {α : Type} (T : Ty α) : TOne (Ty.sl T) := by
  rintro c cs x ⟨v, rfl, h⟩ u hu
  simp only [List.mem_cons, List.not_mem_nil, or_false] at hu
  subst hu; exact sl_oneCell h
/-- a slice value whose cells may be appended -/
def Src {α : Type} (T : Ty α) (c : CM) (w : World) (v : Value) (l : List α) : Prop :=
  ∃ (ao : Option Addr) (cap : Nat) (css : List (List Value)), v = .slice ao l.length cap ∧ (ao = none → l.length = 0 ∧ cap = 0) ∧ l.length ≤ maxLen ∧ css.length = l.length ∧
    (∀ (i : Nat) (cs : List Value) (x : α), css[i]? = some cs → l[i]? = some x → T.R c cs x) ∧ ∀ ad, ao = some ad → ∀ j u, css.flatten[j]? = some u → w.cell? (ad.add j) = some u
theorem Src.of_sl_c {α : Type} {T : Ty α} (h0 : 0 < T.size) {c : CM} {w : World} (hc : Sub c w.cell?) {v : Value} {l : List α} (h : Sl T c v l) : Src T c w v l := by
  obtain ⟨a, cap, rfl, h1, h2, h3, hel⟩ := h
  have hex : ∀ n, n ≤ l.length → ∃ css : List (List Value), css.length = n ∧ ∀ (i : Nat) (cs : List Value) (x : α), css[i]? = some cs → l[i]? = some x → T.R c cs x ∧ ∀ ad, a = some ad → At c ad.block (ad.off + i * T.size) cs ∧ ad = ⟨ad.block, ad.off, none⟩ := by
    intro n
    induction n with
    | zero => intro _; exact ⟨[], rfl, fun i cs x h => by simp at h⟩
    | succ n ih =>
      intro hn
      obtain ⟨css, hl, hi⟩ := ih (by omega)
      obtain ⟨b, o, cs, ha, hR, hA⟩ := hel n l[n] (List.getElem?_eq_getElem (by omega))
      refine ⟨css ++ [cs], by simp [hl], fun i cs' x e e' => ?_⟩
      by_cases hlt : i < css.length
      · rw [List.getElem?_append_left hlt] at e; exact hi i cs' x e e'
      · have hb := (List.getElem?_eq_some_iff.1 e).1
        simp at hb
        obtain rfl : i = css.length := by omega
        simp at e
        subst e
        rw [hl, List.getElem?_eq_getElem (by omega)] at e'
        obtain rfl := Option.some.inj e'
        refine ⟨hR, fun ad h => ?_⟩
        rw [ha] at h
        obtain rfl := Option.some.inj h
        exact ⟨by rw [hl]; exact hA, rfl⟩
  obtain ⟨css, hl, hi⟩ := hex l.length (Nat.le_refl _)
  refine ⟨a, cap, css, rfl, fun h => ⟨by have := h3 h; omega, h3 h⟩, by omega, hl, fun i cs x e e' => (hi i cs x e e').1, fun ad had j u hu => ?_⟩
  have hcl := css_len (c := c) hl (fun i cs x e e' => (hi i cs x e e').1)
  rw [flatten_at h0 css hcl] at hu
  cases hx : css[j / T.size]? with
  | none => rw [hx] at hu; cases hu
  | some cs =>
    rw [hx] at hu
    have hlt := (List.getElem?_eq_some_iff.1 hx).1
    obtain ⟨hA, hd⟩ := (hi _ cs _ hx (List.getElem?_eq_getElem (by omega))).2 ad had
    have := hA _ u hu
    rw [Nat.add_assoc, Nat.mul_comm, Nat.div_add_mod] at this
    rw [hd, Addr.add_lit]; exact hc _ _ this
theorem Src.of_sl {α : Type} {T : Ty α} (h0 : 0 < T.size) {w : World} {v : Value} {l : List α} (h : Sl T w.cell? v l) : Src T w.cell? w v l := Src.of_sl_c h0 (Sub.refl _) h
theorem Src.mono {α : Type} {T : Ty α} {c c' : CM} {w w' : World} {v : Value} {l : List α} (h : Src T c w v l) (hc : Sub c c') (hs : Sub w.cell? w'.cell?) : Src T c' w' v l := by
  obtain ⟨ao, cap, css, h1, h2, h2', h3, h4, h5⟩ := h
  exact ⟨ao, cap, css, h1, h2, h2', h3, fun i cs x e e' => T.mono hc (h4 i cs x e e'), fun ad had j u hu => hs _ _ (h5 ad had j u hu)⟩
theorem Src.grow {α : Type} {T : Ty α} {c : CM} {w w' : World} {v : Value} {l : List α} (h : Src T c w v l) (hg : Grow w w') : Src T c w' v l := h.mono (Sub.refl _) hg.sub
theorem Src.kept {α : Type} {T : Ty α} {c : CM} {w w' : World} {g n cap : Nat} {l : List α} {row : Option Nat} (h : Src T c w (.slice (some ⟨g, 0, none⟩) n cap) l) (hg : w.grownBy w' row) (hne : some g ≠ row) : Src T c w' (.slice (some ⟨g, 0, none⟩) n cap) l := by
  obtain ⟨ao, cap', css, h1, h2, h2', h3, h4, h5⟩ := h
  refine ⟨ao, cap', css, h1, h2, h2', h3, h4, fun ad had j u hu => ?_⟩
  have e := h5 ad had j u hu
  simp only [Value.slice.injEq] at h1
  obtain ⟨h1, -, -⟩ := h1
  rw [had] at h1
  obtain rfl := Option.some.inj h1
  have hl := World.block_lt_of_cell? w _ e
  rw [World.cell?_of_block (w := w) (hg.block _ hl (by rw [Addr.add_lit]; exact hne))]
  exact e
theorem Src.of_new {α : Type} {T : Ty α} {c : CM} {cs : Array Value} {x : α} (hR : T.R c cs.toList x) (w : World) (t : TypeId) {g : Nat} (hg : g = w.heap.size) : Src T c (w.alloc (.cells cs t)) (.slice (some ⟨g, 0, none⟩) 1 1) [x] := by
  subst hg
  refine ⟨_, 1, [cs.toList], rfl, by simp, (by show 1 ≤ maxLen; decide), rfl, fun i cs' y e e' => ?_, fun ad had j u hu => ?_⟩
  · have hi := (List.getElem?_eq_some_iff.1 e).1
    obtain rfl : i = 0 := by simpa using hi
    simp at e e'
    subst e; subst e'; exact hR
  · obtain rfl := Option.some.inj had
    exact new_cells w cs t j u (by simpa using hu)
theorem OwnC.made0 {α : Type} (T : Ty α) (c : CM) (w : World) (B : Nat) (e : TypeId) (hB : B ≤ w.heap.size) {g : Nat} (hg : g = w.heap.size) : OwnC T c (w.alloc (.cells #[] e)) B e (.slice (some ⟨g, 0, none⟩) 0 0) [] := by
  subst hg
  exact ⟨[], World.ownsRow_made w #[] 0 hB (Nat.zero_le _) (by simp), rfl, fun i cs x h => by simp at h⟩
theorem run_appc {P : Program} {t e : TypeId} {size bytes : Nat} (hE : EI P t e size bytes) {α : Type} {T : Ty α} (hT : T.size = size) (h1 : TOne T) {c : CM} {w : World} (ty : TypeId) {base : Nat} {v vs : Value} {l m : List α} (hown : OwnC T c w base e v l) (hsrc : Src T c w vs m)
    (hb0 : 0 < bytes) (hbytes : (l.length + m.length) * bytes ≤ 140737488355328) (hbase : base ≤ w.heap.size) :
    ∃ a' c' w', (Builtin.append_ #[t, t] ty #[v, vs]).run P w = .ok (.slice a' (l.length + m.length) c') w' ∧ OwnC T c w' base e (.slice a' (l.length + m.length) c') (l ++ m) ∧ w.grownBy w' v.ownBlock ∧
      ((Value.slice a' (l.length + m.length) c').ownBlock = v.ownBlock ∨ ∃ g, (Value.slice a' (l.length + m.length) c').ownBlock = some g ∧ w.heap.size ≤ g) := by
  obtain ⟨css, k1, k2, k3⟩ := hown
  obtain ⟨ao, cap, css', rfl, s2, s2', s3, s4, s5⟩ := hsrc
  subst hT
  have hcl := css_len s3 s4
  have hle : l.length + m.length ≤ (l.length + m.length) * bytes := Nat.le_mul_of_pos_right _ hb0
  obtain ⟨a', c', w', hr, hA⟩ := run_app_any hE ty k1 ao m.length cap css'.flatten s2 (by rw [flatten_len css' hcl, s3]) s5 (by
      intro u hu
      obtain ⟨cs, hcs, huc⟩ := List.mem_flatten.1 hu
      obtain ⟨i, hi, rfl⟩ := List.mem_iff_getElem.1 hcs
      exact h1 _ _ _ (s4 i css'[i] m[i] (by simp) (by simp)) u huc) (by unfold maxLen; omega) hbytes hbase
  refine ⟨a', c', w', hr, ⟨css ++ css', ?_, by simp [k2, s3], fun i cs x e e' => ?_⟩, hA.grown, hA.blk⟩
  · have := hA.own
    rw [← List.flatten_append] at this
    simpa using this
  · by_cases hi : i < l.length
    · rw [List.getElem?_append_left (by omega)] at e
      rw [List.getElem?_append_left hi] at e'
      exact k3 i _ _ e e'
    · rw [List.getElem?_append_right (by omega)] at e
      rw [List.getElem?_append_right (by omega)] at e'
      rw [k2] at e
      exact s4 _ _ _ e e'
theorem wp_appc {P : Program} {t e : TypeId} {size bytes : Nat} (hE : EI P t e size bytes) {α : Type} {T : Ty α} (hT : T.size = size) (h1 : TOne T) (hb0 : 0 < bytes) {c : CM} {w : World} {o : Oper} {a : Act} {K : Act → World → Prop} {Q : Exit → Act → World → Prop} (s x : Operand) (ho : o.op = .call { callee := .builtin .append, args := #[s, x], argTypes := #[t, t] })
    {base : Nat} {v vs : Value} {l m : List α} (hs : a.eval s = v) (hown : OwnC T c w base e v l) (hx : a.eval x = vs) (hsrc : Src T c w vs m)
    (hbytes : (l.length + m.length) * bytes ≤ 140737488355328) (hbase : base ≤ w.heap.size)
    (h : ∀ a' c' w', OwnC T c w' base e (.slice a' (l.length + m.length) c') (l ++ m) → w.grownBy w' v.ownBlock → ((Value.slice a' (l.length + m.length) c').ownBlock = v.ownBlock ∨ ∃ g, (Value.slice a' (l.length + m.length) c').ownBlock = some g ∧ w.heap.size ≤ g) → K (a.put o.dst (.slice a' (l.length + m.length) c')) w') : o.wp P a w K Q := by
  obtain ⟨a', c', w', hr, h2, h3, h4⟩ := run_appc hE hT h1 o.type hown hsrc hb0 hbytes hbase
  unfold Oper.wp execOp
  simp only [ho, resolve, invoke, builtin, Sem.run_bind, Sem.run_pure, Result.andThen_ok, List.map_toArray, List.map_cons, List.map_nil, hs, hx, hr]
  exact h a' c' w' h2 h3 h4
theorem wpList_appc {P : Program} {t e : TypeId} {size bytes : Nat} (hE : EI P t e size bytes) {α : Type} {T : Ty α} (hT : T.size = size) (h1 : TOne T) (hb0 : 0 < bytes) {c : CM} {w : World} {ops : Array Oper} {rest : List Oper} {o : Oper} {a : Act} {Q : Exit → Act → World → Prop} (hgd : o.guard = none) (s x : Operand) (ho : o.op = .call { callee := .builtin .append, args := #[s, x], argTypes := #[t, t] })
    {base : Nat} {v vs : Value} {l m : List α} (hs : a.eval s = v) (hown : OwnC T c w base e v l) (hx : a.eval x = vs) (hsrc : Src T c w vs m)
    (hbytes : (l.length + m.length) * bytes ≤ 140737488355328) (hbase : base ≤ w.heap.size)
    (h : ∀ a' c' w', OwnC T c w' base e (.slice a' (l.length + m.length) c') (l ++ m) → w.grownBy w' v.ownBlock → ((Value.slice a' (l.length + m.length) c').ownBlock = v.ownBlock ∨ ∃ g, (Value.slice a' (l.length + m.length) c').ownBlock = some g ∧ w.heap.size ≤ g) → wpList P ops Q rest (a.put o.dst (.slice a' (l.length + m.length) c')) w') : wpList P ops Q (o :: rest) a w :=
  wpList_plain hgd fun _ hK => wp_appc hE hT h1 hb0 s x ho hs hown hx hsrc hbytes hbase fun a' c' w' h2 h3 h4 => hK _ _ (h a' c' w' h2 h3 h4)
theorem step_appc {P : Program} {t e : TypeId} {size bytes : Nat} (hE : EI P t e size bytes) {α : Type} {T : Ty α} (hT : T.size = size) (h1 : TOne T) (hb0 : 0 < bytes) {c : CM} {w : World} {ops : Array Oper} {o : Oper} {a : Act} {K : Act → World → Prop} {Q : Exit → Act → World → Prop} {E : Prop} (hgd : o.guard = none) (s x : Operand) (ho : o.op = .call { callee := .builtin .append, args := #[s, x], argTypes := #[t, t] })
    {base : Nat} {v vs : Value} {l m : List α} (hs : a.eval s = v) (hown : OwnC T c w base e v l) (hx : a.eval x = vs) (hsrc : Src T c w vs m)
    (hbytes : (l.length + m.length) * bytes ≤ 140737488355328) (hbase : base ≤ w.heap.size)
    (h : ∀ a' c' w', OwnC T c w' base e (.slice a' (l.length + m.length) c') (l ++ m) → w.grownBy w' v.ownBlock → ((Value.slice a' (l.length + m.length) c').ownBlock = v.ownBlock ∨ ∃ g, (Value.slice a' (l.length + m.length) c').ownBlock = some g ∧ w.heap.size ≤ g) → K (a.put o.dst (.slice a' (l.length + m.length) c')) w') : if Region.wanted o (yielded ops a.tmps) = true then Oper.wp P o a w K Q else E := by
  rw [if_pos (by simp [Region.wanted, hgd])]
  exact wp_appc hE hT h1 hb0 s x ho hs hown hx hsrc hbytes hbase h
theorem own_at {g n c B : Nat} (h : B ≤ g) : ∀ k, (Value.slice (some ⟨g, 0, none⟩) n c).ownBlock = some k → B ≤ k := by
  intro k hk
  obtain rfl : g = k := by simpa [Value.ownBlock] using hk
  exact h
theorem Sl.nil {α : Type} (T : Ty α) (c : CM) : Sl T c (.slice none 0 0) [] := ⟨none, 0, rfl, Nat.le_refl _, Nat.zero_le _, fun _ => rfl, fun i x e => by simp at e⟩
/-- what an append onto a row of the call's own keeps -/
theorem grow_by {w0 w w' : World} {v : Value} (hG : Grow w0 w) (hg : w.grownBy w' v.ownBlock) (hv : ∀ k, v.ownBlock = some k → w0.heap.size ≤ k) : Grow w0 w' := hG.grown hg hv
theorem own_new {B m : Nat} {v : Value} {a' : Option Addr} {n c' : Nat} (hB : B ≤ m) (hb : (Value.slice a' n c').ownBlock = v.ownBlock ∨ ∃ g, (Value.slice a' n c').ownBlock = some g ∧ m ≤ g) (hv : ∀ k, v.ownBlock = some k → B ≤ k) : ∀ k, (Value.slice a' n c').ownBlock = some k → B ≤ k := by
  intro k hk
  rcases hb with hb | ⟨g, hb, hg⟩
  · exact hv k (hb ▸ hk)
  · rw [hb] at hk
    obtain rfl := Option.some.inj hk
    exact Nat.le_trans hB hg
end Go.Proofs.Ytgbhpghgohggcaa
