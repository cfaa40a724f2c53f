/- Memory as a call may see it: what it was given, and what it has made itself. -/
import Derived.Test.YtgbhpghgohggcaaOwn
namespace Go.Proofs.Ytgbhpghgohggcaa
open Go.RowKit
/-- what was given reads in c; what is newer than W reads in w -/
def ov (c : CM) (W w : World) : CM := fun a => if a.block < W.heap.size then c a else w.cell? a
theorem ov_in {c : CM} {W w : World} (h : Sub c W.cell?) : Sub c (ov c W w) := fun a v e => by
  unfold ov
  rw [if_pos (World.block_lt_of_cell? W a (h a v e))]
  exact e
theorem ov_new {c : CM} {W w : World} {a : Addr} (h : W.heap.size ≤ a.block) : ov c W w a = w.cell? a := by
  unfold ov
  rw [if_neg (by omega)]
theorem ov_sub {c : CM} {W w : World} (h : Sub c W.cell?) (hg : Grow W w) : Sub (ov c W w) w.cell? := fun a v e => by
  unfold ov at e
  split at e
  · exact hg.sub _ _ (h _ _ e)
  · exact e
theorem ov_mono {c c' : CM} {W w w' : World} (h : Sub c c') (hg : Grow w w') : Sub (ov c W w) (ov c' W w') := fun a v e => by
  unfold ov at e ⊢
  split at e
  · exact (if_pos ‹_›).trans (h _ _ e)
  · rw [if_neg ‹_›]; exact hg.sub _ _ e
/-- memory without one block -/
def wo (B : Nat) (c : CM) : CM := fun a => if a.block = B then none else c a
theorem wo_sub (B : Nat) (c : CM) : Sub (wo B c) c := fun a v e => by
  unfold wo at e
  split at e
  · cases e
  · exact e
theorem wo_mono {B : Nat} {c c' : CM} (h : Sub c c') : Sub (wo B c) (wo B c') := fun a v e => by
  unfold wo at e ⊢
  split at e
  · cases e
  · rw [if_neg ‹_›]; exact h _ _ e
theorem wo_lt {B : Nat} {c : CM} {W : World} (h : Sub c W.cell?) (hB : W.heap.size ≤ B) : Sub c (wo B c) := fun a v e => by
  have hl := World.block_lt_of_cell? W a (h a v e)
  unfold wo
  rw [if_neg (by omega)]
  exact e
/-- one call behind another -/
theorem ov_ov {c c' : CM} {w W w1 w' : World} (hW : Grow w W) (h : Sub c' (ov c w W)) (h1 : ∀ a v, W.heap.size ≤ a.block → w1.cell? a = some v → w'.cell? a = some v) (h2 : ∀ a v, w.heap.size ≤ a.block → a.block < W.heap.size → c' a = some v → w'.cell? a = some v) : Sub (ov c' W w1) (ov c w w') := fun a v e => by
  unfold ov at e
  split at e
  · have e2 := h _ _ e
    unfold ov at e2 ⊢
    split at e2
    · rw [if_pos ‹_›]; exact e2
    · rw [if_neg ‹_›]; exact h2 a v (by omega) ‹_› e
  · have := hW.size
    unfold ov
    rw [if_neg (by omega)]
    exact h1 a v (by omega) e
/-- a result's box is written last: whatever does not lead through it reads as before -/
theorem ov_box {c : CM} {w W w1 w' : World} {B : Nat} (hW : Grow w W) (h1 : Grow W w1) (hB : B < W.heap.size) (hs : ∀ a : Addr, a.block ≠ B → w'.cell? a = w1.cell? a) : Sub (ov (wo B (ov c w W)) W w1) (ov c w w') :=
  ov_ov hW (wo_sub _ _) (fun a v hl e => by rw [hs a (by omega)]; exact e) fun a v hl hl2 e => by
    have hne : a.block ≠ B := by
      intro hb
      unfold wo at e
      rw [if_pos hb] at e
      cases e
    have e2 := wo_sub _ _ a v e
    rw [ov_new hl] at e2
    rw [hs a hne]
    exact h1.sub _ _ e2
theorem wo_ov_new {c : CM} {w W : World} {B : Nat} {a : Addr} (h : w.heap.size ≤ a.block) (hB : a.block ≠ B) : wo B (ov c w W) a = W.cell? a := by
  unfold wo
  rw [if_neg hB, ov_new h]
theorem wo_ov_in {c : CM} {w W : World} {B : Nat} (hc : Sub c w.cell?) (hB : w.heap.size ≤ B) : Sub c (wo B (ov c w W)) := (wo_lt hc hB).trans (wo_mono (ov_in hc))
theorem wo_ov_sub {c : CM} {w W : World} {B : Nat} (hc : Sub c w.cell?) (hg : Grow w W) : Sub (wo B (ov c w W)) W.cell? := (wo_sub _ _).trans (ov_sub hc hg)
theorem setCell_ne {w : World} {p a : Addr} {u : Value} (h : a.block ≠ p.block) : (w.setCell p u).cell? a = w.cell? a :=
  World.cell?_of_block (by simp only [World.setCell, Array.getElem?_modify]; rw [if_neg (fun e => h e.symm)])
/-- an own row reads as a list, whatever memory one looks at that holds it -/
theorem OwnC.slc {α : Type} {T : Ty α} {c d : CM} (h0 : 0 < T.size) {w : World} {base e : Nat} {v : Value} {l : List α} (h : OwnC T c w base e v l) (hs : Sub c d) (hd : ∀ a : Addr, base ≤ a.block → d a = w.cell? a) : Sl T d v l := by
  obtain ⟨css, ⟨hl, hs'⟩, h2, h3⟩ := h
  have hcl := css_len h2 h3
  rcases hs' with ⟨rfl, hn⟩ | ⟨g, cap, cur, rfl, hg, hrow, hnc, hcm, hcs, htake⟩
  · have : l = [] := List.eq_nil_of_length_eq_zero hn
    subst this
    exact ⟨none, 0, rfl, Nat.le_refl _, Nat.zero_le _, fun _ => rfl, fun i x e => by simp at e⟩
  · refine ⟨some ⟨g, 0, none⟩, cap, rfl, hnc, hcm, by simp, fun i x e => ?_⟩
    have hi : i < l.length := (List.getElem?_eq_some_iff.1 e).1
    have hc : css[i]? = some css[i] := List.getElem?_eq_getElem (by omega)
    refine ⟨g, 0, css[i], rfl, T.mono hs (h3 i _ x hc e), fun j u hu => ?_⟩
    have hj : j < T.size := by rw [← hcl css[i] (List.getElem_mem _)]; exact (List.getElem?_eq_some_iff.1 hu).1
    have hx : css.flatten[i * T.size + j]? = some u := by
      rw [flatten_at h0 css hcl, Nat.mul_comm, Nat.mul_add_div h0, Nat.div_eq_of_lt hj, Nat.add_zero, hc, Nat.mul_add_mod, Nat.mod_eq_of_lt hj]; exact hu
    rw [← htake, List.getElem?_take] at hx
    rw [hd _ hg]
    split at hx
    · simp only [World.cell?, hrow]; simpa using hx
    · cases hx
theorem OwnC.of_flat {α : Type} {T : Ty α} {f : α → List Value} {c : CM} {w : World} {base e : Nat} {v : Value} {l : List α} (h : w.ownsRow base e T.size v l.length (l.flatMap f)) (hR : ∀ x ∈ l, T.R c (f x) x) : OwnC T c w base e v l :=
  ⟨l.map f, by rw [← List.flatMap_def]; exact h, by simp, fun i cs x a b => by
    rw [List.getElem?_map, b] at a
    obtain rfl := Option.some.inj a
    exact hR x (List.mem_of_getElem? b)⟩
theorem OwnC.ints {c : CM} {w : World} {base e : Nat} {v : Value} {l : List Int} (h : w.ownsRow base e 1 v l.length (l.flatMap intCell)) (hok : ∀ x ∈ l, I64 x) : OwnC Ty.int c w base e v l :=
  OwnC.of_flat (T := Ty.int) (f := intCell) h fun x hx => ⟨rfl, hok x hx⟩
theorem OwnC.pts {c : CM} {w : World} {base e : Nat} {v : Value} {l : List Pt} (h : w.ownsRow base e 3 v l.length (ptCells l)) (hok : PtsOk l) : OwnC Ty.pt c w base e v l :=
  OwnC.of_flat (T := Ty.pt) (f := Pt.cells) h fun x hx => ⟨rfl, hok x hx⟩
end Go.Proofs.Ytgbhpghgohggcaa
