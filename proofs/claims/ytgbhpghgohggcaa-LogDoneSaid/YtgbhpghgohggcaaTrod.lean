/- From the form's reading of an argument to plain readings of cells. -/
import Derived.Test.YtgbhpghgohggcaaTy
import Derived.Deep.Slices
import Derived.OpenShut
import Derived.Below
import Derived.ChangeOld
import Derived.ProofKit
namespace Go.Proofs.Ytgbhpghgohggcaa
open Go.RowKit Go.ChangeShapes Go.WideShapes Go.ChangeAt

def Reads {α : Type} (P : Program) (t : TypeId) (T : Ty α) : Prop := ∀ (H : Type) (enc : TypeId × Value → H) (W : World) (fuel : Nat) (cs : List Value) (x : DataW H × List MemPlace),
  DataW.trod enc P W 0 (fun _ => true) true fuel t cs = some x → ∃ y, T.R W.cell? cs y
theorem reads_int {P : Program} {t : TypeId} (ht : P.underlying t = some (.int .i64)) : Reads P t Ty.int := by
  intro H enc W fuel cs x h
  obtain ⟨n, rfl, _, hw⟩ := DataW.trod_int ht h
  exact ⟨n, rfl, hw⟩
theorem reads_sl {α : Type} {P : Program} {t e : TypeId} {T : Ty α} (hR : Reads P e T) (ht : P.underlying t = some (.slice e)) (hc : P.cellsOf e = T.size) (h0 : 0 < T.size) : Reads P t T.sl := by
  intro H enc W fuel cs x h
  rcases Deep.open_slice ht h with ⟨rfl, _⟩ | ⟨a, len, cap, m, n, D, Pl, rfl, _, hl, hm, hmm, hxe, hx⟩
  · exact ⟨[], _, rfl, none, 0, rfl, Nat.le_refl _, Nat.zero_le _, fun _ => rfl, fun i x e => by simp at e⟩
  · simp only [if_true] at hmm
    subst m
    have h2 : ∀ i, i < len → ∃ (p : List Value × α), T.R W.cell? p.1 p.2 ∧ W.cells? 0 (a.add (i * T.size)) T.size = some p.1 := by
      intro i hi
      obtain ⟨cs', h1, h2⟩ := hx i (by omega)
      obtain ⟨y, hy⟩ := hR H enc W n cs' _ h2
      rw [hc] at h1
      exact ⟨(cs', y), hy, h1⟩
    have h3 : ∃ l : List α, l.length = len ∧ ∀ i y, l[i]? = some y → ∃ cs', T.R W.cell? cs' y ∧ W.cells? 0 (a.add (i * T.size)) T.size = some cs' := by
      clear hx hl h hxe
      induction len with
      | zero => exact ⟨[], rfl, by simp⟩
      | succ len ih =>
        obtain ⟨l, hl, hi⟩ := ih (by intro i hi; exact h2 i (by omega))
        obtain ⟨⟨cs', y⟩, hy, h1⟩ := h2 len (by omega)
        refine ⟨l ++ [y], by simp [hl], fun i z hz => ?_⟩
        rcases Nat.lt_or_ge i l.length with hlt | hge
        · rw [List.getElem?_append_left hlt] at hz; exact hi i z hz
        · have hb := (List.getElem?_eq_some_iff.1 hz).1
          simp at hb
          obtain rfl : i = len := by omega
          rw [List.getElem?_append_right hge, hl] at hz
          simp at hz
          subst hz
          exact ⟨cs', hy, h1⟩
    obtain ⟨l, hlen, hl2⟩ := h3
    refine ⟨l, _, rfl, some a, cap, by rw [hlen], by omega, hm, by simp, fun i y hy => ?_⟩
    obtain ⟨cs', hR', hcs⟩ := hl2 i y hy
    obtain ⟨_, hlen', hat⟩ := World.cells?_some hcs
    have hpos : 0 < l.length := by have := (List.getElem?_eq_some_iff.1 hy).1; omega
    obtain ⟨cs0, _, hcs0⟩ := hl2 0 l[0] (List.getElem?_eq_getElem hpos)
    obtain ⟨_, hlen0, hat0⟩ := World.cells?_some hcs0
    have hfirst := hat0 0 h0
    rw [List.getElem?_eq_getElem (by omega)] at hfirst
    have hsp := World.cell?_spot hfirst
    obtain ⟨b, o, s⟩ := a
    have hs : s = none := by simpa [Addr.add] using hsp
    subst hs
    refine ⟨b, o, cs', rfl, hR', fun j u hu => ?_⟩
    have hj : j < T.size := by rw [← hlen']; exact (List.getElem?_eq_some_iff.1 hu).1
    have := hat j hj
    rw [Addr.add_lit, Addr.add_lit, hu] at this
    exact this
/-- a struct's fields: type, place, cells -/
def structOf (P : Program) (t : TypeId) : Option (List (TypeId × Nat × Nat)) :=
  match P.underlying t with
  | some (.struct fs) => some (fs.toList.map fun f => (f.type, f.offset, P.cellsOf f.type))
  | _ => none
theorem struct_fields {P : Program} {t : TypeId} {fs' : List (TypeId × Nat × Nat)} (hs : structOf P t = some fs') {H : Type} {enc : TypeId × Value → H} {W : World} {fuel : Nat} {cs : List Value} {x : DataW H × List MemPlace}
    (h : DataW.trod enc P W 0 (fun _ => true) true fuel t cs = some x) : cs.length = P.cellsOf t ∧ ∀ (i : Nat) (f : TypeId × Nat × Nat), fs'[i]? = some f → ∃ n y, DataW.trod enc P W 0 (fun _ => true) true n f.1 ((cs.drop f.2.1).take f.2.2) = some y := by
  unfold structOf at hs
  split at hs
  · rename_i fs hu
    obtain rfl := Option.some.inj hs
    obtain ⟨xs, n, _, _, hl, hlen, hf⟩ := DataW.trod_struct hu h
    refine ⟨hl, fun i f hi => ?_⟩
    rw [List.getElem?_map] at hi
    cases hfi : fs.toList[i]? with
    | none => rw [hfi] at hi; cases hi
    | some fd =>
      rw [hfi] at hi
      obtain rfl := Option.some.inj hi
      have hfi' : fs[i]? = some fd := by simpa using hfi
      have hlt : i < xs.length := by rw [hlen]; exact (Array.getElem?_eq_some_iff.1 hfi').1
      have := hf i fd hfi'
      rw [List.getElem?_eq_getElem hlt] at this
      exact ⟨n, _, this⟩
  · cases hs
theorem reads_pt : Reads Try.prog 32 Ty.pt := by
  intro H enc W fuel cs x h
  obtain ⟨hl, hf⟩ := struct_fields (fs' := [(3, 0, 1), (3, 1, 1), (3, 2, 1)]) (by kernel_rfl) h
  rw [show (Try.prog).cellsOf 32 = 3 by kernel_rfl] at hl
  match cs, hl with
  | [a, b, c], _ =>
    obtain ⟨_, _, h0⟩ := hf 0 _ rfl
    obtain ⟨_, _, h1⟩ := hf 1 _ rfl
    obtain ⟨_, _, h2⟩ := hf 2 _ rfl
    obtain ⟨x0, e0, w0⟩ := reads_int (by kernel_rfl) _ _ _ _ _ _ h0
    obtain ⟨x1, e1, w1⟩ := reads_int (by kernel_rfl) _ _ _ _ _ _ h1
    obtain ⟨x2, e2, w2⟩ := reads_int (by kernel_rfl) _ _ _ _ _ _ h2
    refine ⟨⟨x0, x1, x2⟩, ?_, w0, w1, w2⟩
    simp at e0 e1 e2
    subst e0 e1 e2
    rfl
theorem reads_pts : Reads Try.prog 23 Ty.pts := reads_sl reads_pt (by kernel_rfl) (by kernel_rfl) (by decide)
theorem reads_ints : Reads Try.prog 27 (Ty.sl Ty.int) := reads_sl (reads_int (t := 3) (by kernel_rfl)) (by kernel_rfl) (by kernel_rfl) (by decide)
theorem reads_rc : Reads Try.prog 48 Ty.rc := by
  intro H enc W fuel cs x h
  obtain ⟨hl, hf⟩ := struct_fields (fs' := [(3, 0, 1), (3, 1, 1), (23, 2, 1)]) (by kernel_rfl) h
  rw [show (Try.prog).cellsOf 48 = 3 by kernel_rfl] at hl
  match cs, hl with
  | [a, b, c], _ =>
    obtain ⟨_, _, h0⟩ := hf 0 _ rfl
    obtain ⟨_, _, h1⟩ := hf 1 _ rfl
    obtain ⟨_, _, h2⟩ := hf 2 _ rfl
    obtain ⟨x0, e0, w0⟩ := reads_int (by kernel_rfl) _ _ _ _ _ _ h0
    obtain ⟨x1, e1, w1⟩ := reads_int (by kernel_rfl) _ _ _ _ _ _ h1
    obtain ⟨x2, v2, e2, w2⟩ := reads_pts _ _ _ _ _ _ h2
    refine ⟨⟨x0, x1, x2⟩, v2, ?_, w0, w1, w2⟩
    simp at e0 e1 e2
    subst e0 e1 e2
    rfl
theorem reads_rcs : Reads Try.prog 22 (Ty.sl Ty.rc) := reads_sl reads_rc (by kernel_rfl) (by kernel_rfl) (by decide)
theorem reads_rd : Reads Try.prog 45 Ty.rd := by
  intro H enc W fuel cs x h
  obtain ⟨hl, hf⟩ := struct_fields (fs' := [(3, 0, 1), (23, 1, 1)]) (by kernel_rfl) h
  rw [show (Try.prog).cellsOf 45 = 2 by kernel_rfl] at hl
  match cs, hl with
  | [a, b], _ =>
    obtain ⟨_, _, h0⟩ := hf 0 _ rfl
    obtain ⟨_, _, h1⟩ := hf 1 _ rfl
    obtain ⟨x0, e0, w0⟩ := reads_int (by kernel_rfl) _ _ _ _ _ _ h0
    obtain ⟨x2, v2, e2, w2⟩ := reads_pts _ _ _ _ _ _ h1
    refine ⟨⟨x0, x2⟩, v2, ?_, w0, w2⟩
    simp at e0 e2
    subst e0 e2
    rfl
theorem reads_ms : Reads Try.prog 39 Ty.ms := by
  intro H enc W fuel cs x h
  obtain ⟨hl, hf⟩ := struct_fields (fs' := [(3, 0, 1), (3, 1, 1), (3, 2, 1), (23, 3, 1)]) (by kernel_rfl) h
  rw [show (Try.prog).cellsOf 39 = 4 by kernel_rfl] at hl
  match cs, hl with
  | [a, b, c, d], _ =>
    obtain ⟨_, _, h0⟩ := hf 0 _ rfl
    obtain ⟨_, _, h1⟩ := hf 1 _ rfl
    obtain ⟨_, _, h2⟩ := hf 2 _ rfl
    obtain ⟨_, _, h3⟩ := hf 3 _ rfl
    obtain ⟨x0, e0, w0⟩ := reads_int (by kernel_rfl) _ _ _ _ _ _ h0
    obtain ⟨x1, e1, w1⟩ := reads_int (by kernel_rfl) _ _ _ _ _ _ h1
    obtain ⟨x2, e2, w2⟩ := reads_int (by kernel_rfl) _ _ _ _ _ _ h2
    obtain ⟨x3, v3, e3, w3⟩ := reads_pts _ _ _ _ _ _ h3
    refine ⟨⟨x0, x1, x2, x3⟩, v3, ?_, w0, w1, w2, w3⟩
    simp at e0 e1 e2 e3
    subst e0 e1 e2 e3
    rfl
theorem reads_mss : Reads Try.prog 36 (Ty.sl Ty.ms) := reads_sl reads_ms (by kernel_rfl) (by kernel_rfl) (by decide)
/-- an argument that is a slice -/
theorem arg_sl {α : Type} {P : Program} {t e : TypeId} {T : Ty α} (hR : Reads P t T.sl) (ht : P.underlying t = some (.slice e)) {H : Type} {enc : TypeId × Value → H} {W : World} {r : Reach} {b : Nat} {v : Value} {d : DataW H} {p : List MemPlace}
    (hval : Value.okWide P W r b t v) (h : DataW.Trod enc P W 0 (fun _ => true) true t v d p) : ∃ l, Sl T W.cell? v l := by
  obtain ⟨a, len, cap, rfl⟩ := okWide_slice ht hval
  obtain ⟨fuel, hf⟩ := h
  obtain ⟨l, v, e, hv⟩ := hR _ _ _ _ _ _ hf
  simp [Value.cells] at e
  subst e
  exact ⟨l, hv⟩
theorem own : ownKnob (Try.prog).godebug = none := by kernel_rfl
theorem laidOut : laidOutB Try.prog = true := by kernel_rfl
end Go.Proofs.Ytgbhpghgohggcaa
