/- Walks: House of the reference. -/
import Derived.Test.YtgbhpghgohggcaaP6
import Derived.Test.YtgbhpghgohggcaaApp
import Derived.Test.YtgbhpghgohggcaaReg
import Derived.Test.YtgbhpghgohggcaaOv
namespace Go.Proofs.Ytgbhpghgohggcaa
open Go.RowKit

/-- one thing that a house is ready for, as a record finds it -/
def inStep (r : Rc) (st : List Rd × Bool × Sm × List Int) (x : Rd) : List Rd × Bool × Sm × List Int :=
  if x.deed = r.deed ∧ st.2.1 = false then
    if r.kind = 2 then (st.1, true, doP st.2.2.1 x.parts, st.2.2.2 ++ [r.deed]) else if r.kind = 3 then (st.1, true, st.2.2.1, st.2.2.2) else (st.1 ++ [x], true, st.2.2.1, st.2.2.2)
  else (st.1 ++ [x], st.2.1, st.2.2.1, st.2.2.2)
def refStep (h : Hs) (r : Rc) : Hs :=
  let st := h.ready.foldl (inStep r) ([], false, h.sums, h.done)
  { log := h.log, sums := st.2.2.1, ready := if r.kind = 1 ∧ st.2.1 = false then st.1 ++ [⟨r.deed, r.parts⟩] else st.1, done := st.2.2.2 }
def houseR (l : List Rc) : Hs := l.foldl refStep ⟨l, ⟨0, 0, 0, 0⟩, [], []⟩
def SmOk (s : Sm) : Prop := I64 s.a ∧ I64 s.b ∧ I64 s.c ∧ I64 s.d
theorem zero_ok : I64 0 := by unfold I64; decide
theorem wrap_ok (x : Int) : I64 (wrap64 x) := wrap64_wf x
theorem SmOk.put {s : Sm} (h : SmOk s) (k : Int) {x : Int} (hx : I64 x) : SmOk (s.put k x) := by
  unfold Sm.put
  obtain ⟨a, b, c, d⟩ := h
  split
  · exact ⟨hx, b, c, d⟩
  · split
    · exact ⟨a, hx, c, d⟩
    · split
      · exact ⟨a, b, hx, d⟩
      · exact ⟨a, b, c, hx⟩
theorem SmOk.doP {s : Sm} (h : SmOk s) (l : List Pt) : SmOk (doP s l) := by
  induction l generalizing s with
  | nil => exact h
  | cons p l ih => exact ih (h.put p.k (wrap_ok _))

theorem made0 (w : World) (B : Nat) (e : TypeId) (hB : B ≤ w.heap.size) : (w.alloc (.cells #[] e)).ownsRow B e 1 (.slice (some ⟨w.heap.size, 0, none⟩) 0 0) 0 [] := World.ownsRow_made w #[] 0 hB (Nat.zero_le _) rfl
/-- a house in a box, as its log is walked -/
structure HBox (c : CM) (w : World) (wr : World) (vl : Value) (vr vd : Value) (h : Hs) : Prop where
  row : wr.heap[w.heap.size + 1]? = some (.cells #[vl, .int .i64 h.sums.a, .int .i64 h.sums.b, .int .i64 h.sums.c, .int .i64 h.sums.d, vr, vd] 29 (0, 0))
  res : wr.heap[w.heap.size]? = some (.cells #[.slice none 0 0, .int .i64 0, .int .i64 0, .int .i64 0, .int .i64 0, .slice none 0 0, .slice none 0 0] 29 (0, 0))
  ready : OwnC Ty.rd c wr (w.heap.size + 2) 45 vr h.ready
  done : wr.ownsRow (w.heap.size + 2) 3 1 vd h.done.length (h.done.flatMap intCell)
  grow : Grow w wr
  size : w.heap.size + 2 ≤ wr.heap.size
structure HOk (h : Hs) (n : Nat) : Prop where
  ready : h.ready.length ≤ n
  done : h.done.length ≤ n
  keys : ∀ x ∈ h.ready, KeysOk x.parts
  sums : SmOk h.sums
  ints : ∀ x ∈ h.done, I64 x
theorem HBox.later {c : CM} {w wr w' : World} {vl vr vd : Value} {h : Hs} {row : Option Nat} (hb : HBox c w wr vl vr vd h) (hg : wr.grownBy w' row) (h1 : ∀ k, row = some k → w.heap.size + 2 ≤ k) (h2 : vr.ownBlock = none ∨ vr.ownBlock ≠ row) (h3 : vd.ownBlock = none ∨ vd.ownBlock ≠ row) : HBox c w w' vl vr vd h where
  row := by rw [hg.block _ (by have := hb.size; omega) (fun e => by have := h1 _ e.symm; omega)]; exact hb.row
  res := by rw [hg.block _ (by have := hb.size; omega) (fun e => by have := h1 _ e.symm; omega)]; exact hb.res
  ready := hb.ready.kept hg h2
  done := hb.done.kept hg h3
  grow := hb.grow.grown hg (fun k hk => by have := h1 k hk; omega)
  size := Nat.le_trans hb.size hg.size

theorem row_set5 {w : World} {B : Nat} {a b c d e f g : Value} {t : TypeId} (h : w.heap[B]? = some (.cells #[a, b, c, d, e, f, g] t (0, 0))) (u : Value) : (w.setCell ⟨B, 5, none⟩ u).heap[B]? = some (.cells #[a, b, c, d, e, u, g] t (0, 0)) := by
  simp only [World.setCell, Array.getElem?_modify, h]; simp
/-- behind m of the things that a house is ready for -/
structure HIn (c : CM) (w wo wx : World) (vl vr : Value) (rcs : List Value) (r : Rc) (h : Hs) (k m : Nat) (s6 : Value) (st : List Rd × Bool × Sm × List Int) (vd : Value) : Prop where
  fold : (h.ready.take m).foldl (inStep r) ([], false, h.sums, h.done) = st
  own : OwnC Ty.rd c wx (wo.heap.size + 1) 45 s6 st.1
  box : HBox c w wx vl vr vd { h with sums := st.2.2.1, done := st.2.2.2 }
  len : st.1.length ≤ m
  dlen : st.2.2.2.length ≤ k + (if st.2.1 then 1 else 0)
  keys : ∀ x ∈ st.1, KeysOk x.parts
  sums : SmOk st.2.2.1
  ints : ∀ x ∈ st.2.2.2, I64 x
  rbox : At wx.cell? wo.heap.size 0 rcs
  size : wo.heap.size + 1 ≤ wx.heap.size
  osize : w.heap.size + 2 ≤ wo.heap.size
  vr : ∀ k, vr.ownBlock = some k → k < wo.heap.size
  disj : s6.ownBlock = none ∨ s6.ownBlock ≠ vd.ownBlock
theorem HIn.app {c : CM} {w wo wx w' : World} {vl vr : Value} {rcs : List Value} {r : Rc} {h : Hs} {k m : Nat} {s6 : Value} {st : List Rd × Bool × Sm × List Int} {vd : Value} {x : Rd} {b : Bool} {o1 o2 : Obj} {g c' : Nat}
    (H : HIn c w wo wx vl vr rcs r h k m s6 st vd) (hx : h.ready[m]? = some x) (hkx : KeysOk x.parts) (hst : inStep r st x = (st.1 ++ [x], b, st.2.2)) (hb : st.2.1 = true → b = true)
    (ho : OwnC Ty.rd c w' (wo.heap.size + 1) 45 (.slice (some ⟨g, 0, none⟩) (st.1.length + 1) c') (st.1 ++ [x])) (hg : ((wx.alloc o1).alloc o2).grownBy w' s6.ownBlock) (hl : s6.ownBlock = some g ∨ g = wx.heap.size + 1 + 1) :
    HIn c w wo w' vl vr rcs r h k (m + 1) (.slice (some ⟨g, 0, none⟩) (st.1.length + 1) c') (st.1 ++ [x], b, st.2.2) vd := by
  have hg' : wx.grownBy w' s6.ownBlock := grownBy_trans (grownBy_of_grow (((Grow.refl wx).alloc o1).alloc o2) _) hg
  have hlt := H.own.lt
  exact {
    fold := by
      have hm := (List.getElem?_eq_some_iff.1 hx)
      obtain ⟨hm1, hm2⟩ := hm
      rw [List.take_succ_eq_append_getElem hm1, List.foldl_append, H.fold, hm2]; simpa using hst
    own := ho
    box := H.box.later hg' (fun k hk => by have := (hlt k hk).1; have := H.osize; omega) (by
      cases e : vr.ownBlock with
      | none => exact .inl rfl
      | some q => right; intro e'; have := H.vr q e; have := (hlt q e'.symm).1; omega) (by
      rcases H.disj with d | d
      · cases e : vd.ownBlock with
        | none => exact .inl rfl
        | some q => right; rw [d]; simp
      · right; exact fun e => d e.symm)
    len := by have := H.len; simp; omega
    dlen := by
      have := H.dlen
      simp only
      cases hs : st.2.1 with
      | true => rw [hb hs]; rw [hs] at this; exact this
      | false => rw [hs] at this; simp at this; omega
    keys := fun y hy => by
      simp only [List.mem_append, List.mem_singleton] at hy
      rcases hy with hy | rfl
      · exact H.keys y hy
      · exact hkx
    sums := H.sums
    ints := H.ints
    rbox := fun j u hu => by
      have e := H.rbox j u hu
      have hl := World.block_lt_of_cell? wx _ e
      simp only at hl
      rw [World.cell?_of_block (w := wx) (hg'.block _ hl (fun e' => by have := (hlt _ e'.symm).1; simp only at this; omega))]
      exact e
    size := Nat.le_trans H.size hg'.size
    osize := H.osize
    vr := H.vr
    disj := by
      right
      rcases hl with hl | hl
      · rcases H.disj with d | d
        · rw [d] at hl; cases hl
        · rw [hl] at d; exact d
      · intro e'
        have := (H.box.done.lt g e'.symm).2
        omega }
theorem HIn.skip {c : CM} {w wo wx : World} {vl vr : Value} {rcs : List Value} {r : Rc} {h : Hs} {k m : Nat} {s6 : Value} {st : List Rd × Bool × Sm × List Int} {vd : Value} {x : Rd} {o1 : Obj}
    (H : HIn c w wo wx vl vr rcs r h k m s6 st vd) (hx : h.ready[m]? = some x) (hst : inStep r st x = (st.1, true, st.2.2)) : HIn c w wo (wx.alloc o1) vl vr rcs r h k (m + 1) s6 (st.1, true, st.2.2) vd := by
  have hg := (Grow.refl wx).alloc o1
  have hg' := grownBy_of_grow hg none
  exact {
    fold := by
      obtain ⟨hm1, hm2⟩ := List.getElem?_eq_some_iff.1 hx
      rw [List.take_succ_eq_append_getElem hm1, List.foldl_append, H.fold, hm2]; simpa using hst
    own := H.own.grow hg
    box := H.box.later hg' (by simp) (by cases vr.ownBlock <;> simp) (by cases vd.ownBlock <;> simp)
    len := by have := H.len; simp; omega
    dlen := by
      have := H.dlen
      simp only
      cases hs : st.2.1 <;> rw [hs] at this <;> simp at this ⊢ <;> omega
    keys := H.keys
    sums := H.sums
    ints := H.ints
    rbox := H.rbox.mono hg.sub
    size := by have := H.size; simp; omega
    osize := H.osize
    vr := H.vr
    disj := H.disj }
/-- a deed is done: the box has other sums, and one deed more -/
theorem HIn.did {c : CM} {w wo wx w' : World} {vl vr : Value} {rcs : List Value} {r : Rc} {h : Hs} {k m : Nat} {s6 : Value} {st : List Rd × Bool × Sm × List Int} {vd vd' : Value} {x : Rd} {sm : Sm}
    (H : HIn c w wo wx vl vr rcs r h k m s6 st vd) (hx : h.ready[m]? = some x) (hst : inStep r st x = (st.1, true, sm, st.2.2.2 ++ [r.deed])) (hf : st.2.1 = false) (hsm : SmOk sm) (hd : I64 r.deed)
    (hg : wx.grownBy w' (some (w.heap.size + 1))) (hrow : w'.heap[w.heap.size + 1]? = some (.cells #[vl, .int .i64 sm.a, .int .i64 sm.b, .int .i64 sm.c, .int .i64 sm.d, vr, vd'] 29 (0, 0)))
    (hdn : w'.ownsRow (w.heap.size + 2) 3 1 vd' (st.2.2.2 ++ [r.deed]).length ((st.2.2.2 ++ [r.deed]).flatMap intCell)) (hnew : ∀ q, vd'.ownBlock = some q → wx.heap.size ≤ q) :
    HIn c w wo w' vl vr rcs r h k (m + 1) s6 (st.1, true, sm, st.2.2.2 ++ [r.deed]) vd' := by
  have hB := H.box.size
  have hos := H.osize
  exact {
    fold := by
      obtain ⟨hm1, hm2⟩ := List.getElem?_eq_some_iff.1 hx
      rw [List.take_succ_eq_append_getElem hm1, List.foldl_append, H.fold, hm2]; simpa using hst
    own := H.own.kept hg (by
      cases e : s6.ownBlock with
      | none => exact .inl rfl
      | some q => right; intro e'; have := (H.own.lt q e).1; simp at e'; omega)
    box := {
      row := hrow
      res := by rw [hg.block _ (by omega) (by simp)]; exact H.box.res
      ready := H.box.ready.kept hg (by
        cases e : vr.ownBlock with
        | none => exact .inl rfl
        | some q => right; intro e'; have := (H.box.ready.lt q e).1; simp at e'; omega)
      done := hdn
      grow := H.box.grow.grown hg (fun k hk => by simp at hk; omega)
      size := Nat.le_trans hB hg.size }
    len := by have := H.len; simp; omega
    dlen := by have := H.dlen; rw [hf] at this; simp at this ⊢; omega
    keys := H.keys
    sums := hsm
    ints := fun y hy => by
      simp only [List.mem_append, List.mem_singleton] at hy
      rcases hy with hy | rfl
      · exact H.ints y hy
      · exact hd
    rbox := fun j u hu => by
      have e := H.rbox j u hu
      have hl := World.block_lt_of_cell? wx _ e
      simp only at hl
      rw [World.cell?_of_block (w := wx) (hg.block _ hl (fun e' => by simp at e'; omega))]
      exact e
    size := Nat.le_trans H.size hg.size
    osize := H.osize
    vr := H.vr
    disj := by
      cases e : s6.ownBlock with
      | none => exact .inl rfl
      | some q =>
        right; intro e'
        have := hnew q e'.symm
        have := (H.own.lt q e).2
        omega }
set_option maxRecDepth 100000 in
set_option maxHeartbeats 1000000 in
theorem ref_house_c {c : CM} {v : Value} {l : List Rc} (w : World) (hc : Sub c w.cell?) (hv : Rcs c v l) (hk : ∀ r ∈ l, KeysOk r.parts) (hm : l.length * 40 ≤ 140737488355328) :
    Calls Try.prog 29 #[v] w fun e w' => ∃ v', e = .returned v' ∧ Of Ty.hs (ov c w w') v' (houseR l) ∧ Grow w w' := by
  have hv0 := hv
  have HC := Lib.hid hc
  clear hc
  obtain ⟨al, cl, rfl, h1, h2, -, hel⟩ := hv
  unfold maxLen at h2
  have HV := Lib.hid hv0
  have HM := Lib.hid hm
  have HKS := Lib.hid hk
  clear hv0 hm hk
  go_enter Try.func29, Try.ntmps29
  go_wp2
  go_loopw [14] (fun i wr => ∃ (k : Nat) (h : Hs) (vr vd : Value), k ≤ l.length ∧ i = .int .i64 k ∧ (l.take k).foldl refStep ⟨l, ⟨0, 0, 0, 0⟩, [], []⟩ = h ∧ HBox c w wr (.slice al l.length cl) vr vd h ∧ HOk h k) (fun i _ => l.length - (intOf i).toNat)
  case atStart =>
    refine ⟨0, _, .slice none 0 0, .slice none 0 0, by omega, rfl, rfl, ⟨by simpa using heap_alloc_new (w.alloc _) _, heap_later (heap_alloc_new w _) _, OwnC.nil _ _ _ _ _, World.ownsRow_nil _ _ _ _, (by repeat (first | with_reducible assumption | with_reducible exact Grow.refl _ | with_reducible apply Grow.drewN | with_reducible apply Grow.drew | with_reducible apply Grow.alloc | (refine Grow.setCell ?_ (by simp; done) _))), by simp⟩, ⟨by simp, by simp, by simp, ⟨zero_ok, zero_ok, zero_ok, zero_ok⟩, by simp⟩⟩
  case round =>
    obtain ⟨k, h, vr, vd, hk', rfl, hH, hB, hO⟩ := hrel
    by_cases hlt : k < l.length
    · obtain ⟨b, o, vp, rfl, c0, c1, c2, i1, i2, hP⟩ := Rcs.at_ hel k hlt
      obtain ⟨ap, cp, rfl, -⟩ := id hP
      replace c0 := hB.grow.sub _ _ (HC.out _ _ c0)
      replace c1 := hB.grow.sub _ _ (HC.out _ _ c1)
      replace c2 := hB.grow.sub _ _ (HC.out _ _ c2)
      obtain ⟨ar, cr, rfl⟩ := hB.ready.form
      obtain ⟨ad, cd, rfl⟩ := owns_form hB.done
      have hR := hB.ready.sl (by decide) (HC.out.trans hB.grow.sub)
      obtain ⟨ar', cr', he, hr1, hr2, -, hrel⟩ := hR
      obtain ⟨rfl, rfl⟩ : ar = ar' ∧ cr = cr' := by simpa using he
      unfold maxLen at hr2
      have e5 : wr.cell? ⟨w.heap.size + 1, 5, none⟩ = some (.slice ar h.ready.length cr) := by simp [World.cell?, hB.row]
      have hsz : w.heap.size + 1 < wr.heap.size := (Array.getElem?_eq_some_iff.1 hB.row).1
      have hstep : (l.take (k + 1)).foldl refStep ⟨l, ⟨0, 0, 0, 0⟩, [], []⟩ = refStep h l[k] := by
        rw [List.take_succ_eq_append_getElem hlt, List.foldl_append, hH]; rfl
      have HST := Lib.hid hstep
      have HB := Lib.hid hB
      have HO := Lib.hid hO
      have HP := Lib.hid hP
      have HI1 := Lib.hid i1
      have HI2 := Lib.hid i2
      have HKR := Lib.hid (HKS.out l[k] (List.getElem_mem _))
      clear hel hH hB hO he hstep hP i1 i2
      generalize l[k] = r at *
      obtain ⟨wo, rfl⟩ : ∃ wo : World, wo = wr := ⟨_, rfl⟩
      go_wp2
      go_loopw [6, 7, 21] (fun s6 s7 i wx => ∃ (m : Nat) (st : List Rd × Bool × Sm × List Int) (vd' : Value), m ≤ h.ready.length ∧ i = .int .i64 m ∧ s7 = .bool st.2.1 ∧
        HIn c w wo wx (.slice (some ⟨b, o, none⟩) l.length cl) (.slice ar h.ready.length cr) [.int .i64 r.kind, .int .i64 r.deed, .slice ap r.parts.length cp] r h k m s6 st vd') (fun _ _ i _ => h.ready.length - (intOf i).toNat)
      case atStart =>
        have hg := (Grow.refl wo).alloc (.cells #[.int .i64 r.kind, .int .i64 r.deed, .slice ap r.parts.length cp] 48)
        refine ⟨0, ([], false, h.sums, h.done), .slice ad h.done.length cd, by omega, rfl, rfl, ?_⟩
        exact {
          fold := rfl
          own := OwnC.nil _ _ _ _ _
          box := HB.out.later (grownBy_of_grow hg none) (by simp) (by cases (Value.slice ar h.ready.length cr).ownBlock <;> simp) (by cases (Value.slice ad h.done.length cd).ownBlock <;> simp)
          len := by simp
          dlen := by simpa using HO.out.done
          keys := by simp
          sums := HO.out.sums
          ints := HO.out.ints
          rbox := fun j u hu => by rw [Nat.zero_add, World.cell?_alloc_new]; simpa using hu
          size := by simp
          osize := HB.out.size
          vr := fun q hq => (HB.out.ready.lt q hq).2
          disj := .inl rfl }
      case round =>
        obtain ⟨m, st, vd', hm', rfl, rfl, hX⟩ := hrel
        have f0 := hX.rbox 0 _ rfl
        have f1 := hX.rbox 1 _ rfl
        have f2 := hX.rbox 2 _ rfl
        simp only [Nat.add_zero, Nat.zero_add] at f0 f1 f2
        have hxs := hX.size
        have hos := hX.osize
        obtain ⟨a6, c6, rfl⟩ := hX.own.form
        have hwz : w.heap.size + 1 < wr.heap.size := by omega
        have hwl : wo.heap.size < wr.heap.size := by omega
        by_cases hlm : m < h.ready.length
        · obtain ⟨g, cs, hag, hRx, hAx⟩ := OwnC.get (by decide) hX.box.ready m hlm
          obtain ⟨vq, rfl, hdq, hQ⟩ := id hRx
          obtain ⟨aq, cq, rfl, -⟩ := id hQ
          have d0 := hAx 0 _ rfl
          have d1 := hAx 1 _ rfl
          simp only [Nat.add_zero, Ty.rd] at d0 d1
          subst hag
          have HX := Lib.hid hX
          have HRX := Lib.hid hRx
          have HONE : Hid (∀ u ∈ (#[.int .i64 h.ready[m].deed, .slice aq h.ready[m].parts.length cq] : Array Value).toList, u.oneCell' = true) := by
            intro u hu; simp at hu; rcases hu with rfl | rfl <;> rfl
          have HLEN : Hid ((st.1.length + 1) * 32 ≤ 140737488355328) := by
            have h1 := hX.len
            have h3 := HO.out.ready
            have h4 := HM.out
            show (st.1.length + 1) * 32 ≤ 140737488355328
            omega
          have HBS : Hid (w.heap.size ≤ wo.heap.size + 1) := by show w.heap.size ≤ wo.heap.size + 1; omega
          have HBS2 : Hid (wo.heap.size + 1 ≤ (wr.alloc (.cells #[.int .i64 h.ready[m].deed, .slice aq h.ready[m].parts.length cq] 45)).heap.size) := by show _ ≤ _; simp; omega
          have hxm : h.ready[m]? = some h.ready[m] := List.getElem?_eq_getElem hlm
          have HXM := Lib.hid hxm
          have HKX := Lib.hid (HO.out.keys h.ready[m] (List.getElem_mem _))
          clear hX hAx hRx hdq hQ hxm
          generalize h.ready[m] = x at *
          obtain ⟨rest, was, sm, dn⟩ := st
          by_cases tk : x.deed = r.deed
          · have tk' : (x.deed != r.deed) = false := by simp [tk]
            have HT := Lib.hid tk
            clear tk
            cases was
            · by_cases t2 : r.kind = 2
              · have t2' : (r.kind == 2) = true := by simp [t2]
                have hst : inStep r (rest, false, sm, dn) x = (rest, true, doP sm x.parts, dn ++ [r.deed]) := by simp [inStep, HT.out, t2]
                have HST2 := Lib.hid hst
                have hq : Sl Ty.pt c (.slice aq x.parts.length cq) x.parts := by
                  obtain ⟨v', he, _, hq⟩ := HRX.out
                  simp only [List.cons.injEq, and_true, true_and] at he
                  rw [he]; exact hq
                have hdo := fun (W : World) (hW : Grow wr W) => ref_do (s := sm) W (hq.mono (HC.out.trans (HX.out.box.grow.trans hW).sub)) HKX.out
                have HDO := Lib.hid hdo
                have hrow := HX.out.box.row
                simp only at hrow
                obtain ⟨ay, cy, hvd⟩ := owns_form HX.out.box.done
                simp only at hvd
                rw [hvd] at hrow
                have e1 : wr.cell? ⟨w.heap.size + 1, 1, none⟩ = some (.int .i64 sm.a) := by simp [World.cell?, hrow]
                have e2 : wr.cell? ⟨w.heap.size + 1, 2, none⟩ = some (.int .i64 sm.b) := by simp [World.cell?, hrow]
                have e3 : wr.cell? ⟨w.heap.size + 1, 3, none⟩ = some (.int .i64 sm.c) := by simp [World.cell?, hrow]
                have e4 : wr.cell? ⟨w.heap.size + 1, 4, none⟩ = some (.int .i64 sm.d) := by simp [World.cell?, hrow]
                have e6 : wr.cell? ⟨w.heap.size + 1, 6, none⟩ = some (.slice ay dn.length cy) := by simp [World.cell?, hrow]
                have HROW := Lib.hid hrow
                have HVD := Lib.hid hvd
                clear t2 hst hq hdo hrow hvd
                go_wp2_with fail
                refine (HDO.out _ ((Grow.refl _).alloc _)).mono ?_
                rintro e w1 ⟨rfl, hb1⟩
                have hbw := ((Grow.refl wr).alloc _).trans hb1
                have k1 := hbw.sub _ _ e1
                have k2 := hbw.sub _ _ e2
                have k3 := hbw.sub _ _ e3
                have k4 := hbw.sub _ _ e4
                have k6 := hbw.sub _ _ e6
                have k7 := hbw.sub _ _ f1
                have kf : ∀ o, w1.frozen? ⟨w.heap.size + 1, o, none⟩ = false := fun o => by
                  rw [hbw.frozen (p := ⟨w.heap.size + 1, o, none⟩) hwz]; simp [World.frozen?, HROW.out]
                have kz : w.heap.size + 1 < w1.heap.size := by have := hbw.size; omega
                have kz2 : wo.heap.size < w1.heap.size := by have := hbw.size; omega
                have HBW := Lib.hid hbw
                clear hb1 hbw e1 e2 e3 e4 e6 f0 f1 f2 d0 d1
                go_wp2_with fail
                generalize hW2 : (((w1.setCell ⟨w.heap.size + 1, 1, none⟩ (.int .i64 (doP sm x.parts).a)).setCell ⟨w.heap.size + 1, 2, none⟩ (.int .i64 (doP sm x.parts).b)).setCell ⟨w.heap.size + 1, 3, none⟩ (.int .i64 (doP sm x.parts).c)).setCell ⟨w.heap.size + 1, 4, none⟩ (.int .i64 (doP sm x.parts).d) = w2
                have hg12 : w1.grownBy w2 (some (w.heap.size + 1)) := by
                  rw [← hW2]
                  exact grownBy_trans (grownBy_setCell w1 ⟨w.heap.size + 1, 1, none⟩ _) (grownBy_trans (grownBy_setCell _ ⟨w.heap.size + 1, 2, none⟩ _) (grownBy_trans (grownBy_setCell _ ⟨w.heap.size + 1, 3, none⟩ _) (grownBy_setCell _ ⟨w.heap.size + 1, 4, none⟩ _)))
                have hrow2 : w2.heap[w.heap.size + 1]? = some (.cells #[.slice (some ⟨b, o, none⟩) l.length cl, .int .i64 (doP sm x.parts).a, .int .i64 (doP sm x.parts).b, .int .i64 (doP sm x.parts).c, .int .i64 (doP sm x.parts).d, .slice (some ⟨g, 0, none⟩) h.ready.length cr, .slice ay dn.length cy] 29 (0, 0)) := by
                  have h1 : w1.heap[w.heap.size + 1]? = some (.cells #[.slice (some ⟨b, o, none⟩) l.length cl, .int .i64 sm.a, .int .i64 sm.b, .int .i64 sm.c, .int .i64 sm.d, .slice (some ⟨g, 0, none⟩) h.ready.length cr, .slice ay dn.length cy] 29 (0, 0)) := (HBW.out.block _ hwz).trans HROW.out
                  rw [← hW2]
                  simp only [World.setCell, Array.getElem?_modify, h1]; simp
                have m6 : w2.cell? ⟨w.heap.size + 1, 6, none⟩ = some (.slice ay dn.length cy) := by simp [World.cell?, hrow2]
                have m7 : w2.cell? ⟨wo.heap.size, 1, none⟩ = some (.int .i64 r.deed) := (World.cell?_of_block (hg12.block _ kz2 (by simp; omega))).trans k7
                have mf : ∀ o, w2.frozen? ⟨w.heap.size + 1, o, none⟩ = false := by simp [World.frozen?, hrow2]
                have mz : w.heap.size + 1 < w2.heap.size := by have := hg12.size; omega
                have mz2 : wo.heap.size < w2.heap.size := by have := hg12.size; omega
                have hdn2 : w2.ownsRow (w.heap.size + 2) 3 1 (.slice ay dn.length cy) dn.length (dn.flatMap intCell) := by
                  have h1 := HX.out.box.done
                  simp only at h1
                  rw [HVD.out] at h1
                  exact (h1.kept (grownBy_of_grow HBW.out none) (by cases (Value.slice ay dn.length cy).ownBlock <;> simp)).kept hg12 (by
                    cases e : (Value.slice ay dn.length cy).ownBlock with
                    | none => exact .inl rfl
                    | some q => right; intro e'; have := (h1.lt q e).1; simp at e'; omega)
                have HW2 := Lib.hid hW2
                have HG12 := Lib.hid hg12
                have HROW2 := Lib.hid hrow2
                have HDN2 := Lib.hid hdn2
                clear hW2 hg12 hrow2 hdn2 k1 k2 k3 k4 k6 k7 kf kz kz2
                have hLD : Hid ((dn.length + 1) * 8 ≤ 140737488355328) := by
                  have h1 := HX.out.dlen
                  have h4 := HM.out
                  show (dn.length + 1) * 8 ≤ 140737488355328
                  simp at h1
                  omega
                have H0 := Lib.hid (made0 w2 (w.heap.size + 2) 3 (by omega))
                have HS1 := Lib.hid (own_src HDN2.out)
                have HFL : Hid ((dn.flatMap intCell).length = dn.length * 1) := flat_len (f := intCell) (size := 1) (fun _ => rfl) dn
                have HF1 := Lib.hid (flat_one one_int dn)
                have HL63 : Hid (0 + dn.length ≤ maxLen) := by show _ ≤ _; have := hLD.out; unfold maxLen; omega
                have HLB : Hid ((0 + dn.length) * 8 ≤ 140737488355328) := by show _ ≤ _; have := hLD.out; omega
                have HMK : Hid (∀ W, Grow w2 W → (W.alloc (.cells #[] 3)).ownsRow (w.heap.size + 2) 3 1 (.slice (some ⟨W.heap.size, 0, none⟩) 0 0) 0 []) := fun W hG => made0 W _ _ (by have := hG.size; omega)
                have HS : Hid (∀ W, Grow w2 W → W.cell? ⟨w.heap.size + 1, 6, none⟩ = some (.slice ay dn.length cy) ∧ W.cell? ⟨wo.heap.size, 1, none⟩ = some (.int .i64 r.deed)) := fun W hG => ⟨hG.sub _ _ m6, hG.sub _ _ m7⟩
                have HSRC : Hid (∀ W, Grow w2 W → ∀ ad, ay = some ad → ∀ j u, (dn.flatMap intCell)[j]? = some u → W.cell? (ad.add j) = some u) := fun W hG ad e j u hu => hG.sub _ _ (HS1.out.2 ad e j u hu)
                have HAG2 : Hid (∀ W W' v n a1 c1 xs, Grow w2 W → Appd W W' (w.heap.size + 2) 3 1 v n a1 c1 xs → (∀ q', v.ownBlock = some q' → w2.heap.size ≤ q') → Grow w2 W' ∧ ∀ q', (Value.slice a1 n c1).ownBlock = some q' → w2.heap.size ≤ q') := by
                  intro W W' v n a1 c1 xs hG hA hq
                  refine ⟨hG.grown hA.grown hq, fun q' hq' => ?_⟩
                  rcases hA.blk with hb | ⟨g', hb, hg'⟩
                  · rw [hb] at hq'; exact hq _ hq'
                  · rw [hb] at hq'; obtain rfl := Option.some.inj hq'; exact Nat.le_trans hG.size hg'
                have HFIN : Hid (∀ (W : World) (a2 : Option Addr) (c2 : Nat), Grow w2 W → W.ownsRow (w.heap.size + 2) 3 1 (.slice a2 (dn.length + 1) c2) (dn.length + 1) (dn.flatMap intCell ++ [.int .i64 r.deed]) → (∀ q, (Value.slice a2 (dn.length + 1) c2).ownBlock = some q → w2.heap.size ≤ q) →
                    HIn c w wo (W.setCell ⟨w.heap.size + 1, 6, none⟩ (.slice a2 (dn.length + 1) c2)) (.slice (some ⟨b, o, none⟩) l.length cl) (.slice (some ⟨g, 0, none⟩) h.ready.length cr) [.int .i64 r.kind, .int .i64 r.deed, .slice ap r.parts.length cp] r h k (m + 1) (.slice a6 rest.length c6) (rest, true, doP sm x.parts, dn ++ [r.deed]) (.slice a2 (dn.length + 1) c2)) := by
                  intro W a2 c2 hG hO hq
                  refine HX.out.did HXM.out HST2.out rfl (HX.out.sums.doP _) HI2.out (grownBy_trans (grownBy_of_grow HBW.out _) (grownBy_trans HG12.out (grownBy_trans (grownBy_of_grow hG _) (grownBy_setCell W _ _)))) ?_ ?_ ?_
                  · have h1 := (hG.block _ mz).trans HROW2.out
                    simp only [World.setCell, Array.getElem?_modify, h1]; simp
                  · have h1 := hO.kept (grownBy_setCell W ⟨w.heap.size + 1, 6, none⟩ (.slice a2 (dn.length + 1) c2)) (by
                      cases e : (Value.slice a2 (dn.length + 1) c2).ownBlock with
                      | none => exact .inl rfl
                      | some q => right; intro e'; have := hq q e; simp at e'; omega)
                    simpa [intCell] using h1
                  · intro q hq'
                    have h1 := hq q hq'
                    have h2 := HBW.out.size
                    have h3 := HG12.out.size
                    omega
                refine but_start (fun w' => w'.cell? ⟨w.heap.size + 1, 6, none⟩ = some (.slice ay dn.length cy) ∧ w'.cell? ⟨wo.heap.size, 1, none⟩ = some (.int .i64 r.deed)) 9 (by kernel_rfl) ?_
                refine but_take (i := 1) (v := ?_) 4 rfl (by kernel_rfl) (by kernel_rfl) (by kernel_rfl) (by kernel_rfl) (by kernel_rfl) (fun _ _ _ h => h) (HS.out _ ((Grow.refl w2).drew)) (Or.inl ⟨by rfl, ?_⟩) ?_
                rotate_left
                · (intro w' hSw; (try dsimp only at hSw); obtain ⟨hs6, hs7⟩ := hSw; go_simp <;> with_reducible rfl)
                try simp only [Act.put, List.setIfInBounds_toArray, List.set_cons_zero, List.set_cons_succ]
                refine but_take (i := 2) (v := ?_) 4 rfl (by kernel_rfl) (by kernel_rfl) (by kernel_rfl) (by kernel_rfl) (by kernel_rfl) (fun _ _ _ h => h) (HS.out _ ((Grow.refl w2).drew)) (Or.inl ⟨by rfl, ?_⟩) ?_
                rotate_left
                · (intro w' hSw; (try dsimp only at hSw); obtain ⟨hs6, hs7⟩ := hSw; go_simp <;> with_reducible rfl)
                try simp only [Act.put, List.setIfInBounds_toArray, List.set_cons_zero, List.set_cons_succ]
                refine but_take (i := 4) (v := ?_) 4 rfl (by kernel_rfl) (by kernel_rfl) (by kernel_rfl) (by kernel_rfl) (by kernel_rfl) (fun _ _ _ h => h) (HS.out _ ((Grow.refl w2).drew)) (Or.inl ⟨by rfl, ?_⟩) ?_
                rotate_left
                · (intro w' hSw; (try dsimp only at hSw); obtain ⟨hs6, hs7⟩ := hSw; go_simp <;> with_reducible rfl)
                try simp only [Act.put, List.setIfInBounds_toArray, List.set_cons_zero, List.set_cons_succ]
                refine but_take (i := 5) (v := ?_) 4 rfl (by kernel_rfl) (by kernel_rfl) (by kernel_rfl) (by kernel_rfl) (by kernel_rfl) (fun _ _ _ h => h) (HS.out _ ((Grow.refl w2).drew)) (Or.inl ⟨by rfl, ?_⟩) ?_
                rotate_left
                · (intro w' hSw; (try dsimp only at hSw); obtain ⟨hs6, hs7⟩ := hSw; go_simp <;> with_reducible rfl)
                try simp only [Act.put, List.setIfInBounds_toArray, List.set_cons_zero, List.set_cons_succ]
                refine but_two (i := 0) (j := 6) (by kernel_rfl) rfl rfl (fun K HK' => ?_) (fun K HK' => ?_) <;> (have HK := Lib.hid HK'; clear HK')
                · skip
                  go_simp
                  refine HK.out _ _ ⟨fun _ => HS.out _ (by repeat first | assumption | exact Grow.refl _ | refine Grow.alloc ?_ _ | refine Grow.drew ?_), ?_⟩
                  clear HK K
                  try simp only [Act.put, List.setIfInBounds_toArray, List.set_cons_zero, List.set_cons_succ]
                  refine but_two (i := 3) (j := 6) (by kernel_rfl) rfl rfl (fun K HK' => ?_) (fun K HK' => ?_) <;> (have HK := Lib.hid HK'; clear HK')
                  · skip
                    have hown1 := HMK.out w2.drew ((Grow.refl w2).drew)
                    refine step_app_any ei_int rfl (.tmp 51) (.tmp 53) rfl rfl (base := w.heap.size + 2) (v := .slice (some ⟨w2.heap.size, 0, none⟩) 0 0) hown1 ay dn.length cy (dn.flatMap intCell) rfl HS1.out.1 HFL.out (HSRC.out _ (by repeat first | assumption | exact Grow.refl _ | refine Grow.alloc ?_ _ | refine Grow.drew ?_)) HF1.out HL63.out HLB.out (by simp; omega) ?_
                    intro a1 c1 w3 hA1
                    obtain ⟨G3, B3⟩ := HAG2.out _ w3 _ _ a1 c1 _ (by repeat first | assumption | exact Grow.refl _ | refine Grow.alloc ?_ _ | refine Grow.drew ?_) hA1 (by intro q hq; simp [Value.ownBlock] at hq; omega)
                    simp only [Nat.zero_add, List.nil_append] at hA1 B3 ⊢
                    refine HK.out _ _ ⟨fun _ => HS.out _ (by repeat first | assumption | exact Grow.refl _ | refine Grow.alloc ?_ _ | refine Grow.drew ?_), ?_⟩
                    clear HK K
                    try simp only [Act.put, List.setIfInBounds_toArray, List.set_cons_zero, List.set_cons_succ]
                    refine but_one (i := 6) (by kernel_rfl) rfl (fun K HK' => ?_)
                    have HK := Lib.hid HK'
                    clear HK'
                    go_simp
                    refine HK.out _ _ ⟨fun _ => HS.out _ (by repeat first | assumption | exact Grow.refl _ | refine Grow.alloc ?_ _ | refine Grow.drew ?_), ?_⟩
                    clear HK K
                    try simp only [Act.put, List.setIfInBounds_toArray, List.set_cons_zero, List.set_cons_succ]
                    refine but_one (i := 7) (by kernel_rfl) rfl (fun K HK' => ?_)
                    have HK := Lib.hid HK'
                    clear HK'
                    refine step_app_any ei_int rfl (.tmp 54) (.tmp 57) rfl rfl (base := w.heap.size + 2) (hA1.own.alloc _) (some ⟨w3.heap.size, 0, none⟩) 1 1 [.int .i64 r.deed] rfl (by simp) rfl (by rintro ad ⟨rfl⟩; exact new_cells w3 #[.int .i64 r.deed] _) (one_int r.deed) (by have := hLD.out; unfold maxLen; omega) hLD.out (by have := G3.size; simp; omega) ?_
                    intro a2 c2 w4 hA2
                    obtain ⟨G4, B4⟩ := HAG2.out _ w4 _ _ a2 c2 _ (by repeat first | assumption | exact Grow.refl _ | refine Grow.alloc ?_ _ | refine Grow.drew ?_) hA2 B3
                    have n4 := G4.sub _ _ m6
                    have n5 : ∀ o, w4.frozen? ⟨w.heap.size + 1, o, none⟩ = false := fun o => (G4.frozen (p := ⟨w.heap.size + 1, o, none⟩) mz).trans (mf o)
                    refine HK.out _ _ ⟨fun _ => HS.out _ (by repeat first | assumption | exact Grow.refl _ | refine Grow.alloc ?_ _ | refine Grow.drew ?_), ?_⟩
                    clear HK K
                    try simp only [Act.put, List.setIfInBounds_toArray, List.set_cons_zero, List.set_cons_succ]
                    refine but_one (i := 8) (by kernel_rfl) rfl (fun K HK' => ?_)
                    have HK := Lib.hid HK'
                    clear HK'
                    go_simp
                    refine HK.out _ _ ⟨fun _ => HS.out _ (by repeat first | assumption | exact Grow.refl _ | refine Grow.alloc ?_ _ | refine Grow.drew ?_), ?_⟩
                    clear HK K
                    try simp only [Act.put, List.setIfInBounds_toArray, List.set_cons_zero, List.set_cons_succ]
                    refine but_one (i := 9) (by kernel_rfl) rfl (fun K HK' => ?_)
                    have HK := Lib.hid HK'
                    clear HK'
                    go_simp
                    refine HK.out _ _ ⟨fun h => absurd rfl h, ?_⟩
                    clear HK K
                    try simp only [Act.put, List.setIfInBounds_toArray, List.set_cons_zero, List.set_cons_succ]
                    refine but_done (by kernel_rfl) ?_
                    have HF := Lib.hid (HFIN.out w4 a2 c2 G4 hA2.own B4)
                    clear hA1 hA2 G3 G4 B3 B4 n4 n5 m6 m7 mf
                    go_wp2_with fail
                    go_roundw
                    case rel => exact ⟨m + 1, _, _, by omega, by go_num, rfl, HF.out⟩
                    case measure => simp [intOf]; omega
                  · skip
                    go_simp
                    refine HK.out _ _ ⟨fun _ => HS.out _ (by repeat first | assumption | exact Grow.refl _ | refine Grow.alloc ?_ _ | refine Grow.drew ?_), ?_⟩
                    clear HK K
                    try simp only [Act.put, List.setIfInBounds_toArray, List.set_cons_zero, List.set_cons_succ]
                    have hn1 : ∀ j u, ([.int .i64 r.deed] : List Value)[j]? = some u → ((w2.drew.alloc (.cells #[] 3)).alloc (.cells #[.int .i64 r.deed] 3)).cell? ⟨w2.heap.size + 1, j, none⟩ = some u := fun j u hu => by have h := new_cells (w2.drew.alloc (.cells #[] 3)) #[.int .i64 r.deed] 3 j u hu; rw [add_zero_none] at h; simpa using h
                    refine but_one (i := 3) (by kernel_rfl) rfl (fun K HK' => ?_)
                    have HK := Lib.hid HK'
                    clear HK'
                    have hown1 := (HMK.out w2.drew ((Grow.refl w2).drew)).alloc (.cells #[.int .i64 r.deed] 3)
                    refine step_app_any ei_int rfl (.tmp 51) (.tmp 53) rfl rfl (base := w.heap.size + 2) (v := .slice (some ⟨w2.heap.size, 0, none⟩) 0 0) hown1 ay dn.length cy (dn.flatMap intCell) rfl HS1.out.1 HFL.out (HSRC.out _ (by repeat first | assumption | exact Grow.refl _ | refine Grow.alloc ?_ _ | refine Grow.drew ?_)) HF1.out HL63.out HLB.out (by simp; omega) ?_
                    intro a1 c1 w3 hA1
                    obtain ⟨G3, B3⟩ := HAG2.out _ w3 _ _ a1 c1 _ (by repeat first | assumption | exact Grow.refl _ | refine Grow.alloc ?_ _ | refine Grow.drew ?_) hA1 (by intro q hq; simp [Value.ownBlock] at hq; omega)
                    simp only [Nat.zero_add, List.nil_append] at hA1 B3 ⊢
                    refine HK.out _ _ ⟨fun _ => HS.out _ (by repeat first | assumption | exact Grow.refl _ | refine Grow.alloc ?_ _ | refine Grow.drew ?_), ?_⟩
                    clear HK K
                    try simp only [Act.put, List.setIfInBounds_toArray, List.set_cons_zero, List.set_cons_succ]
                    refine but_one (i := 7) (by kernel_rfl) rfl (fun K HK' => ?_)
                    have HK := Lib.hid HK'
                    clear HK'
                    refine step_app_any ei_int rfl (.tmp 54) (.tmp 57) rfl rfl (base := w.heap.size + 2) (hA1.own) (some ⟨w2.heap.size + 1, 0, none⟩) 1 1 [.int .i64 r.deed] rfl (by simp) rfl (by rintro ad ⟨rfl⟩ j u hu; rw [add_zero_none]; exact (World.cell?_of_block (hA1.grown.block _ (by simp <;> omega) (by simp [Value.ownBlock]))).trans (hn1 j u hu)) (one_int r.deed) (by have := hLD.out; unfold maxLen; omega) hLD.out (by have := G3.size; simp; omega) ?_
                    intro a2 c2 w4 hA2
                    obtain ⟨G4, B4⟩ := HAG2.out _ w4 _ _ a2 c2 _ (by repeat first | assumption | exact Grow.refl _ | refine Grow.alloc ?_ _ | refine Grow.drew ?_) hA2 B3
                    have n4 := G4.sub _ _ m6
                    have n5 : ∀ o, w4.frozen? ⟨w.heap.size + 1, o, none⟩ = false := fun o => (G4.frozen (p := ⟨w.heap.size + 1, o, none⟩) mz).trans (mf o)
                    refine HK.out _ _ ⟨fun _ => HS.out _ (by repeat first | assumption | exact Grow.refl _ | refine Grow.alloc ?_ _ | refine Grow.drew ?_), ?_⟩
                    clear HK K
                    try simp only [Act.put, List.setIfInBounds_toArray, List.set_cons_zero, List.set_cons_succ]
                    refine but_one (i := 8) (by kernel_rfl) rfl (fun K HK' => ?_)
                    have HK := Lib.hid HK'
                    clear HK'
                    go_simp
                    refine HK.out _ _ ⟨fun _ => HS.out _ (by repeat first | assumption | exact Grow.refl _ | refine Grow.alloc ?_ _ | refine Grow.drew ?_), ?_⟩
                    clear HK K
                    try simp only [Act.put, List.setIfInBounds_toArray, List.set_cons_zero, List.set_cons_succ]
                    refine but_one (i := 9) (by kernel_rfl) rfl (fun K HK' => ?_)
                    have HK := Lib.hid HK'
                    clear HK'
                    go_simp
                    refine HK.out _ _ ⟨fun h => absurd rfl h, ?_⟩
                    clear HK K
                    try simp only [Act.put, List.setIfInBounds_toArray, List.set_cons_zero, List.set_cons_succ]
                    refine but_done (by kernel_rfl) ?_
                    have HF := Lib.hid (HFIN.out w4 a2 c2 G4 hA2.own B4)
                    clear hA1 hA2 G3 G4 B3 B4 n4 n5 m6 m7 mf
                    go_wp2_with fail
                    go_roundw
                    case rel => exact ⟨m + 1, _, _, by omega, by go_num, rfl, HF.out⟩
                    case measure => simp [intOf]; omega
                · skip
                  go_simp
                  refine HK.out _ _ ⟨fun _ => HS.out _ (by repeat first | assumption | exact Grow.refl _ | refine Grow.alloc ?_ _ | refine Grow.drew ?_), ?_⟩
                  clear HK K
                  try simp only [Act.put, List.setIfInBounds_toArray, List.set_cons_zero, List.set_cons_succ]
                  have hn1 : ∀ j u, ([.int .i64 r.deed] : List Value)[j]? = some u → ((w2.drew.alloc (.cells #[.int .i64 r.deed] 3)).alloc (.cells #[] 3)).cell? ⟨w2.heap.size, j, none⟩ = some u := fun j u hu => by have h := new_cells w2.drew #[.int .i64 r.deed] 3 j u hu; rw [add_zero_none] at h; exact ((Grow.refl (w2.drew.alloc (.cells #[.int .i64 r.deed] 3))).alloc (.cells #[] 3)).sub _ _ h
                  refine but_one (i := 0) (by kernel_rfl) rfl (fun K HK' => ?_)
                  have HK := Lib.hid HK'
                  clear HK'
                  go_simp
                  refine HK.out _ _ ⟨fun _ => HS.out _ (by repeat first | assumption | exact Grow.refl _ | refine Grow.alloc ?_ _ | refine Grow.drew ?_), ?_⟩
                  clear HK K
                  try simp only [Act.put, List.setIfInBounds_toArray, List.set_cons_zero, List.set_cons_succ]
                  refine but_one (i := 3) (by kernel_rfl) rfl (fun K HK' => ?_)
                  have HK := Lib.hid HK'
                  clear HK'
                  have hown1 := HMK.out (w2.drew.alloc (.cells #[.int .i64 r.deed] 3)) (((Grow.refl w2).drew).alloc _)
                  replace hown1 : ((w2.drew.alloc (.cells #[.int .i64 r.deed] 3)).alloc (.cells #[] 3)).ownsRow (w.heap.size + 2) 3 1 (.slice (some ⟨w2.heap.size + 1, 0, none⟩) 0 0) 0 [] := by simpa using hown1
                  refine step_app_any ei_int rfl (.tmp 51) (.tmp 53) rfl rfl (base := w.heap.size + 2) (v := .slice (some ⟨w2.heap.size + 1, 0, none⟩) 0 0) hown1 ay dn.length cy (dn.flatMap intCell) rfl HS1.out.1 HFL.out (HSRC.out _ (by repeat first | assumption | exact Grow.refl _ | refine Grow.alloc ?_ _ | refine Grow.drew ?_)) HF1.out HL63.out HLB.out (by simp; omega) ?_
                  intro a1 c1 w3 hA1
                  obtain ⟨G3, B3⟩ := HAG2.out _ w3 _ _ a1 c1 _ (by repeat first | assumption | exact Grow.refl _ | refine Grow.alloc ?_ _ | refine Grow.drew ?_) hA1 (by intro q hq; simp [Value.ownBlock] at hq; omega)
                  simp only [Nat.zero_add, List.nil_append] at hA1 B3 ⊢
                  refine HK.out _ _ ⟨fun _ => HS.out _ (by repeat first | assumption | exact Grow.refl _ | refine Grow.alloc ?_ _ | refine Grow.drew ?_), ?_⟩
                  clear HK K
                  try simp only [Act.put, List.setIfInBounds_toArray, List.set_cons_zero, List.set_cons_succ]
                  refine but_one (i := 7) (by kernel_rfl) rfl (fun K HK' => ?_)
                  have HK := Lib.hid HK'
                  clear HK'
                  refine step_app_any ei_int rfl (.tmp 54) (.tmp 57) rfl rfl (base := w.heap.size + 2) (hA1.own) (some ⟨w2.heap.size, 0, none⟩) 1 1 [.int .i64 r.deed] rfl (by simp) rfl (by rintro ad ⟨rfl⟩ j u hu; rw [add_zero_none]; exact (World.cell?_of_block (hA1.grown.block _ (by simp <;> omega) (by simp [Value.ownBlock]))).trans (hn1 j u hu)) (one_int r.deed) (by have := hLD.out; unfold maxLen; omega) hLD.out (by have := G3.size; simp; omega) ?_
                  intro a2 c2 w4 hA2
                  obtain ⟨G4, B4⟩ := HAG2.out _ w4 _ _ a2 c2 _ (by repeat first | assumption | exact Grow.refl _ | refine Grow.alloc ?_ _ | refine Grow.drew ?_) hA2 B3
                  have n4 := G4.sub _ _ m6
                  have n5 : ∀ o, w4.frozen? ⟨w.heap.size + 1, o, none⟩ = false := fun o => (G4.frozen (p := ⟨w.heap.size + 1, o, none⟩) mz).trans (mf o)
                  refine HK.out _ _ ⟨fun _ => HS.out _ (by repeat first | assumption | exact Grow.refl _ | refine Grow.alloc ?_ _ | refine Grow.drew ?_), ?_⟩
                  clear HK K
                  try simp only [Act.put, List.setIfInBounds_toArray, List.set_cons_zero, List.set_cons_succ]
                  refine but_one (i := 8) (by kernel_rfl) rfl (fun K HK' => ?_)
                  have HK := Lib.hid HK'
                  clear HK'
                  go_simp
                  refine HK.out _ _ ⟨fun _ => HS.out _ (by repeat first | assumption | exact Grow.refl _ | refine Grow.alloc ?_ _ | refine Grow.drew ?_), ?_⟩
                  clear HK K
                  try simp only [Act.put, List.setIfInBounds_toArray, List.set_cons_zero, List.set_cons_succ]
                  refine but_one (i := 9) (by kernel_rfl) rfl (fun K HK' => ?_)
                  have HK := Lib.hid HK'
                  clear HK'
                  go_simp
                  refine HK.out _ _ ⟨fun h => absurd rfl h, ?_⟩
                  clear HK K
                  try simp only [Act.put, List.setIfInBounds_toArray, List.set_cons_zero, List.set_cons_succ]
                  refine but_done (by kernel_rfl) ?_
                  have HF := Lib.hid (HFIN.out w4 a2 c2 G4 hA2.own B4)
                  clear hA1 hA2 G3 G4 B3 B4 n4 n5 m6 m7 mf
                  go_wp2_with fail
                  go_roundw
                  case rel => exact ⟨m + 1, _, _, by omega, by go_num, rfl, HF.out⟩
                  case measure => simp [intOf]; omega
              · by_cases t3 : r.kind = 3
                · have t2' : (r.kind == 2) = false := by simp [t2]
                  have t3' : (r.kind == 3) = true := by simp [t3]
                  have hst : inStep r (rest, false, sm, dn) x = (rest, true, sm, dn) := by simp [inStep, HT.out, t3]
                  have HST2 := Lib.hid hst
                  clear t2 t3 hst
                  go_wp2_with fail
                  go_roundw
                  case rel => exact ⟨m + 1, _, _, by omega, by go_num, rfl, HX.out.skip HXM.out HST2.out⟩
                  case measure => simp [intOf]; omega
                · have t2' : (r.kind == 2) = false := by simp [t2]
                  have t3' : (r.kind == 3) = false := by simp [t3]
                  have hst : inStep r (rest, false, sm, dn) x = (rest ++ [x], true, sm, dn) := by simp [inStep, HT.out, t2, t3]
                  have HST2 := Lib.hid hst
                  clear t2 t3 hst
                  go_wp2_with (at_builtin; refine app_c ei_rd (T := Ty.rd) rfl (c := c) (W := w) rfl _ _ rfl (HX.out.box.grow.alloc _) (base := wo.heap.size + 1) HBS.out HBS2.out rfl (HX.out.own.grow ((Grow.refl _).alloc _)) HRX.out rfl (by simp) HONE.out HLEN.out (by decide) ?_; intro g1 c' w1 HO' HG' HGB' HL'; have HO1 := Lib.hid HO'; have HGB1 := Lib.hid HGB'; have HL1 := Lib.hid HL'; clear HO' HG' HGB' HL')
                  go_roundw
                  case rel => exact ⟨m + 1, _, _, by omega, by go_num, rfl, HX.out.app HXM.out HKX.out HST2.out (by simp) HO1.out HGB1.out (HL1.out.imp id fun h => by simpa using h)⟩
                  case measure => simp [intOf]; omega
            · have hst : inStep r (rest, true, sm, dn) x = (rest ++ [x], true, sm, dn) := by simp [inStep]
              have HST2 := Lib.hid hst
              clear hst
              go_wp2_with (at_builtin; refine app_c ei_rd (T := Ty.rd) rfl (c := c) (W := w) rfl _ _ rfl (HX.out.box.grow.alloc _) (base := wo.heap.size + 1) HBS.out HBS2.out rfl (HX.out.own.grow ((Grow.refl _).alloc _)) HRX.out rfl (by simp) HONE.out HLEN.out (by decide) ?_; intro g1 c' w1 HO' HG' HGB' HL'; have HO1 := Lib.hid HO'; have HGB1 := Lib.hid HGB'; have HL1 := Lib.hid HL'; clear HO' HG' HGB' HL')
              go_roundw
              case rel => exact ⟨m + 1, _, _, by omega, by go_num, rfl, HX.out.app HXM.out HKX.out HST2.out (by simp) HO1.out HGB1.out (HL1.out.imp id fun h => by simpa using h)⟩
              case measure => simp [intOf]; omega
          · have tk' : (x.deed != r.deed) = true := by simp [tk]
            have hst : inStep r (rest, was, sm, dn) x = (rest ++ [x], was, sm, dn) := by simp [inStep, tk]
            have HST2 := Lib.hid hst
            clear tk hst
            go_wp2_with (at_builtin; refine app_c ei_rd (T := Ty.rd) rfl (c := c) (W := w) rfl _ _ rfl (HX.out.box.grow.alloc _) (base := wo.heap.size + 1) HBS.out HBS2.out rfl (HX.out.own.grow ((Grow.refl _).alloc _)) HRX.out rfl (by simp) HONE.out HLEN.out (by decide) ?_; intro g1 c' w1 HO' HG' HGB' HL'; have HO1 := Lib.hid HO'; have HGB1 := Lib.hid HGB'; have HL1 := Lib.hid HL'; clear HO' HG' HGB' HL')
            go_roundw
            case rel => exact ⟨m + 1, _, _, by omega, by go_num, rfl, HX.out.app HXM.out HKX.out HST2.out (by simp) HO1.out HGB1.out (HL1.out.imp id fun h => by simpa using h)⟩
            case measure => simp [intOf]; omega
        · obtain rfl : m = h.ready.length := by omega
          have hfold := hX.fold
          rw [List.take_of_length_le (Nat.le_refl _)] at hfold
          have HFO := Lib.hid hfold
          have HX := Lib.hid hX
          have hrow := hX.box.row
          have e5' : wr.cell? ⟨w.heap.size + 1, 5, none⟩ = some (.slice ar h.ready.length cr) := by simp [World.cell?, hrow]
          have zf : ∀ o, wr.frozen? ⟨w.heap.size + 1, o, none⟩ = false := by simp [World.frozen?, hrow]
          obtain ⟨rest, was, sm, dn⟩ := st
          have hsetrow := row_set5 hrow (.slice a6 rest.length c6)
          have HSR := Lib.hid hsetrow
          have hsetg := grownBy_setCell wr ⟨w.heap.size + 1, 5, none⟩ (.slice a6 rest.length c6)
          have HSG := Lib.hid hsetg
          have hown2 := (hX.own.base (show w.heap.size + 2 ≤ wo.heap.size + 1 by omega)).kept hsetg (by
            cases e : (Value.slice a6 rest.length c6).ownBlock with
            | none => exact .inl rfl
            | some q => right; intro e'; have := (hX.own.lt q e).1; simp at e'; omega)
          have HOWN2 := Lib.hid hown2
          have hdone2 := hX.box.done.kept hsetg (by
            cases e : vd'.ownBlock with
            | none => exact .inl rfl
            | some q => right; intro e'; have := (hX.box.done.lt q e).1; simp at e'; omega)
          have HDN2 := Lib.hid hdone2
          have hgr2 := hX.box.grow.grown hsetg (fun q hq => by simp at hq; omega)
          have HGR2 := Lib.hid hgr2
          clear hX hfold hrow hsetrow hsetg hown2 hdone2 hgr2 hrel
          by_cases t1 : r.kind = 1
          · have t1' : (r.kind == 1) = true := by simp [t1]
            have HT1 := Lib.hid t1
            clear t1
            cases was
            · have hrs : refStep h r = { log := h.log, sums := sm, ready := rest ++ [⟨r.deed, r.parts⟩], done := dn } := by rw [refStep, HFO.out]; simp [HT1.out]
              have HRS := Lib.hid hrs
              have HONE : Hid (∀ u ∈ (#[.int .i64 r.deed, .slice ap r.parts.length cp] : Array Value).toList, u.oneCell' = true) := by
                intro u hu; simp at hu; rcases hu with rfl | rfl <;> rfl
              have HLEN : Hid ((rest.length + 1) * 32 ≤ 140737488355328) := by
                have h1 := HX.out.len
                have h3 := HO.out.ready
                have h4 := HM.out
                show (rest.length + 1) * 32 ≤ 140737488355328
                simp only at h1
                omega
              have HRR : Hid (Ty.rd.R c [.int .i64 r.deed, .slice ap r.parts.length cp] ⟨r.deed, r.parts⟩) := Lib.hid ⟨_, rfl, HI2.out, HP.out⟩
              have HBS2 : Hid (w.heap.size + 2 ≤ (wr.setCell ⟨w.heap.size + 1, 5, none⟩ (.slice a6 rest.length c6)).heap.size) := by show _ ≤ _; simp; omega
              have HBS1 : Hid (w.heap.size ≤ w.heap.size + 2) := by show _ ≤ _; omega
              have HNE : Hid (∀ q, (Value.slice a6 rest.length c6).ownBlock = some q → q ≠ w.heap.size + 1) := by
                intro q hq e'; have := (HX.out.own.lt q hq).1; omega
              clear hrs
              go_wp2_with (at_builtin; refine app_c ei_rd (T := Ty.rd) rfl (c := c) (W := w) rfl _ _ rfl HGR2.out (base := w.heap.size + 2) HBS1.out HBS2.out rfl HOWN2.out HRR.out rfl (by simp) HONE.out HLEN.out (by decide) ?_; intro g1 c' w1 HO' HG' HGB' HL'; have q5 := (heap_later HSR.out (.cells #[.int .i64 r.deed, .slice ap r.parts.length cp] 45)); have q6 : w1.cell? ⟨w.heap.size + 1, 5, none⟩ = some (.slice a6 rest.length c6) := (World.cell?_of_block (HGB'.block _ (Array.getElem?_eq_some_iff.1 q5).1 (fun e' => HNE.out _ e'.symm rfl))).trans (by simp [World.cell?, q5]); have q7 : ∀ o, w1.frozen? ⟨w.heap.size + 1, o, none⟩ = false := fun o => (World.frozen?_of_block (HGB'.block _ (Array.getElem?_eq_some_iff.1 q5).1 (fun e' => HNE.out _ e'.symm rfl))).trans (by simp [World.frozen?, q5]); clear q5; have HO1 := Lib.hid HO'; have HG1 := Lib.hid HG'; have HGB1 := Lib.hid HGB'; have HL1 := Lib.hid HL'; clear HO' HG' HGB' HL')
              have q8 : w1.heap[w.heap.size + 1]? = some (.cells #[.slice (some ⟨b, o, none⟩) l.length cl, .int .i64 sm.a, .int .i64 sm.b, .int .i64 sm.c, .int .i64 sm.d, .slice a6 rest.length c6, vd'] 29 (0, 0)) := by
                rw [HGB1.out.block _ (by simp; omega) (fun e' => HNE.out _ e'.symm rfl)]
                exact heap_later HSR.out _
              have q9 : w1.heap[w.heap.size]? = some (.cells #[.slice none 0 0, .int .i64 0, .int .i64 0, .int .i64 0, .int .i64 0, .slice none 0 0, .slice none 0 0] 29 (0, 0)) := by
                rw [HGB1.out.block _ (by simp; omega) (fun e' => by have := (HX.out.own.lt _ e'.symm).1; omega)]
                exact heap_later ((HSG.out.block _ (by omega) (by simp)).trans HX.out.box.res) _
              have hsg := grownBy_setCell w1 ⟨w.heap.size + 1, 5, none⟩ (.slice (some ⟨g1, 0, none⟩) (rest.length + 1) c')
              have hdn := ((HDN2.out.alloc (.cells #[.int .i64 r.deed, .slice ap r.parts.length cp] 45)).kept HGB1.out (by
                rcases HX.out.disj with d | d
                · cases e : vd'.ownBlock with
                  | none => exact .inl rfl
                  | some q => right; intro e'; have e2 := e'.trans (show (Value.slice a6 rest.length c6).ownBlock = none from d); cases e2
                · right; exact fun e => d e.symm)).kept hsg (by
                cases e : vd'.ownBlock with
                | none => exact .inl rfl
                | some q => right; intro e'; have := (HDN2.out.lt q e).1; simp at e'; omega)
              go_roundw
              case rel =>
                refine ⟨k + 1, { log := h.log, sums := sm, ready := rest ++ [⟨r.deed, r.parts⟩], done := dn }, .slice (some ⟨g1, 0, none⟩) (rest.length + 1) c', vd', by omega, by go_num, by rw [HST.out, HRS.out], ⟨row_set5 q8 _, ?_, ?_, hdn, HG1.out.grown hsg (fun q hq => by simp at hq; omega), ?_⟩, ⟨?_, ?_, ?_, HX.out.sums, HX.out.ints⟩⟩
                · rw [hsg.block _ (Array.getElem?_eq_some_iff.1 q9).1 (by simp)]; exact q9
                · exact HO1.out.kept hsg (by right; intro e'; have := (HO1.out.lt g1 rfl).1; simp [Value.ownBlock] at e'; omega)
                · have := HGB1.out.size; simp at this ⊢; omega
                · have := HX.out.len; have := HO.out.ready; simp at *; omega
                · have := HX.out.dlen; simp at *; omega
                · intro y hy
                  simp only [List.mem_append, List.mem_singleton] at hy
                  rcases hy with hy | rfl
                  · exact HX.out.keys y hy
                  · exact HKR.out
              case measure => simp [intOf]; omega
            · have hrs : refStep h r = { log := h.log, sums := sm, ready := rest, done := dn } := by rw [refStep, HFO.out]; simp
              have HRS := Lib.hid hrs
              clear hrs
              go_wp2_with fail
              go_roundw
              case rel =>
                refine ⟨k + 1, { log := h.log, sums := sm, ready := rest, done := dn }, .slice a6 rest.length c6, vd', by omega, by go_num, by rw [HST.out, HRS.out], ⟨HSR.out, ?_, HOWN2.out, HDN2.out, HGR2.out, Nat.le_trans HX.out.box.size HSG.out.size⟩, ⟨?_, ?_, HX.out.keys, HX.out.sums, HX.out.ints⟩⟩
                · rw [HSG.out.block _ (by omega) (by simp)]; exact HX.out.box.res
                · have := HX.out.len; have := HO.out.ready; simp only at *; omega
                · have := HX.out.dlen; simp only at *; split at this <;> omega
              case measure => simp [intOf]; omega
          · have t1' : (r.kind == 1) = false := by simp [t1]
            have hrs : refStep h r = { log := h.log, sums := sm, ready := rest, done := dn } := by rw [refStep, HFO.out]; simp [t1]
            have HRS := Lib.hid hrs
            clear t1 hrs
            go_wp2_with fail
            go_roundw
            case rel =>
              refine ⟨k + 1, { log := h.log, sums := sm, ready := rest, done := dn }, .slice a6 rest.length c6, vd', by omega, by go_num, by rw [HST.out, HRS.out], ⟨HSR.out, ?_, HOWN2.out, HDN2.out, HGR2.out, Nat.le_trans HX.out.box.size HSG.out.size⟩, ⟨?_, ?_, HX.out.keys, HX.out.sums, HX.out.ints⟩⟩
              · rw [HSG.out.block _ (by omega) (by simp)]; exact HX.out.box.res
              · have := HX.out.len; have := HO.out.ready; simp only at *; omega
              · have := HX.out.dlen; simp only at *; split at this <;> omega
            case measure => simp [intOf]; omega
    · obtain ⟨ar, cr, rfl⟩ := hB.ready.form
      obtain ⟨ad, cd, rfl⟩ := owns_form hB.done
      have e0 : wr.cell? ⟨w.heap.size + 1, 0, none⟩ = some (.slice al l.length cl) := by simp [World.cell?, hB.row]
      have e1 : wr.cell? ⟨w.heap.size + 1, 1, none⟩ = some (.int .i64 h.sums.a) := by simp [World.cell?, hB.row]
      have e2 : wr.cell? ⟨w.heap.size + 1, 2, none⟩ = some (.int .i64 h.sums.b) := by simp [World.cell?, hB.row]
      have e3 : wr.cell? ⟨w.heap.size + 1, 3, none⟩ = some (.int .i64 h.sums.c) := by simp [World.cell?, hB.row]
      have e4 : wr.cell? ⟨w.heap.size + 1, 4, none⟩ = some (.int .i64 h.sums.d) := by simp [World.cell?, hB.row]
      have e5 : wr.cell? ⟨w.heap.size + 1, 5, none⟩ = some (.slice ar h.ready.length cr) := by simp [World.cell?, hB.row]
      have e6 : wr.cell? ⟨w.heap.size + 1, 6, none⟩ = some (.slice ad h.done.length cd) := by simp [World.cell?, hB.row]
      have z0 : wr.cell? ⟨w.heap.size, 0, none⟩ = some (.slice none 0 0) := by simp [World.cell?, hB.res]
      have z1 : wr.cell? ⟨w.heap.size, 1, none⟩ = some (.int .i64 0) := by simp [World.cell?, hB.res]
      have z2 : wr.cell? ⟨w.heap.size, 2, none⟩ = some (.int .i64 0) := by simp [World.cell?, hB.res]
      have z3 : wr.cell? ⟨w.heap.size, 3, none⟩ = some (.int .i64 0) := by simp [World.cell?, hB.res]
      have z4 : wr.cell? ⟨w.heap.size, 4, none⟩ = some (.int .i64 0) := by simp [World.cell?, hB.res]
      have z5 : wr.cell? ⟨w.heap.size, 5, none⟩ = some (.slice none 0 0) := by simp [World.cell?, hB.res]
      have z6 : wr.cell? ⟨w.heap.size, 6, none⟩ = some (.slice none 0 0) := by simp [World.cell?, hB.res]
      have zf : ∀ o, wr.frozen? ⟨w.heap.size, o, none⟩ = false := by simp [World.frozen?, hB.res]
      have hfin : houseR l = h := by rw [List.take_of_length_le (by omega)] at hH; exact hH
      have hlog : (houseR l).log = l := by
        unfold houseR
        have : ∀ (rs : List Rc) (h0 : Hs), (rs.foldl refStep h0).log = h0.log := by
          intro rs
          induction rs with
          | nil => intro h0; rfl
          | cons r rs ih => intro h0; rw [List.foldl_cons, ih]; rfl
        rw [this]
      have HF := Lib.hid hfin
      have HLG := Lib.hid hlog
      have HB := Lib.hid hB
      have HO := Lib.hid hO
      clear hel hH hB hO hfin hlog
      go_wp2
      refine bodyPost_ret (v := .agg #[.slice al l.length cl, .int .i64 h.sums.a, .int .i64 h.sums.b, .int .i64 h.sums.c, .int .i64 h.sums.d, .slice ar h.ready.length cr, .slice ad h.done.length cd]) (by simp [results, Try.results29, go_sem, z0, z1, z2, z3, z4, z5, z6]) rfl ?_
      have hset := fun (a : World) (o : Nat) (u : Value) => grownBy_setCell a ⟨w.heap.size, o, none⟩ u
      have hg := grownBy_trans (hset wr 0 (.slice al l.length cl)) (grownBy_trans (hset _ 1 (.int .i64 h.sums.a)) (grownBy_trans (hset _ 2 (.int .i64 h.sums.b)) (grownBy_trans (hset _ 3 (.int .i64 h.sums.c)) (grownBy_trans (hset _ 4 (.int .i64 h.sums.d)) (grownBy_trans (hset _ 5 (.slice ar h.ready.length cr)) (hset _ 6 (.slice ad h.done.length cd)))))))
      have hGr := HB.out.grow.grown hg (fun k hk => by simp at hk; omega)
      have hlg : h.log = l := by rw [← HF.out]; exact HLG.out
      rw [HF.out]
      refine ⟨_, rfl, ⟨[.slice al l.length cl, .int .i64 h.sums.a, .int .i64 h.sums.b, .int .i64 h.sums.c, .int .i64 h.sums.d, .slice ar h.ready.length cr, .slice ad h.done.length cd], rfl, _, _, _, rfl, ?_, ?_, ?_, ?_, ?_, ?_, ?_⟩, hGr⟩
      · rw [hlg]; exact HV.out.mono (ov_in HC.out)
      · exact HO.out.sums.1
      · exact HO.out.sums.2.1
      · exact HO.out.sums.2.2.1
      · exact HO.out.sums.2.2.2
      · exact (HB.out.ready.kept hg (by
          right; intro e; have := (HB.out.ready.lt _ e).1; simp only at this; omega)).slc (by decide) (ov_in HC.out) fun a ha => ov_new (by omega)
      · exact (OwnC.ints (c := c) (HB.out.done.kept hg (by
          right; intro e; have := (HB.out.done.lt _ e).1; simp only at this; omega)) HO.out.ints).slc (by decide) (ov_in HC.out) fun a ha => ov_new (by omega)
theorem ref_house {v : Value} {l : List Rc} (w : World) (hv : Rcs w.cell? v l) (hk : ∀ r ∈ l, KeysOk r.parts) (hm : l.length * 40 ≤ 140737488355328) :
    Calls Try.prog 29 #[v] w fun e w' => ∃ v', e = .returned v' ∧ Of Ty.hs w'.cell? v' (houseR l) ∧ Grow w w' :=
  (ref_house_c w (Sub.refl _) hv hk hm).mono fun e w' ⟨v', he, hO, hg⟩ => ⟨v', he, hO.mono (ov_sub (Sub.refl _) hg), hg⟩
end Go.Proofs.Ytgbhpghgohggcaa
