/- The parts that LookTells is proved of, joined: M9, U7, U8, U9, U10, U11, U12, U13, U15, U16, U17, U18, Z7, Z75, Z8, U19, N610. No condition beside those that each theorem names. -/
import Derived.Deep.DeepCutAuto
import Derived.Test.YtgbhpghgohggcaaJLookTellsb
namespace Go.Proofs.Ytgbhpghgohggcaa
open Go.RowKit
def keepO (r : Rc) (o : Opn) : Bool := !(r.kind == 6 && o.deed == r.deed)
theorem keep_all {r : Rc} (h : ¬ r.kind = 6) (l : List Opn) : l.filter (keepO r) = l := by
 rw [List.filter_eq_self]
 intro o _
 simp [keepO, h]
theorem keep_six {r : Rc} (h : r.kind = 6) (l : List Opn) : l.filter (keepO r) = l.filter fun o => !(o.deed == r.deed) := by
 refine List.filter_congr fun o _ => ?_
 simp [keepO, h]
theorem filter_take_next (q : Opn → Bool) {l : List Opn} {j : Nat} (h : j < l.length) : (l.take (j + 1)).filter q = if q l[j] = true then (l.take j).filter q ++ [l[j]] else (l.take j).filter q := by
 rw [List.take_succ_eq_append_getElem h, List.filter_append]
 by_cases hq : q l[j] = true <;> simp [hq]
structure RBox (c : CM) (w wr : World) (vl vo : Value) (h : Hd) : Prop where
 res : wr.heap[w.heap.size]? = some (.cells zhead 57 (0, 0))
 row : wr.heap[w.heap.size + 1]? = some (.cells #[vl, .int .i64 h.boot, .int .i64 h.next, vo] 57 (0, 0))
 opn : OwnC Ty.opn c wr (w.heap.size + 2) 136 vo h.opn
 grow : Grow w wr
 size : w.heap.size + 2 ≤ wr.heap.size
theorem RBox.later {c : CM} {w wr w' : World} {vl vo : Value} {h : Hd} (b : RBox c w wr vl vo h) (hg : Grow wr w') : RBox c w w' vl vo h :=
 ⟨row_grow b.res hg, row_grow b.row hg, b.opn.grow hg, b.grow.trans hg, Nat.le_trans b.size hg.size⟩
theorem RBox.opns {c : CM} {w wr w' : World} {vl vo vo' : Value} {h : Hd} {os : List Opn} {row : Option Nat} (b : RBox c w wr vl vo h) (hg : wr.grownBy w' row) (hr : ∀ k, row = some k → w.heap.size + 2 ≤ k) (ho : OwnC Ty.opn c w' (w.heap.size + 2) 136 vo' os) :
  RBox c w (w'.setCell ⟨w.heap.size + 1, 3, none⟩ vo') vl vo' { h with opn := os } := by
 have hs := b.size
 have hB : ∀ k, k ≠ w.heap.size + 1 → (w'.setCell ⟨w.heap.size + 1, 3, none⟩ vo').heap[k]? = w'.heap[k]? := fun k hk => Below.heap_setCell _ _ _ _ (fun e => hk e)
 refine ⟨?_, row_set4_3 (row_by b.row hg (fun e => by have := hr _ e.symm; omega)) _, ho.block fun k hk => hB k (by have := (ho.lt k hk).1; omega), (b.grow.grown hg (fun k hk => by have := hr k hk; omega)).setCell (by simp) _, ?_⟩
 ·rw [hB _ (by omega)]; exact row_by b.res hg (fun e => by have := hr _ e.symm; omega)
 ·have := hg.size; simp; omega
theorem RBox.boot {c : CM} {w wr : World} {vl vo : Value} {h : Hd} (b : RBox c w wr vl vo h) (x : Int) : RBox c w (wr.setCell ⟨w.heap.size + 1, 1, none⟩ (.int .i64 x)) vl vo { h with boot := x } := by
 have hs := b.size
 have hB : ∀ k, k ≠ w.heap.size + 1 → (wr.setCell ⟨w.heap.size + 1, 1, none⟩ (.int .i64 x)).heap[k]? = wr.heap[k]? := fun k hk => Below.heap_setCell _ _ _ _ (fun e => hk e)
 exact ⟨by rw [hB _ (by omega)]; exact b.res, row_set4_1 b.row _, b.opn.block fun k hk => hB k (by have := (b.opn.lt k hk).1; omega), b.grow.setCell (by simp) _, by simpa using b.size⟩
set_option maxRecDepth 100000 in
set_option maxHeartbeats 4000000 in
theorem ref_head {c : CM} {v : Value} {l : List Rc} (w : World) (hc : Sub c w.cell?) (hv : Rcs c v l) (hm : l.length * 64 ≤ 140737488351232) :
  Calls Try.prog 43 #[v] w fun e w' => ∃ v', e = .returned v' ∧ Of Ty.hd (ov c w w') v' (headR l) ∧ Grow w w' := by
 have HC := Lib.hid hc
 have HV := Lib.hid hv
 obtain ⟨al, cl, rfl, h1, h2, -, hel⟩ := hv
 have hlm : l.length ≤ 2199023255489 := by omega
 clear hm
 go_enter Try.func43, Try.ntmps43
 go_wp2
 go_loopw [13] (fun i wr => ∃ (k : Nat) (h : Hd) (vo : Value), k ≤ l.length ∧ i = .int .i64 k ∧ (l.take k).foldl headStep ⟨l, 0, 0, []⟩ = h ∧ RBox c w wr (.slice al l.length cl) vo h ∧ KOk h k) (fun i _ => l.length - (intOf i).toNat)
 case atStart =>
  exact ⟨0, ⟨l, 0, 0, []⟩, .slice none 0 0, by omega, rfl, rfl, ⟨heap_later (row_new _ _) _, by simpa using row_new (w.alloc (.cells zhead 57)) (.cells #[.slice al l.length cl, .int .i64 0, .int .i64 0, .slice none 0 0] 57), OwnC.nil _ _ _ _ _, ((Grow.refl w).alloc _).alloc _, by simp⟩, ⟨by simp, zero_ok, zero_ok⟩⟩
 case round =>
  obtain ⟨wo, rfl⟩ : ∃ x : World, x = wr := ⟨_, rfl⟩
  obtain ⟨k, h, vo, hk', rfl, hfold, hbox, hok⟩ := hrel
  obtain ⟨ar, cr, rfl⟩ := hbox.opn.form
  have HFD := Lib.hid hfold
  have HBX := Lib.hid hbox
  have HOK0 := Lib.hid hok
  have z3 := hbox.size
  have z4 : w.heap.size + 1 < wo.heap.size := by omega
  have z5 : w.heap.size < wo.heap.size := by omega
  obtain ⟨s0, s1, s2, s3⟩ := cells4 hbox.row
  have sf := row_free hbox.row
  by_cases hlt : k < l.length
  ·obtain ⟨b, o, vp, rfl, c0, c1, c2, i0, i1, hP⟩ := Rcs.at_ hel k hlt
   obtain ⟨ap, cp, rfl, -⟩ := id hP
   replace c0 := hbox.grow.sub _ _ (hc _ _ c0)
   replace c1 := hbox.grow.sub _ _ (hc _ _ c1)
   replace c2 := hbox.grow.sub _ _ (hc _ _ c2)
   have htk : (l.take (k + 1)).foldl headStep ⟨l, 0, 0, []⟩ = headStep h l[k] := by rw [List.take_succ_eq_append_getElem hlt, List.foldl_append, HFD.out]; rfl
   have HTK := Lib.hid htk
   have HOK1 := Lib.hid (kok_step hok l[k])
   have HI := Lib.hid (And.intro i1 hP)
   have hrl : h.opn.length ≤ 2199023255489 := by have := hok.opn; omega
   clear hfold hok htk hP i0 i1 hbox hel
   generalize l[k] = r at *
   go_wp2
   go_loopw [6, 20] (fun s6 i wx => ∃ m : Nat, m ≤ h.opn.length ∧ i = .int .i64 m ∧ Grow (wo.alloc (.cells #[.int .i64 r.kind, .int .i64 r.deed, .slice ap r.parts.length cp] 48)) wx ∧ OwnC Ty.opn c wx (wo.heap.size + 1) 136 s6 ((h.opn.take m).filter (keepO r))) (fun _ i _ => h.opn.length - (intOf i).toNat)
   case atStart => exact ⟨0, by omega, rfl, Grow.refl _, OwnC.nil _ _ _ _ _⟩
   case round =>
    obtain ⟨wx, rfl⟩ : ∃ x : World, x = wr := ⟨_, rfl⟩
    obtain ⟨m, hm', rfl, hbx, hown⟩ := hrel
    have HG := Lib.hid (((Grow.refl wo).alloc (.cells #[.int .i64 r.kind, .int .i64 r.deed, .slice ap r.parts.length cp] 48)).trans hbx)
    obtain ⟨q0, q1, q2⟩ := cells3 (row_grow (row_new wo (.cells #[.int .i64 r.kind, .int .i64 r.deed, .slice ap r.parts.length cp] 48)) hbx)
    have q9 : wo.heap.size < wx.heap.size := by have := hbx.size; simp at this; omega
    have HOWN := Lib.hid hown
    obtain ⟨av, cv, rfl⟩ := hown.form
    have hfl : ((h.opn.take m).filter (keepO r)).length ≤ h.opn.length := Nat.le_trans (List.length_filter_le _ _) (by simp; omega)
    have HFL := Lib.hid hfl
    clear hown c0 c1 c2 s0 s1 s2 s3 sf hfl
    by_cases hlm : m < h.opn.length
    ·obtain ⟨gx, csx, rfl, ⟨vx, vh, rfl, j0, j1, j2⟩, hAx⟩ := HBX.out.opn.get (by decide) m hlm
     obtain ⟨ax, cx, rfl, -⟩ := id j1
     obtain ⟨ah, ch, rfl, -⟩ := id j2
     have x0 := HG.out.sub _ _ (hAx 0 _ rfl)
     have x1 := HG.out.sub _ _ (hAx 1 _ rfl)
     have x2 := HG.out.sub _ _ (hAx 2 _ rfl)
     have x3 := HG.out.sub _ _ (hAx 3 _ rfl)
     simp only [Ty.opn, Nat.add_zero] at x0 x1 x2 x3
     have HNX := Lib.hid (filter_take_next (keepO r) hlm)
     have HJ := Lib.hid (And.intro j0 (And.intro j1 j2))
     clear hAx j0 j1 j2
     generalize h.opn[m] = q at *
     generalize (h.opn.take m).filter (keepO r) = fs at *
     by_cases hq : keepO r q = true
     ·have HQ := Lib.hid hq
      have hcase : (r.kind != 6) = true ∨ ((r.kind != 6) = false ∧ (q.deed != r.deed) = true) := by
       by_cases h6 : r.kind = 6
       ·right
        simp [keepO, h6] at hq
        exact ⟨by simp [h6], by simpa using hq⟩
       ·left; simp [h6]
      clear hq
      rcases hcase with b6 | ⟨b6, bd⟩
      all_goals
       go_wp2_with (first | (at_builtin; refine wpList_appc (c := c) (base := wo.heap.size + 1) (l := fs) (m := [q]) ei_opn rfl one_Topn (by decide) rfl (.tmp 34) (.tmp 36) rfl rfl ?own rfl (Src.of_new (T := Ty.opn) (cs := #[.int .i64 q.deed, .slice ax q.parts.length cx, .bool q.dec, .slice ah q.heard.length ch]) ⟨_, _, rfl, HJ.out.1, HJ.out.2.1, HJ.out.2.2⟩ _ _ ?d1) ?d2 ?d3 ?_))
       case own => exact HOWN.out.grow (((Grow.refl _).alloc _).alloc _)
       case d1 => simp
       case d2 => have := HFL.out; simp; omega
       case d3 => have := HG.out.size; simp; omega
       intro a9 c9 w9 ho9 hg9 hb9
       have HG9 := Lib.hid (grow_by (w0 := wo.alloc (.cells #[.int .i64 r.kind, .int .i64 r.deed, .slice ap r.parts.length cp] 48)) ((hbx.alloc _).alloc _) hg9 (fun q hq => by have := (HOWN.out.lt q hq).1; simpa using this))
       have HO9 := Lib.hid ho9
       clear ho9 hg9 hb9
       go_wp2
       go_roundw
       case rel => exact ⟨m + 1, by omega, by go_num, HG9.out, by rw [HNX.out, if_pos HQ.out]; exact HO9.out⟩
       case measure => simp [intOf]; omega
     ·have HQ := Lib.hid hq
      have h6 : r.kind = 6 ∧ q.deed = r.deed := by
       simp [keepO] at hq
       exact hq
      have b6 : (r.kind != 6) = false := by simp [h6.1]
      have bd : (q.deed != r.deed) = false := by simp [h6.2]
      clear hq h6
      go_wp2
      go_roundw
      case rel => exact ⟨m + 1, by omega, by go_num, hbx.alloc _, by rw [HNX.out, if_neg HQ.out]; exact HOWN.out.grow ((Grow.refl _).alloc _)⟩
      case measure => simp [intOf]; omega
    ·have hfin : (h.opn.take m).filter (keepO r) = h.opn.filter (keepO r) := by rw [List.take_of_length_le (by omega)]
     have HOW2 : Hid (OwnC Ty.opn c wx (wo.heap.size + 1) 136 (.slice av (h.opn.filter (keepO r)).length cv) (h.opn.filter (keepO r))) := by
      have := HOWN.out
      rw [hfin] at this
      exact Lib.hid this
     rw [hfin]
     have hf2 : (h.opn.filter (keepO r)).length ≤ 2199023255489 := Nat.le_trans (List.length_filter_le _ _) hrl
     clear hfin
     have b2 := HBX.out.later HG.out
     obtain ⟨s0, s1, s2, s3⟩ := cells4 b2.row
     have sf := row_free b2.row
     have zz : w.heap.size + 1 < wx.heap.size := by have := b2.size; omega
     have HR := Lib.hid (RBox.opns (row := none) b2 (grownBy_of_grow (Grow.refl wx) none) (by simp) (HOW2.out.base (by omega)))
     have HGR := Lib.hid (b2.grow)
     clear b2
     generalize hfs : h.opn.filter (keepO r) = fs at *
     have HFS := Lib.hid hfs
     clear hfs
     have q9' : w.heap.size + 1 ≠ wo.heap.size := by omega
     by_cases k4 : r.kind = 4
     ·have b4 : (r.kind == 4) = true := by simp [k4]
      have b5 : (r.kind == 5) = false := by simp [k4]
      have hst : headStep h r = { h with opn := fs, boot := wrap64 (h.boot + 1) } := by unfold headStep; rw [if_pos k4, ← HFS.out, keep_all (by omega)]
      have HFO := Lib.hid (HTK.out.trans hst)
      have HOK := Lib.hid (hst ▸ HOK1.out)
      clear hst k4
      go_wp2
      go_roundw
      case rel => exact ⟨k + 1, _, _, by omega, by go_num, HFO.out, HR.out.boot _, HOK.out⟩
      case measure => simp [intOf]; omega
     ·have b4 : (r.kind == 4) = false := by simp [k4]
      by_cases k5 : r.kind = 5
      ·have b5 : (r.kind == 5) = true := by simp [k5]
       have hst : headStep h r = { h with opn := fs ++ [⟨r.deed, r.parts, true, []⟩] } := by unfold headStep; rw [if_neg k4, if_pos k5, ← HFS.out, keep_all (by omega)]
       have HFO := Lib.hid (HTK.out.trans hst)
       have HOK := Lib.hid (hst ▸ HOK1.out)
       clear hst k4 k5
       go_wp2_with (first | (at_builtin; refine wpList_appc (c := c) (base := w.heap.size + 2) (l := fs) (m := [⟨r.deed, r.parts, true, []⟩]) ei_opn rfl one_Topn (by decide) rfl (.tmp 52) (.tmp 58) rfl rfl ?own rfl (Src.of_new (T := Ty.opn) (cs := #[.int .i64 r.deed, .slice ap r.parts.length cp, .bool true, .slice none 0 0]) ⟨_, _, rfl, HI.out.1, HI.out.2, Sl.nil _ _⟩ _ _ ?d1) ?d2 ?d3 ?_))
       case own => exact HR.out.opn.grow ((Grow.refl _).alloc _)
       case d1 => simp
       case d2 => simp; omega
       case d3 => have := HR.out.size; simp at this ⊢; omega
       intro a9 c9 w9 ho9 hg9 hb9
       have hr9 : ∀ q, (Value.slice av fs.length cv).ownBlock = some q → w.heap.size + 2 ≤ q := fun q hq => (HR.out.opn.lt q hq).1
       have t9 := row_by (row_grow HR.out.row ((Grow.refl _).alloc (.cells #[.int .i64 r.deed, .slice ap r.parts.length cp, .bool true, .slice none 0 0] 136))) hg9 (fun e => by have := hr9 _ e.symm; omega)
       have HX := Lib.hid (RBox.opns HR.out (grownBy_trans (grownBy_of_grow ((Grow.refl _).alloc _) _) hg9) hr9 ho9)
       clear s0 s1 s2 s3 sf hg9 ho9 hb9 hr9
       obtain ⟨s0, s1, s2, s3⟩ := cells4 t9
       have sf := row_free t9
       have s9 : w.heap.size + 1 < w9.heap.size := (Array.getElem?_eq_some_iff.1 t9).1
       clear t9
       go_wp2
       go_roundw
       case rel => exact ⟨k + 1, _, _, by omega, by go_num, HFO.out, HX.out, HOK.out⟩
       case measure => simp [intOf]; omega
      ·have b5 : (r.kind == 5) = false := by simp [k5]
       have hst : headStep h r = { h with opn := fs } := by
        unfold headStep
        rw [if_neg k4, if_neg k5, ← HFS.out]
        by_cases k6 : r.kind = 6
        ·rw [if_pos k6, keep_six k6]
        ·rw [if_neg k6, keep_all k6]
       have HFO := Lib.hid (HTK.out.trans hst)
       have HOK := Lib.hid (hst ▸ HOK1.out)
       clear hst k4 k5
       go_wp2
       go_roundw
       case rel => exact ⟨k + 1, _, _, by omega, by go_num, HFO.out, HR.out, HOK.out⟩
       case measure => simp [intOf]; omega
  ·have HH : Hid (h = headR l) := by show h = _; rw [← HFD.out, List.take_of_length_le (by omega)]; rfl
   clear hfold hok hbox hel
   go_wp2_with (first | (refine wpList_store_row rfl (.tmp 2) (.tmp 62) rfl rfl rfl HBX.out.res info_hd rfl rfl ?_))
   intro wf r2 g2
   obtain ⟨p0, p1, p2, p3⟩ := cells4 r2
   have pf := row_free r2
   clear s0 s1 s2 s3 sf
   go_wp2
   refine bodyPost_ret (v := .agg #[.slice al l.length cl, .int .i64 h.boot, .int .i64 h.next, .slice ar h.opn.length cr]) (by simp [results, Try.results43, go_sem, p0, p1, p2, p3]) rfl ?_
   have hlog : h.log = l := by rw [HH.out]; exact (headR_next l).2
   have e2 := ((HBX.out.opn.mono (ov_in HC.out)).block fun k hk => g2.block k (HBX.out.opn.lt k hk).2 (by have := (HBX.out.opn.lt k hk).1; simp; omega)).slc (by decide) (Sub.refl _) fun a ha => ov_new (by omega)
   rw [← HH.out]
   refine ⟨_, rfl, ⟨_, rfl, _, _, rfl, ?_, HOK0.out.boot, HOK0.out.next, e2⟩, HBX.out.grow.grown g2 (fun k hk => by simp at hk; omega)⟩
   rw [hlog]; exact HV.out.mono (ov_in HC.out)
theorem src_new {α : Type} {T : Ty α} (h0 : 0 < T.size) {w W w4 : World} {e : Nat} {v : Value} {l : List α} {row : Option Nat} (hg : Grow w W) (hr : ∀ k, row = some k → k < W.heap.size) (h : OwnC T (fr W w4 [v.ownBlock]) w4 W.heap.size e v l) : Src T (fr w w4 [row]) w4 v l := by
 have hs := hg.size
 have hk : ∀ k, W.heap.size ≤ k → some k ∉ [row] := fun k hk => by
  simp only [List.mem_singleton]
  intro e
  have := hr _ e.symm
  omega
 refine Src.of_sl_c h0 (fr_sub _ _ _) (h.slc h0 (fun a v e => ?_) fun a ha => fr_new (by omega) (hk _ ha))
 unfold fr at e
 split at e
 ·cases e
 ·rename_i hn
  have h1 : ¬ a.block < W.heap.size := fun hx => hn (.inl hx)
  rw [fr_new (by omega) (hk _ (by omega))]
  exact e
theorem cell_past {w w' : World} {B : Nat} {a : Addr} {v : Value} (h : w.cell? a = some v) (hg : w.grownBy w' (some B)) (hne : a.block ≠ B) : w'.cell? a = some v := by
 rw [by_cell hg (World.block_lt_of_cell? w a h) hne]; exact h
theorem wo_ne {B : Nat} {c : CM} {a : Addr} {v : Value} (h : wo B c a = some v) : a.block ≠ B := fun e => by
 unfold wo at h
 rw [if_pos e] at h
 cases h
theorem wo_old {B : Nat} {w w9 : World} (hg : Grow w w9) (hB : w.heap.size ≤ B) : Sub w.cell? (wo B w9.cell?) := (wo_lt (Sub.refl _) hB).trans (wo_mono hg.sub)
theorem wo_at {B : Nat} {w9 : World} {a : Addr} (h : a.block ≠ B) : wo B w9.cell? a = w9.cell? a := by
 unfold wo
 rw [if_neg h]
theorem ov_store {c : CM} {w W w1 w' : World} {B : Nat} (hW : Grow w W) (h1 : Grow W w1) (hB : B < W.heap.size) (hg : w1.grownBy w' (some B)) : Sub (ov (wo B (ov c w W)) W w1) (ov c w w') := fun a v e => by
 have hs := hW.size
 unfold ov at e
 split at e
 ·have ne := wo_ne e
  have e2 := wo_sub _ _ a v e
  by_cases hl : a.block < w.heap.size
  ·rw [if_pos hl] at e2
   unfold ov
   rw [if_pos hl]; exact e2
  ·rw [if_neg hl] at e2
   rw [ov_new (by omega)]
   exact cell_past (h1.sub _ _ e2) hg ne
 ·rw [ov_new (by omega)]
  exact cell_past e hg (by omega)
theorem Opns.agg {c : CM} {q : Opn} {vp vh : Value} (h1 : I64 q.deed) (h2 : Sl Ty.pt c vp q.parts) (h3 : Sl Ty.int c vh q.heard) : Of Ty.opn c (.agg #[.int .i64 q.deed, vp, .bool q.dec, vh]) q := ⟨_, rfl, _, _, rfl, h1, h2, h3⟩
structure HdOk (h : Hd) : Prop where
 opn : h.opn.length ≤ 12
 parts : ∀ o ∈ h.opn, o.parts.length ≤ 4
 heard : ∀ o ∈ h.opn, o.heard.length ≤ 3
 log : h.log.length ≤ 100000
 boot : 0 ≤ h.boot ∧ h.boot ≤ 20
 next : 0 ≤ h.next ∧ h.next ≤ 64
set_option maxRecDepth 100000 in
set_option maxHeartbeats 2000000 in
theorem ref_headTick {v : Value} {h : Hd} (w : World) (hv : Of Ty.hd w.cell? v h) (hk : HdOk h) :
  Calls Try.prog 109 #[v] w fun e w' => ∃ v', e = .returned v' ∧ OwnC Ty.ms (fr w w' [v'.ownBlock]) w' w.heap.size 39 v' (tickE h) ∧ Grow w w' := by
 obtain ⟨al, cl, ar, cr, rfl⟩ := hv.hd_form
 obtain ⟨ar', cr', he, h1, h2, -, hel⟩ := (Of.hd_log hv).2
 obtain ⟨rfl, rfl⟩ : ar = ar' ∧ cr = cr' := by simpa using he
 unfold maxLen at h2
 have HOP := Lib.hid hk.parts
 have h12 := hk.opn
 clear hk he hv
 go_enter Try.func109, Try.ntmps109
 go_wp2
 go_loopw [3, 9] (fun s3 i wr => ∃ k : Nat, k ≤ h.opn.length ∧ i = .int .i64 k ∧ Grow w wr ∧ OwnC Ty.ms (fr w wr [s3.ownBlock]) wr w.heap.size 39 s3 ((h.opn.take k).flatMap asksE)) (fun _ i _ => h.opn.length - (intOf i).toNat)
 case atStart => exact ⟨0, by omega, rfl, (by repeat (first | with_reducible assumption | with_reducible exact Grow.refl _ | with_reducible apply Grow.drewN | with_reducible apply Grow.drew | with_reducible apply Grow.alloc | (refine Grow.setCell ?_ (by simp; done) _))), OwnC.nil _ _ _ _ _⟩
 case round =>
  obtain ⟨k, hk', rfl, hb, hown⟩ := hrel
  by_cases hlt : k < h.opn.length
  ·obtain ⟨b, o, vp, vh, rfl, c0, c1, c2, c3, i0, hP, hH⟩ := Opns.at_ hel k hlt
   obtain ⟨ap, cp, rfl, -⟩ := id hP
   obtain ⟨ah, ch, rfl, -⟩ := id hH
   have HAS := Lib.hid (fun (W : World) (hW : Grow wr W) => ref_asks (o := h.opn[k]) W (Opns.agg i0 (hP.mono (hb.trans hW).sub) (hH.mono (hb.trans hW).sub)) (by have := HOP.out _ (List.getElem_mem hlt); omega))
   replace c0 := hb.sub _ _ c0
   replace c1 := hb.sub _ _ c1
   replace c2 := hb.sub _ _ c2
   replace c3 := hb.sub _ _ c3
   have HTK := Lib.hid (flat_next asksE hlt)
   have HLK := Lib.hid (show ((h.opn.take k).flatMap asksE).length ≤ 36 by have := flat_short asks_short (h.opn.take k); rw [List.length_take] at this; omega)
   have HAL := Lib.hid (asks_short h.opn[k])
   have HOWN := Lib.hid hown
   have HB := Lib.hid hb
   obtain ⟨av, cv, rfl⟩ := hown.form
   clear hel hP hH hown hb i0
   generalize h.opn[k] = q at *
   generalize (h.opn.take k).flatMap asksE = ms at *
   go_wp2_with fail
   refine (HAS.out _ ((Grow.refl wr).alloc _)).mono ?_
   rintro e w4 ⟨v4, rfl, ho4, hb4⟩
   obtain ⟨a4, c4, rfl⟩ := ho4.form
   have G4 := Lib.hid (((Grow.refl wr).alloc _).trans hb4)
   have HSR := Lib.hid (src_new (w := w) (row := (Value.slice av ms.length cv).ownBlock) (by decide) (HB.out.alloc _) (fun q hq => by have := (HOWN.out.lt q hq).2; simp; omega) ho4)
   have HO4 := Lib.hid ((HOWN.out.mono (fr_grow G4.out)).grow G4.out)
   clear ho4 hb4
   generalize asksE q = aq at *
   go_wp2_with (first | (at_builtin; refine wpList_appc (c := fr w w4 [(Value.slice av ms.length cv).ownBlock]) (base := w.heap.size) (l := ms) (m := aq) ei_ms rfl one_Tms (by decide) rfl (.tmp 13) (.tmp 15) rfl rfl HO4.out rfl HSR.out ?d2 ?d3 ?_))
   case d2 => have := HLK.out; have := HAL.out; omega
   case d3 => have := HB.out.size; have := G4.out.size; omega
   intro a9 c9 w9 ho9 hg9 hb9
   have HG9 : Hid (Grow w w9) := Lib.hid (grow_by (w0 := w) (HB.out.trans G4.out) hg9 (fun q hq => (HOWN.out.lt q hq).1))
   have HO9 := Lib.hid (ho9.mono (fr_app hg9 (hb9.imp_right fun ⟨g, e, hge⟩ => ⟨g, e, by simpa using hge⟩)))
   clear ho9 hg9 hb9
   go_wp2
   go_roundw
   case rel => exact ⟨k + 1, by omega, by go_num, HG9.out, by rw [HTK.out]; exact HO9.out⟩
   case measure => simp [intOf]; omega
  ·have HOWN := Lib.hid hown
   have HB := Lib.hid hb
   clear hel hown hb
   go_wp2
   go_ret
   have h9 := HOWN.out
   rw [List.take_of_length_le (by omega)] at h9
   exact ⟨_, rfl, h9, HB.out⟩
set_option maxRecDepth 100000 in
set_option maxHeartbeats 2000000 in
theorem ref_fall {c : CM} {v : Value} {h : Hd} (w : World) (hc : Sub c w.cell?) (hv : Of Ty.hd c v h) (hk : HdOk h) :
  Calls Try.prog 103 #[v] w fun e w' => ∃ v', e = .returned (.tuple #[v', .int .i64 (fallE h)]) ∧ Of Ty.hd (ov c w w') v' (fallH h) ∧ Grow w w' := by
 obtain ⟨al, cl, ar, cr, rfl⟩ := hv.hd_form
 have HV := Lib.hid hv
 have HC := Lib.hid hc
 have HLG := Lib.hid (Of.hd_log hv).1
 have hll := hk.log
 clear hk hv hc
 obtain ⟨wa, hwa⟩ : ∃ y : World, y = w.alloc (.cells #[.slice al h.log.length cl, .int .i64 h.boot, .int .i64 h.next, .slice ar h.opn.length cr] 57) := ⟨_, rfl⟩
 obtain ⟨wz, hwz⟩ : ∃ y : World, y = wa.alloc (.cells #[.slice none 0 0, .int .i64 0, .int .i64 0, .slice none 0 0] 57) := ⟨_, rfl⟩
 have hsz : wa.heap.size = w.heap.size + 1 := by rw [hwa]; simp
 have R1 : Hid (wz.heap[w.heap.size]? = some (.cells #[.slice al h.log.length cl, .int .i64 h.boot, .int .i64 h.next, .slice ar h.opn.length cr] 57 (0, 0))) := Lib.hid (by rw [hwz, hwa]; exact heap_later (row_new _ _) _)
 have R2 : Hid (wz.heap[w.heap.size + 1]? = some (.cells #[.slice none 0 0, .int .i64 0, .int .i64 0, .slice none 0 0] 57 (0, 0))) := Lib.hid (by rw [hwz, ← hsz]; exact row_new _ _)
 have G1 : Hid (Grow w wz) := Lib.hid (by rw [hwz, hwa]; exact ((Grow.refl w).alloc _).alloc _)
 have HZ : Hid (wz.heap.size = w.heap.size + 2) := Lib.hid (by rw [hwz, hwa]; simp)
 by_cases hb : 19 < h.boot
 ·have HE1 : Hid (fallH h = h) := Lib.hid (by unfold fallH; rw [if_pos hb])
  have HE2 : Hid (fallE h = 5) := Lib.hid (by unfold fallE; rw [if_pos hb])
  go_enter Try.func103, Try.ntmps103
  go_upto_region 1 with fail
  rw [← hwa]
  try rw [hsz]
  rw [← hwz]
  clear hwa hwz hsz
  obtain ⟨c0, c1, c2, c3⟩ := cells4 R1.out
  have z1 : w.heap.size < wz.heap.size := (Array.getElem?_eq_some_iff.1 R1.out).1
  have z2 : w.heap.size + 1 < wz.heap.size := (Array.getElem?_eq_some_iff.1 R2.out).1
  go_wp2_with (first | (refine wpList_store_row rfl (.tmp 2) (.tmp 7) rfl rfl rfl R2.out info_hd rfl rfl ?_))
  intro w7 r7 g7
  obtain ⟨p0, p1, p2, p3⟩ := cells4 r7
  clear c0 c1 c2 c3
  go_wp2
  refine bodyPost_ret (v := .tuple #[.agg #[.slice al h.log.length cl, .int .i64 h.boot, .int .i64 h.next, .slice ar h.opn.length cr], .int .i64 5]) (by simp [results, Try.results103, go_sem, p0, p1, p2, p3]) rfl ?_
  have G7 := G1.out.grown g7 (fun q hq => by simp at hq; omega)
  rw [HE1.out, HE2.out]
  exact ⟨_, rfl, HV.out.mono (ov_in HC.out), G7⟩
 ·have HE1 : Hid (fallH h = headR (h.log ++ [⟨4, 0, []⟩])) := Lib.hid (by unfold fallH; rw [if_neg hb])
  have HE2 : Hid (fallE h = 0) := Lib.hid (by unfold fallE; rw [if_neg hb])
  have HLL : Hid ((h.log ++ [(⟨4, 0, []⟩ : Rc)]).length = h.log.length + 1) := Lib.hid (by simp)
  go_enter Try.func103, Try.ntmps103
  go_upto_region 1 with fail
  rw [← hwa]
  try rw [hsz]
  rw [← hwz]
  clear hwa hwz hsz
  obtain ⟨c0, c1, c2, c3⟩ := cells4 R1.out
  have z1 : w.heap.size < wz.heap.size := (Array.getElem?_eq_some_iff.1 R1.out).1
  have z2 : w.heap.size + 1 < wz.heap.size := (Array.getElem?_eq_some_iff.1 R2.out).1
  go_wp2_with (first | (at_builtin; refine wpList_appc (c := c) (base := w.heap.size + 2) (l := []) (m := h.log) (v := .slice (some ⟨wz.heap.size, 0, none⟩) 0 0) ei_rc rfl one_Trc (by decide) rfl (.tmp 8) (.tmp 10) rfl rfl (OwnC.made0 Ty.rc _ _ _ _ ?c1 ?c1') rfl ?src ?c3 ?c4 ?_))
  case c1 => rw [HZ.out]; exact Nat.le_refl _
  case c1' => rfl
  case src => exact Src.of_sl_c (by decide) (HC.out.trans (G1.out.alloc _).sub) HLG.out
  case c3 => (try simp); omega
  case c4 => have := HZ.out; (try simp); omega
  intro a8 c8 w8 ho8 hg8 hb8
  try simp only [List.length_nil, Nat.zero_add, List.nil_append] at ho8
  try simp only [List.length_nil, Nat.zero_add]
  have HO8 := Lib.hid ho8
  have G8 := Lib.hid (grow_by (w0 := wz) ((Grow.refl wz).alloc _) hg8 (own_at (Nat.le_refl _)))
  clear ho8 hg8 hb8 c0 c1 c2 c3
  go_wp2_with (first | (at_builtin; refine wpList_appc (c := c) (base := w.heap.size + 2) (l := h.log) (m := [⟨4, 0, []⟩]) ei_rc rfl one_Trc (by decide) rfl (.tmp 11) (.tmp 13) rfl rfl (HO8.out.grow ((Grow.refl _).alloc _)) rfl (Src.of_new (T := Ty.rc) (x := ⟨4, 0, []⟩) (cs := #[.int .i64 4, .int .i64 0, .slice none 0 0]) ⟨_, rfl, (show I64 4 from by unfold I64; decide), zero_ok, Sl.nil _ _⟩ _ _ ?d1) ?d2 ?d3 ?_))
  case d1 => first | rfl | simp
  case d2 => (try simp); omega
  case d3 => have := G8.out.size; have := HZ.out; (try simp); omega
  intro a9 c9 w9 ho9 hg9 hb9
  have G9 := Lib.hid (grow_by (w0 := wz) (G8.out.alloc _) hg9 (fun q hq => by have := (HO8.out.lt q hq).1; have := HZ.out; omega))
  have GW9 := Lib.hid (G1.out.trans G9.out)
  have HX9 := Lib.hid (ho9.slc (d := wo (w.heap.size + 1) (ov c w w9)) (by decide) (wo_ov_in HC.out (by omega)) fun a ha => wo_ov_new (by omega) (by omega))
  have R29 := Lib.hid (row_grow R2.out G9.out)
  clear ho9 hg9 hb9
  generalize h.log ++ [(⟨4, 0, []⟩ : Rc)] = lg at *
  go_wp2_with fail
  refine (ref_head (l := lg) (c := wo (w.heap.size + 1) (ov c w w9)) w9 (wo_ov_sub HC.out GW9.out) ?hl (by rw [HLL.out]; omega)).mono ?_
  case hl => first | exact HX9.out | (have h9 := HX9.out; rw [HLL.out] at h9; simpa using h9)
  rintro e w10 ⟨v10, rfl, hx, hb10⟩
  obtain ⟨al2, cl2, ar2, cr2, rfl⟩ := hx.hd_form
  have R210 := Lib.hid (row_grow R29.out hb10)
  have HX := Lib.hid hx
  have GB10 := Lib.hid hb10
  have z29 := (Array.getElem?_eq_some_iff.1 R29.out).1
  have G10 := Lib.hid (GW9.out.trans hb10)
  clear hx hb10
  go_wp2_with (first | (refine wpList_store_row rfl (.tmp 2) (.tmp 15) rfl rfl rfl R210.out info_hd rfl rfl ?_))
  intro w7 r7 g7
  obtain ⟨p0, p1, p2, p3⟩ := cells4 r7
  go_wp2
  refine bodyPost_ret (v := .tuple #[.agg #[.slice al2 (headR lg).log.length cl2, .int .i64 (headR lg).boot, .int .i64 (headR lg).next, .slice ar2 (headR lg).opn.length cr2], .int .i64 0]) (by simp [results, Try.results103, go_sem, p0, p1, p2, p3]) rfl ?_
  rw [HE1.out, HE2.out]
  refine ⟨_, rfl, ?_, G10.out.grown g7 (fun q hq => by simp at hq; omega)⟩
  exact HX.out.mono (ov_store GW9.out GB10.out z29 g7)
theorem wpList_store_cell {P : Program} {ty : TypeId} {ops : Array Oper} {rest : List Oper} {w : World} {o : Oper} {a : Act} {Q : Exit → Act → World → Prop} (hgd : o.guard = none) (d s : Operand) (ho : o.op = .store ty d s)
  {g p : Nat} {t : TypeId} {old new : Array Value} {v : Value} (hd : a.eval d = .pointer (some ⟨g, p, none⟩)) (hs : a.eval s = v) (hv : v.cells = [v].toArray) (hrow : w.heap[g]? = some (.cells old t (0, 0)))
  (hi : (P.info? ty).map (·.size) = some 1) (hos : p + 1 ≤ old.size) (h1 : v.oneCell' = true) (hnew : (old.toList.take p ++ [v] ++ old.toList.drop (p + 1)).toArray = new)
  (h : ∀ w', w'.heap[g]? = some (.cells new t (0, 0)) → w.grownBy w' (some g) → wpList P ops Q rest (a.put o.dst undef) w') : wpList P ops Q (o :: rest) a w :=
 wpList_plain hgd fun _ hK => wp_store_cell d s ho hd hs hv hrow hi hos h1 hnew fun w' a b => hK _ _ (h w' a b)
theorem info_opns : (Try.prog.info? 55).map (·.size) = some 1 := by kernel_rfl
theorem info_int1 : (Try.prog.info? 3).map (·.size) = some 1 := by kernel_rfl
theorem OwnC.srcA {α : Type} {T : Ty α} {c : CM} {w : World} {base e : Nat} {v : Value} {l : List α} (h : OwnC T c w base e v l) : Src T c w v l := by
 obtain ⟨css, h1, h2, h3⟩ := h
 obtain ⟨a, cap, rfl⟩ := owns_form h1
 have h4 := own_src h1
 exact ⟨a, cap, css, rfl, h4.1, by obtain ⟨-, ⟨-, hn⟩ | ⟨g, cap', cur, he, -, -, hnc, hcm, -⟩⟩ := h1 <;> omega, h2, h3, h4.2⟩
def Apart (u v : Value) : Prop := ∀ q, u.ownBlock = some q → v.ownBlock ≠ some q
theorem Apart.keep {α : Type} {T : Ty α} {c : CM} {w w' : World} {base e : Nat} {u v : Value} {l : List α} (h : Apart u v) (hv : OwnC T c w base e v l) (hg : w.grownBy w' u.ownBlock) : OwnC T c w' base e v l :=
 hv.kept hg (by
  cases e : v.ownBlock with
  | none => exact .inl rfl
  | some q => exact .inr (fun e2 => h q e2.symm e))
theorem Apart.symm {u v : Value} (h : Apart u v) : Apart v u := fun q e e2 => h q e2 e
theorem Apart.step {α : Type} {T : Ty α} {c : CM} {w : World} {base e : Nat} {u u' v : Value} {l : List α} (h : Apart u v) (hv : OwnC T c w base e v l) (hb : u'.ownBlock = u.ownBlock ∨ ∃ g, u'.ownBlock = some g ∧ w.heap.size ≤ g) : Apart u' v := fun q e e2 => by
 rcases hb with hb | ⟨g, hb, hge⟩
 ·exact h q (hb.symm.trans e) e2
 ·rw [hb] at e
  obtain rfl := Option.some.inj e
  have := (hv.lt g e2).2
  omega
set_option maxRecDepth 100000 in
set_option maxHeartbeats 4000000 in
theorem ref_quit {c : CM} {v : Value} {h : Hd} (w : World) (hc : Sub c w.cell?) (hv : Of Ty.hd c v h) (hk : HdOk h) :
  Calls Try.prog 107 #[v] w fun e w' => ∃ v1 v2, e = .returned (.tuple #[v1, v2]) ∧ Of Ty.hd (ov c w w') v1 (quitH h) ∧ Sl Ty.ms (ov c w w') v2 (quitM h) ∧ Grow w w' := by
 obtain ⟨al, cl, ar, cr, rfl⟩ := hv.hd_form
 have HLG := Lib.hid (Of.hd_log hv).1
 have HIB : Hid (I64 h.boot ∧ I64 h.next) := Lib.hid (by obtain ⟨cs, he, _, _, rfl, _, h1, h2, _⟩ := hv; exact ⟨h1, h2⟩)
 obtain ⟨ar', cr', he, h1, h2, -, hel⟩ := (Of.hd_log hv).2
 obtain ⟨rfl, rfl⟩ : ar = ar' ∧ cr = cr' := by simpa using he
 unfold maxLen at h2
 have HOP := Lib.hid hk.parts
 have h12 := hk.opn
 have HC := Lib.hid hc
 clear hk he hv hc
 obtain ⟨wa, hwa⟩ : ∃ y : World, y = w.alloc (.cells #[.slice al h.log.length cl, .int .i64 h.boot, .int .i64 h.next, .slice ar h.opn.length cr] 57) := ⟨_, rfl⟩
 obtain ⟨wz, hwz⟩ : ∃ y : World, y = wa.alloc (.cells #[.slice none 0 0, .int .i64 0, .int .i64 0, .slice none 0 0] 57) := ⟨_, rfl⟩
 have hsz : wa.heap.size = w.heap.size + 1 := by rw [hwa]; simp
 have R1 : Hid (wz.heap[w.heap.size]? = some (.cells #[.slice al h.log.length cl, .int .i64 h.boot, .int .i64 h.next, .slice ar h.opn.length cr] 57 (0, 0))) := Lib.hid (by rw [hwz, hwa]; exact heap_later (row_new _ _) _)
 have R2 : Hid (wz.heap[w.heap.size + 1]? = some (.cells #[.slice none 0 0, .int .i64 0, .int .i64 0, .slice none 0 0] 57 (0, 0))) := Lib.hid (by rw [hwz, ← hsz]; exact row_new _ _)
 have G1 : Hid (Grow w wz) := Lib.hid (by rw [hwz, hwa]; exact ((Grow.refl w).alloc _).alloc _)
 have HZ : Hid (wz.heap.size = w.heap.size + 2) := Lib.hid (by rw [hwz, hwa]; simp)
 go_enter Try.func107, Try.ntmps107
 go_upto_region 3 with fail
 rw [← hwa]
 try rw [hsz]
 rw [← hwz]
 clear hwa hwz hsz
 obtain ⟨c0, c1, c2, c3⟩ := cells4 R1.out
 have z1 : w.heap.size < wz.heap.size := (Array.getElem?_eq_some_iff.1 R1.out).1
 go_wp2
 clear c0 c1 c2 c3
 go_loopw [4, 5, 11] (fun s4 s5 i wr => ∃ k : Nat, k ≤ h.opn.length ∧ i = .int .i64 k ∧ Grow wz wr ∧ OwnC Ty.opn c wr (w.heap.size + 2) 136 s4 ((h.opn.take k).filter fun o => o.dec) ∧ OwnC Ty.ms (fun _ => none) wr (w.heap.size + 2) 39 s5 (((h.opn.take k).filter fun o => !o.dec).flatMap fun o => abortsE o.deed o.parts) ∧ Apart s4 s5) (fun _ _ i _ => h.opn.length - (intOf i).toNat)
 case atStart => exact ⟨0, by omega, rfl, Grow.refl _, OwnC.nil _ _ _ _ _, OwnC.nil _ _ _ _ _, fun q e => by simp [Value.ownBlock] at e⟩
 case round =>
  obtain ⟨k, hk', rfl, hb, how4, how5, hap⟩ := hrel
  obtain ⟨a4, c4, rfl⟩ := how4.form
  obtain ⟨a5, c5, rfl⟩ := how5.form
  have HO4 := Lib.hid how4
  have HO5 := Lib.hid how5
  have HAP := Lib.hid hap
  have HB := Lib.hid hb
  have GB := Lib.hid (G1.out.trans hb)
  clear how4 how5 hap hb
  by_cases hlt : k < h.opn.length
  ·obtain ⟨b, o, vp, vh, rfl, c0, c1, c2, c3, i0, hP, hH⟩ := Opns.at_ hel k hlt
   obtain ⟨ap, cp, rfl, -⟩ := id hP
   obtain ⟨ah, ch, rfl, -⟩ := id hH
   have HEL := Lib.hid (And.intro i0 (And.intro hP hH))
   have hpl := HOP.out _ (List.getElem_mem hlt)
   have HFD := Lib.hid (filter_take_next (fun o : Opn => o.dec) hlt)
   have HFM := Lib.hid (fflat_next (fun o : Opn => !o.dec) (fun o => abortsE o.deed o.parts) hlt)
   have HL4 := Lib.hid (show ((h.opn.take k).filter fun o => o.dec).length ≤ 12 from Nat.le_trans (List.length_filter_le _ _) (by simp; omega))
   have HL5 := Lib.hid (show (((h.opn.take k).filter fun o => !o.dec).flatMap fun o => abortsE o.deed o.parts).length ≤ 36 by
    have h8 := flat_short (fun o : Opn => aborts_short o.deed o.parts) ((h.opn.take k).filter fun o => !o.dec)
    have h9 : ((h.opn.take k).filter fun o => !o.dec).length ≤ 12 := Nat.le_trans (List.length_filter_le _ _) (by simp; omega)
    omega)
   replace c0 := GB.out.sub _ _ (HC.out _ _ c0)
   replace c1 := GB.out.sub _ _ (HC.out _ _ c1)
   replace c2 := GB.out.sub _ _ (HC.out _ _ c2)
   replace c3 := GB.out.sub _ _ (HC.out _ _ c3)
   clear hel hP hH i0
   generalize h.opn[k] = q at *
   generalize (h.opn.take k).filter (fun o => o.dec) = rs at *
   generalize ((h.opn.take k).filter fun o => !o.dec).flatMap (fun o => abortsE o.deed o.parts) = ms at *
   cases hd : q.dec with
   | true =>
    rw [hd] at c2
    have HF1 := Lib.hid HFD.out
    have HF2 := Lib.hid HFM.out
    rw [if_pos hd] at HF1
    rw [if_neg (by simp [hd])] at HF2
    have HEQ : Hid (q = ⟨q.deed, q.parts, true, q.heard⟩) := Lib.hid (by cases q; simp_all)
    clear hd HFD HFM
    have q9 : wr.heap.size < (wr.alloc (.cells #[.int .i64 q.deed, .slice ap q.parts.length cp, .bool true, .slice ah q.heard.length ch] 136)).heap.size := by simp
    go_wp2_with (first | (at_builtin; refine wpList_appc (c := c) (base := w.heap.size + 2) (l := rs) (m := [q]) ei_opn rfl one_Topn (by decide) rfl (.tmp 17) (.tmp 19) rfl rfl ?own rfl (Src.of_new (T := Ty.opn) (x := q) (cs := #[.int .i64 q.deed, .slice ap q.parts.length cp, .bool true, .slice ah q.heard.length ch]) ?d0 _ _ ?d1) ?d2 ?d3 ?_))
    case own => exact HO4.out.grow (((Grow.refl _).alloc _).alloc _)
    case d0 => rw [HEQ.out]; exact ⟨_, _, rfl, HEL.out.1, HEL.out.2.1, HEL.out.2.2⟩
    case d1 => simp
    case d2 => have := HL4.out; simp; omega
    case d3 => have := HB.out.size; have := HZ.out; simp; omega
    intro a9 c9 w9 ho9 hg9 hb9
    have HG9 : Hid (Grow wz w9) := Lib.hid (grow_by (w0 := wz) ((HB.out.alloc _).alloc _) hg9 (fun q hq => by have := (HO4.out.lt q hq).1; have := HZ.out; omega))
    have HO9 := Lib.hid ho9
    have HK5 := Lib.hid (HO5.out.grow (((Grow.refl wr).alloc (.cells #[.int .i64 q.deed, .slice ap q.parts.length cp, .bool true, .slice ah q.heard.length ch] 136)).alloc (.cells #[.int .i64 q.deed, .slice ap q.parts.length cp, .bool true, .slice ah q.heard.length ch] 136)))
    have HO59 := Lib.hid (HAP.out.keep HK5.out hg9)
    have HAP9 := Lib.hid (HAP.out.step HK5.out (hb9.imp_right fun ⟨g, e, hge⟩ => ⟨g, e, by simpa using hge⟩))
    clear ho9 hg9 hb9 HK5 q9
    go_wp2
    go_roundw
    case rel => exact ⟨k + 1, by omega, by go_num, HG9.out, by rw [HF1.out]; exact HO9.out, by rw [HF2.out]; exact HO59.out, HAP9.out⟩
    case measure => simp [intOf]; omega
   | false =>
    rw [hd] at c2
    have HF1 := Lib.hid HFD.out
    have HF2 := Lib.hid HFM.out
    rw [if_neg (by simp [hd])] at HF1
    rw [if_pos (by simp [hd])] at HF2
    have HEQ : Hid (q = ⟨q.deed, q.parts, false, q.heard⟩) := Lib.hid (by cases q; simp_all)
    have HAB := Lib.hid (fun (W : World) (hW : Grow w W) => ref_aborts (v := .agg #[.int .i64 q.deed, .slice ap q.parts.length cp, .bool false, .slice ah q.heard.length ch]) (o := q) W (by rw [HEQ.out]; exact ⟨_, rfl, _, _, rfl, HEL.out.1, HEL.out.2.1.mono (HC.out.trans hW.sub), HEL.out.2.2.mono (HC.out.trans hW.sub)⟩) (by omega))
    have HAL := Lib.hid (aborts_short q.deed q.parts)
    clear hd HFD HFM
    have q9 : wr.heap.size < (wr.alloc (.cells #[.int .i64 q.deed, .slice ap q.parts.length cp, .bool false, .slice ah q.heard.length ch] 136)).heap.size := by simp
    go_wp2_with fail
    refine (HAB.out _ (GB.out.alloc _)).mono ?_
    rintro e w4 ⟨v4, rfl, ho4, hb4⟩
    obtain ⟨a6, c6, rfl⟩ := ho4.form
    have G4 := Lib.hid (((Grow.refl wr).alloc _).trans hb4)
    have HSR : Hid (Src Ty.ms (fun _ => none) w4 (.slice a6 (abortsE q.deed q.parts).length c6) (abortsE q.deed q.parts)) := Lib.hid ho4.srcA
    have HK4 := Lib.hid (HO4.out.grow G4.out)
    have HK5 := Lib.hid (HO5.out.grow G4.out)
    clear ho4 hb4 q9 c0 c1 c2 c3
    generalize abortsE q.deed q.parts = aq at *
    go_wp2_with (first | (at_builtin; refine wpList_appc (c := fun _ => none) (base := w.heap.size + 2) (l := ms) (m := aq) ei_ms rfl one_Tms (by decide) rfl (.tmp 21) (.tmp 23) rfl rfl HK5.out rfl HSR.out ?d2 ?d3 ?_))
    case d2 => have := HL5.out; have := HAL.out; omega
    case d3 => have := HB.out.size; have := HZ.out; have := G4.out.size; omega
    intro a9 c9 w9 ho9 hg9 hb9
    have HG9 : Hid (Grow wz w9) := Lib.hid (grow_by (w0 := wz) (HB.out.trans G4.out) hg9 (fun q hq => by have := (HO5.out.lt q hq).1; have := HZ.out; omega))
    have HO9 := Lib.hid ho9
    have HO49 := Lib.hid (HAP.out.symm.keep HK4.out hg9)
    have HAP9 := Lib.hid (HAP.out.symm.step HK4.out hb9).symm
    clear ho9 hg9 hb9 HK4 HK5
    go_wp2
    go_roundw
    case rel => exact ⟨k + 1, by omega, by go_num, HG9.out, by rw [HF1.out]; exact HO49.out, by rw [HF2.out]; exact HO9.out, HAP9.out⟩
    case measure => simp [intOf]; omega
  ·have HF1 : Hid ((h.opn.take k).filter (fun o => o.dec) = (quitH h).opn) := Lib.hid (by rw [List.take_of_length_le (by omega)]; rfl)
   have HF2 : Hid (((h.opn.take k).filter fun o => !o.dec).flatMap (fun o => abortsE o.deed o.parts) = quitM h) := Lib.hid (by rw [List.take_of_length_le (by omega)]; rfl)
   have RR1 := Lib.hid (row_grow R1.out HB.out)
   have RR2 := Lib.hid (row_grow R2.out HB.out)
   rw [HF1.out] at HO4 HAP ⊢
   rw [HF2.out] at HO5 HAP ⊢
   clear hel HF1 HF2
   generalize hqo : (quitH h).opn = qo at *
   have HQO := Lib.hid hqo
   clear hqo
   generalize hqm : quitM h = qm at *
   have HQM := Lib.hid hqm
   clear hqm
   go_wp2_with (first | (refine wpList_store_cell rfl (.tmp 27) (.tmp 26) (v := .slice a4 qo.length c4) (new := #[.slice al h.log.length cl, .int .i64 h.boot, .int .i64 h.next, .slice a4 qo.length c4]) rfl rfl (by rfl) (by rfl) RR1.out info_opns (by simp) (by rfl) (by rfl) ?_))
   intro w8 r8 g8
   have G8 := Lib.hid (GB.out.grown g8 (fun q hq => by simp at hq; omega))
   have R8 := Lib.hid r8
   have R28 := Lib.hid (row_by RR2.out g8 (by intro e; have := Option.some.inj e; omega))
   have HO48 := Lib.hid (HO4.out.kept g8 (by
    cases e : (Value.slice a4 qo.length c4).ownBlock with
    | none => exact .inl rfl
    | some q => exact .inr (by have := (HO4.out.lt q e).1; intro e2; have := Option.some.inj e2; omega)))
   have HO58 := Lib.hid (HO5.out.kept g8 (by
    cases e : (Value.slice a5 qm.length c5).ownBlock with
    | none => exact .inl rfl
    | some q => exact .inr (by have := (HO5.out.lt q e).1; intro e2; have := Option.some.inj e2; omega)))
   obtain ⟨c0, c1, c2, c3⟩ := cells4 r8
   have z8 : w.heap.size < w8.heap.size := (Array.getElem?_eq_some_iff.1 r8).1
   clear r8 g8
   go_wp2_with (first | (refine wpList_store_row rfl (.tmp 2) (.tmp 28) rfl rfl rfl R28.out info_hd rfl rfl ?_))
   intro w7 r7 g7
   obtain ⟨p0, p1, p2, p3⟩ := cells4 r7
   clear c0 c1 c2 c3
   go_wp2
   refine bodyPost_ret (v := .tuple #[.agg #[.slice al h.log.length cl, .int .i64 h.boot, .int .i64 h.next, .slice a4 qo.length c4], .slice a5 qm.length c5]) (by simp [results, Try.results107, go_sem, p0, p1, p2, p3]) rfl ?_
   have G7 := G8.out.grown g7 (fun q hq => by simp at hq; omega)
   refine ⟨_, _, rfl, ⟨_, rfl, _, _, rfl, HLG.out.mono (ov_in HC.out), HIB.out.1, HIB.out.2, ?_⟩, ?_, G7⟩
   ·rw [HQO.out]
    refine OwnC.slc (by decide) (HO48.out.kept g7 ?_) (ov_in HC.out) fun a ha => ov_new (by omega)
    cases e : (Value.slice a4 qo.length c4).ownBlock with
    | none => exact .inl rfl
    | some q => exact .inr (by have := (HO4.out.lt q e).1; intro e2; have := Option.some.inj e2; omega)
   ·rw [HQM.out]
    refine OwnC.slc (c := fun _ => none) (by decide) (HO58.out.kept g7 ?_) (fun _ _ e => by cases e) fun a ha => ov_new (by omega)
    cases e : (Value.slice a5 qm.length c5).ownBlock with
    | none => exact .inl rfl
    | some q => exact .inr (by have := (HO5.out.lt q e).1; intro e2; have := Option.some.inj e2; omega)
theorem own_apart {α : Type} {T : Ty α} {c : CM} {w : World} {base e B : Nat} {v : Value} {l : List α} (h : OwnC T c w base e v l) (hB : B < base) : v.ownBlock = none ∨ v.ownBlock ≠ some B := by
 cases e : v.ownBlock with
 | none => exact .inl rfl
 | some q => exact .inr (by have := (h.lt q e).1; intro e2; have := Option.some.inj e2; omega)
theorem begin_full {h : Hd} {P : List Pt} (hf : fullE h = true) : beginH h P = h ∧ beginM h P = [] ∧ beginE h = 9 := by
 unfold beginH beginM beginE
 rw [if_pos hf, if_pos hf, if_pos hf]
 exact ⟨rfl, rfl, rfl⟩
theorem begin_go {h : Hd} {P : List Pt} (hf : fullE h = false) : beginH h P = { h with opn := h.opn ++ [newO h P], next := h.next + 1 } ∧ beginM h P = asksE (newO h P) ∧ beginE h = 0 := by
 unfold beginH beginM beginE
 rw [if_neg (by simp [hf]), if_neg (by simp [hf]), if_neg (by simp [hf])]
 exact ⟨rfl, rfl, rfl⟩
set_option maxRecDepth 100000 in
set_option maxHeartbeats 4000000 in
theorem ref_begin {c : CM} {v vp : Value} {h : Hd} {P : List Pt} (w : World) (hc : Sub c w.cell?) (hv : Of Ty.hd c v h) (hp : Pts c vp P) (hk : HdOk h) (hP : P.length ≤ 4) :
  Calls Try.prog 111 #[v, vp] w fun e w' => ∃ v1 v2, e = .returned (.tuple #[v1, v2, .int .i64 (beginE h)]) ∧ Of Ty.hd (ov c w w') v1 (beginH h P) ∧ Sl Ty.ms (ov c w w') v2 (beginM h P) ∧ Grow w w' := by
 obtain ⟨al, cl, ar, cr, rfl⟩ := hv.hd_form
 obtain ⟨ap, cp, rfl, -⟩ := id hp
 have HV := Lib.hid hv
 have HLG := Lib.hid (Of.hd_log hv).1
 have HOG := Lib.hid (Of.hd_log hv).2
 have HPG := Lib.hid hp
 have HIB : Hid (I64 h.boot ∧ I64 h.next) := Lib.hid (by obtain ⟨cs, he, _, _, rfl, _, h1, h2, _⟩ := hv; exact ⟨h1, h2⟩)
 have HL12 := Lib.hid hk.opn
 obtain ⟨hb0, hb1⟩ := hk.boot
 obtain ⟨hn0, hn1⟩ := hk.next
 have HC := Lib.hid hc
 clear hk hv hp hc
 obtain ⟨wa, hwa⟩ : ∃ y : World, y = w.alloc (.cells #[.slice al h.log.length cl, .int .i64 h.boot, .int .i64 h.next, .slice ar h.opn.length cr] 57) := ⟨_, rfl⟩
 obtain ⟨wz, hwz⟩ : ∃ y : World, y = wa.alloc (.cells #[.slice none 0 0, .int .i64 0, .int .i64 0, .slice none 0 0] 57) := ⟨_, rfl⟩
 have hsz : wa.heap.size = w.heap.size + 1 := by rw [hwa]; simp
 have R1 : Hid (wz.heap[w.heap.size]? = some (.cells #[.slice al h.log.length cl, .int .i64 h.boot, .int .i64 h.next, .slice ar h.opn.length cr] 57 (0, 0))) := Lib.hid (by rw [hwz, hwa]; exact heap_later (row_new _ _) _)
 have R2 : Hid (wz.heap[w.heap.size + 1]? = some (.cells #[.slice none 0 0, .int .i64 0, .int .i64 0, .slice none 0 0] 57 (0, 0))) := Lib.hid (by rw [hwz, ← hsz]; exact row_new _ _)
 have G1 : Hid (Grow w wz) := Lib.hid (by rw [hwz, hwa]; exact ((Grow.refl w).alloc _).alloc _)
 have HZ : Hid (wz.heap.size = w.heap.size + 2) := Lib.hid (by rw [hwz, hwa]; simp)
 by_cases hf1 : 11 < h.opn.length
 ·obtain ⟨e1, e2, e3⟩ := begin_full (P := P) (show fullE h = true from decide_eq_true (.inl hf1))
  have HE1 := Lib.hid e1
  have HE2 := Lib.hid e2
  have HE3 := Lib.hid e3
  have hf1' : (11 : Int) < (h.opn.length : Int) := by omega
  clear e1 e2 e3 hf1
  go_enter Try.func111, Try.ntmps111
  go_upto_region 1 with fail
  rw [← hwa]
  try rw [hsz]
  rw [← hwz]
  clear hwa hwz hsz
  obtain ⟨c0, c1, c2, c3⟩ := cells4 R1.out
  have z1 : w.heap.size < wz.heap.size := (Array.getElem?_eq_some_iff.1 R1.out).1
  go_wp2_with (first | (refine wpList_store_row rfl (.tmp 4) (.tmp 17) rfl rfl rfl R2.out info_hd rfl rfl ?_))
  intro w7 r7 g7
  obtain ⟨p0, p1, p2, p3⟩ := cells4 r7
  clear c0 c1 c2 c3
  go_wp2
  refine bodyPost_ret (v := .tuple #[.agg #[.slice al h.log.length cl, .int .i64 h.boot, .int .i64 h.next, .slice ar h.opn.length cr], .slice none 0 0, .int .i64 9]) (by simp [results, Try.results111, go_sem, p0, p1, p2, p3]) rfl ?_
  have G7 := G1.out.grown g7 (fun q hq => by simp at hq; omega)
  rw [HE1.out, HE2.out, HE3.out]
  exact ⟨_, _, rfl, HV.out.mono (ov_in HC.out), Sl.nil _ _, G7⟩
 by_cases hf2 : 63 < h.next
 ·obtain ⟨e1, e2, e3⟩ := begin_full (P := P) (show fullE h = true from decide_eq_true (.inr hf2))
  have HE1 := Lib.hid e1
  have HE2 := Lib.hid e2
  have HE3 := Lib.hid e3
  have hf1' : ¬ (11 : Int) < (h.opn.length : Int) := by omega
  clear e1 e2 e3 hf1
  go_enter Try.func111, Try.ntmps111
  go_upto_region 1 with fail
  rw [← hwa]
  try rw [hsz]
  rw [← hwz]
  clear hwa hwz hsz
  obtain ⟨c0, c1, c2, c3⟩ := cells4 R1.out
  have z1 : w.heap.size < wz.heap.size := (Array.getElem?_eq_some_iff.1 R1.out).1
  go_wp2_with (first | (refine wpList_store_row rfl (.tmp 4) (.tmp 17) rfl rfl rfl R2.out info_hd rfl rfl ?_))
  intro w7 r7 g7
  obtain ⟨p0, p1, p2, p3⟩ := cells4 r7
  clear c0 c1 c2 c3
  go_wp2
  refine bodyPost_ret (v := .tuple #[.agg #[.slice al h.log.length cl, .int .i64 h.boot, .int .i64 h.next, .slice ar h.opn.length cr], .slice none 0 0, .int .i64 9]) (by simp [results, Try.results111, go_sem, p0, p1, p2, p3]) rfl ?_
  have G7 := G1.out.grown g7 (fun q hq => by simp at hq; omega)
  rw [HE1.out, HE2.out, HE3.out]
  exact ⟨_, _, rfl, HV.out.mono (ov_in HC.out), Sl.nil _ _, G7⟩
 obtain ⟨e1, e2, e3⟩ := begin_go (P := P) (show fullE h = false from decide_eq_false (by omega))
 have HE1 := Lib.hid e1
 have HE2 := Lib.hid e2
 have HE3 := Lib.hid e3
 have hf1' : ¬ (11 : Int) < (h.opn.length : Int) := by omega
 have hw1 : IntKind.i64.wrap (64 * h.boot) = 64 * h.boot := IntWalk.i64_in _ (by omega)
 have hw2 : IntKind.i64.wrap (64 * h.boot + h.next) = 64 * h.boot + h.next := IntWalk.i64_in _ (by omega)
 have hw3 : IntKind.i64.wrap (h.next + 1) = h.next + 1 := IntWalk.i64_in _ (by omega)
 have HDI : Hid (I64 (64 * h.boot + h.next)) := Lib.hid (i64_of (by omega) (by omega))
 have HNI : Hid (I64 (h.next + 1)) := Lib.hid (i64_of (by omega) (by omega))
 clear e1 e2 e3 hf1
 go_enter Try.func111, Try.ntmps111
 go_upto_region 1 with fail
 rw [← hwa]
 try rw [hsz]
 rw [← hwz]
 clear hwa hwz hsz
 obtain ⟨c0, c1, c2, c3⟩ := cells4 R1.out
 have z1 : w.heap.size < wz.heap.size := (Array.getElem?_eq_some_iff.1 R1.out).1
 go_upto_region 4 with fail
 obtain ⟨dd, hdd⟩ : ∃ x, x = 64 * h.boot + h.next := ⟨_, rfl⟩
 rw [← hdd] at HDI ⊢
 have HDD := Lib.hid hdd
 obtain ⟨wo3, hwo⟩ : ∃ y : World, y = wz.alloc (.cells #[.int .i64 dd, .slice ap P.length cp, .bool false, .slice none 0 0] 136) := ⟨_, rfl⟩
 have R7 : Hid (wo3.heap[w.heap.size + 2]? = some (.cells #[.int .i64 dd, .slice ap P.length cp, .bool false, .slice none 0 0] 136 (0, 0))) := Lib.hid (by rw [hwo, ← HZ.out]; exact row_new _ _)
 have GZ : Hid (Grow wz wo3) := Lib.hid (by rw [hwo]; exact (Grow.refl _).alloc _)
 have HZ3 : Hid (wo3.heap.size = w.heap.size + 3) := Lib.hid (by rw [hwo]; simp [HZ.out])
 rw [← hwo]
 try rw [HZ.out]
 clear hwo hdd hw1 hw2 c0 c1 c2 c3
 have R13 := Lib.hid (row_grow R1.out GZ.out)
 have R23 := Lib.hid (row_grow R2.out GZ.out)
 have GW3 := Lib.hid (G1.out.trans GZ.out)
 have HS : Hid (∀ W, Grow wo3 W → W.cell? ⟨w.heap.size, 3, none⟩ = some (.slice ar h.opn.length cr) ∧ W.cell? ⟨w.heap.size + 2, 0, none⟩ = some (.int .i64 dd) ∧ W.cell? ⟨w.heap.size + 2, 1, none⟩ = some (.slice ap P.length cp) ∧ W.cell? ⟨w.heap.size + 2, 2, none⟩ = some (.bool false) ∧ W.cell? ⟨w.heap.size + 2, 3, none⟩ = some (.slice none 0 0)) := fun W hW => by
  obtain ⟨-, -, -, k3⟩ := cells4 (row_grow R13.out hW)
  obtain ⟨j0, j1, j2, j3⟩ := cells4 (row_grow R7.out hW)
  exact ⟨k3, j0, j1, j2, j3⟩
 have HSRC := Lib.hid (fun (W : World) (hW : Grow wo3 W) => Src.of_sl_c (T := Ty.opn) (by decide) (HC.out.trans (GW3.out.trans hW).sub) HOG.out)
 have HRO : Hid (Ty.opn.R c [.int .i64 dd, .slice ap P.length cp, .bool false, .slice none 0 0] ⟨dd, P, false, []⟩) := Lib.hid ⟨_, _, rfl, HDI.out, HPG.out, Sl.nil _ _⟩
 refine but_start (fun w' => w'.cell? ⟨w.heap.size, 3, none⟩ = some (.slice ar h.opn.length cr) ∧ w'.cell? ⟨w.heap.size + 2, 0, none⟩ = some (.int .i64 dd) ∧ w'.cell? ⟨w.heap.size + 2, 1, none⟩ = some (.slice ap P.length cp) ∧ w'.cell? ⟨w.heap.size + 2, 2, none⟩ = some (.bool false) ∧ w'.cell? ⟨w.heap.size + 2, 3, none⟩ = some (.slice none 0 0)) 8 (by kernel_rfl) ?_
 obtain ⟨wd, hWd⟩ : ∃ x : World, x = wo3.drew := ⟨_, rfl⟩
 rw [← hWd]
 have GD : Grow wo3 wd := by rw [hWd]; exact (Grow.refl _).drew
 have zD : wo3.heap.size = wd.heap.size := by rw [hWd]; rfl
 have ZD := Lib.hid zD
 clear hWd zD
 refine bLm [1, 2, 4] 12 (by kernel_rfl) (fun _ _ _ _ _ h => h) (HS.out _ GD) ?_
 repeat (refine tNm (v := ?_) rfl (by rfl) ?_ ?_; rotate_left; (· (intro w' hSw; (try dsimp only at hSw); obtain ⟨hs0, hs1, hs2, hs3, hs4⟩ := hSw; go_simp <;> with_reducible rfl)); try simp only [Act.put, lzA, lzB, lzC, lzD, lzE, lzF])
 refine tEm ?_
 refine bP 0 5 (by kernel_rfl) rfl rfl ?_ ?_
 ·intro K HK
  try simp only [lzA, lzC]
  go_simp
  refine HK.out _ _ ⟨fun _ => HS.out _ (GD.alloc _), ?_⟩
  clear HK K
  try simp only [Act.put, lzA, lzB, lzC, lzD, lzE, lzF]
  refine bP 3 5 (by kernel_rfl) rfl rfl ?_ ?_
  ·intro K HK
   refine wanted_go rfl ?_
   try simp only [lzA, lzB, lzC]
   refine wp_appc (l := []) (m := h.opn) (v := .slice (some ⟨wd.heap.size, 0, none⟩) 0 0) ei_opn rfl one_Topn (by decide) (.tmp 26) (.tmp 28) rfl rfl ((OwnC.made0 Ty.opn c _ wo3.heap.size _ (by have := ZD.out; (try simp); omega) (by simp))) rfl (HSRC.out _ (GD.alloc _)) (by have := HL12.out; simp; omega) (GD.alloc _).size ?_
   intro a3 c3 q3 ho3 hg3 hb3
   try simp only [List.length_nil, Nat.zero_add, List.nil_append] at ho3
   try simp only [List.length_nil, Nat.zero_add] at hb3
   try simp only [List.length_nil, Nat.zero_add]
   have G3 := grow_by (w0 := wo3) (GD.alloc _) hg3 (own_at (by have := ZD.out; (try simp); omega))
   have B3 := Lib.hid (own_new (B := wo3.heap.size) (GD.alloc _).size hb3 (own_at (by have := ZD.out; (try simp); omega)))
   have HO3 := Lib.hid ho3
   have HG3 := Lib.hid hg3
   clear ho3 hg3 hb3
   refine HK.out _ _ ⟨fun _ => HS.out _ G3, ?_⟩
   clear HK K
   try simp only [Act.put, lzD, lzE, lzF]
   refine bO 5 (by kernel_rfl) rfl ?_
   intro K HK
   try simp only [lzA, lzB, lzC]
   go_simp
   refine HK.out _ _ ⟨fun _ => HS.out _ (G3.alloc _), ?_⟩
   clear HK K
   try simp only [Act.put, lzA, lzB, lzC, lzD, lzE, lzF]
   refine bO 6 (by kernel_rfl) rfl ?_
   intro K HK
   refine wanted_go rfl ?_
   try simp only [lzA, lzB, lzC]
   refine wp_appc (l := h.opn) (m := [⟨dd, P, false, []⟩]) (v := .slice a3 (h.opn.length) c3) ei_opn rfl one_Topn (by decide) (.tmp 29) (.tmp 31) rfl rfl ((HO3.out).grow ((Grow.refl _).alloc _)) rfl ((Src.of_new (T := Ty.opn) (x := ⟨dd, P, false, []⟩) (c := c) (cs := #[.int .i64 dd, .slice ap P.length cp, .bool false, .slice none 0 0]) HRO.out _ _ (by simp))) (by have := HL12.out; simp; omega) (G3.alloc _).size ?_
   intro a6 c6 q6 ho6 hg6 hb6
   try simp only [List.length_nil, List.length_cons, Nat.zero_add] at ho6
   try simp only [List.length_nil, List.length_cons, Nat.zero_add] at hb6
   try simp only [List.length_nil, List.length_cons, Nat.zero_add]
   have G6 := grow_by (w0 := wo3) (G3.alloc _) hg6 B3.out
   have B6 := Lib.hid (own_new (B := wo3.heap.size) (G3.alloc _).size hb6 B3.out)
   have HO6 := Lib.hid ho6
   have HG6 := Lib.hid hg6
   clear ho6 hg6 hb6
   refine HK.out _ _ ⟨fun _ => HS.out _ G6, ?_⟩
   clear HK K
   try simp only [Act.put, lzD, lzE, lzF]
   refine bO 7 (by kernel_rfl) rfl ?_
   intro K HK
   try simp only [lzA, lzB, lzC]
   go_simp
   refine HK.out _ _ ⟨fun _ => HS.out _ G6, ?_⟩
   clear HK K
   try simp only [Act.put, lzA, lzB, lzC, lzD, lzE, lzF]
   refine bO 8 (by kernel_rfl) rfl ?_
   intro K HK
   refine wanted_go rfl ?_
   try simp only [lzA, lzB, lzC]
   refine wp_store_cell (.tmp 33) (.tmp 32) (v := .slice a6 (h.opn.length + 1) c6) (new := #[.slice al h.log.length cl, .int .i64 h.boot, .int .i64 h.next, .slice a6 (h.opn.length + 1) c6]) rfl rfl (by rfl) (by rfl) (row_grow R13.out G6) info_opns (by simp) (by rfl) (by rfl) ?_
   intro w8 r8 g8
   have HR8 := Lib.hid r8
   have HG8 := Lib.hid g8
   have HO8 := Lib.hid (HO6.out.kept g8 (own_apart HO6.out (by have := HZ3.out; omega)))
   have GG6 := Lib.hid G6
   clear r8 g8
   refine HK.out _ _ ⟨fun h => absurd rfl h, ?_⟩
   clear HK K
   try simp only [Act.put]
   refine but_done (by kernel_rfl) ?_
   go_upto_region 5 with fail
   have G8 := Lib.hid ((GW3.out.trans GG6.out).grown HG8.out (fun q hq => by simp at hq; omega))
   have R28 := Lib.hid (row_by (row_grow R23.out GG6.out) HG8.out (by intro e; have := Option.some.inj e; omega))
   have R78 := Lib.hid (row_by (row_grow R7.out GG6.out) HG8.out (by intro e; have := Option.some.inj e; omega))
   obtain ⟨c0, c1, c2, c3⟩ := cells4 HR8.out
   have z8 : w.heap.size < w8.heap.size := (Array.getElem?_eq_some_iff.1 HR8.out).1
   go_wp2_with (first | (refine wpList_store_cell rfl (.tmp 37) (.tmp 36) (v := .int .i64 (h.next + 1)) (new := #[.slice al h.log.length cl, .int .i64 h.boot, .int .i64 (h.next + 1), .slice a6 (h.opn.length + 1) c6]) rfl rfl (by rfl) (by rfl) HR8.out info_int1 (by simp) (by rfl) (by rfl) ?_))
   intro w9 r9 g9
   have R9 := Lib.hid r9
   have G9 := Lib.hid (G8.out.grown g9 (fun q hq => by simp at hq; omega))
   have R29 := Lib.hid (row_by R28.out g9 (by intro e; have := Option.some.inj e; omega))
   have R79 := Lib.hid (row_by R78.out g9 (by intro e; have := Option.some.inj e; omega))
   have HO9 := Lib.hid (HO8.out.kept g9 (own_apart HO8.out (by have := HZ3.out; omega)))
   clear r9 g9 c0 c1 c2 c3
   have HAS := Lib.hid (fun (W : World) (hW : Grow w9 W) => ref_asks (v := .agg #[.int .i64 dd, .slice ap P.length cp, .bool false, .slice none 0 0]) (o := ⟨dd, P, false, []⟩) W ⟨_, rfl, _, _, rfl, HDI.out, HPG.out.mono (HC.out.trans (G9.out.trans hW).sub), Sl.nil _ _⟩ (by show P.length * 24 ≤ _; omega))
   have HS9 : Hid (∀ W, Grow w9 W → W.cell? ⟨w.heap.size, 0, none⟩ = some (.slice al h.log.length cl) ∧ W.cell? ⟨w.heap.size, 1, none⟩ = some (.int .i64 h.boot) ∧ W.cell? ⟨w.heap.size, 2, none⟩ = some (.int .i64 (h.next + 1)) ∧ W.cell? ⟨w.heap.size, 3, none⟩ = some (.slice a6 (h.opn.length + 1) c6) ∧ W.cell? ⟨w.heap.size + 2, 0, none⟩ = some (.int .i64 dd) ∧ W.cell? ⟨w.heap.size + 2, 1, none⟩ = some (.slice ap P.length cp) ∧ W.cell? ⟨w.heap.size + 2, 2, none⟩ = some (.bool false) ∧ W.cell? ⟨w.heap.size + 2, 3, none⟩ = some (.slice none 0 0)) := fun W hW => by
    obtain ⟨k0, k1, k2, k3⟩ := cells4 (row_grow R9.out hW)
    obtain ⟨j0, j1, j2, j3⟩ := cells4 (row_grow R79.out hW)
    exact ⟨k0, k1, k2, k3, j0, j1, j2, j3⟩
   go_upto_region 6 with fail
   refine but_start (fun w' => w'.cell? ⟨w.heap.size, 0, none⟩ = some (.slice al h.log.length cl) ∧ w'.cell? ⟨w.heap.size, 1, none⟩ = some (.int .i64 h.boot) ∧ w'.cell? ⟨w.heap.size, 2, none⟩ = some (.int .i64 (h.next + 1)) ∧ w'.cell? ⟨w.heap.size, 3, none⟩ = some (.slice a6 (h.opn.length + 1) c6) ∧ w'.cell? ⟨w.heap.size + 2, 0, none⟩ = some (.int .i64 dd) ∧ w'.cell? ⟨w.heap.size + 2, 1, none⟩ = some (.slice ap P.length cp) ∧ w'.cell? ⟨w.heap.size + 2, 2, none⟩ = some (.bool false) ∧ w'.cell? ⟨w.heap.size + 2, 3, none⟩ = some (.slice none 0 0)) 5 (by kernel_rfl) ?_
   obtain ⟨we, hWd⟩ : ∃ x : World, x = w9.drew := ⟨_, rfl⟩
   rw [← hWd]
   have GE : Grow w9 we := by rw [hWd]; exact (Grow.refl _).drew
   have zD : w9.heap.size = we.heap.size := by rw [hWd]; rfl
   have ZD := Lib.hid zD
   clear hWd zD
   have ZE6 : Hid (w9.heap.size ≤ we.heap.size) := Lib.hid GE.size
   refine bLm [0] 8 (by kernel_rfl) (fun _ _ _ _ _ h => h) (HS9.out _ GE) ?_
   repeat (refine tNm (v := ?_) rfl (by rfl) ?_ ?_; rotate_left; (· (intro w' hSw; (try dsimp only at hSw); obtain ⟨hs0, hs1, hs2, hs3, hs4, hs5, hs6, hs7⟩ := hSw; go_simp <;> with_reducible rfl)); try simp only [Act.put, lzA, lzC, lzD, lzE, lzF])
   refine tEm ?_
   refine bLm [1] 8 (by kernel_rfl) (fun _ _ _ _ _ h => h) (HS9.out _ GE) ?_
   repeat (refine tNm (v := ?_) rfl (by rfl) ?_ ?_; rotate_left; (· (intro w' hSw; (try dsimp only at hSw); obtain ⟨hs0, hs1, hs2, hs3, hs4, hs5, hs6, hs7⟩ := hSw; go_simp <;> with_reducible rfl)); try simp only [Act.put, lzA, lzB, lzC, lzD, lzE, lzF])
   refine tEm ?_
   refine bO 2 (by kernel_rfl) rfl ?_
   intro K HK
   try simp only [lzA, lzB, lzC]
   go_simp
   go_at_call 155
   refine (HAS.out _ GE).mono ?_
   rintro e10 w10 ⟨v10, rfl, ho10, hb10⟩
   obtain ⟨a10, c10, rfl⟩ := ho10.form
   have HO10 := Lib.hid ho10
   have G10 := Lib.hid (Grow.trans GE hb10)
   clear ho10 hb10
   generalize hqa : asksE ⟨dd, P, false, []⟩ = qa at *
   have HQA := Lib.hid hqa
   clear hqa
   refine HK.out _ _ ⟨fun _ => HS9.out _ G10.out, ?_⟩
   clear HK K
   try simp only [Act.put, lzA, lzB, lzC, lzD, lzE, lzF]
   refine bO 3 (by kernel_rfl) rfl ?_
   intro K HK
   refine wanted_go rfl ?_
   try simp only [lzA, lzB, lzC]
   refine wp_store_row (.tmp 4) (.tmp 38) rfl rfl rfl (row_grow R29.out G10.out) info_hd rfl rfl ?_
   intro w7 r7 g7
   have HR7 := Lib.hid r7
   have HG7 := Lib.hid g7
   clear r7 g7
   have HS7 : Hid (w7.cell? ⟨w.heap.size, 0, none⟩ = some (.slice al h.log.length cl) ∧ w7.cell? ⟨w.heap.size, 1, none⟩ = some (.int .i64 h.boot) ∧ w7.cell? ⟨w.heap.size, 2, none⟩ = some (.int .i64 (h.next + 1)) ∧ w7.cell? ⟨w.heap.size, 3, none⟩ = some (.slice a6 (h.opn.length + 1) c6) ∧ w7.cell? ⟨w.heap.size + 2, 0, none⟩ = some (.int .i64 dd) ∧ w7.cell? ⟨w.heap.size + 2, 1, none⟩ = some (.slice ap P.length cp) ∧ w7.cell? ⟨w.heap.size + 2, 2, none⟩ = some (.bool false) ∧ w7.cell? ⟨w.heap.size + 2, 3, none⟩ = some (.slice none 0 0)) := Lib.hid (by obtain ⟨k0, k1, k2, k3, k4, k5, k6, k7⟩ := HS9.out _ G10.out; exact ⟨cell_past k0 HG7.out (by show w.heap.size ≠ _; omega), cell_past k1 HG7.out (by show w.heap.size ≠ _; omega), cell_past k2 HG7.out (by show w.heap.size ≠ _; omega), cell_past k3 HG7.out (by show w.heap.size ≠ _; omega), cell_past k4 HG7.out (by show w.heap.size + 2 ≠ _; omega), cell_past k5 HG7.out (by show w.heap.size + 2 ≠ _; omega), cell_past k6 HG7.out (by show w.heap.size + 2 ≠ _; omega), cell_past k7 HG7.out (by show w.heap.size + 2 ≠ _; omega)⟩)
   refine HK.out _ _ ⟨fun _ => HS7.out, ?_⟩
   clear HK K
   try simp only [Act.put]
   refine bO 4 (by kernel_rfl) rfl ?_
   intro K HK
   try simp only [lzA, lzB, lzC]
   go_simp
   refine HK.out _ _ ⟨fun _ => HS7.out, ?_⟩
   clear HK K
   try simp only [Act.put, lzA, lzB, lzC, lzD, lzE, lzF]
   refine bO 5 (by kernel_rfl) rfl ?_
   intro K HK
   try simp only [lzA, lzB, lzC]
   go_simp
   refine HK.out _ _ ⟨fun h => absurd rfl h, ?_⟩
   clear HK K
   try simp only [Act.put, lzA, lzB, lzC, lzD, lzE, lzF]
   refine but_done (by kernel_rfl) ?_
   obtain ⟨p0, p1, p2, p3⟩ := cells4 HR7.out
   go_wp2
   refine bodyPost_ret (v := .tuple #[.agg #[.slice al h.log.length cl, .int .i64 h.boot, .int .i64 (h.next + 1), .slice a6 (h.opn.length + 1) c6], .slice a10 qa.length c10, .int .i64 0]) (by simp [results, Try.results111, go_sem, p0, p1, p2, p3]) rfl ?_
   have G7 := (G9.out.trans G10.out).grown HG7.out (fun q hq => by simp at hq; omega)
   rw [HE1.out, HE2.out, HE3.out]
   refine ⟨_, _, rfl, ⟨_, rfl, _, _, rfl, HLG.out.mono (ov_in HC.out), HIB.out.1, HNI.out, ?_⟩, ?_, G7⟩
   ·have h9 := (HO9.out.grow G10.out).kept HG7.out (own_apart (HO9.out.grow G10.out) (by have := HZ3.out; omega))
    have h8 := OwnC.slc (d := ov c w w7) (by decide) h9 (ov_in HC.out) fun a ha => ov_new (by have := HZ3.out; omega)
    have e8 : newO h P = ⟨dd, P, false, []⟩ := by unfold newO; rw [← HDD.out]
    rw [e8]
    exact h8
   ·rw [show newO h P = ⟨dd, P, false, []⟩ by unfold newO; rw [← HDD.out], HQA.out]
    refine OwnC.slc (d := ov c w w7) (by decide) (HO10.out.kept HG7.out (own_apart HO10.out (by have := (Array.getElem?_eq_some_iff.1 R79.out).1; have := ZE6.out; omega))) (fun a v e => ?_) fun a ha => ov_new (by have := (Array.getElem?_eq_some_iff.1 R79.out).1; have := ZE6.out; omega)
    unfold fr at e
    split at e
    ·cases e
    ·rename_i hn
     have h1 : ¬ a.block < we.heap.size := fun hx => hn (.inl hx)
     have := (Array.getElem?_eq_some_iff.1 R79.out).1
     have := ZE6.out
     rw [ov_new (by omega)]
     exact cell_past e HG7.out (by omega)
  ·intro K HK
   try simp only [lzA, lzB, lzC]
   go_simp
   refine HK.out _ _ ⟨fun _ => HS.out _ ((GD.alloc _).alloc _), ?_⟩
   clear HK K
   try simp only [Act.put, lzA, lzB, lzC, lzD, lzE, lzF]
   refine bO 3 (by kernel_rfl) rfl ?_
   intro K HK
   refine wanted_go rfl ?_
   try simp only [lzA, lzB, lzC]
   refine wp_appc (l := []) (m := h.opn) (v := .slice (some ⟨wd.heap.size, 0, none⟩) 0 0) ei_opn rfl one_Topn (by decide) (.tmp 26) (.tmp 28) rfl rfl (((OwnC.made0 Ty.opn c _ wo3.heap.size _ (by have := ZD.out; (try simp); omega) (by simp))).grow ((Grow.refl _).alloc _)) rfl (HSRC.out _ ((GD.alloc _).alloc _)) (by have := HL12.out; simp; omega) ((GD.alloc _).alloc _).size ?_
   intro a3 c3 q3 ho3 hg3 hb3
   try simp only [List.length_nil, Nat.zero_add, List.nil_append] at ho3
   try simp only [List.length_nil, Nat.zero_add] at hb3
   try simp only [List.length_nil, Nat.zero_add]
   have G3 := grow_by (w0 := wo3) ((GD.alloc _).alloc _) hg3 (own_at (by have := ZD.out; (try simp); omega))
   have B3 := Lib.hid (own_new (B := wo3.heap.size) ((GD.alloc _).alloc _).size hb3 (own_at (by have := ZD.out; (try simp); omega)))
   have HO3 := Lib.hid ho3
   have HG3 := Lib.hid hg3
   clear ho3 hg3 hb3
   refine HK.out _ _ ⟨fun _ => HS.out _ G3, ?_⟩
   clear HK K
   try simp only [Act.put, lzD, lzE, lzF]
   refine bO 6 (by kernel_rfl) rfl ?_
   intro K HK
   refine wanted_go rfl ?_
   try simp only [lzA, lzB, lzC]
   refine wp_appc (l := h.opn) (m := [⟨dd, P, false, []⟩]) (v := .slice a3 (h.opn.length) c3) ei_opn rfl one_Topn (by decide) (.tmp 29) (.tmp 31) rfl rfl (HO3.out) rfl (((Src.of_new (T := Ty.opn) (x := ⟨dd, P, false, []⟩) (c := c) (cs := #[.int .i64 dd, .slice ap P.length cp, .bool false, .slice none 0 0]) HRO.out _ _ (by simp))).kept HG3.out (by simp [Value.ownBlock])) (by have := HL12.out; simp; omega) G3.size ?_
   intro a6 c6 q6 ho6 hg6 hb6
   try simp only [List.length_nil, List.length_cons, Nat.zero_add] at ho6
   try simp only [List.length_nil, List.length_cons, Nat.zero_add] at hb6
   try simp only [List.length_nil, List.length_cons, Nat.zero_add]
   have G6 := grow_by (w0 := wo3) G3 hg6 B3.out
   have B6 := Lib.hid (own_new (B := wo3.heap.size) G3.size hb6 B3.out)
   have HO6 := Lib.hid ho6
   have HG6 := Lib.hid hg6
   clear ho6 hg6 hb6
   refine HK.out _ _ ⟨fun _ => HS.out _ G6, ?_⟩
   clear HK K
   try simp only [Act.put, lzD, lzE, lzF]
   refine bO 7 (by kernel_rfl) rfl ?_
   intro K HK
   try simp only [lzA, lzB, lzC]
   go_simp
   refine HK.out _ _ ⟨fun _ => HS.out _ G6, ?_⟩
   clear HK K
   try simp only [Act.put, lzA, lzB, lzC, lzD, lzE, lzF]
   refine bO 8 (by kernel_rfl) rfl ?_
   intro K HK
   refine wanted_go rfl ?_
   try simp only [lzA, lzB, lzC]
   refine wp_store_cell (.tmp 33) (.tmp 32) (v := .slice a6 (h.opn.length + 1) c6) (new := #[.slice al h.log.length cl, .int .i64 h.boot, .int .i64 h.next, .slice a6 (h.opn.length + 1) c6]) rfl rfl (by rfl) (by rfl) (row_grow R13.out G6) info_opns (by simp) (by rfl) (by rfl) ?_
   intro w8 r8 g8
   have HR8 := Lib.hid r8
   have HG8 := Lib.hid g8
   have HO8 := Lib.hid (HO6.out.kept g8 (own_apart HO6.out (by have := HZ3.out; omega)))
   have GG6 := Lib.hid G6
   clear r8 g8
   refine HK.out _ _ ⟨fun h => absurd rfl h, ?_⟩
   clear HK K
   try simp only [Act.put]
   refine but_done (by kernel_rfl) ?_
   go_upto_region 5 with fail
   have G8 := Lib.hid ((GW3.out.trans GG6.out).grown HG8.out (fun q hq => by simp at hq; omega))
   have R28 := Lib.hid (row_by (row_grow R23.out GG6.out) HG8.out (by intro e; have := Option.some.inj e; omega))
   have R78 := Lib.hid (row_by (row_grow R7.out GG6.out) HG8.out (by intro e; have := Option.some.inj e; omega))
   obtain ⟨c0, c1, c2, c3⟩ := cells4 HR8.out
   have z8 : w.heap.size < w8.heap.size := (Array.getElem?_eq_some_iff.1 HR8.out).1
   go_wp2_with (first | (refine wpList_store_cell rfl (.tmp 37) (.tmp 36) (v := .int .i64 (h.next + 1)) (new := #[.slice al h.log.length cl, .int .i64 h.boot, .int .i64 (h.next + 1), .slice a6 (h.opn.length + 1) c6]) rfl rfl (by rfl) (by rfl) HR8.out info_int1 (by simp) (by rfl) (by rfl) ?_))
   intro w9 r9 g9
   have R9 := Lib.hid r9
   have G9 := Lib.hid (G8.out.grown g9 (fun q hq => by simp at hq; omega))
   have R29 := Lib.hid (row_by R28.out g9 (by intro e; have := Option.some.inj e; omega))
   have R79 := Lib.hid (row_by R78.out g9 (by intro e; have := Option.some.inj e; omega))
   have HO9 := Lib.hid (HO8.out.kept g9 (own_apart HO8.out (by have := HZ3.out; omega)))
   clear r9 g9 c0 c1 c2 c3
   have HAS := Lib.hid (fun (W : World) (hW : Grow w9 W) => ref_asks (v := .agg #[.int .i64 dd, .slice ap P.length cp, .bool false, .slice none 0 0]) (o := ⟨dd, P, false, []⟩) W ⟨_, rfl, _, _, rfl, HDI.out, HPG.out.mono (HC.out.trans (G9.out.trans hW).sub), Sl.nil _ _⟩ (by show P.length * 24 ≤ _; omega))
   have HS9 : Hid (∀ W, Grow w9 W → W.cell? ⟨w.heap.size, 0, none⟩ = some (.slice al h.log.length cl) ∧ W.cell? ⟨w.heap.size, 1, none⟩ = some (.int .i64 h.boot) ∧ W.cell? ⟨w.heap.size, 2, none⟩ = some (.int .i64 (h.next + 1)) ∧ W.cell? ⟨w.heap.size, 3, none⟩ = some (.slice a6 (h.opn.length + 1) c6) ∧ W.cell? ⟨w.heap.size + 2, 0, none⟩ = some (.int .i64 dd) ∧ W.cell? ⟨w.heap.size + 2, 1, none⟩ = some (.slice ap P.length cp) ∧ W.cell? ⟨w.heap.size + 2, 2, none⟩ = some (.bool false) ∧ W.cell? ⟨w.heap.size + 2, 3, none⟩ = some (.slice none 0 0)) := fun W hW => by
    obtain ⟨k0, k1, k2, k3⟩ := cells4 (row_grow R9.out hW)
    obtain ⟨j0, j1, j2, j3⟩ := cells4 (row_grow R79.out hW)
    exact ⟨k0, k1, k2, k3, j0, j1, j2, j3⟩
   go_upto_region 6 with fail
   refine but_start (fun w' => w'.cell? ⟨w.heap.size, 0, none⟩ = some (.slice al h.log.length cl) ∧ w'.cell? ⟨w.heap.size, 1, none⟩ = some (.int .i64 h.boot) ∧ w'.cell? ⟨w.heap.size, 2, none⟩ = some (.int .i64 (h.next + 1)) ∧ w'.cell? ⟨w.heap.size, 3, none⟩ = some (.slice a6 (h.opn.length + 1) c6) ∧ w'.cell? ⟨w.heap.size + 2, 0, none⟩ = some (.int .i64 dd) ∧ w'.cell? ⟨w.heap.size + 2, 1, none⟩ = some (.slice ap P.length cp) ∧ w'.cell? ⟨w.heap.size + 2, 2, none⟩ = some (.bool false) ∧ w'.cell? ⟨w.heap.size + 2, 3, none⟩ = some (.slice none 0 0)) 5 (by kernel_rfl) ?_
   obtain ⟨we, hWd⟩ : ∃ x : World, x = w9.drew := ⟨_, rfl⟩
   rw [← hWd]
   have GE : Grow w9 we := by rw [hWd]; exact (Grow.refl _).drew
   have zD : w9.heap.size = we.heap.size := by rw [hWd]; rfl
   have ZD := Lib.hid zD
   clear hWd zD
   have ZE6 : Hid (w9.heap.size ≤ we.heap.size) := Lib.hid GE.size
   refine bLm [0] 8 (by kernel_rfl) (fun _ _ _ _ _ h => h) (HS9.out _ GE) ?_
   repeat (refine tNm (v := ?_) rfl (by rfl) ?_ ?_; rotate_left; (· (intro w' hSw; (try dsimp only at hSw); obtain ⟨hs0, hs1, hs2, hs3, hs4, hs5, hs6, hs7⟩ := hSw; go_simp <;> with_reducible rfl)); try simp only [Act.put, lzA, lzC, lzD, lzE, lzF])
   refine tEm ?_
   refine bLm [1] 8 (by kernel_rfl) (fun _ _ _ _ _ h => h) (HS9.out _ GE) ?_
   repeat (refine tNm (v := ?_) rfl (by rfl) ?_ ?_; rotate_left; (· (intro w' hSw; (try dsimp only at hSw); obtain ⟨hs0, hs1, hs2, hs3, hs4, hs5, hs6, hs7⟩ := hSw; go_simp <;> with_reducible rfl)); try simp only [Act.put, lzA, lzB, lzC, lzD, lzE, lzF])
   refine tEm ?_
   refine bO 2 (by kernel_rfl) rfl ?_
   intro K HK
   try simp only [lzA, lzB, lzC]
   go_simp
   go_at_call 155
   refine (HAS.out _ GE).mono ?_
   rintro e10 w10 ⟨v10, rfl, ho10, hb10⟩
   obtain ⟨a10, c10, rfl⟩ := ho10.form
   have HO10 := Lib.hid ho10
   have G10 := Lib.hid (Grow.trans GE hb10)
   clear ho10 hb10
   generalize hqa : asksE ⟨dd, P, false, []⟩ = qa at *
   have HQA := Lib.hid hqa
   clear hqa
   refine HK.out _ _ ⟨fun _ => HS9.out _ G10.out, ?_⟩
   clear HK K
   try simp only [Act.put, lzA, lzB, lzC, lzD, lzE, lzF]
   refine bO 3 (by kernel_rfl) rfl ?_
   intro K HK
   refine wanted_go rfl ?_
   try simp only [lzA, lzB, lzC]
   refine wp_store_row (.tmp 4) (.tmp 38) rfl rfl rfl (row_grow R29.out G10.out) info_hd rfl rfl ?_
   intro w7 r7 g7
   have HR7 := Lib.hid r7
   have HG7 := Lib.hid g7
   clear r7 g7
   have HS7 : Hid (w7.cell? ⟨w.heap.size, 0, none⟩ = some (.slice al h.log.length cl) ∧ w7.cell? ⟨w.heap.size, 1, none⟩ = some (.int .i64 h.boot) ∧ w7.cell? ⟨w.heap.size, 2, none⟩ = some (.int .i64 (h.next + 1)) ∧ w7.cell? ⟨w.heap.size, 3, none⟩ = some (.slice a6 (h.opn.length + 1) c6) ∧ w7.cell? ⟨w.heap.size + 2, 0, none⟩ = some (.int .i64 dd) ∧ w7.cell? ⟨w.heap.size + 2, 1, none⟩ = some (.slice ap P.length cp) ∧ w7.cell? ⟨w.heap.size + 2, 2, none⟩ = some (.bool false) ∧ w7.cell? ⟨w.heap.size + 2, 3, none⟩ = some (.slice none 0 0)) := Lib.hid (by obtain ⟨k0, k1, k2, k3, k4, k5, k6, k7⟩ := HS9.out _ G10.out; exact ⟨cell_past k0 HG7.out (by show w.heap.size ≠ _; omega), cell_past k1 HG7.out (by show w.heap.size ≠ _; omega), cell_past k2 HG7.out (by show w.heap.size ≠ _; omega), cell_past k3 HG7.out (by show w.heap.size ≠ _; omega), cell_past k4 HG7.out (by show w.heap.size + 2 ≠ _; omega), cell_past k5 HG7.out (by show w.heap.size + 2 ≠ _; omega), cell_past k6 HG7.out (by show w.heap.size + 2 ≠ _; omega), cell_past k7 HG7.out (by show w.heap.size + 2 ≠ _; omega)⟩)
   refine HK.out _ _ ⟨fun _ => HS7.out, ?_⟩
   clear HK K
   try simp only [Act.put]
   refine bO 4 (by kernel_rfl) rfl ?_
   intro K HK
   try simp only [lzA, lzB, lzC]
   go_simp
   refine HK.out _ _ ⟨fun _ => HS7.out, ?_⟩
   clear HK K
   try simp only [Act.put, lzA, lzB, lzC, lzD, lzE, lzF]
   refine bO 5 (by kernel_rfl) rfl ?_
   intro K HK
   try simp only [lzA, lzB, lzC]
   go_simp
   refine HK.out _ _ ⟨fun h => absurd rfl h, ?_⟩
   clear HK K
   try simp only [Act.put, lzA, lzB, lzC, lzD, lzE, lzF]
   refine but_done (by kernel_rfl) ?_
   obtain ⟨p0, p1, p2, p3⟩ := cells4 HR7.out
   go_wp2
   refine bodyPost_ret (v := .tuple #[.agg #[.slice al h.log.length cl, .int .i64 h.boot, .int .i64 (h.next + 1), .slice a6 (h.opn.length + 1) c6], .slice a10 qa.length c10, .int .i64 0]) (by simp [results, Try.results111, go_sem, p0, p1, p2, p3]) rfl ?_
   have G7 := (G9.out.trans G10.out).grown HG7.out (fun q hq => by simp at hq; omega)
   rw [HE1.out, HE2.out, HE3.out]
   refine ⟨_, _, rfl, ⟨_, rfl, _, _, rfl, HLG.out.mono (ov_in HC.out), HIB.out.1, HNI.out, ?_⟩, ?_, G7⟩
   ·have h9 := (HO9.out.grow G10.out).kept HG7.out (own_apart (HO9.out.grow G10.out) (by have := HZ3.out; omega))
    have h8 := OwnC.slc (d := ov c w w7) (by decide) h9 (ov_in HC.out) fun a ha => ov_new (by have := HZ3.out; omega)
    have e8 : newO h P = ⟨dd, P, false, []⟩ := by unfold newO; rw [← HDD.out]
    rw [e8]
    exact h8
   ·rw [show newO h P = ⟨dd, P, false, []⟩ by unfold newO; rw [← HDD.out], HQA.out]
    refine OwnC.slc (d := ov c w w7) (by decide) (HO10.out.kept HG7.out (own_apart HO10.out (by have := (Array.getElem?_eq_some_iff.1 R79.out).1; have := ZE6.out; omega))) (fun a v e => ?_) fun a ha => ov_new (by have := (Array.getElem?_eq_some_iff.1 R79.out).1; have := ZE6.out; omega)
    unfold fr at e
    split at e
    ·cases e
    ·rename_i hn
     have h1 : ¬ a.block < we.heap.size := fun hx => hn (.inl hx)
     have := (Array.getElem?_eq_some_iff.1 R79.out).1
     have := ZE6.out
     rw [ov_new (by omega)]
     exact cell_past e HG7.out (by omega)
 ·intro K HK
  try simp only [lzA, lzB, lzC]
  go_simp
  refine HK.out _ _ ⟨fun _ => HS.out _ (GD.alloc _), ?_⟩
  clear HK K
  try simp only [Act.put, lzA, lzB, lzC, lzD, lzE, lzF]
  refine bO 0 (by kernel_rfl) rfl ?_
  intro K HK
  try simp only [lzA, lzC]
  go_simp
  refine HK.out _ _ ⟨fun _ => HS.out _ ((GD.alloc _).alloc _), ?_⟩
  clear HK K
  try simp only [Act.put, lzA, lzB, lzC, lzD, lzE, lzF]
  refine bO 3 (by kernel_rfl) rfl ?_
  intro K HK
  refine wanted_go rfl ?_
  try simp only [lzA, lzB, lzC]
  refine wp_appc (l := []) (m := h.opn) (v := .slice (some ⟨wd.heap.size + 1, 0, none⟩) 0 0) ei_opn rfl one_Topn (by decide) (.tmp 26) (.tmp 28) rfl rfl ((OwnC.made0 Ty.opn c _ wo3.heap.size _ (by have := ZD.out; (try simp); omega) (by simp))) rfl (HSRC.out _ ((GD.alloc _).alloc _)) (by have := HL12.out; simp; omega) ((GD.alloc _).alloc _).size ?_
  intro a3 c3 q3 ho3 hg3 hb3
  try simp only [List.length_nil, Nat.zero_add, List.nil_append] at ho3
  try simp only [List.length_nil, Nat.zero_add] at hb3
  try simp only [List.length_nil, Nat.zero_add]
  have G3 := grow_by (w0 := wo3) ((GD.alloc _).alloc _) hg3 (own_at (by have := ZD.out; (try simp); omega))
  have B3 := Lib.hid (own_new (B := wo3.heap.size) ((GD.alloc _).alloc _).size hb3 (own_at (by have := ZD.out; (try simp); omega)))
  have HO3 := Lib.hid ho3
  have HG3 := Lib.hid hg3
  clear ho3 hg3 hb3
  refine HK.out _ _ ⟨fun _ => HS.out _ G3, ?_⟩
  clear HK K
  try simp only [Act.put, lzD, lzE, lzF]
  refine bO 6 (by kernel_rfl) rfl ?_
  intro K HK
  refine wanted_go rfl ?_
  try simp only [lzA, lzB, lzC]
  refine wp_appc (l := h.opn) (m := [⟨dd, P, false, []⟩]) (v := .slice a3 (h.opn.length) c3) ei_opn rfl one_Topn (by decide) (.tmp 29) (.tmp 31) rfl rfl (HO3.out) rfl ((((Src.of_new (T := Ty.opn) (x := ⟨dd, P, false, []⟩) (c := c) (cs := #[.int .i64 dd, .slice ap P.length cp, .bool false, .slice none 0 0]) HRO.out _ _ (by simp))).grow ((Grow.refl _).alloc _)).kept HG3.out (by simp [Value.ownBlock])) (by have := HL12.out; simp; omega) G3.size ?_
  intro a6 c6 q6 ho6 hg6 hb6
  try simp only [List.length_nil, List.length_cons, Nat.zero_add] at ho6
  try simp only [List.length_nil, List.length_cons, Nat.zero_add] at hb6
  try simp only [List.length_nil, List.length_cons, Nat.zero_add]
  have G6 := grow_by (w0 := wo3) G3 hg6 B3.out
  have B6 := Lib.hid (own_new (B := wo3.heap.size) G3.size hb6 B3.out)
  have HO6 := Lib.hid ho6
  have HG6 := Lib.hid hg6
  clear ho6 hg6 hb6
  refine HK.out _ _ ⟨fun _ => HS.out _ G6, ?_⟩
  clear HK K
  try simp only [Act.put, lzD, lzE, lzF]
  refine bO 7 (by kernel_rfl) rfl ?_
  intro K HK
  try simp only [lzA, lzB, lzC]
  go_simp
  refine HK.out _ _ ⟨fun _ => HS.out _ G6, ?_⟩
  clear HK K
  try simp only [Act.put, lzA, lzB, lzC, lzD, lzE, lzF]
  refine bO 8 (by kernel_rfl) rfl ?_
  intro K HK
  refine wanted_go rfl ?_
  try simp only [lzA, lzB, lzC]
  refine wp_store_cell (.tmp 33) (.tmp 32) (v := .slice a6 (h.opn.length + 1) c6) (new := #[.slice al h.log.length cl, .int .i64 h.boot, .int .i64 h.next, .slice a6 (h.opn.length + 1) c6]) rfl rfl (by rfl) (by rfl) (row_grow R13.out G6) info_opns (by simp) (by rfl) (by rfl) ?_
  intro w8 r8 g8
  have HR8 := Lib.hid r8
  have HG8 := Lib.hid g8
  have HO8 := Lib.hid (HO6.out.kept g8 (own_apart HO6.out (by have := HZ3.out; omega)))
  have GG6 := Lib.hid G6
  clear r8 g8
  refine HK.out _ _ ⟨fun h => absurd rfl h, ?_⟩
  clear HK K
  try simp only [Act.put]
  refine but_done (by kernel_rfl) ?_
  go_upto_region 5 with fail
  have G8 := Lib.hid ((GW3.out.trans GG6.out).grown HG8.out (fun q hq => by simp at hq; omega))
  have R28 := Lib.hid (row_by (row_grow R23.out GG6.out) HG8.out (by intro e; have := Option.some.inj e; omega))
  have R78 := Lib.hid (row_by (row_grow R7.out GG6.out) HG8.out (by intro e; have := Option.some.inj e; omega))
  obtain ⟨c0, c1, c2, c3⟩ := cells4 HR8.out
  have z8 : w.heap.size < w8.heap.size := (Array.getElem?_eq_some_iff.1 HR8.out).1
  go_wp2_with (first | (refine wpList_store_cell rfl (.tmp 37) (.tmp 36) (v := .int .i64 (h.next + 1)) (new := #[.slice al h.log.length cl, .int .i64 h.boot, .int .i64 (h.next + 1), .slice a6 (h.opn.length + 1) c6]) rfl rfl (by rfl) (by rfl) HR8.out info_int1 (by simp) (by rfl) (by rfl) ?_))
  intro w9 r9 g9
  have R9 := Lib.hid r9
  have G9 := Lib.hid (G8.out.grown g9 (fun q hq => by simp at hq; omega))
  have R29 := Lib.hid (row_by R28.out g9 (by intro e; have := Option.some.inj e; omega))
  have R79 := Lib.hid (row_by R78.out g9 (by intro e; have := Option.some.inj e; omega))
  have HO9 := Lib.hid (HO8.out.kept g9 (own_apart HO8.out (by have := HZ3.out; omega)))
  clear r9 g9 c0 c1 c2 c3
  have HAS := Lib.hid (fun (W : World) (hW : Grow w9 W) => ref_asks (v := .agg #[.int .i64 dd, .slice ap P.length cp, .bool false, .slice none 0 0]) (o := ⟨dd, P, false, []⟩) W ⟨_, rfl, _, _, rfl, HDI.out, HPG.out.mono (HC.out.trans (G9.out.trans hW).sub), Sl.nil _ _⟩ (by show P.length * 24 ≤ _; omega))
  have HS9 : Hid (∀ W, Grow w9 W → W.cell? ⟨w.heap.size, 0, none⟩ = some (.slice al h.log.length cl) ∧ W.cell? ⟨w.heap.size, 1, none⟩ = some (.int .i64 h.boot) ∧ W.cell? ⟨w.heap.size, 2, none⟩ = some (.int .i64 (h.next + 1)) ∧ W.cell? ⟨w.heap.size, 3, none⟩ = some (.slice a6 (h.opn.length + 1) c6) ∧ W.cell? ⟨w.heap.size + 2, 0, none⟩ = some (.int .i64 dd) ∧ W.cell? ⟨w.heap.size + 2, 1, none⟩ = some (.slice ap P.length cp) ∧ W.cell? ⟨w.heap.size + 2, 2, none⟩ = some (.bool false) ∧ W.cell? ⟨w.heap.size + 2, 3, none⟩ = some (.slice none 0 0)) := fun W hW => by
   obtain ⟨k0, k1, k2, k3⟩ := cells4 (row_grow R9.out hW)
   obtain ⟨j0, j1, j2, j3⟩ := cells4 (row_grow R79.out hW)
   exact ⟨k0, k1, k2, k3, j0, j1, j2, j3⟩
  go_upto_region 6 with fail
  refine but_start (fun w' => w'.cell? ⟨w.heap.size, 0, none⟩ = some (.slice al h.log.length cl) ∧ w'.cell? ⟨w.heap.size, 1, none⟩ = some (.int .i64 h.boot) ∧ w'.cell? ⟨w.heap.size, 2, none⟩ = some (.int .i64 (h.next + 1)) ∧ w'.cell? ⟨w.heap.size, 3, none⟩ = some (.slice a6 (h.opn.length + 1) c6) ∧ w'.cell? ⟨w.heap.size + 2, 0, none⟩ = some (.int .i64 dd) ∧ w'.cell? ⟨w.heap.size + 2, 1, none⟩ = some (.slice ap P.length cp) ∧ w'.cell? ⟨w.heap.size + 2, 2, none⟩ = some (.bool false) ∧ w'.cell? ⟨w.heap.size + 2, 3, none⟩ = some (.slice none 0 0)) 5 (by kernel_rfl) ?_
  obtain ⟨we, hWd⟩ : ∃ x : World, x = w9.drew := ⟨_, rfl⟩
  rw [← hWd]
  have GE : Grow w9 we := by rw [hWd]; exact (Grow.refl _).drew
  have zD : w9.heap.size = we.heap.size := by rw [hWd]; rfl
  have ZD := Lib.hid zD
  clear hWd zD
  have ZE6 : Hid (w9.heap.size ≤ we.heap.size) := Lib.hid GE.size
  refine bLm [0] 8 (by kernel_rfl) (fun _ _ _ _ _ h => h) (HS9.out _ GE) ?_
  repeat (refine tNm (v := ?_) rfl (by rfl) ?_ ?_; rotate_left; (· (intro w' hSw; (try dsimp only at hSw); obtain ⟨hs0, hs1, hs2, hs3, hs4, hs5, hs6, hs7⟩ := hSw; go_simp <;> with_reducible rfl)); try simp only [Act.put, lzA, lzC, lzD, lzE, lzF])
  refine tEm ?_
  refine bLm [1] 8 (by kernel_rfl) (fun _ _ _ _ _ h => h) (HS9.out _ GE) ?_
  repeat (refine tNm (v := ?_) rfl (by rfl) ?_ ?_; rotate_left; (· (intro w' hSw; (try dsimp only at hSw); obtain ⟨hs0, hs1, hs2, hs3, hs4, hs5, hs6, hs7⟩ := hSw; go_simp <;> with_reducible rfl)); try simp only [Act.put, lzA, lzB, lzC, lzD, lzE, lzF])
  refine tEm ?_
  refine bO 2 (by kernel_rfl) rfl ?_
  intro K HK
  try simp only [lzA, lzB, lzC]
  go_simp
  go_at_call 155
  refine (HAS.out _ GE).mono ?_
  rintro e10 w10 ⟨v10, rfl, ho10, hb10⟩
  obtain ⟨a10, c10, rfl⟩ := ho10.form
  have HO10 := Lib.hid ho10
  have G10 := Lib.hid (Grow.trans GE hb10)
  clear ho10 hb10
  generalize hqa : asksE ⟨dd, P, false, []⟩ = qa at *
  have HQA := Lib.hid hqa
  clear hqa
  refine HK.out _ _ ⟨fun _ => HS9.out _ G10.out, ?_⟩
  clear HK K
  try simp only [Act.put, lzA, lzB, lzC, lzD, lzE, lzF]
  refine bO 3 (by kernel_rfl) rfl ?_
  intro K HK
  refine wanted_go rfl ?_
  try simp only [lzA, lzB, lzC]
  refine wp_store_row (.tmp 4) (.tmp 38) rfl rfl rfl (row_grow R29.out G10.out) info_hd rfl rfl ?_
  intro w7 r7 g7
  have HR7 := Lib.hid r7
  have HG7 := Lib.hid g7
  clear r7 g7
  have HS7 : Hid (w7.cell? ⟨w.heap.size, 0, none⟩ = some (.slice al h.log.length cl) ∧ w7.cell? ⟨w.heap.size, 1, none⟩ = some (.int .i64 h.boot) ∧ w7.cell? ⟨w.heap.size, 2, none⟩ = some (.int .i64 (h.next + 1)) ∧ w7.cell? ⟨w.heap.size, 3, none⟩ = some (.slice a6 (h.opn.length + 1) c6) ∧ w7.cell? ⟨w.heap.size + 2, 0, none⟩ = some (.int .i64 dd) ∧ w7.cell? ⟨w.heap.size + 2, 1, none⟩ = some (.slice ap P.length cp) ∧ w7.cell? ⟨w.heap.size + 2, 2, none⟩ = some (.bool false) ∧ w7.cell? ⟨w.heap.size + 2, 3, none⟩ = some (.slice none 0 0)) := Lib.hid (by obtain ⟨k0, k1, k2, k3, k4, k5, k6, k7⟩ := HS9.out _ G10.out; exact ⟨cell_past k0 HG7.out (by show w.heap.size ≠ _; omega), cell_past k1 HG7.out (by show w.heap.size ≠ _; omega), cell_past k2 HG7.out (by show w.heap.size ≠ _; omega), cell_past k3 HG7.out (by show w.heap.size ≠ _; omega), cell_past k4 HG7.out (by show w.heap.size + 2 ≠ _; omega), cell_past k5 HG7.out (by show w.heap.size + 2 ≠ _; omega), cell_past k6 HG7.out (by show w.heap.size + 2 ≠ _; omega), cell_past k7 HG7.out (by show w.heap.size + 2 ≠ _; omega)⟩)
  refine HK.out _ _ ⟨fun _ => HS7.out, ?_⟩
  clear HK K
  try simp only [Act.put]
  refine bO 4 (by kernel_rfl) rfl ?_
  intro K HK
  try simp only [lzA, lzB, lzC]
  go_simp
  refine HK.out _ _ ⟨fun _ => HS7.out, ?_⟩
  clear HK K
  try simp only [Act.put, lzA, lzB, lzC, lzD, lzE, lzF]
  refine bO 5 (by kernel_rfl) rfl ?_
  intro K HK
  try simp only [lzA, lzB, lzC]
  go_simp
  refine HK.out _ _ ⟨fun h => absurd rfl h, ?_⟩
  clear HK K
  try simp only [Act.put, lzA, lzB, lzC, lzD, lzE, lzF]
  refine but_done (by kernel_rfl) ?_
  obtain ⟨p0, p1, p2, p3⟩ := cells4 HR7.out
  go_wp2
  refine bodyPost_ret (v := .tuple #[.agg #[.slice al h.log.length cl, .int .i64 h.boot, .int .i64 (h.next + 1), .slice a6 (h.opn.length + 1) c6], .slice a10 qa.length c10, .int .i64 0]) (by simp [results, Try.results111, go_sem, p0, p1, p2, p3]) rfl ?_
  have G7 := (G9.out.trans G10.out).grown HG7.out (fun q hq => by simp at hq; omega)
  rw [HE1.out, HE2.out, HE3.out]
  refine ⟨_, _, rfl, ⟨_, rfl, _, _, rfl, HLG.out.mono (ov_in HC.out), HIB.out.1, HNI.out, ?_⟩, ?_, G7⟩
  ·have h9 := (HO9.out.grow G10.out).kept HG7.out (own_apart (HO9.out.grow G10.out) (by have := HZ3.out; omega))
   have h8 := OwnC.slc (d := ov c w w7) (by decide) h9 (ov_in HC.out) fun a ha => ov_new (by have := HZ3.out; omega)
   have e8 : newO h P = ⟨dd, P, false, []⟩ := by unfold newO; rw [← HDD.out]
   rw [e8]
   exact h8
  ·rw [show newO h P = ⟨dd, P, false, []⟩ by unfold newO; rw [← HDD.out], HQA.out]
   refine OwnC.slc (d := ov c w w7) (by decide) (HO10.out.kept HG7.out (own_apart HO10.out (by have := (Array.getElem?_eq_some_iff.1 R79.out).1; have := ZE6.out; omega))) (fun a v e => ?_) fun a ha => ov_new (by have := (Array.getElem?_eq_some_iff.1 R79.out).1; have := ZE6.out; omega)
   unfold fr at e
   split at e
   ·cases e
   ·rename_i hn
    have h1 : ¬ a.block < we.heap.size := fun hx => hn (.inl hx)
    have := (Array.getElem?_eq_some_iff.1 R79.out).1
    have := ZE6.out
    rw [ov_new (by omega)]
    exact cell_past e HG7.out (by omega)
def hsCells0 : List Value := [.slice none 0 0, .int .i64 0, .int .i64 0, .int .i64 0, .int .i64 0, .slice none 0 0, .slice none 0 0]
theorem hs0_cells (c : CM) : Ty.hs.R c hsCells0 hs0 := ⟨_, _, _, rfl, Sl.nil _ _, zero_ok, zero_ok, zero_ok, zero_ok, Sl.nil _ _, Sl.nil _ _⟩
theorem make_houses {n : Nat} (h : 1 ≤ n ∧ n ≤ 3) : ∃ cs : Array Value, (∀ w : World, (Instr.makeSlice 91 (.int .i64 n) (.int .i64 n)).run Try.prog w = .ok (.slice (some ⟨w.heap.size, 0, none⟩) n n) (w.alloc (.cells cs 29))) ∧
  ∀ (w : World), OwnC Ty.hs (fun _ => none) (w.alloc (.cells cs 29)) w.heap.size 29 (.slice (some ⟨w.heap.size, 0, none⟩) n n) (List.replicate n hs0) := by
 have key : ∀ (m : Nat) (cs : Array Value), m ≤ 3 → cs.toList = (List.replicate m hs0).flatMap (fun _ => hsCells0) → ∀ (w : World), OwnC Ty.hs (fun _ => none) (w.alloc (.cells cs 29)) w.heap.size 29 (.slice (some ⟨w.heap.size, 0, none⟩) m m) (List.replicate m hs0) := by
  intro m cs hm hc w
  have h1 := World.ownsRow_lit (base := w.heap.size) (e := 29) (size := 7) w cs m (Nat.le_refl _) (by unfold maxLen; omega) (by rw [← Array.length_toList, hc, flat_len (f := fun _ => hsCells0) (size := 7) (fun _ => rfl)]; simp)
  rw [hc] at h1
  exact OwnC.of_flat (T := Ty.hs) (f := fun _ => hsCells0) (c := fun _ => none) (l := List.replicate m hs0) (by rw [List.length_replicate]; exact h1) (fun x hx => by
   rw [List.eq_of_mem_replicate hx]
   exact hs0_cells _)
 obtain ⟨h1, h2⟩ := h
 match n, h1, h2 with
 | 1, _, _ => exact ⟨hsCells0.toArray, fun w => by kernel_rfl, key 1 _ (by decide) rfl⟩
 | 2, _, _ => exact ⟨(hsCells0 ++ hsCells0).toArray, fun w => by kernel_rfl, key 2 _ (by decide) rfl⟩
 | 3, _, _ => exact ⟨(hsCells0 ++ hsCells0 ++ hsCells0).toArray, fun w => by kernel_rfl, key 3 _ (by decide) rfl⟩
theorem ei_hs : EI Try.prog 91 29 7 104 := EI.mk' (z := .agg #[.slice none 0 0, .int .i64 0, .int .i64 0, .int .i64 0, .int .i64 0, .slice none 0 0, .slice none 0 0]) (by kernel_rfl) (by kernel_rfl) rfl (by decide) rfl
theorem info_wd : (Try.prog.info? 93).map (·.size) = some 6 := by kernel_rfl
theorem info_hss : (Try.prog.info? 91).map (·.size) = some 1 := by kernel_rfl
theorem info_nets : (Try.prog.info? 79).map (·.size) = some 1 := by kernel_rfl
set_option maxRecDepth 100000 in
set_option maxHeartbeats 4000000 in
theorem ref_with {c : CM} {v vh : Value} {x : AW} {h : Hs} {k : Nat} (w : World) (hc : Sub c w.cell?) (hv : Of Ty.wd c v x) (hh : Of Ty.hs c vh h) (hk : k < x.houses.length) (h3 : x.houses.length ≤ 3) :
  Calls Try.prog 167 #[v, .int .i64 k, vh] w fun e w' => ∃ v', e = .returned v' ∧ Of Ty.wd (ov c w w') v' { x with houses := x.houses.set k h } ∧ Grow w w' := by
 obtain ⟨al, cl, ao, co, ah, ch, an, cn, rfl⟩ := hv.wd_form
 obtain ⟨al2, cl2, ar2, cr2, ad2, cd2, rfl⟩ := hh.hs_form
 obtain ⟨q1, q2, q3⟩ := hv.wd_parts
 have HQ1 := Lib.hid q1
 have HQ2 := Lib.hid q2
 have HQ3 := Lib.hid q3
 have HHR : Hid (Ty.hs.R c [.slice al2 h.log.length cl2, .int .i64 h.sums.a, .int .i64 h.sums.b, .int .i64 h.sums.c, .int .i64 h.sums.d, .slice ar2 h.ready.length cr2, .slice ad2 h.done.length cd2] h) := Lib.hid (by obtain ⟨cs, he, hr⟩ := hh; cases he; exact hr)
 have HC := Lib.hid hc
 clear hv hh q1 q2 q3 hc
 obtain ⟨wa, hwa⟩ : ∃ y : World, y = w.alloc (.cells #[.slice al x.head.log.length cl, .int .i64 x.head.boot, .int .i64 x.head.next, .slice ao x.head.opn.length co, .slice ah x.houses.length ch, .slice an x.net.length cn] 93) := ⟨_, rfl⟩
 obtain ⟨wb, hwb⟩ : ∃ y : World, y = wa.alloc (.cells #[.slice al2 h.log.length cl2, .int .i64 h.sums.a, .int .i64 h.sums.b, .int .i64 h.sums.c, .int .i64 h.sums.d, .slice ar2 h.ready.length cr2, .slice ad2 h.done.length cd2] 29) := ⟨_, rfl⟩
 obtain ⟨wz, hwz⟩ : ∃ y : World, y = wb.alloc (.cells #[.slice none 0 0, .int .i64 0, .int .i64 0, .slice none 0 0, .slice none 0 0, .slice none 0 0] 93) := ⟨_, rfl⟩
 have hsa : wa.heap.size = w.heap.size + 1 := by rw [hwa]; simp
 have hsb : wb.heap.size = w.heap.size + 2 := by rw [hwb]; simp [hsa]
 have R3 : Hid (wz.heap[w.heap.size]? = some (.cells #[.slice al x.head.log.length cl, .int .i64 x.head.boot, .int .i64 x.head.next, .slice ao x.head.opn.length co, .slice ah x.houses.length ch, .slice an x.net.length cn] 93 (0, 0))) := Lib.hid (by rw [hwz, hwb, hwa]; exact heap_later (heap_later (row_new _ _) _) _)
 have R5 : Hid (wz.heap[w.heap.size + 1]? = some (.cells #[.slice al2 h.log.length cl2, .int .i64 h.sums.a, .int .i64 h.sums.b, .int .i64 h.sums.c, .int .i64 h.sums.d, .slice ar2 h.ready.length cr2, .slice ad2 h.done.length cd2] 29 (0, 0))) := Lib.hid (by rw [hwz, hwb, ← hsa]; exact heap_later (row_new _ _) _)
 have R6 : Hid (wz.heap[w.heap.size + 2]? = some (.cells #[.slice none 0 0, .int .i64 0, .int .i64 0, .slice none 0 0, .slice none 0 0, .slice none 0 0] 93 (0, 0))) := Lib.hid (by rw [hwz, ← hsb]; exact row_new _ _)
 have G1 : Hid (Grow w wz) := Lib.hid (by rw [hwz, hwb, hwa]; exact (((Grow.refl w).alloc _).alloc _).alloc _)
 have HZ : Hid (wz.heap.size = w.heap.size + 3) := Lib.hid (by rw [hwz]; simp [hsb])
 go_enter Try.func167, Try.ntmps167
 go_upto_region 1 with fail
 rw [← hwa]
 try rw [hsa]
 rw [← hwb]
 try rw [hsb]
 rw [← hwz]
 clear hwa hwb hwz hsa hsb
 obtain ⟨c0, c1, c2, c3, c4, c5⟩ := cells6 R3.out
 have z1 : w.heap.size < wz.heap.size := (Array.getElem?_eq_some_iff.1 R3.out).1
 go_wp2_with (first | (at_builtin; refine wpList_appc (c := c) (base := w.heap.size + 3) (l := []) (m := x.houses) (v := .slice (some ⟨wz.heap.size, 0, none⟩) 0 0) ei_hs rfl one_Ths (by decide) rfl (.tmp 7) (.tmp 9) rfl rfl (OwnC.made0 Ty.hs _ _ _ _ ?c1 ?c1') rfl ?src ?c3 ?c4 ?_))
 case c1 => rw [HZ.out]; exact Nat.le_refl _
 case c1' => rfl
 case src => exact Src.of_sl_c (by decide) (HC.out.trans (G1.out.alloc _).sub) HQ2.out
 case c3 => (try simp); omega
 case c4 => have := HZ.out; (try simp); omega
 intro a8 c8 w8 ho8 hg8 hb8
 try simp only [List.length_nil, Nat.zero_add, List.nil_append] at ho8
 try simp only [List.length_nil, Nat.zero_add]
 have HO8 := Lib.hid ho8
 have G8 := Lib.hid (grow_by (w0 := wz) ((Grow.refl wz).alloc _) hg8 (own_at (Nat.le_refl _)))
 have R38 := Lib.hid (row_grow R3.out G8.out)
 have R58 := Lib.hid (row_grow R5.out G8.out)
 have R68 := Lib.hid (row_grow R6.out G8.out)
 clear ho8 hg8 hb8 c0 c1 c2 c3 c4 c5 z1
 go_wp2_with (first | (refine wpList_store_cell rfl (.tmp 11) (.tmp 10) (v := .slice a8 x.houses.length c8) (new := #[.slice al x.head.log.length cl, .int .i64 x.head.boot, .int .i64 x.head.next, .slice ao x.head.opn.length co, .slice a8 x.houses.length c8, .slice an x.net.length cn]) rfl rfl (by rfl) (by rfl) R38.out info_hss (by simp) (by rfl) (by rfl) ?_))
 intro w9 r9 g9
 have R39 := Lib.hid r9
 have G9 := Lib.hid ((G1.out.trans G8.out).grown g9 (fun q hq => by simp at hq; omega))
 have R59 := Lib.hid (row_by R58.out g9 (by intro e; have := Option.some.inj e; omega))
 have R69 := Lib.hid (row_by R68.out g9 (by intro e; have := Option.some.inj e; omega))
 have HO9 := Lib.hid (HO8.out.kept g9 (own_apart HO8.out (by omega)))
 clear r9 g9
 obtain ⟨g, -, rfl, -, -⟩ := HO9.out.get (by decide) k hk
 obtain ⟨c0, c1, c2, c3, c4, c5⟩ := cells6 R39.out
 obtain ⟨d0, d1, d2, d3, d4, d5, d6⟩ := cells7 R59.out
 have z1 : w.heap.size < w9.heap.size := (Array.getElem?_eq_some_iff.1 R39.out).1
 have z2 : w.heap.size + 1 < w9.heap.size := (Array.getElem?_eq_some_iff.1 R59.out).1
 have hkc : (k : Int) < (x.houses.length : Int) := by omega
 go_wp2_with (first | (refine wpList_store_el (T := Ty.hs) (c := c) (base := w.heap.size + 3) (i := k) (l := x.houses) (x := h) (cells := #[.slice al2 h.log.length cl2, .int .i64 h.sums.a, .int .i64 h.sums.b, .int .i64 h.sums.c, .int .i64 h.sums.d, .slice ar2 h.ready.length cr2, .slice ad2 h.done.length cd2]) rfl (.tmp 16) (.tmp 15) rfl rfl (by rfl) ?ps HO9.out hk info_hs HHR.out rfl ?_))
 case ps => first | rfl | (simp [Ty.hs]; done) | (show _ = k * 7; omega)
 intro w10 ho10 g10
 have hgl := (HO9.out.lt g rfl).1
 have R310 := Lib.hid (row_by R39.out g10 (by intro e; have := Option.some.inj e; omega))
 have R610 := Lib.hid (row_by R69.out g10 (by intro e; have := Option.some.inj e; omega))
 have HO10 := Lib.hid ho10
 have G10 := Lib.hid (G9.out.grown g10 (fun q hq => by simp at hq; omega))
 clear ho10 g10 c0 c1 c2 c3 c4 c5 d0 d1 d2 d3 d4 d5 d6 z1 z2
 obtain ⟨c0, c1, c2, c3, c4, c5⟩ := cells6 R310.out
 have z1 : w.heap.size < w10.heap.size := (Array.getElem?_eq_some_iff.1 R310.out).1
 go_wp2_with (first | (refine wpList_store_row rfl (.tmp 6) (.tmp 17) rfl rfl rfl R610.out info_wd rfl rfl ?_))
 intro w7 r7 g7
 obtain ⟨p0, p1, p2, p3, p4, p5⟩ := cells6 r7
 clear c0 c1 c2 c3 c4 c5
 go_wp2
 refine bodyPost_ret (v := .agg #[.slice al x.head.log.length cl, .int .i64 x.head.boot, .int .i64 x.head.next, .slice ao x.head.opn.length co, .slice (some ⟨g, 0, none⟩) x.houses.length c8, .slice an x.net.length cn]) (by simp [results, Try.results167, go_sem, p0, p1, p2, p3, p4, p5]) rfl ?_
 have G7 := G10.out.grown g7 (fun q hq => by simp at hq; omega)
 refine ⟨_, rfl, Of.wd_mk (HQ1.out.mono (ov_in HC.out)) ?_ (HQ3.out.mono (ov_in HC.out)), G7⟩
 have h9 := OwnC.slc (d := ov c w w7) (by decide) (HO10.out.kept g7 (.inr (by simp [Value.ownBlock]; omega))) (ov_in HC.out) fun a ha => ov_new (by omega)
 exact h9
theorem one_boot {c : CM} (w : World) {b : Nat} (hb : b ≤ w.heap.size) : OwnC Ty.rc c (w.alloc (.cells #[.int .i64 4, .int .i64 0, .slice none 0 0] 48)) b 48 (.slice (some ⟨w.heap.size, 0, none⟩) 1 1) [⟨4, 0, []⟩] :=
 ⟨[[.int .i64 4, .int .i64 0, .slice none 0 0]], World.ownsRow_lit w #[.int .i64 4, .int .i64 0, .slice none 0 0] 1 hb (by decide) rfl, rfl, fun i cs x a b => by
  match i with
  | 0 =>
   simp only [List.getElem?_cons_zero, Option.some.injEq] at a b
   subst a; subst b
   exact ⟨_, rfl, (show I64 4 by unfold I64; decide), zero_ok, Sl.nil _ _⟩
  | i + 1 => simp at a⟩
def nc (c : CM) (w W : World) (X : List (Option Nat)) : CM := fun a => if some a.block ∈ X then none else ov c w W a
theorem nc_ov (c : CM) (w W : World) (X : List (Option Nat)) : Sub (nc c w W X) (ov c w W) := fun a v e => by
 unfold nc at e
 split at e
 ·cases e
 ·exact e
theorem nc_sub {c : CM} {w W : World} (hc : Sub c w.cell?) (hg : Grow w W) (X : List (Option Nat)) : Sub (nc c w W X) W.cell? := (nc_ov c w W X).trans (ov_sub hc hg)
theorem nc_all {c : CM} {w : World} (hc : Sub c w.cell?) {W : World} {X : List (Option Nat)} (hX : ∀ k, some k ∈ X → w.heap.size ≤ k) : Sub c (nc c w W X) := fun a v e => by
 have hl := World.block_lt_of_cell? w a (hc _ _ e)
 unfold nc
 rw [if_neg (fun h => by have := hX _ h; omega)]
 exact ov_in hc _ _ e
theorem nc_grow {c : CM} {w W W' : World} {X : List (Option Nat)} (h : Grow W W') : Sub (nc c w W X) (nc c w W' X) := fun a v e => by
 unfold nc at e ⊢
 split at e
 ·cases e
 ·rename_i hn
  rw [if_neg hn]
  exact ov_mono (Sub.refl _) h a v e
theorem nc_app {c : CM} {w W W' : World} {v v' : Value} (_ : ∀ k, v.ownBlock = some k → w.heap.size ≤ k) (hg : W.grownBy W' v.ownBlock) (hw : w.heap.size ≤ W.heap.size) (hb : v'.ownBlock = v.ownBlock ∨ ∃ g, v'.ownBlock = some g ∧ W.heap.size ≤ g) : Sub (nc c w W [v.ownBlock]) (nc c w W' [v'.ownBlock]) := fun a u e => by
 unfold nc at e ⊢
 split at e
 ·cases e
 ·rename_i hn
  simp only [List.mem_singleton] at hn
  unfold ov at e ⊢
  by_cases hl : a.block < w.heap.size
  ·rw [if_pos hl] at e
   rw [if_pos hl, if_neg]
   ·exact e
   ·simp only [List.mem_singleton]
    intro e2
    rcases hb with hb | ⟨g, hb, hge⟩
    ·rw [hb] at e2; exact hn e2
    ·rw [hb] at e2; have := Option.some.inj e2; omega
  ·rw [if_neg hl] at e
   rw [if_neg hl]
   have hlt := World.block_lt_of_cell? W a e
   rw [if_neg, World.cell?_of_block (hg.block a.block hlt hn)]
   ·exact e
   ·simp only [List.mem_singleton]
    intro e2
    rcases hb with hb | ⟨g, hb, hge⟩
    ·rw [hb] at e2; exact hn e2
    ·rw [hb] at e2; have := Option.some.inj e2; omega
theorem fr_nc {c : CM} {w W : World} {X : List (Option Nat)} : Sub (fr w W X) (nc c w W X) := fun a v e => by
 unfold fr at e
 split at e
 ·cases e
 ·rename_i hn
  unfold nc
  rw [if_neg (fun h => hn (.inr h)), ov_new (by have : ¬ a.block < w.heap.size := fun h => hn (.inl h); omega)]
  exact e
set_option maxRecDepth 100000 in
set_option maxHeartbeats 1000000 in
theorem ref_sendC {c : CM} {v vm : Value} {l : List (List UInt8)} {ms : List Ms} (w : World) (hc : Sub c w.cell?) (hv : Nts c v l) (hms : Mss w.cell? vm ms) (hr : ∀ m ∈ ms, wrongM m = 0) (hm : l.length * 24 + 1000 ≤ 140737488355328) :
  Calls Try.prog 70 #[v, vm] w fun e w' => ∃ v', e = .returned v' ∧ Nts (ov c w w') v' (sendB l ms) ∧ Grow w w' := by
 have HR := Lib.hid hr
 have HV := Lib.hid hv
 have HC := Lib.hid hc
 obtain ⟨av, cv, rfl, -⟩ := id hv
 obtain ⟨am, cm, rfl, h1, h2, -, hel⟩ := hms
 unfold maxLen at h2
 clear hv hr hc
 go_enter Try.func70, Try.ntmps70
 go_wp2_with (first | (at_builtin; refine wpList_appc (c := nc c w (w.alloc (.cells #[] 69)) [(Value.slice (some ⟨w.heap.size, 0, none⟩) 0 0).ownBlock]) (base := w.heap.size) (l := []) (m := l) ei_bts rfl (one_Tsl Ty.byte) (by decide) rfl (.tmp 6) (.tmp 7) rfl rfl (OwnC.made0 Ty.bs _ _ _ _ ?c1 ?c1') rfl ?src ?c3 ?c4 ?_))
 case c1 => exact Nat.le_refl _
 case c1' => rfl
 case src =>
  have hS := nc_all (c := c) HC.out (W := w.alloc (.cells #[] 69)) (X := [(Value.slice (some ⟨w.heap.size, 0, none⟩) 0 0).ownBlock]) (fun k hk => by simp [Value.ownBlock] at hk; omega)
  exact Src.of_sl_c (by decide) (nc_sub HC.out ((Grow.refl _).alloc _) _) (HV.out.mono hS)
 case c3 => simp; omega
 case c4 => simp
 intro a4 c4 w4 ho4 hg4 hb4
 have HO4 : Hid (OwnC Ty.bs (nc c w w4 [(Value.slice a4 l.length c4).ownBlock]) w4 w.heap.size 69 (.slice a4 l.length c4) l) := Lib.hid (by
  have hb5 : (Value.slice a4 l.length c4).ownBlock = (Value.slice (some ⟨w.heap.size, 0, none⟩) 0 0).ownBlock ∨ ∃ g, (Value.slice a4 l.length c4).ownBlock = some g ∧ (w.alloc (.cells #[] 69)).heap.size ≤ g := by
   rcases hb4 with e | ⟨g, e, hge⟩
   ·exact .inl (by simpa using e)
   ·exact .inr ⟨g, by simpa using e, by simpa using hge⟩
  have h9 := OwnC.mono (nc_app (own_at (Nat.le_refl _)) hg4 (by simp) hb5) (by simpa using ho4)
  exact h9)
 have G4 := Lib.hid (grow_by (w0 := w) ((Grow.refl w).alloc _) hg4 (own_at (Nat.le_refl _)))
 try simp only [List.length_nil, Nat.zero_add]
 clear ho4 hg4 hb4
 go_wp2
 go_loopw [0, 5] (fun bv i wr => ∃ k : Nat, k ≤ ms.length ∧ i = .int .i64 k ∧ Grow w wr ∧ OwnC Ty.bs (nc c w wr [bv.ownBlock]) wr w.heap.size 69 bv (sendB l (ms.take k))) (fun _ i _ => ms.length - (intOf i).toNat)
 case atStart => exact ⟨0, by omega, rfl, G4.out, by rw [List.take_zero, sendB_nil]; exact HO4.out⟩
 case round =>
  obtain ⟨k, hk', rfl, hb, hown⟩ := hrel
  obtain ⟨av, cv, rfl⟩ := hown.form
  by_cases hlt : k < ms.length
  ·by_cases h24 : (sendB l (ms.take k)).length < 24
   ·obtain ⟨b, o, vp, rfl, c0, c1, c2, c3, i0, i1, i2, hP⟩ := Mss.at_ hel k hlt
    obtain ⟨ap, cp, rfl, -⟩ := id hP
    replace c0 := hb.sub _ _ c0
    replace c1 := hb.sub _ _ c1
    replace c2 := hb.sub _ _ c2
    replace c3 := hb.sub _ _ c3
    have hw := HR.out ms[k] (List.getElem_mem _)
    have HST := Lib.hid (sendB_step (l := l) hlt)
    have HBY := Lib.hid (fun (W : World) (hW : Grow wr W) => ref_bytes (m := ms[k]) W ⟨_, rfl, _, rfl, i0, i1, i2, hP.mono (hb.trans hW).sub⟩ (right_kind hw) (right_len hw))
    have HOWN := Lib.hid hown
    have HB := Lib.hid hb
    clear hel hP hw hown i0 i1 i2 hb
    generalize ms[k] = m at *
    generalize sendB l (ms.take k) = lk at *
    have HST2 := Lib.hid (show sendB l (ms.take (k + 1)) = lk ++ [bytesM m] by rw [HST.out, if_pos h24])
    clear HST
    go_wp2_with fail
    refine (HBY.out _ (Grow.refl _)).mono ?_
    rintro e w2 ⟨v2, rfl, ho2, hb2⟩
    obtain ⟨a2, cap2, rfl⟩ := owns_form ho2
    have HO2 := Lib.hid ho2
    have HB2 := Lib.hid hb2
    clear ho2 hb2
    generalize bytesM m = r at *
    go_wp2_with (first | (at_builtin; refine wpList_appc (c := nc c w (w2.alloc (.cells #[.slice a2 r.length cap2] 69)) [(Value.slice av lk.length cv).ownBlock]) (base := w.heap.size) (l := lk) (m := [r]) ei_bts rfl (one_Tsl Ty.byte) (by decide) rfl (.tmp 20) (.tmp 26) rfl rfl ?own rfl (Src.of_new (T := Ty.bs) (x := r) (cs := #[.slice a2 r.length cap2]) ?d0 _ _ ?d1) ?d2 ?d3 ?_))
    case own => exact (HOWN.out.mono (nc_grow (HB2.out.alloc _))).grow (HB2.out.alloc _)
    case d0 =>
     refine ⟨_, rfl, ?_⟩
     have hlt2 := HOWN.out.lt
     refine Sl.mono fr_nc (bts_fr (w1 := wr) ?_ HB.out.size ?_)
     ·exact owns_grow HO2.out ((Grow.refl _).alloc _)
     ·intro q hq
      simp only [List.mem_singleton]
      intro e
      have := (hlt2 q e.symm).2
      omega
    case d1 => simp
    case d2 => simp; omega
    case d3 => have := (HB2.out.alloc (.cells #[.slice a2 r.length cap2] 69)).size; have := HB.out.size; omega
    intro a5 c5 w5 hown5 hg5 hb5
    have hG5 : Grow w w5 := grow_by (w0 := w) (HB.out.trans (HB2.out.alloc _)) hg5 (fun q hq => (HOWN.out.lt q hq).1)
    have HO5 := Lib.hid (hown5.mono (nc_app (fun q hq => (HOWN.out.lt q hq).1) hg5 (by have := HB.out.size; have := (HB2.out.alloc (.cells #[.slice a2 r.length cap2] 69)).size; omega) (hb5.imp_right fun ⟨g, e, hge⟩ => ⟨g, e, by simpa using hge⟩)))
    have HG5 := Lib.hid hG5
    clear hown5 hg5 hb5 hG5
    go_wp2
    go_roundw
    case rel => exact ⟨k + 1, by omega, by go_num, HG5.out, by rw [HST2.out]; exact HO5.out⟩
    case measure => simp [intOf]; omega
   ·have HF := Lib.hid (sendB_full (l := l) (ms := ms) (k := k) (by omega))
    clear hel
    have HOWN := Lib.hid hown
    have HB := Lib.hid hb
    clear hown hb
    go_wp2
    go_ret
    exact ⟨_, rfl, by rw [HF.out]; exact HOWN.out.slc (by decide) (nc_ov _ _ _ _) (fun a ha => ov_new ha), HB.out⟩
  ·clear hel
   have HOWN := Lib.hid hown
   have HB := Lib.hid hb
   have HF : Hid (sendB l (ms.take k) = sendB l ms) := Lib.hid (by rw [List.take_of_length_le (by omega)])
   clear hown hb
   go_wp2
   go_ret
   exact ⟨_, rfl, by rw [← HF.out]; exact HOWN.out.slc (by decide) (nc_ov _ _ _ _) (fun a ha => ov_new ha), HB.out⟩
theorem Of.st_form {c : CM} {v : Value} {kd sn : Int} {sp : List Pt} (hv : Of Ty.st c v ⟨kd, sn, sp⟩) : ∃ ap cp, v = .agg #[.int .i64 kd, .int .i64 sn, .slice ap sp.length cp] := by
 obtain ⟨cs, rfl, vp, rfl, -, -, hp⟩ := hv
 obtain ⟨ap, cp, rfl, -⟩ := id hp
 exact ⟨ap, cp, rfl⟩
theorem Of.st_parts {c : CM} {a b vp : Value} {kd sn : Int} {sp : List Pt} (hv : Of Ty.st c (.agg #[a, b, vp]) ⟨kd, sn, sp⟩) : I64 sn ∧ Sl Ty.pt c vp sp := by
 obtain ⟨cs, he, vp', rfl, -, h2, hp⟩ := hv
 simp at he
 obtain ⟨-, -, rfl⟩ := he
 exact ⟨h2, hp⟩
theorem WI.hdok {n : Nat} {G : Reg} {x : AW} {k : Nat} (i : WI n G x) (f : Few k x) (hk : k ≤ 1000) : HdOk x.head where
 opn := i.core.olen
 parts := fun o ho => (wrong_ok (i.core.reg.ok _ (i.core.oreg o ho)).2).2.1
 heard := fun o ho => by have := (i.core.onew o ho).2.2; have := houses_short o.parts; omega
 log := by have := f.log; omega
 boot := by have := i.core.boot; omega
 next := i.core.next
theorem ov_past {c : CM} {w W w1 w2 : World} {B : Nat} (hg : w1.grownBy w2 (some B)) (_ : w.heap.size ≤ B) (hB : B < W.heap.size) : Sub (ov c W w1) (ov c W w2) := fun a v e => by
 unfold ov at e ⊢
 split at e
 ·rw [if_pos ‹_›]; exact e
 ·rw [if_neg ‹_›]
  exact cell_past e hg (by omega)
theorem ovz_sub {c : CM} {w W w7 : World} (hc : Sub c w.cell?) (hW : Grow w W) : Sub (ov c W w7) (ov c w w7) := fun a v e => by
 have hs := hW.size
 unfold ov at e ⊢
 split at e
 ·have hl := World.block_lt_of_cell? w a (hc _ _ e)
  rw [if_pos hl]; exact e
 ·rw [if_neg (by omega)]; exact e
set_option maxRecDepth 100000 in
set_option maxHeartbeats 4000000 in
theorem ref_do_quit {c : CM} {v vs : Value} {x : AW} {sn : Int} {sp : List Pt} {n : Nat} {G : Reg} {k : Nat} (w : World) (hc : Sub c w.cell?) (hv : Of Ty.wd c v x) (hs : Of Ty.st c vs ⟨7, sn, sp⟩) (hi : WI n G x) (hf : Few k x) (hk : k ≤ 1000) :
  Calls Try.prog 138 #[v, vs] w fun e w' => ∃ v', e = .returned (.tuple #[v', .int .i64 (doErr x ⟨7, sn, sp⟩)]) ∧ Of Ty.wd (ov c w w') v' (doA x ⟨7, sn, sp⟩) ∧ Grow w w' := by
 obtain ⟨al, cl, ao, co, ah, ch, an, cn, rfl⟩ := hv.wd_form
 obtain ⟨ap, cp, rfl⟩ := hs.st_form
 obtain ⟨q1, q2, q3⟩ := hv.wd_parts
 have HQ1 := Lib.hid q1
 have HQ2 := Lib.hid q2
 have HQ3 := Lib.hid q3
 have HSP := Lib.hid hs.st_parts
 have HHD := Lib.hid (hi.hdok hf hk)
 have HWI := Lib.hid hi
 have HV := Lib.hid hv
 have HC := Lib.hid hc
 clear hc hv hs q1 q2 q3 hi hf
 obtain ⟨wa, hwa⟩ : ∃ y : World, y = w.alloc (.cells #[.slice al x.head.log.length cl, .int .i64 x.head.boot, .int .i64 x.head.next, .slice ao x.head.opn.length co, .slice ah x.houses.length ch, .slice an x.net.length cn] 93) := ⟨_, rfl⟩
 obtain ⟨wb, hwb⟩ : ∃ y : World, y = wa.alloc (.cells #[.int .i64 7, .int .i64 sn, .slice ap sp.length cp] 164) := ⟨_, rfl⟩
 obtain ⟨wz, hwz⟩ : ∃ y : World, y = wb.alloc (.cells #[.slice none 0 0, .int .i64 0, .int .i64 0, .slice none 0 0, .slice none 0 0, .slice none 0 0] 93) := ⟨_, rfl⟩
 have hsa : wa.heap.size = w.heap.size + 1 := by rw [hwa]; simp
 have hsb : wb.heap.size = w.heap.size + 2 := by rw [hwb]; simp [hsa]
 have R2 : Hid (wz.heap[w.heap.size]? = some (.cells #[.slice al x.head.log.length cl, .int .i64 x.head.boot, .int .i64 x.head.next, .slice ao x.head.opn.length co, .slice ah x.houses.length ch, .slice an x.net.length cn] 93 (0, 0))) := Lib.hid (by rw [hwz, hwb, hwa]; exact heap_later (heap_later (row_new _ _) _) _)
 have R3 : Hid (wz.heap[w.heap.size + 1]? = some (.cells #[.int .i64 7, .int .i64 sn, .slice ap sp.length cp] 164 (0, 0))) := Lib.hid (by rw [hwz, hwb, ← hsa]; exact heap_later (row_new _ _) _)
 have R4 : Hid (wz.heap[w.heap.size + 2]? = some (.cells #[.slice none 0 0, .int .i64 0, .int .i64 0, .slice none 0 0, .slice none 0 0, .slice none 0 0] 93 (0, 0))) := Lib.hid (by rw [hwz, ← hsb]; exact row_new _ _)
 have G1 : Hid (Grow w wz) := Lib.hid (by rw [hwz, hwb, hwa]; exact (((Grow.refl w).alloc _).alloc _).alloc _)
 have HZ : Hid (wz.heap.size = w.heap.size + 3) := Lib.hid (by rw [hwz]; simp [hsb])
 go_enter Try.func138, Try.ntmps138
 go_upto_region 1 with fail
 rw [← hwa]
 try rw [hsa]
 rw [← hwb]
 try rw [hsb]
 rw [← hwz]
 clear hwa hwb hwz hsa hsb
 obtain ⟨c0, c1, c2, c3, c4, c5⟩ := cells6 R2.out
 obtain ⟨d0, d1, d2⟩ := cells3 R3.out
 have z2 : w.heap.size < wz.heap.size := (Array.getElem?_eq_some_iff.1 R2.out).1
 have z3 : w.heap.size + 1 < wz.heap.size := (Array.getElem?_eq_some_iff.1 R3.out).1
 go_cut [6] from 22 (fun s6 wc => s6 = .bool (there x sn) ∧ wz = wc)
 case first =>
  by_cases h0 : 0 ≤ sn
  ·by_cases h1 : sn < (x.net.length : Int)
   ·go_wp2
    go_meet
    case rel => exact ⟨by first | rfl | (simp [there, h0, h1]; done), rfl⟩
   ·go_wp2
    go_meet
    case rel => exact ⟨by first | rfl | (simp [there, h0, h1]; done) | (simp [there, h0]; omega), rfl⟩
  ·go_wp2
   go_meet
   case rel => exact ⟨by first | rfl | (simp [there]; done) | (simp [there]; omega), rfl⟩
 case rest =>
 obtain ⟨rfl, rfl⟩ := hcut
 have hE : doA x ⟨7, sn, sp⟩ = { x with head := quitH x.head, net := sendA x.net (quitM x.head) } := by unfold doA; simp
 have hE2 : doErr x ⟨7, sn, sp⟩ = 0 := by unfold doErr; simp
 have HE := Lib.hid hE
 have HE2 := Lib.hid hE2
 clear hE hE2
 go_wp2_with fail
 refine (ref_quit (c := c) wz (HC.out.trans G1.out.sub) HQ1.out HHD.out).mono ?_
 rintro e w1 ⟨v1, v2, rfl, hx1, hx2, hb1⟩
 obtain ⟨al2, cl2, ao2, co2, rfl⟩ := hx1.hd_form
 obtain ⟨am, cm, rfl, -⟩ := id hx2
 have HX1 := Lib.hid hx1
 have HX2 := Lib.hid hx2
 have R21 := Lib.hid (row_grow R2.out hb1)
 have R41 := Lib.hid (row_grow R4.out hb1)
 have GZ1 := Lib.hid hb1
 have HRT := Lib.hid (WI.says (HWI.out.core.quit).2.2)
 have H24 := Lib.hid HWI.out.len
 clear hx1 hx2 hb1 c0 c1 c2 c3 c4 c5 d0 d1 d2 z2 z3
 generalize hqh : quitH x.head = qh at *
 generalize hqm : quitM x.head = qm at *
 clear hqh hqm
 go_upto_region 48 with fail
 obtain ⟨w2, hw2⟩ : ∃ y : World, y = w1.alloc (.cells #[.slice al2 qh.log.length cl2, .int .i64 qh.boot, .int .i64 qh.next, .slice ao2 qh.opn.length co2] 57) := ⟨_, rfl⟩
 obtain ⟨BH, hBH⟩ : ∃ y, y = w1.heap.size := ⟨_, rfl⟩
 have G12 : Hid (Grow w1 w2) := Lib.hid (by rw [hw2]; exact (Grow.refl _).alloc _)
 have RH : Hid (w2.heap[BH]? = some (.cells #[.slice al2 qh.log.length cl2, .int .i64 qh.boot, .int .i64 qh.next, .slice ao2 qh.opn.length co2] 57 (0, 0))) := Lib.hid (by rw [hw2, hBH]; exact row_new _ _)
 have HBHN : Hid (BH ≠ w.heap.size) := Lib.hid (by have := (Array.getElem?_eq_some_iff.1 R41.out).1; omega)
 rw [← hw2, ← hBH]
 clear hw2 hBH
 have R22 := Lib.hid (row_grow R21.out G12.out)
 have R42 := Lib.hid (row_grow R41.out G12.out)
 have GW2 := Lib.hid (G1.out.trans (GZ1.out.trans G12.out))
 have HS : Hid (∀ W, Grow w2 W → W.cell? ⟨BH, 0, none⟩ = some (.slice al2 qh.log.length cl2) ∧ W.cell? ⟨BH, 1, none⟩ = some (.int .i64 qh.boot) ∧ W.cell? ⟨BH, 2, none⟩ = some (.int .i64 qh.next) ∧ W.cell? ⟨BH, 3, none⟩ = some (.slice ao2 qh.opn.length co2) ∧ W.cell? ⟨w.heap.size, 5, none⟩ = some (.slice an x.net.length cn)) := fun W hW => by
  obtain ⟨k0, k1, k2, k3⟩ := cells4 (row_grow RH.out hW)
  obtain ⟨-, -, -, -, -, j5⟩ := cells6 (row_grow R22.out hW)
  exact ⟨k0, k1, k2, k3, j5⟩
 refine but_start (fun w' => w'.cell? ⟨BH, 0, none⟩ = some (.slice al2 qh.log.length cl2) ∧ w'.cell? ⟨BH, 1, none⟩ = some (.int .i64 qh.boot) ∧ w'.cell? ⟨BH, 2, none⟩ = some (.int .i64 qh.next) ∧ w'.cell? ⟨BH, 3, none⟩ = some (.slice ao2 qh.opn.length co2) ∧ w'.cell? ⟨w.heap.size, 5, none⟩ = some (.slice an x.net.length cn)) 8 (by kernel_rfl) ?_
 obtain ⟨wd, hWd⟩ : ∃ x : World, x = w2.drew := ⟨_, rfl⟩
 rw [← hWd]
 have GD : Grow w2 wd := by rw [hWd]; exact (Grow.refl _).drew
 have zD : w2.heap.size = wd.heap.size := by rw [hWd]; rfl
 have ZD := Lib.hid zD
 clear hWd zD
 refine bLm [0] 12 (by kernel_rfl) (fun _ _ _ _ _ h => h) (HS.out _ GD) ?_
 repeat (refine tNm (v := ?_) rfl (by rfl) ?_ ?_; rotate_left; (· (intro w' hSw; (try dsimp only at hSw); obtain ⟨hs0, hs1, hs2, hs3, hs4⟩ := hSw; go_simp <;> with_reducible rfl)); try simp only [Act.put, lzA, lzC, lzD, lzE, lzF])
 refine tEm ?_
 refine bLm [1, 2, 3] 12 (by kernel_rfl) (fun _ _ _ _ _ h => h) (HS.out _ GD) ?_
 repeat (refine tNm (v := ?_) rfl (by rfl) ?_ ?_; rotate_left; (· (intro w' hSw; (try dsimp only at hSw); obtain ⟨hs0, hs1, hs2, hs3, hs4⟩ := hSw; go_simp <;> with_reducible rfl)); try simp only [Act.put, lzA, lzB, lzC, lzD, lzE, lzF])
 refine tEm ?_
 refine bP 4 5 (by kernel_rfl) rfl rfl ?_ ?_
 ·intro K HK
  try simp only [lzA, lzB, lzC]
  go_simp
  go_at_call 70
  refine (ref_sendC (c := c) (l := x.net.map bytesM) (ms := qm) _ (HC.out.trans (GW2.out.trans GD).sub) ?nv (Sl.mono (Grow.sub (Grow.trans G12.out GD)) (Sl.mono (ov_sub (HC.out.trans G1.out.sub) GZ1.out) HX2.out)) HRT.out (by rw [List.length_map]; have := H24.out; omega)).mono ?_
  case nv => have h9 := HQ3.out; simpa using h9
  rintro e3 w3 ⟨v3, rfl, hn3, hb3⟩
  obtain ⟨a3, c3, rfl, -⟩ := id hn3
  have HN3 := Lib.hid hn3
  have G3 := Lib.hid (Grow.trans GD hb3)
  have GB3 := Lib.hid hb3
  have ZDW := Lib.hid (GD).size
  clear hn3 hb3
  rw [send_map, List.length_map]
  refine HK.out _ _ ⟨fun _ => HS.out _ G3.out, ?_⟩
  clear HK K
  try simp only [Act.put, lzA, lzB, lzC, lzD, lzE, lzF]
  refine bO 5 (by kernel_rfl) rfl ?_
  intro K HK
  try simp only [lzA, lzB, lzC]
  go_simp
  refine HK.out _ _ ⟨fun _ => HS.out _ G3.out, ?_⟩
  clear HK K
  try simp only [Act.put, lzA, lzB, lzC, lzD, lzE, lzF]
  refine bO 6 (by kernel_rfl) rfl ?_
  intro K HK
  refine wanted_go rfl ?_
  try simp only [lzA, lzB, lzC]
  refine wp_store_part (.tmp 260) (.tmp 255) (p := 0) (cells := #[.slice al2 qh.log.length cl2, .int .i64 qh.boot, .int .i64 qh.next, .slice ao2 qh.opn.length co2]) (new := #[.slice al2 qh.log.length cl2, .int .i64 qh.boot, .int .i64 qh.next, .slice ao2 qh.opn.length co2, .slice ah x.houses.length ch, .slice an x.net.length cn]) rfl rfl (by rfl) (row_grow R22.out G3.out) info_hd (by simp) (by rfl) (by rfl) ?_
  intro w4 r4 g4
  have R44 := Lib.hid r4
  have HG4 := Lib.hid g4
  have HS4 : Hid (w4.cell? ⟨BH, 0, none⟩ = some (.slice al2 qh.log.length cl2) ∧ w4.cell? ⟨BH, 1, none⟩ = some (.int .i64 qh.boot) ∧ w4.cell? ⟨BH, 2, none⟩ = some (.int .i64 qh.next) ∧ w4.cell? ⟨BH, 3, none⟩ = some (.slice ao2 qh.opn.length co2) ∧ w4.cell? ⟨w.heap.size, 5, none⟩ = some (.slice an x.net.length cn)) := Lib.hid (by obtain ⟨k0, k1, k2, k3, -⟩ := HS.out _ G3.out; obtain ⟨-, -, -, -, -, j5⟩ := cells6 r4; have hne : BH ≠ w.heap.size := HBHN.out; exact ⟨cell_past k0 g4 hne, cell_past k1 g4 hne, cell_past k2 g4 hne, cell_past k3 g4 hne, j5⟩)
  clear r4 g4
  refine HK.out _ _ ⟨fun _ => HS4.out, ?_⟩
  clear HK K
  try simp only [Act.put]
  refine bO 7 (by kernel_rfl) rfl ?_
  intro K HK
  try simp only [lzA, lzB, lzC]
  go_simp
  refine HK.out _ _ ⟨fun _ => HS4.out, ?_⟩
  clear HK K
  try simp only [Act.put, lzA, lzB, lzC, lzD, lzE, lzF]
  refine bO 8 (by kernel_rfl) rfl ?_
  intro K HK
  refine wanted_go rfl ?_
  try simp only [lzA, lzB, lzC]
  refine wp_store_cell (.tmp 261) (.tmp 259) (v := .slice a3 (sendA x.net qm).length c3) (new := #[.slice al2 qh.log.length cl2, .int .i64 qh.boot, .int .i64 qh.next, .slice ao2 qh.opn.length co2, .slice ah x.houses.length ch, .slice a3 (sendA x.net qm).length c3]) rfl rfl (by rfl) (by rfl) R44.out info_nets (by simp) (by rfl) (by rfl) ?_
  intro w5 r5 g5
  have R55 := Lib.hid r5
  have HG5 := Lib.hid g5
  clear r5 g5
  refine HK.out _ _ ⟨fun h => absurd rfl h, ?_⟩
  clear HK K
  try simp only [Act.put]
  refine but_done (by kernel_rfl) ?_
  have R45 := Lib.hid (row_by (row_by (row_grow R42.out G3.out) HG4.out (by intro e; have := Option.some.inj e; omega)) HG5.out (by intro e; have := Option.some.inj e; omega))
  have G5 := Lib.hid (((GW2.out.trans G3.out).grown HG4.out (fun q hq => by simp at hq; omega)).grown HG5.out (fun q hq => by simp at hq; omega))
  obtain ⟨c0, c1, c2, c3x, c4, c5⟩ := cells6 R55.out
  have z2 : w.heap.size < w5.heap.size := (Array.getElem?_eq_some_iff.1 R55.out).1
  go_wp2_with (first | (refine wpList_store_row rfl (.tmp 4) (.tmp 262) rfl rfl rfl R45.out info_wd rfl rfl ?_))
  intro w7 r7 g7
  obtain ⟨p0, p1, p2, p3, p4, p5⟩ := cells6 r7
  clear c0 c1 c2 c3x c4 c5
  go_wp2
  refine bodyPost_ret (v := .tuple #[.agg #[.slice al2 qh.log.length cl2, .int .i64 qh.boot, .int .i64 qh.next, .slice ao2 qh.opn.length co2, .slice ah x.houses.length ch, .slice a3 (sendA x.net qm).length c3], .int .i64 0]) (by simp [results, Try.results138, go_sem, p0, p1, p2, p3, p4, p5]) rfl ?_
  have G7 := G5.out.grown g7 (fun q hq => by simp at hq; omega)
  rw [HE.out, HE2.out]
  refine ⟨_, rfl, Of.wd_mk ?_ (HQ2.out.mono (ov_in HC.out)) ?_, G7⟩
  ·refine HX1.out.mono fun a u e => ?_
   have e1 := ov_mono (Sub.refl _) (G12.out.trans G3.out) a u e
   have e4 := ov_past (w := w) HG4.out (Nat.le_refl _) (by have := HZ.out; omega) a u e1
   have e5 := ov_past (w := w) HG5.out (Nat.le_refl _) (by have := HZ.out; omega) a u e4
   have e7 := ov_past (w := w) g7 (by omega) (by have := HZ.out; omega) a u e5
   exact ovz_sub HC.out G1.out a u e7
  ·have hsz := (Array.getElem?_eq_some_iff.1 R22.out).1
   have hsz4 := (Array.getElem?_eq_some_iff.1 R42.out).1
   have h9 := HN3.out
   rw [send_map] at h9
   refine Sl.mono (fun a u e => ?_) (show Nts _ _ _ from by simpa using h9)
   have hgd := ZDW.out
   have e4 := ov_past (w := w) HG4.out (Nat.le_refl _) (by omega) a u e
   have e5 := ov_past (w := w) HG5.out (Nat.le_refl _) (by omega) a u e4
   have e7 := ov_past (w := w) g7 (by omega) (by omega) a u e5
   exact ovz_sub HC.out (GW2.out.trans GD) a u e7
 ·intro K HK
  try simp only [lzA, lzB, lzC]
  go_simp
  refine HK.out _ _ ⟨fun _ => HS.out _ GD, ?_⟩
  clear HK K
  try simp only [Act.put, lzA, lzB, lzC, lzD, lzE, lzF]
  refine bO 4 (by kernel_rfl) rfl ?_
  intro K HK
  try simp only [lzA, lzB, lzC]
  go_simp
  go_at_call 70
  refine (ref_sendC (c := c) (l := x.net.map bytesM) (ms := qm) _ (HC.out.trans (GW2.out.trans GD).sub) ?nv (Sl.mono (Grow.sub (Grow.trans G12.out GD)) (Sl.mono (ov_sub (HC.out.trans G1.out.sub) GZ1.out) HX2.out)) HRT.out (by rw [List.length_map]; have := H24.out; omega)).mono ?_
  case nv => have h9 := HQ3.out; simpa using h9
  rintro e3 w3 ⟨v3, rfl, hn3, hb3⟩
  obtain ⟨a3, c3, rfl, -⟩ := id hn3
  have HN3 := Lib.hid hn3
  have G3 := Lib.hid (Grow.trans GD hb3)
  have GB3 := Lib.hid hb3
  have ZDW := Lib.hid (GD).size
  clear hn3 hb3
  rw [send_map, List.length_map]
  refine HK.out _ _ ⟨fun _ => HS.out _ G3.out, ?_⟩
  clear HK K
  try simp only [Act.put, lzA, lzB, lzC, lzD, lzE, lzF]
  refine bO 6 (by kernel_rfl) rfl ?_
  intro K HK
  refine wanted_go rfl ?_
  try simp only [lzA, lzB, lzC]
  refine wp_store_part (.tmp 260) (.tmp 255) (p := 0) (cells := #[.slice al2 qh.log.length cl2, .int .i64 qh.boot, .int .i64 qh.next, .slice ao2 qh.opn.length co2]) (new := #[.slice al2 qh.log.length cl2, .int .i64 qh.boot, .int .i64 qh.next, .slice ao2 qh.opn.length co2, .slice ah x.houses.length ch, .slice an x.net.length cn]) rfl rfl (by rfl) (row_grow R22.out G3.out) info_hd (by simp) (by rfl) (by rfl) ?_
  intro w4 r4 g4
  have R44 := Lib.hid r4
  have HG4 := Lib.hid g4
  have HS4 : Hid (w4.cell? ⟨BH, 0, none⟩ = some (.slice al2 qh.log.length cl2) ∧ w4.cell? ⟨BH, 1, none⟩ = some (.int .i64 qh.boot) ∧ w4.cell? ⟨BH, 2, none⟩ = some (.int .i64 qh.next) ∧ w4.cell? ⟨BH, 3, none⟩ = some (.slice ao2 qh.opn.length co2) ∧ w4.cell? ⟨w.heap.size, 5, none⟩ = some (.slice an x.net.length cn)) := Lib.hid (by obtain ⟨k0, k1, k2, k3, -⟩ := HS.out _ G3.out; obtain ⟨-, -, -, -, -, j5⟩ := cells6 r4; have hne : BH ≠ w.heap.size := HBHN.out; exact ⟨cell_past k0 g4 hne, cell_past k1 g4 hne, cell_past k2 g4 hne, cell_past k3 g4 hne, j5⟩)
  clear r4 g4
  refine HK.out _ _ ⟨fun _ => HS4.out, ?_⟩
  clear HK K
  try simp only [Act.put]
  refine bO 7 (by kernel_rfl) rfl ?_
  intro K HK
  try simp only [lzA, lzB, lzC]
  go_simp
  refine HK.out _ _ ⟨fun _ => HS4.out, ?_⟩
  clear HK K
  try simp only [Act.put, lzA, lzB, lzC, lzD, lzE, lzF]
  refine bO 8 (by kernel_rfl) rfl ?_
  intro K HK
  refine wanted_go rfl ?_
  try simp only [lzA, lzB, lzC]
  refine wp_store_cell (.tmp 261) (.tmp 259) (v := .slice a3 (sendA x.net qm).length c3) (new := #[.slice al2 qh.log.length cl2, .int .i64 qh.boot, .int .i64 qh.next, .slice ao2 qh.opn.length co2, .slice ah x.houses.length ch, .slice a3 (sendA x.net qm).length c3]) rfl rfl (by rfl) (by rfl) R44.out info_nets (by simp) (by rfl) (by rfl) ?_
  intro w5 r5 g5
  have R55 := Lib.hid r5
  have HG5 := Lib.hid g5
  clear r5 g5
  refine HK.out _ _ ⟨fun h => absurd rfl h, ?_⟩
  clear HK K
  try simp only [Act.put]
  refine but_done (by kernel_rfl) ?_
  have R45 := Lib.hid (row_by (row_by (row_grow R42.out G3.out) HG4.out (by intro e; have := Option.some.inj e; omega)) HG5.out (by intro e; have := Option.some.inj e; omega))
  have G5 := Lib.hid (((GW2.out.trans G3.out).grown HG4.out (fun q hq => by simp at hq; omega)).grown HG5.out (fun q hq => by simp at hq; omega))
  obtain ⟨c0, c1, c2, c3x, c4, c5⟩ := cells6 R55.out
  have z2 : w.heap.size < w5.heap.size := (Array.getElem?_eq_some_iff.1 R55.out).1
  go_wp2_with (first | (refine wpList_store_row rfl (.tmp 4) (.tmp 262) rfl rfl rfl R45.out info_wd rfl rfl ?_))
  intro w7 r7 g7
  obtain ⟨p0, p1, p2, p3, p4, p5⟩ := cells6 r7
  clear c0 c1 c2 c3x c4 c5
  go_wp2
  refine bodyPost_ret (v := .tuple #[.agg #[.slice al2 qh.log.length cl2, .int .i64 qh.boot, .int .i64 qh.next, .slice ao2 qh.opn.length co2, .slice ah x.houses.length ch, .slice a3 (sendA x.net qm).length c3], .int .i64 0]) (by simp [results, Try.results138, go_sem, p0, p1, p2, p3, p4, p5]) rfl ?_
  have G7 := G5.out.grown g7 (fun q hq => by simp at hq; omega)
  rw [HE.out, HE2.out]
  refine ⟨_, rfl, Of.wd_mk ?_ (HQ2.out.mono (ov_in HC.out)) ?_, G7⟩
  ·refine HX1.out.mono fun a u e => ?_
   have e1 := ov_mono (Sub.refl _) (G12.out.trans G3.out) a u e
   have e4 := ov_past (w := w) HG4.out (Nat.le_refl _) (by have := HZ.out; omega) a u e1
   have e5 := ov_past (w := w) HG5.out (Nat.le_refl _) (by have := HZ.out; omega) a u e4
   have e7 := ov_past (w := w) g7 (by omega) (by have := HZ.out; omega) a u e5
   exact ovz_sub HC.out G1.out a u e7
  ·have hsz := (Array.getElem?_eq_some_iff.1 R22.out).1
   have hsz4 := (Array.getElem?_eq_some_iff.1 R42.out).1
   have h9 := HN3.out
   rw [send_map] at h9
   refine Sl.mono (fun a u e => ?_) (show Nts _ _ _ from by simpa using h9)
   have hgd := ZDW.out
   have e4 := ov_past (w := w) HG4.out (Nat.le_refl _) (by omega) a u e
   have e5 := ov_past (w := w) HG5.out (Nat.le_refl _) (by omega) a u e4
   have e7 := ov_past (w := w) g7 (by omega) (by omega) a u e5
   exact ovz_sub HC.out (GW2.out.trans GD) a u e7
theorem ov_wide {c : CM} {W W0 w1 : World} (hc : Sub c W.cell?) (h0 : Grow W W0) : Sub (ov c W0 w1) (ov c W w1) := fun a v e => by
 have hs := h0.size
 unfold ov at e ⊢
 split at e
 ·have hl := World.block_lt_of_cell? W a (hc _ _ e)
  rw [if_pos hl]; exact e
 ·rw [if_neg (by omega)]; exact e
theorem begin_right {n : Nat} {G : Reg} {x : AW} {P : List Pt} (i : WI n G x) (hw : wrongE P x.houses.length = 0) : ∀ m ∈ beginM x.head P, wrongM m = 0 := by
 cases hf : fullE x.head with
 | true => rw [(begin_full (P := P) hf).2.1]; intro m hm; simp at hm
 | false =>
  rw [i.core.len] at hw
  obtain ⟨c, h1, h2⟩ := i.core.begin hw hf
  exact WI.says h2
set_option maxRecDepth 100000 in
set_option maxHeartbeats 4000000 in
theorem ref_do_beginX {c : CM} {v vs : Value} {x : AW} {sn : Int} {sp : List Pt} {n : Nat} {G : Reg} {k : Nat} (w : World) (hc : Sub c w.cell?) (hv : Of Ty.wd c v x) (hs : Of Ty.st c vs ⟨1, sn, sp⟩) (hi : WI n G x) (hf : Few k x) (hk : k ≤ 1000) (hw : wrongE sp x.houses.length ≠ 0) :
  Calls Try.prog 138 #[v, vs] w fun e w' => ∃ v', e = .returned (.tuple #[v', .int .i64 (doErr x ⟨1, sn, sp⟩)]) ∧ Of Ty.wd (ov c w w') v' (doA x ⟨1, sn, sp⟩) ∧ Grow w w' := by
 obtain ⟨al, cl, ao, co, ah, ch, an, cn, rfl⟩ := hv.wd_form
 obtain ⟨ap, cp, rfl⟩ := hs.st_form
 obtain ⟨q1, q2, q3⟩ := hv.wd_parts
 have HQ1 := Lib.hid q1
 have HQ2 := Lib.hid q2
 have HQ3 := Lib.hid q3
 have HSP := Lib.hid hs.st_parts
 have HHD := Lib.hid (hi.hdok hf hk)
 have HWI := Lib.hid hi
 have HV := Lib.hid hv
 have HC := Lib.hid hc
 clear hc hv hs q1 q2 q3 hi hf
 obtain ⟨wa, hwa⟩ : ∃ y : World, y = w.alloc (.cells #[.slice al x.head.log.length cl, .int .i64 x.head.boot, .int .i64 x.head.next, .slice ao x.head.opn.length co, .slice ah x.houses.length ch, .slice an x.net.length cn] 93) := ⟨_, rfl⟩
 obtain ⟨wb, hwb⟩ : ∃ y : World, y = wa.alloc (.cells #[.int .i64 1, .int .i64 sn, .slice ap sp.length cp] 164) := ⟨_, rfl⟩
 obtain ⟨wz, hwz⟩ : ∃ y : World, y = wb.alloc (.cells #[.slice none 0 0, .int .i64 0, .int .i64 0, .slice none 0 0, .slice none 0 0, .slice none 0 0] 93) := ⟨_, rfl⟩
 have hsa : wa.heap.size = w.heap.size + 1 := by rw [hwa]; simp
 have hsb : wb.heap.size = w.heap.size + 2 := by rw [hwb]; simp [hsa]
 have R2 : Hid (wz.heap[w.heap.size]? = some (.cells #[.slice al x.head.log.length cl, .int .i64 x.head.boot, .int .i64 x.head.next, .slice ao x.head.opn.length co, .slice ah x.houses.length ch, .slice an x.net.length cn] 93 (0, 0))) := Lib.hid (by rw [hwz, hwb, hwa]; exact heap_later (heap_later (row_new _ _) _) _)
 have R3 : Hid (wz.heap[w.heap.size + 1]? = some (.cells #[.int .i64 1, .int .i64 sn, .slice ap sp.length cp] 164 (0, 0))) := Lib.hid (by rw [hwz, hwb, ← hsa]; exact heap_later (row_new _ _) _)
 have R4 : Hid (wz.heap[w.heap.size + 2]? = some (.cells #[.slice none 0 0, .int .i64 0, .int .i64 0, .slice none 0 0, .slice none 0 0, .slice none 0 0] 93 (0, 0))) := Lib.hid (by rw [hwz, ← hsb]; exact row_new _ _)
 have G1 : Hid (Grow w wz) := Lib.hid (by rw [hwz, hwb, hwa]; exact (((Grow.refl w).alloc _).alloc _).alloc _)
 have HZ : Hid (wz.heap.size = w.heap.size + 3) := Lib.hid (by rw [hwz]; simp [hsb])
 go_enter Try.func138, Try.ntmps138
 go_upto_region 1 with fail
 rw [← hwa]
 try rw [hsa]
 rw [← hwb]
 try rw [hsb]
 rw [← hwz]
 clear hwa hwb hwz hsa hsb
 obtain ⟨c0, c1, c2, c3, c4, c5⟩ := cells6 R2.out
 obtain ⟨d0, d1, d2⟩ := cells3 R3.out
 have z2 : w.heap.size < wz.heap.size := (Array.getElem?_eq_some_iff.1 R2.out).1
 have z3 : w.heap.size + 1 < wz.heap.size := (Array.getElem?_eq_some_iff.1 R3.out).1
 go_cut [6] from 22 (fun s6 wc => s6 = .bool (there x sn) ∧ wz = wc)
 case first =>
  by_cases h0 : 0 ≤ sn
  ·by_cases h1 : sn < (x.net.length : Int)
   ·go_wp2
    go_meet
    case rel => exact ⟨by first | rfl | (simp [there, h0, h1]; done), rfl⟩
   ·go_wp2
    go_meet
    case rel => exact ⟨by first | rfl | (simp [there, h0, h1]; done) | (simp [there, h0]; omega), rfl⟩
  ·go_wp2
   go_meet
   case rel => exact ⟨by first | rfl | (simp [there]; done) | (simp [there]; omega), rfl⟩
 case rest =>
 obtain ⟨rfl, rfl⟩ := hcut
 have HE : Hid (doA x ⟨1, sn, sp⟩ = x) := Lib.hid (by unfold doA; simp [hw])
 have HE2 : Hid (doErr x ⟨1, sn, sp⟩ = wrongE sp x.houses.length) := Lib.hid (by unfold doErr; simp [hw])
 have hbw : (wrongE sp x.houses.length != 0) = true := by simp [hw]
 have HWP := Lib.hid (ref_wrongParts (h := (x.houses.length : Int)) wz (HSP.out.2.mono (HC.out.trans G1.out.sub)))
 clear hw
 generalize wrongE sp x.houses.length = we at *
 go_wp2_with fail
 refine HWP.out.mono ?_
 rintro e w1 ⟨rfl, hb1⟩
 have R21 := Lib.hid (row_grow R2.out hb1)
 have R41 := Lib.hid (row_grow R4.out hb1)
 have GW1 := Lib.hid (G1.out.trans hb1)
 clear hb1 c0 c1 c2 c3 c4 c5 d0 d1 d2 z2 z3
 obtain ⟨c0, c1, c2, c3, c4, c5⟩ := cells6 R21.out
 have z2 : w.heap.size < w1.heap.size := (Array.getElem?_eq_some_iff.1 R21.out).1
 go_wp2_with (first | (refine wpList_store_row rfl (.tmp 4) (.tmp 46) rfl rfl rfl R41.out info_wd rfl rfl ?_))
 intro w7 r7 g7
 obtain ⟨p0, p1, p2, p3, p4, p5⟩ := cells6 r7
 clear c0 c1 c2 c3 c4 c5
 go_wp2
 refine bodyPost_ret (v := .tuple #[.agg #[.slice al x.head.log.length cl, .int .i64 x.head.boot, .int .i64 x.head.next, .slice ao x.head.opn.length co, .slice ah x.houses.length ch, .slice an x.net.length cn], .int .i64 we]) (by simp [results, Try.results138, go_sem, p0, p1, p2, p3, p4, p5]) rfl ?_
 have G7 := GW1.out.grown g7 (fun q hq => by simp at hq; omega)
 rw [HE.out, HE2.out]
 exact ⟨_, rfl, HV.out.mono (ov_in HC.out), G7⟩
set_option maxRecDepth 100000 in
set_option maxHeartbeats 4000000 in
theorem ref_do_begin {c : CM} {v vs : Value} {x : AW} {sn : Int} {sp : List Pt} {n : Nat} {G : Reg} {k : Nat} (w : World) (hc : Sub c w.cell?) (hv : Of Ty.wd c v x) (hs : Of Ty.st c vs ⟨1, sn, sp⟩) (hi : WI n G x) (hf : Few k x) (hk : k ≤ 1000) (hw : wrongE sp x.houses.length = 0) :
  Calls Try.prog 138 #[v, vs] w fun e w' => ∃ v', e = .returned (.tuple #[v', .int .i64 (doErr x ⟨1, sn, sp⟩)]) ∧ Of Ty.wd (ov c w w') v' (doA x ⟨1, sn, sp⟩) ∧ Grow w w' := by
 obtain ⟨al, cl, ao, co, ah, ch, an, cn, rfl⟩ := hv.wd_form
 obtain ⟨ap, cp, rfl⟩ := hs.st_form
 obtain ⟨q1, q2, q3⟩ := hv.wd_parts
 have HQ1 := Lib.hid q1
 have HQ2 := Lib.hid q2
 have HQ3 := Lib.hid q3
 have HSP := Lib.hid hs.st_parts
 have HHD := Lib.hid (hi.hdok hf hk)
 have HWI := Lib.hid hi
 have HV := Lib.hid hv
 have HC := Lib.hid hc
 clear hc hv hs q1 q2 q3 hi hf
 obtain ⟨wa, hwa⟩ : ∃ y : World, y = w.alloc (.cells #[.slice al x.head.log.length cl, .int .i64 x.head.boot, .int .i64 x.head.next, .slice ao x.head.opn.length co, .slice ah x.houses.length ch, .slice an x.net.length cn] 93) := ⟨_, rfl⟩
 obtain ⟨wb, hwb⟩ : ∃ y : World, y = wa.alloc (.cells #[.int .i64 1, .int .i64 sn, .slice ap sp.length cp] 164) := ⟨_, rfl⟩
 obtain ⟨wz, hwz⟩ : ∃ y : World, y = wb.alloc (.cells #[.slice none 0 0, .int .i64 0, .int .i64 0, .slice none 0 0, .slice none 0 0, .slice none 0 0] 93) := ⟨_, rfl⟩
 have hsa : wa.heap.size = w.heap.size + 1 := by rw [hwa]; simp
 have hsb : wb.heap.size = w.heap.size + 2 := by rw [hwb]; simp [hsa]
 have R2 : Hid (wz.heap[w.heap.size]? = some (.cells #[.slice al x.head.log.length cl, .int .i64 x.head.boot, .int .i64 x.head.next, .slice ao x.head.opn.length co, .slice ah x.houses.length ch, .slice an x.net.length cn] 93 (0, 0))) := Lib.hid (by rw [hwz, hwb, hwa]; exact heap_later (heap_later (row_new _ _) _) _)
 have R3 : Hid (wz.heap[w.heap.size + 1]? = some (.cells #[.int .i64 1, .int .i64 sn, .slice ap sp.length cp] 164 (0, 0))) := Lib.hid (by rw [hwz, hwb, ← hsa]; exact heap_later (row_new _ _) _)
 have R4 : Hid (wz.heap[w.heap.size + 2]? = some (.cells #[.slice none 0 0, .int .i64 0, .int .i64 0, .slice none 0 0, .slice none 0 0, .slice none 0 0] 93 (0, 0))) := Lib.hid (by rw [hwz, ← hsb]; exact row_new _ _)
 have G1 : Hid (Grow w wz) := Lib.hid (by rw [hwz, hwb, hwa]; exact (((Grow.refl w).alloc _).alloc _).alloc _)
 have HZ : Hid (wz.heap.size = w.heap.size + 3) := Lib.hid (by rw [hwz]; simp [hsb])
 go_enter Try.func138, Try.ntmps138
 go_upto_region 1 with fail
 rw [← hwa]
 try rw [hsa]
 rw [← hwb]
 try rw [hsb]
 rw [← hwz]
 clear hwa hwb hwz hsa hsb
 obtain ⟨c0, c1, c2, c3, c4, c5⟩ := cells6 R2.out
 obtain ⟨d0, d1, d2⟩ := cells3 R3.out
 have z2 : w.heap.size < wz.heap.size := (Array.getElem?_eq_some_iff.1 R2.out).1
 have z3 : w.heap.size + 1 < wz.heap.size := (Array.getElem?_eq_some_iff.1 R3.out).1
 go_cut [6] from 22 (fun s6 wc => s6 = .bool (there x sn) ∧ wz = wc)
 case first =>
  by_cases h0 : 0 ≤ sn
  ·by_cases h1 : sn < (x.net.length : Int)
   ·go_wp2
    go_meet
    case rel => exact ⟨by first | rfl | (simp [there, h0, h1]; done), rfl⟩
   ·go_wp2
    go_meet
    case rel => exact ⟨by first | rfl | (simp [there, h0, h1]; done) | (simp [there, h0]; omega), rfl⟩
  ·go_wp2
   go_meet
   case rel => exact ⟨by first | rfl | (simp [there]; done) | (simp [there]; omega), rfl⟩
 case rest =>
 obtain ⟨rfl, rfl⟩ := hcut
 have HE : Hid (doA x ⟨1, sn, sp⟩ = { x with head := beginH x.head sp, net := sendA x.net (beginM x.head sp) }) := Lib.hid (by unfold doA; simp [hw])
 have HE2 : Hid (doErr x ⟨1, sn, sp⟩ = beginE x.head) := Lib.hid (by unfold doErr; simp [hw])
 have HWP := Lib.hid (ref_wrongParts (h := (x.houses.length : Int)) wz (HSP.out.2.mono (HC.out.trans G1.out.sub)))
 have h4 : sp.length ≤ 4 := (wrong_ok hw).2.1
 have HRT : Hid (∀ m ∈ beginM x.head sp, wrongM m = 0) := Lib.hid (begin_right HWI.out hw)
 rw [hw] at HWP
 clear hw
 go_wp2_with fail
 refine HWP.out.mono ?_
 rintro e w0 ⟨rfl, hb0⟩
 have R20 := Lib.hid (row_grow R2.out hb0)
 have R30 := Lib.hid (row_grow R3.out hb0)
 have R40 := Lib.hid (row_grow R4.out hb0)
 have GW0 := Lib.hid (G1.out.trans hb0)
 have GZ0 := Lib.hid hb0
 clear hb0 c0 c1 c2 c3 c4 c5 d0 d1 d2 z2 z3
 obtain ⟨c0, c1, c2, c3, c4, c5⟩ := cells6 R20.out
 obtain ⟨d0, d1, d2⟩ := cells3 R30.out
 have z2 : w.heap.size < w0.heap.size := (Array.getElem?_eq_some_iff.1 R20.out).1
 have z3 : w.heap.size + 1 < w0.heap.size := (Array.getElem?_eq_some_iff.1 R30.out).1
 go_wp2_with fail
 refine (ref_begin (c := c) (P := sp) w0 (HC.out.trans GW0.out.sub) HQ1.out HSP.out.2 HHD.out h4).mono ?_
 rintro e w1 ⟨v1, v2, rfl, hx1, hx2, hb1⟩
 obtain ⟨al2, cl2, ao2, co2, rfl⟩ := hx1.hd_form
 obtain ⟨am, cm, rfl, -⟩ := id hx2
 have HX1 := Lib.hid (hx1.mono (ov_wide (HC.out.trans G1.out.sub) GZ0.out))
 have HX2 := Lib.hid (hx2.mono (ov_wide (HC.out.trans G1.out.sub) GZ0.out))
 have R21 := Lib.hid (row_grow R20.out hb1)
 have R41 := Lib.hid (row_grow R40.out hb1)
 have GZ1 := Lib.hid (GZ0.out.trans hb1)
 have H24 := Lib.hid HWI.out.len
 clear hx1 hx2 hb1 c0 c1 c2 c3 c4 c5 d0 d1 d2 z2 z3
 generalize hqh : beginH x.head sp = qh at *
 generalize hqm : beginM x.head sp = qm at *
 generalize hqe : beginE x.head = qe at *
 clear hqh hqm hqe
 go_upto_region 9 with fail
 obtain ⟨w2, hw2⟩ : ∃ y : World, y = w1.alloc (.cells #[.slice al2 qh.log.length cl2, .int .i64 qh.boot, .int .i64 qh.next, .slice ao2 qh.opn.length co2] 57) := ⟨_, rfl⟩
 obtain ⟨BH, hBH⟩ : ∃ y, y = w1.heap.size := ⟨_, rfl⟩
 have G12 : Hid (Grow w1 w2) := Lib.hid (by rw [hw2]; exact (Grow.refl _).alloc _)
 have RH : Hid (w2.heap[BH]? = some (.cells #[.slice al2 qh.log.length cl2, .int .i64 qh.boot, .int .i64 qh.next, .slice ao2 qh.opn.length co2] 57 (0, 0))) := Lib.hid (by rw [hw2, hBH]; exact row_new _ _)
 have HBHN : Hid (BH ≠ w.heap.size) := Lib.hid (by have := (Array.getElem?_eq_some_iff.1 R41.out).1; omega)
 rw [← hw2, ← hBH]
 clear hw2 hBH
 have R22 := Lib.hid (row_grow R21.out G12.out)
 have R42 := Lib.hid (row_grow R41.out G12.out)
 have GW2 := Lib.hid (G1.out.trans (GZ1.out.trans G12.out))
 have HS : Hid (∀ W, Grow w2 W → W.cell? ⟨BH, 0, none⟩ = some (.slice al2 qh.log.length cl2) ∧ W.cell? ⟨BH, 1, none⟩ = some (.int .i64 qh.boot) ∧ W.cell? ⟨BH, 2, none⟩ = some (.int .i64 qh.next) ∧ W.cell? ⟨BH, 3, none⟩ = some (.slice ao2 qh.opn.length co2) ∧ W.cell? ⟨w.heap.size, 5, none⟩ = some (.slice an x.net.length cn)) := fun W hW => by
  obtain ⟨k0, k1, k2, k3⟩ := cells4 (row_grow RH.out hW)
  obtain ⟨-, -, -, -, -, j5⟩ := cells6 (row_grow R22.out hW)
  exact ⟨k0, k1, k2, k3, j5⟩
 refine but_start (fun w' => w'.cell? ⟨BH, 0, none⟩ = some (.slice al2 qh.log.length cl2) ∧ w'.cell? ⟨BH, 1, none⟩ = some (.int .i64 qh.boot) ∧ w'.cell? ⟨BH, 2, none⟩ = some (.int .i64 qh.next) ∧ w'.cell? ⟨BH, 3, none⟩ = some (.slice ao2 qh.opn.length co2) ∧ w'.cell? ⟨w.heap.size, 5, none⟩ = some (.slice an x.net.length cn)) 8 (by kernel_rfl) ?_
 obtain ⟨wd, hWd⟩ : ∃ x : World, x = w2.drew := ⟨_, rfl⟩
 rw [← hWd]
 have GD : Grow w2 wd := by rw [hWd]; exact (Grow.refl _).drew
 have zD : w2.heap.size = wd.heap.size := by rw [hWd]; rfl
 have ZD := Lib.hid zD
 clear hWd zD
 refine bLm [0] 12 (by kernel_rfl) (fun _ _ _ _ _ h => h) (HS.out _ GD) ?_
 repeat (refine tNm (v := ?_) rfl (by rfl) ?_ ?_; rotate_left; (· (intro w' hSw; (try dsimp only at hSw); obtain ⟨hs0, hs1, hs2, hs3, hs4⟩ := hSw; go_simp <;> with_reducible rfl)); try simp only [Act.put, lzA, lzC, lzD, lzE, lzF])
 refine tEm ?_
 refine bLm [1, 2, 3] 12 (by kernel_rfl) (fun _ _ _ _ _ h => h) (HS.out _ GD) ?_
 repeat (refine tNm (v := ?_) rfl (by rfl) ?_ ?_; rotate_left; (· (intro w' hSw; (try dsimp only at hSw); obtain ⟨hs0, hs1, hs2, hs3, hs4⟩ := hSw; go_simp <;> with_reducible rfl)); try simp only [Act.put, lzA, lzB, lzC, lzD, lzE, lzF])
 refine tEm ?_
 refine bP 4 5 (by kernel_rfl) rfl rfl ?_ ?_
 ·intro K HK
  try simp only [lzA, lzB, lzC]
  go_simp
  go_at_call 70
  refine (ref_sendC (c := c) (l := x.net.map bytesM) (ms := qm) _ (HC.out.trans (GW2.out.trans GD).sub) ?nv (Sl.mono (Grow.sub (Grow.trans G12.out GD)) (Sl.mono (ov_sub (HC.out.trans G1.out.sub) GZ1.out) HX2.out)) HRT.out (by rw [List.length_map]; have := H24.out; omega)).mono ?_
  case nv => have h9 := HQ3.out; simpa using h9
  rintro e3 w3 ⟨v3, rfl, hn3, hb3⟩
  obtain ⟨a3, c3, rfl, -⟩ := id hn3
  have HN3 := Lib.hid hn3
  have G3 := Lib.hid (Grow.trans GD hb3)
  have GB3 := Lib.hid hb3
  have ZDW := Lib.hid (GD).size
  clear hn3 hb3
  rw [send_map, List.length_map]
  refine HK.out _ _ ⟨fun _ => HS.out _ G3.out, ?_⟩
  clear HK K
  try simp only [Act.put, lzA, lzB, lzC, lzD, lzE, lzF]
  refine bO 5 (by kernel_rfl) rfl ?_
  intro K HK
  try simp only [lzA, lzB, lzC]
  go_simp
  refine HK.out _ _ ⟨fun _ => HS.out _ G3.out, ?_⟩
  clear HK K
  try simp only [Act.put, lzA, lzB, lzC, lzD, lzE, lzF]
  refine bO 6 (by kernel_rfl) rfl ?_
  intro K HK
  refine wanted_go rfl ?_
  try simp only [lzA, lzB, lzC]
  refine wp_store_part (.tmp 62) (.tmp 57) (p := 0) (cells := #[.slice al2 qh.log.length cl2, .int .i64 qh.boot, .int .i64 qh.next, .slice ao2 qh.opn.length co2]) (new := #[.slice al2 qh.log.length cl2, .int .i64 qh.boot, .int .i64 qh.next, .slice ao2 qh.opn.length co2, .slice ah x.houses.length ch, .slice an x.net.length cn]) rfl rfl (by rfl) (row_grow R22.out G3.out) info_hd (by simp) (by rfl) (by rfl) ?_
  intro w4 r4 g4
  have R44 := Lib.hid r4
  have HG4 := Lib.hid g4
  have HS4 : Hid (w4.cell? ⟨BH, 0, none⟩ = some (.slice al2 qh.log.length cl2) ∧ w4.cell? ⟨BH, 1, none⟩ = some (.int .i64 qh.boot) ∧ w4.cell? ⟨BH, 2, none⟩ = some (.int .i64 qh.next) ∧ w4.cell? ⟨BH, 3, none⟩ = some (.slice ao2 qh.opn.length co2) ∧ w4.cell? ⟨w.heap.size, 5, none⟩ = some (.slice an x.net.length cn)) := Lib.hid (by obtain ⟨k0, k1, k2, k3, -⟩ := HS.out _ G3.out; obtain ⟨-, -, -, -, -, j5⟩ := cells6 r4; have hne : BH ≠ w.heap.size := HBHN.out; exact ⟨cell_past k0 g4 hne, cell_past k1 g4 hne, cell_past k2 g4 hne, cell_past k3 g4 hne, j5⟩)
  clear r4 g4
  refine HK.out _ _ ⟨fun _ => HS4.out, ?_⟩
  clear HK K
  try simp only [Act.put]
  refine bO 7 (by kernel_rfl) rfl ?_
  intro K HK
  try simp only [lzA, lzB, lzC]
  go_simp
  refine HK.out _ _ ⟨fun _ => HS4.out, ?_⟩
  clear HK K
  try simp only [Act.put, lzA, lzB, lzC, lzD, lzE, lzF]
  refine bO 8 (by kernel_rfl) rfl ?_
  intro K HK
  refine wanted_go rfl ?_
  try simp only [lzA, lzB, lzC]
  refine wp_store_cell (.tmp 63) (.tmp 61) (v := .slice a3 (sendA x.net qm).length c3) (new := #[.slice al2 qh.log.length cl2, .int .i64 qh.boot, .int .i64 qh.next, .slice ao2 qh.opn.length co2, .slice ah x.houses.length ch, .slice a3 (sendA x.net qm).length c3]) rfl rfl (by rfl) (by rfl) R44.out info_nets (by simp) (by rfl) (by rfl) ?_
  intro w5 r5 g5
  have R55 := Lib.hid r5
  have HG5 := Lib.hid g5
  clear r5 g5
  refine HK.out _ _ ⟨fun h => absurd rfl h, ?_⟩
  clear HK K
  try simp only [Act.put]
  refine but_done (by kernel_rfl) ?_
  have R45 := Lib.hid (row_by (row_by (row_grow R42.out G3.out) HG4.out (by intro e; have := Option.some.inj e; omega)) HG5.out (by intro e; have := Option.some.inj e; omega))
  have G5 := Lib.hid (((GW2.out.trans G3.out).grown HG4.out (fun q hq => by simp at hq; omega)).grown HG5.out (fun q hq => by simp at hq; omega))
  obtain ⟨c0, c1, c2, c3x, c4, c5⟩ := cells6 R55.out
  have z2 : w.heap.size < w5.heap.size := (Array.getElem?_eq_some_iff.1 R55.out).1
  go_wp2_with (first | (refine wpList_store_row rfl (.tmp 4) (.tmp 64) rfl rfl rfl R45.out info_wd rfl rfl ?_))
  intro w7 r7 g7
  obtain ⟨p0, p1, p2, p3, p4, p5⟩ := cells6 r7
  clear c0 c1 c2 c3x c4 c5
  go_wp2
  refine bodyPost_ret (v := .tuple #[.agg #[.slice al2 qh.log.length cl2, .int .i64 qh.boot, .int .i64 qh.next, .slice ao2 qh.opn.length co2, .slice ah x.houses.length ch, .slice a3 (sendA x.net qm).length c3], .int .i64 qe]) (by simp [results, Try.results138, go_sem, p0, p1, p2, p3, p4, p5]) rfl ?_
  have G7 := G5.out.grown g7 (fun q hq => by simp at hq; omega)
  rw [HE.out, HE2.out]
  refine ⟨_, rfl, Of.wd_mk ?_ (HQ2.out.mono (ov_in HC.out)) ?_, G7⟩
  ·refine HX1.out.mono fun a u e => ?_
   have e1 := ov_mono (Sub.refl _) (G12.out.trans G3.out) a u e
   have e4 := ov_past (w := w) HG4.out (Nat.le_refl _) (by have := HZ.out; omega) a u e1
   have e5 := ov_past (w := w) HG5.out (Nat.le_refl _) (by have := HZ.out; omega) a u e4
   have e7 := ov_past (w := w) g7 (by omega) (by have := HZ.out; omega) a u e5
   exact ovz_sub HC.out G1.out a u e7
  ·have hsz := (Array.getElem?_eq_some_iff.1 R22.out).1
   have hsz4 := (Array.getElem?_eq_some_iff.1 R42.out).1
   have h9 := HN3.out
   rw [send_map] at h9
   refine Sl.mono (fun a u e => ?_) (show Nts _ _ _ from by simpa using h9)
   have hgd := ZDW.out
   have e4 := ov_past (w := w) HG4.out (Nat.le_refl _) (by omega) a u e
   have e5 := ov_past (w := w) HG5.out (Nat.le_refl _) (by omega) a u e4
   have e7 := ov_past (w := w) g7 (by omega) (by omega) a u e5
   exact ovz_sub HC.out (GW2.out.trans GD) a u e7
 ·intro K HK
  try simp only [lzA, lzB, lzC]
  go_simp
  refine HK.out _ _ ⟨fun _ => HS.out _ GD, ?_⟩
  clear HK K
  try simp only [Act.put, lzA, lzB, lzC, lzD, lzE, lzF]
  refine bO 4 (by kernel_rfl) rfl ?_
  intro K HK
  try simp only [lzA, lzB, lzC]
  go_simp
  go_at_call 70
  refine (ref_sendC (c := c) (l := x.net.map bytesM) (ms := qm) _ (HC.out.trans (GW2.out.trans GD).sub) ?nv (Sl.mono (Grow.sub (Grow.trans G12.out GD)) (Sl.mono (ov_sub (HC.out.trans G1.out.sub) GZ1.out) HX2.out)) HRT.out (by rw [List.length_map]; have := H24.out; omega)).mono ?_
  case nv => have h9 := HQ3.out; simpa using h9
  rintro e3 w3 ⟨v3, rfl, hn3, hb3⟩
  obtain ⟨a3, c3, rfl, -⟩ := id hn3
  have HN3 := Lib.hid hn3
  have G3 := Lib.hid (Grow.trans GD hb3)
  have GB3 := Lib.hid hb3
  have ZDW := Lib.hid (GD).size
  clear hn3 hb3
  rw [send_map, List.length_map]
  refine HK.out _ _ ⟨fun _ => HS.out _ G3.out, ?_⟩
  clear HK K
  try simp only [Act.put, lzA, lzB, lzC, lzD, lzE, lzF]
  refine bO 6 (by kernel_rfl) rfl ?_
  intro K HK
  refine wanted_go rfl ?_
  try simp only [lzA, lzB, lzC]
  refine wp_store_part (.tmp 62) (.tmp 57) (p := 0) (cells := #[.slice al2 qh.log.length cl2, .int .i64 qh.boot, .int .i64 qh.next, .slice ao2 qh.opn.length co2]) (new := #[.slice al2 qh.log.length cl2, .int .i64 qh.boot, .int .i64 qh.next, .slice ao2 qh.opn.length co2, .slice ah x.houses.length ch, .slice an x.net.length cn]) rfl rfl (by rfl) (row_grow R22.out G3.out) info_hd (by simp) (by rfl) (by rfl) ?_
  intro w4 r4 g4
  have R44 := Lib.hid r4
  have HG4 := Lib.hid g4
  have HS4 : Hid (w4.cell? ⟨BH, 0, none⟩ = some (.slice al2 qh.log.length cl2) ∧ w4.cell? ⟨BH, 1, none⟩ = some (.int .i64 qh.boot) ∧ w4.cell? ⟨BH, 2, none⟩ = some (.int .i64 qh.next) ∧ w4.cell? ⟨BH, 3, none⟩ = some (.slice ao2 qh.opn.length co2) ∧ w4.cell? ⟨w.heap.size, 5, none⟩ = some (.slice an x.net.length cn)) := Lib.hid (by obtain ⟨k0, k1, k2, k3, -⟩ := HS.out _ G3.out; obtain ⟨-, -, -, -, -, j5⟩ := cells6 r4; have hne : BH ≠ w.heap.size := HBHN.out; exact ⟨cell_past k0 g4 hne, cell_past k1 g4 hne, cell_past k2 g4 hne, cell_past k3 g4 hne, j5⟩)
  clear r4 g4
  refine HK.out _ _ ⟨fun _ => HS4.out, ?_⟩
  clear HK K
  try simp only [Act.put]
  refine bO 7 (by kernel_rfl) rfl ?_
  intro K HK
  try simp only [lzA, lzB, lzC]
  go_simp
  refine HK.out _ _ ⟨fun _ => HS4.out, ?_⟩
  clear HK K
  try simp only [Act.put, lzA, lzB, lzC, lzD, lzE, lzF]
  refine bO 8 (by kernel_rfl) rfl ?_
  intro K HK
  refine wanted_go rfl ?_
  try simp only [lzA, lzB, lzC]
  refine wp_store_cell (.tmp 63) (.tmp 61) (v := .slice a3 (sendA x.net qm).length c3) (new := #[.slice al2 qh.log.length cl2, .int .i64 qh.boot, .int .i64 qh.next, .slice ao2 qh.opn.length co2, .slice ah x.houses.length ch, .slice a3 (sendA x.net qm).length c3]) rfl rfl (by rfl) (by rfl) R44.out info_nets (by simp) (by rfl) (by rfl) ?_
  intro w5 r5 g5
  have R55 := Lib.hid r5
  have HG5 := Lib.hid g5
  clear r5 g5
  refine HK.out _ _ ⟨fun h => absurd rfl h, ?_⟩
  clear HK K
  try simp only [Act.put]
  refine but_done (by kernel_rfl) ?_
  have R45 := Lib.hid (row_by (row_by (row_grow R42.out G3.out) HG4.out (by intro e; have := Option.some.inj e; omega)) HG5.out (by intro e; have := Option.some.inj e; omega))
  have G5 := Lib.hid (((GW2.out.trans G3.out).grown HG4.out (fun q hq => by simp at hq; omega)).grown HG5.out (fun q hq => by simp at hq; omega))
  obtain ⟨c0, c1, c2, c3x, c4, c5⟩ := cells6 R55.out
  have z2 : w.heap.size < w5.heap.size := (Array.getElem?_eq_some_iff.1 R55.out).1
  go_wp2_with (first | (refine wpList_store_row rfl (.tmp 4) (.tmp 64) rfl rfl rfl R45.out info_wd rfl rfl ?_))
  intro w7 r7 g7
  obtain ⟨p0, p1, p2, p3, p4, p5⟩ := cells6 r7
  clear c0 c1 c2 c3x c4 c5
  go_wp2
  refine bodyPost_ret (v := .tuple #[.agg #[.slice al2 qh.log.length cl2, .int .i64 qh.boot, .int .i64 qh.next, .slice ao2 qh.opn.length co2, .slice ah x.houses.length ch, .slice a3 (sendA x.net qm).length c3], .int .i64 qe]) (by simp [results, Try.results138, go_sem, p0, p1, p2, p3, p4, p5]) rfl ?_
  have G7 := G5.out.grown g7 (fun q hq => by simp at hq; omega)
  rw [HE.out, HE2.out]
  refine ⟨_, rfl, Of.wd_mk ?_ (HQ2.out.mono (ov_in HC.out)) ?_, G7⟩
  ·refine HX1.out.mono fun a u e => ?_
   have e1 := ov_mono (Sub.refl _) (G12.out.trans G3.out) a u e
   have e4 := ov_past (w := w) HG4.out (Nat.le_refl _) (by have := HZ.out; omega) a u e1
   have e5 := ov_past (w := w) HG5.out (Nat.le_refl _) (by have := HZ.out; omega) a u e4
   have e7 := ov_past (w := w) g7 (by omega) (by have := HZ.out; omega) a u e5
   exact ovz_sub HC.out G1.out a u e7
  ·have hsz := (Array.getElem?_eq_some_iff.1 R22.out).1
   have hsz4 := (Array.getElem?_eq_some_iff.1 R42.out).1
   have h9 := HN3.out
   rw [send_map] at h9
   refine Sl.mono (fun a u e => ?_) (show Nts _ _ _ from by simpa using h9)
   have hgd := ZDW.out
   have e4 := ov_past (w := w) HG4.out (Nat.le_refl _) (by omega) a u e
   have e5 := ov_past (w := w) HG5.out (Nat.le_refl _) (by omega) a u e4
   have e7 := ov_past (w := w) g7 (by omega) (by omega) a u e5
   exact ovz_sub HC.out (GW2.out.trans GD) a u e7
set_option maxRecDepth 100000 in
set_option maxHeartbeats 4000000 in
theorem ref_do_tick3 {c : CM} {v vs : Value} {x : AW} {sn : Int} {sp : List Pt} {n : Nat} {G : Reg} {k : Nat} (w : World) (hc : Sub c w.cell?) (hv : Of Ty.wd c v x) (hs : Of Ty.st c vs ⟨6, sn, sp⟩) (hi : WI n G x) (hf : Few k x) (hk : k ≤ 1000) (h3 : sn = 3) :
  Calls Try.prog 138 #[v, vs] w fun e w' => ∃ v', e = .returned (.tuple #[v', .int .i64 (doErr x ⟨6, sn, sp⟩)]) ∧ Of Ty.wd (ov c w w') v' (doA x ⟨6, sn, sp⟩) ∧ Grow w w' := by
 obtain ⟨al, cl, ao, co, ah, ch, an, cn, rfl⟩ := hv.wd_form
 obtain ⟨ap, cp, rfl⟩ := hs.st_form
 obtain ⟨q1, q2, q3⟩ := hv.wd_parts
 have HQ1 := Lib.hid q1
 have HQ2 := Lib.hid q2
 have HQ3 := Lib.hid q3
 have HSP := Lib.hid hs.st_parts
 have HHD := Lib.hid (hi.hdok hf hk)
 have HWI := Lib.hid hi
 have HV := Lib.hid hv
 have HC := Lib.hid hc
 have H3 := Lib.hid h3
 clear h3
 clear hc hv hs q1 q2 q3 hi hf
 obtain ⟨wa, hwa⟩ : ∃ y : World, y = w.alloc (.cells #[.slice al x.head.log.length cl, .int .i64 x.head.boot, .int .i64 x.head.next, .slice ao x.head.opn.length co, .slice ah x.houses.length ch, .slice an x.net.length cn] 93) := ⟨_, rfl⟩
 obtain ⟨wb, hwb⟩ : ∃ y : World, y = wa.alloc (.cells #[.int .i64 6, .int .i64 sn, .slice ap sp.length cp] 164) := ⟨_, rfl⟩
 obtain ⟨wz, hwz⟩ : ∃ y : World, y = wb.alloc (.cells #[.slice none 0 0, .int .i64 0, .int .i64 0, .slice none 0 0, .slice none 0 0, .slice none 0 0] 93) := ⟨_, rfl⟩
 have hsa : wa.heap.size = w.heap.size + 1 := by rw [hwa]; simp
 have hsb : wb.heap.size = w.heap.size + 2 := by rw [hwb]; simp [hsa]
 have R2 : Hid (wz.heap[w.heap.size]? = some (.cells #[.slice al x.head.log.length cl, .int .i64 x.head.boot, .int .i64 x.head.next, .slice ao x.head.opn.length co, .slice ah x.houses.length ch, .slice an x.net.length cn] 93 (0, 0))) := Lib.hid (by rw [hwz, hwb, hwa]; exact heap_later (heap_later (row_new _ _) _) _)
 have R3 : Hid (wz.heap[w.heap.size + 1]? = some (.cells #[.int .i64 6, .int .i64 sn, .slice ap sp.length cp] 164 (0, 0))) := Lib.hid (by rw [hwz, hwb, ← hsa]; exact heap_later (row_new _ _) _)
 have R4 : Hid (wz.heap[w.heap.size + 2]? = some (.cells #[.slice none 0 0, .int .i64 0, .int .i64 0, .slice none 0 0, .slice none 0 0, .slice none 0 0] 93 (0, 0))) := Lib.hid (by rw [hwz, ← hsb]; exact row_new _ _)
 have G1 : Hid (Grow w wz) := Lib.hid (by rw [hwz, hwb, hwa]; exact (((Grow.refl w).alloc _).alloc _).alloc _)
 have HZ : Hid (wz.heap.size = w.heap.size + 3) := Lib.hid (by rw [hwz]; simp [hsb])
 go_enter Try.func138, Try.ntmps138
 go_upto_region 1 with fail
 rw [← hwa]
 try rw [hsa]
 rw [← hwb]
 try rw [hsb]
 rw [← hwz]
 clear hwa hwb hwz hsa hsb
 obtain ⟨c0, c1, c2, c3, c4, c5⟩ := cells6 R2.out
 obtain ⟨d0, d1, d2⟩ := cells3 R3.out
 have z2 : w.heap.size < wz.heap.size := (Array.getElem?_eq_some_iff.1 R2.out).1
 have z3 : w.heap.size + 1 < wz.heap.size := (Array.getElem?_eq_some_iff.1 R3.out).1
 go_cut [6] from 22 (fun s6 wc => s6 = .bool (there x sn) ∧ wz = wc)
 case first =>
  by_cases h0 : 0 ≤ sn
  ·by_cases h1 : sn < (x.net.length : Int)
   ·go_wp2
    go_meet
    case rel => exact ⟨by first | rfl | (simp [there, h0, h1]; done), rfl⟩
   ·go_wp2
    go_meet
    case rel => exact ⟨by first | rfl | (simp [there, h0, h1]; done) | (simp [there, h0]; omega), rfl⟩
  ·go_wp2
   go_meet
   case rel => exact ⟨by first | rfl | (simp [there]; done) | (simp [there]; omega), rfl⟩
 case rest =>
 obtain ⟨rfl, rfl⟩ := hcut
 have HE : Hid (doA x ⟨6, sn, sp⟩ = { x with net := sendA x.net (tickE x.head) }) := Lib.hid (by unfold doA tickA; simp [H3.out])
 have HE2 : Hid (doErr x ⟨6, sn, sp⟩ = 0) := Lib.hid (by unfold doErr; simp [H3.out])
 have hb33 : (sn == 3) = true := by simp [H3.out]
 have HRT : Hid (∀ m ∈ tickE x.head, wrongM m = 0) := Lib.hid (WI.says (tickE_ok HWI.out.core))
 have H24 := Lib.hid HWI.out.len
 clear H3
 go_upto_region 41 with fail
 have HS : Hid (∀ W, Grow wz W → W.cell? ⟨w.heap.size, 0, none⟩ = some (.slice al x.head.log.length cl) ∧ W.cell? ⟨w.heap.size, 1, none⟩ = some (.int .i64 x.head.boot) ∧ W.cell? ⟨w.heap.size, 2, none⟩ = some (.int .i64 x.head.next) ∧ W.cell? ⟨w.heap.size, 3, none⟩ = some (.slice ao x.head.opn.length co) ∧ W.cell? ⟨w.heap.size, 5, none⟩ = some (.slice an x.net.length cn)) := fun W hW => by
  obtain ⟨j0, j1, j2, j3, -, j5⟩ := cells6 (row_grow R2.out hW)
  exact ⟨j0, j1, j2, j3, j5⟩
 clear c0 c1 c2 c3 c4 c5 d0 d1 d2 z2 z3
 refine but_start (fun w' => w'.cell? ⟨w.heap.size, 0, none⟩ = some (.slice al x.head.log.length cl) ∧ w'.cell? ⟨w.heap.size, 1, none⟩ = some (.int .i64 x.head.boot) ∧ w'.cell? ⟨w.heap.size, 2, none⟩ = some (.int .i64 x.head.next) ∧ w'.cell? ⟨w.heap.size, 3, none⟩ = some (.slice ao x.head.opn.length co) ∧ w'.cell? ⟨w.heap.size, 5, none⟩ = some (.slice an x.net.length cn)) 7 (by kernel_rfl) ?_
 obtain ⟨wd, hWd⟩ : ∃ x : World, x = wz.drew := ⟨_, rfl⟩
 rw [← hWd]
 have GD : Grow wz wd := by rw [hWd]; exact (Grow.refl _).drew
 have zD : wz.heap.size = wd.heap.size := by rw [hWd]; rfl
 have ZD := Lib.hid zD
 clear hWd zD
 refine bLm [0] 12 (by kernel_rfl) (fun _ _ _ _ _ h => h) (HS.out _ GD) ?_
 repeat (refine tNm (v := ?_) rfl (by rfl) ?_ ?_; rotate_left; (· (intro w' hSw; (try dsimp only at hSw); obtain ⟨hs0, hs1, hs2, hs3, hs4⟩ := hSw; go_simp <;> with_reducible rfl)); try simp only [Act.put, lzA, lzC, lzD, lzE, lzF])
 refine tEm ?_
 refine bLm [1, 2, 3] 12 (by kernel_rfl) (fun _ _ _ _ _ h => h) (HS.out _ GD) ?_
 repeat (refine tNm (v := ?_) rfl (by rfl) ?_ ?_; rotate_left; (· (intro w' hSw; (try dsimp only at hSw); obtain ⟨hs0, hs1, hs2, hs3, hs4⟩ := hSw; go_simp <;> with_reducible rfl)); try simp only [Act.put, lzA, lzB, lzC, lzD, lzE, lzF])
 refine tEm ?_
 refine bO 4 (by kernel_rfl) rfl ?_
 intro K HK
 try simp only [lzA, lzB, lzC]
 go_simp
 go_at_call 109
 refine (ref_headTick _ (HQ1.out.mono (HC.out.trans (G1.out.trans GD).sub)) HHD.out).mono ?_
 rintro e1 w1 ⟨v1, rfl, ho1, hb1⟩
 obtain ⟨a1, c1, rfl⟩ := ho1.form
 have HM1 := Lib.hid (ho1.sl (by decide) (fr_sub _ _ _))
 have GT1 := Lib.hid (Grow.trans GD hb1)
 clear ho1 hb1
 generalize tickE x.head = qm at *
 refine HK.out _ _ ⟨fun _ => HS.out _ GT1.out, ?_⟩
 clear HK K
 try simp only [Act.put, lzA, lzB, lzC, lzD, lzE, lzF]
 refine bO 5 (by kernel_rfl) rfl ?_
 intro K HK
 try simp only [lzA, lzB, lzC]
 go_simp
 go_at_call 70
 refine (ref_sendC (c := c) (l := x.net.map bytesM) (ms := qm) _ (HC.out.trans (G1.out.trans GT1.out).sub) ?nv HM1.out HRT.out (by rw [List.length_map]; have := H24.out; omega)).mono ?_
 case nv => have h9 := HQ3.out; simpa using h9
 rintro e3 w3 ⟨v3, rfl, hn3, hb3⟩
 obtain ⟨a3, c3, rfl, -⟩ := id hn3
 have HN3 := Lib.hid hn3
 have G3 := Lib.hid (Grow.trans GT1.out hb3)
 have ZDW := Lib.hid (GT1.out).size
 clear hn3 hb3
 rw [send_map, List.length_map]
 refine HK.out _ _ ⟨fun _ => HS.out _ G3.out, ?_⟩
 clear HK K
 try simp only [Act.put, lzA, lzB, lzC, lzD, lzE, lzF]
 refine bO 6 (by kernel_rfl) rfl ?_
 intro K HK
 try simp only [lzA, lzB, lzC]
 go_simp
 refine HK.out _ _ ⟨fun _ => HS.out _ G3.out, ?_⟩
 clear HK K
 try simp only [Act.put, lzA, lzB, lzC, lzD, lzE, lzF]
 refine bO 7 (by kernel_rfl) rfl ?_
 intro K HK
 refine wanted_go rfl ?_
 try simp only [lzA, lzB, lzC]
 refine wp_store_cell (.tmp 220) (.tmp 219) (v := .slice a3 (sendA x.net qm).length c3) (new := #[.slice al x.head.log.length cl, .int .i64 x.head.boot, .int .i64 x.head.next, .slice ao x.head.opn.length co, .slice ah x.houses.length ch, .slice a3 (sendA x.net qm).length c3]) rfl rfl (by rfl) (by rfl) (row_grow R2.out G3.out) info_nets (by simp) (by rfl) (by rfl) ?_
 intro w5 r5 g5
 have R55 := Lib.hid r5
 have HG5 := Lib.hid g5
 clear r5 g5
 refine HK.out _ _ ⟨fun h => absurd rfl h, ?_⟩
 clear HK K
 try simp only [Act.put]
 refine but_done (by kernel_rfl) ?_
 have R45 := Lib.hid (row_by (row_grow R4.out G3.out) HG5.out (by intro e; have := Option.some.inj e; omega))
 have G5 := Lib.hid ((G1.out.trans G3.out).grown HG5.out (fun q hq => by simp at hq; omega))
 obtain ⟨c0, c1x, c2, c3x, c4, c5⟩ := cells6 R55.out
 have z2 : w.heap.size < w5.heap.size := (Array.getElem?_eq_some_iff.1 R55.out).1
 go_wp2_with (first | (refine wpList_store_row rfl (.tmp 4) (.tmp 221) rfl rfl rfl R45.out info_wd rfl rfl ?_))
 intro w7 r7 g7
 obtain ⟨p0, p1, p2, p3, p4, p5⟩ := cells6 r7
 clear c0 c1x c2 c3x c4 c5
 go_wp2
 refine bodyPost_ret (v := .tuple #[.agg #[.slice al x.head.log.length cl, .int .i64 x.head.boot, .int .i64 x.head.next, .slice ao x.head.opn.length co, .slice ah x.houses.length ch, .slice a3 (sendA x.net qm).length c3], .int .i64 0]) (by simp [results, Try.results138, go_sem, p0, p1, p2, p3, p4, p5]) rfl ?_
 have G7 := G5.out.grown g7 (fun q hq => by simp at hq; omega)
 rw [HE.out, HE2.out]
 refine ⟨_, rfl, Of.wd_mk (HQ1.out.mono (ov_in HC.out)) (HQ2.out.mono (ov_in HC.out)) ?_, G7⟩
 have h9 := HN3.out
 rw [send_map] at h9
 refine Sl.mono (fun a u e => ?_) (show Nts _ _ _ from by simpa using h9)
 have hgd := ZDW.out
 have hz := HZ.out
 have e5 := ov_past (w := w) HG5.out (Nat.le_refl _) (by omega) a u e
 have e7 := ov_past (w := w) g7 (by omega) (by omega) a u e5
 exact ovz_sub HC.out (G1.out.trans GT1.out) a u e7
set_option maxRecDepth 100000 in
set_option maxHeartbeats 4000000 in
theorem ref_do_tickN {c : CM} {v vs : Value} {x : AW} {sn : Int} {sp : List Pt} {n : Nat} {G : Reg} {k : Nat} (w : World) (hc : Sub c w.cell?) (hv : Of Ty.wd c v x) (hs : Of Ty.st c vs ⟨6, sn, sp⟩) (hi : WI n G x) (hf : Few k x) (hk : k ≤ 1000) (h3 : ¬ sn = 3) (hh : hereN x sn = false) :
  Calls Try.prog 138 #[v, vs] w fun e w' => ∃ v', e = .returned (.tuple #[v', .int .i64 (doErr x ⟨6, sn, sp⟩)]) ∧ Of Ty.wd (ov c w w') v' (doA x ⟨6, sn, sp⟩) ∧ Grow w w' := by
 obtain ⟨al, cl, ao, co, ah, ch, an, cn, rfl⟩ := hv.wd_form
 obtain ⟨ap, cp, rfl⟩ := hs.st_form
 obtain ⟨q1, q2, q3⟩ := hv.wd_parts
 have HQ1 := Lib.hid q1
 have HQ2 := Lib.hid q2
 have HQ3 := Lib.hid q3
 have HSP := Lib.hid hs.st_parts
 have HHD := Lib.hid (hi.hdok hf hk)
 have HWI := Lib.hid hi
 have HV := Lib.hid hv
 have HC := Lib.hid hc
 clear hc hv hs q1 q2 q3 hi hf
 obtain ⟨wa, hwa⟩ : ∃ y : World, y = w.alloc (.cells #[.slice al x.head.log.length cl, .int .i64 x.head.boot, .int .i64 x.head.next, .slice ao x.head.opn.length co, .slice ah x.houses.length ch, .slice an x.net.length cn] 93) := ⟨_, rfl⟩
 obtain ⟨wb, hwb⟩ : ∃ y : World, y = wa.alloc (.cells #[.int .i64 6, .int .i64 sn, .slice ap sp.length cp] 164) := ⟨_, rfl⟩
 obtain ⟨wz, hwz⟩ : ∃ y : World, y = wb.alloc (.cells #[.slice none 0 0, .int .i64 0, .int .i64 0, .slice none 0 0, .slice none 0 0, .slice none 0 0] 93) := ⟨_, rfl⟩
 have hsa : wa.heap.size = w.heap.size + 1 := by rw [hwa]; simp
 have hsb : wb.heap.size = w.heap.size + 2 := by rw [hwb]; simp [hsa]
 have R2 : Hid (wz.heap[w.heap.size]? = some (.cells #[.slice al x.head.log.length cl, .int .i64 x.head.boot, .int .i64 x.head.next, .slice ao x.head.opn.length co, .slice ah x.houses.length ch, .slice an x.net.length cn] 93 (0, 0))) := Lib.hid (by rw [hwz, hwb, hwa]; exact heap_later (heap_later (row_new _ _) _) _)
 have R3 : Hid (wz.heap[w.heap.size + 1]? = some (.cells #[.int .i64 6, .int .i64 sn, .slice ap sp.length cp] 164 (0, 0))) := Lib.hid (by rw [hwz, hwb, ← hsa]; exact heap_later (row_new _ _) _)
 have R4 : Hid (wz.heap[w.heap.size + 2]? = some (.cells #[.slice none 0 0, .int .i64 0, .int .i64 0, .slice none 0 0, .slice none 0 0, .slice none 0 0] 93 (0, 0))) := Lib.hid (by rw [hwz, ← hsb]; exact row_new _ _)
 have G1 : Hid (Grow w wz) := Lib.hid (by rw [hwz, hwb, hwa]; exact (((Grow.refl w).alloc _).alloc _).alloc _)
 have HZ : Hid (wz.heap.size = w.heap.size + 3) := Lib.hid (by rw [hwz]; simp [hsb])
 go_enter Try.func138, Try.ntmps138
 go_upto_region 1 with fail
 rw [← hwa]
 try rw [hsa]
 rw [← hwb]
 try rw [hsb]
 rw [← hwz]
 clear hwa hwb hwz hsa hsb
 obtain ⟨c0, c1, c2, c3, c4, c5⟩ := cells6 R2.out
 obtain ⟨d0, d1, d2⟩ := cells3 R3.out
 have z2 : w.heap.size < wz.heap.size := (Array.getElem?_eq_some_iff.1 R2.out).1
 have z3 : w.heap.size + 1 < wz.heap.size := (Array.getElem?_eq_some_iff.1 R3.out).1
 go_cut [6] from 22 (fun s6 wc => s6 = .bool (there x sn) ∧ wz = wc)
 case first =>
  by_cases h0 : 0 ≤ sn
  ·by_cases h1 : sn < (x.net.length : Int)
   ·go_wp2
    go_meet
    case rel => exact ⟨by first | rfl | (simp [there, h0, h1]; done), rfl⟩
   ·go_wp2
    go_meet
    case rel => exact ⟨by first | rfl | (simp [there, h0, h1]; done) | (simp [there, h0]; omega), rfl⟩
  ·go_wp2
   go_meet
   case rel => exact ⟨by first | rfl | (simp [there]; done) | (simp [there]; omega), rfl⟩
 case rest =>
 obtain ⟨rfl, rfl⟩ := hcut
 have HE : Hid (doA x ⟨6, sn, sp⟩ = x) := Lib.hid (by unfold doA; simp [h3, hh])
 have HE2 : Hid (doErr x ⟨6, sn, sp⟩ = 6) := Lib.hid (by unfold doErr; simp [h3, hh])
 have hb33 : (sn == 3) = false := by simp [h3]
 have hor : sn < 0 ∨ (x.houses.length : Int) ≤ sn := by have := of_decide_eq_false hh; omega
 clear h3 hh
 by_cases hl : sn < 0
 ·clear hor
  go_wp2_with (first | (refine wpList_store_row rfl (.tmp 4) (.tmp 233) rfl rfl rfl R4.out info_wd rfl rfl ?_))
  intro w7 r7 g7
  obtain ⟨p0, p1, p2, p3, p4, p5⟩ := cells6 r7
  clear c0 c1 c2 c3 c4 c5
  go_wp2
  refine bodyPost_ret (v := .tuple #[.agg #[.slice al x.head.log.length cl, .int .i64 x.head.boot, .int .i64 x.head.next, .slice ao x.head.opn.length co, .slice ah x.houses.length ch, .slice an x.net.length cn], .int .i64 6]) (by simp [results, Try.results138, go_sem, p0, p1, p2, p3, p4, p5]) rfl ?_
  have G7 := G1.out.grown g7 (fun q hq => by simp at hq; omega)
  rw [HE.out, HE2.out]
  exact ⟨_, rfl, HV.out.mono (ov_in HC.out), G7⟩
 have hg : (x.houses.length : Int) ≤ sn := by omega
 clear hor
 go_wp2_with (first | (refine wpList_store_row rfl (.tmp 4) (.tmp 233) rfl rfl rfl R4.out info_wd rfl rfl ?_))
 intro w7 r7 g7
 obtain ⟨p0, p1, p2, p3, p4, p5⟩ := cells6 r7
 clear c0 c1 c2 c3 c4 c5
 go_wp2
 refine bodyPost_ret (v := .tuple #[.agg #[.slice al x.head.log.length cl, .int .i64 x.head.boot, .int .i64 x.head.next, .slice ao x.head.opn.length co, .slice ah x.houses.length ch, .slice an x.net.length cn], .int .i64 6]) (by simp [results, Try.results138, go_sem, p0, p1, p2, p3, p4, p5]) rfl ?_
 have G7 := G1.out.grown g7 (fun q hq => by simp at hq; omega)
 rw [HE.out, HE2.out]
 exact ⟨_, rfl, HV.out.mono (ov_in HC.out), G7⟩
set_option maxRecDepth 100000 in
set_option maxHeartbeats 4000000 in
theorem ref_do_tickH {c : CM} {v vs : Value} {x : AW} {sn : Int} {sp : List Pt} {n : Nat} {G : Reg} {k : Nat} (w : World) (hc : Sub c w.cell?) (hv : Of Ty.wd c v x) (hs : Of Ty.st c vs ⟨6, sn, sp⟩) (hi : WI n G x) (hf : Few k x) (hk : k ≤ 1000) (hh : hereN x sn = true) :
  Calls Try.prog 138 #[v, vs] w fun e w' => ∃ v', e = .returned (.tuple #[v', .int .i64 (doErr x ⟨6, sn, sp⟩)]) ∧ Of Ty.wd (ov c w w') v' (doA x ⟨6, sn, sp⟩) ∧ Grow w w' := by
 obtain ⟨al, cl, ao, co, ah, ch, an, cn, rfl⟩ := hv.wd_form
 obtain ⟨ap, cp, rfl⟩ := hs.st_form
 obtain ⟨q1, q2, q3⟩ := hv.wd_parts
 have HQ1 := Lib.hid q1
 have HQ2 := Lib.hid q2
 have HQ3 := Lib.hid q3
 have HSP := Lib.hid hs.st_parts
 have HHD := Lib.hid (hi.hdok hf hk)
 have HWI := Lib.hid hi
 have HV := Lib.hid hv
 have HC := Lib.hid hc
 have HH := Lib.hid hh
 clear hh
 clear hc hv hs q1 q2 q3 hi hf
 obtain ⟨wa, hwa⟩ : ∃ y : World, y = w.alloc (.cells #[.slice al x.head.log.length cl, .int .i64 x.head.boot, .int .i64 x.head.next, .slice ao x.head.opn.length co, .slice ah x.houses.length ch, .slice an x.net.length cn] 93) := ⟨_, rfl⟩
 obtain ⟨wb, hwb⟩ : ∃ y : World, y = wa.alloc (.cells #[.int .i64 6, .int .i64 sn, .slice ap sp.length cp] 164) := ⟨_, rfl⟩
 obtain ⟨wz, hwz⟩ : ∃ y : World, y = wb.alloc (.cells #[.slice none 0 0, .int .i64 0, .int .i64 0, .slice none 0 0, .slice none 0 0, .slice none 0 0] 93) := ⟨_, rfl⟩
 have hsa : wa.heap.size = w.heap.size + 1 := by rw [hwa]; simp
 have hsb : wb.heap.size = w.heap.size + 2 := by rw [hwb]; simp [hsa]
 have R2 : Hid (wz.heap[w.heap.size]? = some (.cells #[.slice al x.head.log.length cl, .int .i64 x.head.boot, .int .i64 x.head.next, .slice ao x.head.opn.length co, .slice ah x.houses.length ch, .slice an x.net.length cn] 93 (0, 0))) := Lib.hid (by rw [hwz, hwb, hwa]; exact heap_later (heap_later (row_new _ _) _) _)
 have R3 : Hid (wz.heap[w.heap.size + 1]? = some (.cells #[.int .i64 6, .int .i64 sn, .slice ap sp.length cp] 164 (0, 0))) := Lib.hid (by rw [hwz, hwb, ← hsa]; exact heap_later (row_new _ _) _)
 have R4 : Hid (wz.heap[w.heap.size + 2]? = some (.cells #[.slice none 0 0, .int .i64 0, .int .i64 0, .slice none 0 0, .slice none 0 0, .slice none 0 0] 93 (0, 0))) := Lib.hid (by rw [hwz, ← hsb]; exact row_new _ _)
 have G1 : Hid (Grow w wz) := Lib.hid (by rw [hwz, hwb, hwa]; exact (((Grow.refl w).alloc _).alloc _).alloc _)
 have HZ : Hid (wz.heap.size = w.heap.size + 3) := Lib.hid (by rw [hwz]; simp [hsb])
 go_enter Try.func138, Try.ntmps138
 go_upto_region 1 with fail
 rw [← hwa]
 try rw [hsa]
 rw [← hwb]
 try rw [hsb]
 rw [← hwz]
 clear hwa hwb hwz hsa hsb
 obtain ⟨c0, c1, c2, c3, c4, c5⟩ := cells6 R2.out
 obtain ⟨d0, d1, d2⟩ := cells3 R3.out
 have z2 : w.heap.size < wz.heap.size := (Array.getElem?_eq_some_iff.1 R2.out).1
 have z3 : w.heap.size + 1 < wz.heap.size := (Array.getElem?_eq_some_iff.1 R3.out).1
 go_cut [6] from 22 (fun s6 wc => s6 = .bool (there x sn) ∧ wz = wc)
 case first =>
  by_cases h0 : 0 ≤ sn
  ·by_cases h1 : sn < (x.net.length : Int)
   ·go_wp2
    go_meet
    case rel => exact ⟨by first | rfl | (simp [there, h0, h1]; done), rfl⟩
   ·go_wp2
    go_meet
    case rel => exact ⟨by first | rfl | (simp [there, h0, h1]; done) | (simp [there, h0]; omega), rfl⟩
  ·go_wp2
   go_meet
   case rel => exact ⟨by first | rfl | (simp [there]; done) | (simp [there]; omega), rfl⟩
 case rest =>
 obtain ⟨rfl, rfl⟩ := hcut
 obtain ⟨h0, h1⟩ : 0 ≤ sn ∧ sn < (x.houses.length : Int) := of_decide_eq_true HH.out
 have hl3 : x.houses.length ≤ 3 := by have h8 := HWI.out.core.len; have h9 := HWI.out.core.n3; omega
 have HE : Hid (doA x ⟨6, sn, sp⟩ = tickA x sn.toNat) := Lib.hid (by unfold doA; simp [HH.out])
 have HE2 : Hid (doErr x ⟨6, sn, sp⟩ = 0) := Lib.hid (by unfold doErr; simp [HH.out])
 have hb33 : (sn == 3) = false := by rw [beq_eq_false_iff_ne]; omega
 have h0' : ¬ sn < 0 := by omega
 have h1' : ¬ (x.houses.length : Int) ≤ sn := by omega
 obtain ⟨i, hi⟩ : ∃ i : Nat, sn.toNat = i := ⟨_, rfl⟩
 have hin : i < x.houses.length := by omega
 have HEA : Hid (tickA x sn.toNat = { x with net := sendA x.net (hTickE x.houses[i] i) }) := Lib.hid (by
  rw [hi]
  unfold tickA
  rw [if_neg (by omega), List.getElem?_eq_getElem hin])
 have HTO := Lib.hid (ticks_ok (k := i) HWI.out.core (List.getElem?_eq_getElem hin))
 have HRL := Lib.hid (ready_len (k := i) HWI.out.core (List.getElem?_eq_getElem hin))
 have HRT : Hid (∀ m ∈ hTickE x.houses[i] i, wrongM m = 0) := Lib.hid (WI.says HTO.out)
 have H24 := Lib.hid HWI.out.len
 have HIN : Hid (sn = (i : Int)) := Lib.hid (by omega)
 have HSI := Lib.hid HSP.out.1
 have hq2 := HQ2.out
 obtain ⟨ah', ch', he9, -, -, -, hel⟩ := hq2
 simp only [Value.slice.injEq, true_and] at he9
 obtain ⟨rfl, rfl⟩ := he9
 obtain ⟨bh, oh, vl, vr, vd, rfl, e0, e1, e2, e3, e4, e5, e6, hH1, s1, s2, s3, s4, hH2, hH3⟩ := Hss.at_ hel i hin
 obtain ⟨il, jl, rfl, -⟩ := id hH1
 obtain ⟨ir, jr, rfl, -⟩ := id hH2
 obtain ⟨id9, jd, rfl, -⟩ := id hH3
 have HHS : Hid (Of Ty.hs c (.agg #[.slice il x.houses[i].log.length jl, .int .i64 x.houses[i].sums.a, .int .i64 x.houses[i].sums.b, .int .i64 x.houses[i].sums.c, .int .i64 x.houses[i].sums.d, .slice ir x.houses[i].ready.length jr, .slice id9 x.houses[i].done.length jd]) x.houses[i]) := Lib.hid ⟨_, rfl, _, _, _, rfl, hH1, s1, s2, s3, s4, hH2, hH3⟩
 have HE7 := Lib.hid (And.intro e0 (And.intro e1 (And.intro e2 (And.intro e3 (And.intro e4 (And.intro e5 e6))))))
 clear hel hH1 hH2 hH3 s1 s2 s3 s4 e0 e1 e2 e3 e4 e5 e6 HH h0 h1 HTO
 go_upto_region 45 with fail
 have HS : Hid (∀ W, Grow wz W → W.cell? ⟨w.heap.size, 4, none⟩ = some (.slice (some ⟨bh, oh, none⟩) x.houses.length ch) ∧ W.cell? ⟨w.heap.size, 5, none⟩ = some (.slice an x.net.length cn) ∧ W.cell? ⟨w.heap.size + 1, 1, none⟩ = some (.int .i64 sn) ∧ W.cell? ⟨bh, oh + i * 7, none⟩ = some (.slice il x.houses[i].log.length jl) ∧ W.cell? ⟨bh, oh + i * 7 + 1, none⟩ = some (.int .i64 x.houses[i].sums.a) ∧ W.cell? ⟨bh, oh + i * 7 + 2, none⟩ = some (.int .i64 x.houses[i].sums.b) ∧ W.cell? ⟨bh, oh + i * 7 + 3, none⟩ = some (.int .i64 x.houses[i].sums.c) ∧ W.cell? ⟨bh, oh + i * 7 + 4, none⟩ = some (.int .i64 x.houses[i].sums.d) ∧ W.cell? ⟨bh, oh + i * 7 + 5, none⟩ = some (.slice ir x.houses[i].ready.length jr) ∧ W.cell? ⟨bh, oh + i * 7 + 6, none⟩ = some (.slice id9 x.houses[i].done.length jd)) := fun W hW => by
  obtain ⟨-, -, -, -, j4, j5⟩ := cells6 (row_grow R2.out hW)
  obtain ⟨-, f1, -⟩ := cells3 (row_grow R3.out hW)
  have gs := HC.out.trans (G1.out.trans hW).sub
  obtain ⟨e0, e1, e2, e3, e4, e5, e6⟩ := HE7.out
  exact ⟨j4, j5, f1, gs _ _ e0, gs _ _ e1, gs _ _ e2, gs _ _ e3, gs _ _ e4, gs _ _ e5, gs _ _ e6⟩
 have hi0 : (0 : Int) ≤ sn := by omega
 have hi1 : sn < (x.houses.length : Int) := by omega
 clear c0 c1 c2 c3 c4 c5 d0 d1 d2 z2 z3
 rw [HEA.out] at HE
 clear HEA HE7
 generalize hgh : x.houses[i] = hh at *
 clear hgh
 refine but_start (fun w' => w'.cell? ⟨w.heap.size, 4, none⟩ = some (.slice (some ⟨bh, oh, none⟩) x.houses.length ch) ∧ w'.cell? ⟨w.heap.size, 5, none⟩ = some (.slice an x.net.length cn) ∧ w'.cell? ⟨w.heap.size + 1, 1, none⟩ = some (.int .i64 sn) ∧ w'.cell? ⟨bh, oh + i * 7, none⟩ = some (.slice il hh.log.length jl) ∧ w'.cell? ⟨bh, oh + i * 7 + 1, none⟩ = some (.int .i64 hh.sums.a) ∧ w'.cell? ⟨bh, oh + i * 7 + 2, none⟩ = some (.int .i64 hh.sums.b) ∧ w'.cell? ⟨bh, oh + i * 7 + 3, none⟩ = some (.int .i64 hh.sums.c) ∧ w'.cell? ⟨bh, oh + i * 7 + 4, none⟩ = some (.int .i64 hh.sums.d) ∧ w'.cell? ⟨bh, oh + i * 7 + 5, none⟩ = some (.slice ir hh.ready.length jr) ∧ w'.cell? ⟨bh, oh + i * 7 + 6, none⟩ = some (.slice id9 hh.done.length jd)) 13 (by kernel_rfl) ?_
 obtain ⟨wd, hWd⟩ : ∃ x : World, x = wz.drew := ⟨_, rfl⟩
 rw [← hWd]
 have GD : Grow wz wd := by rw [hWd]; exact (Grow.refl _).drew
 have zD : wz.heap.size = wd.heap.size := by rw [hWd]; rfl
 have ZD := Lib.hid zD
 clear hWd zD
 refine bLm [0] 18 (by kernel_rfl) (fun _ _ _ _ _ h => h) (HS.out _ GD) ?_
 repeat (refine tNm (v := ?_) rfl (by rfl) ?_ ?_; rotate_left; (· (intro w' hSw; (try dsimp only at hSw); obtain ⟨hs0, hs1, hs2, hs3, hs4, hs5, hs6, hs7, hs8, hs9⟩ := hSw; go_simp <;> with_reducible rfl)); try simp only [Act.put, lzA, lzC, lzD, lzE, lzF])
 refine tEm ?_
 refine bLm [1, 2, 3, 4, 5, 6, 7, 8, 9] 18 (by kernel_rfl) (fun _ _ _ _ _ h => h) (HS.out _ GD) ?_
 repeat (refine tNm (v := ?_) rfl (by rfl) ?_ ?_; rotate_left; (· (intro w' hSw; (try dsimp only at hSw); obtain ⟨hs0, hs1, hs2, hs3, hs4, hs5, hs6, hs7, hs8, hs9⟩ := hSw; go_simp <;> with_reducible rfl)); try simp only [Act.put, lzA, lzB, lzC, lzD, lzE, lzF])
 refine tEm ?_
 refine bO 10 (by kernel_rfl) rfl ?_
 intro K HK
 try simp only [lzA, lzB, lzC]
 go_simp
 go_at_call 55
 refine (ref_houseTick (h := hh) _ (HHS.out.mono (HC.out.trans (G1.out.trans GD).sub)) HSI.out (by have := HRL.out; omega)).mono ?_
 rintro e1 w1 ⟨v1, rfl, ho1, hb1⟩
 obtain ⟨a1, c1, rfl⟩ := ho1.form
 have HM1 := Lib.hid (OwnC.sl (c := fun _ => none) (by decide) (fun _ _ e => by cases e) ho1)
 have GT1 := Lib.hid (Grow.trans GD hb1)
 clear ho1 hb1
 rw [HIN.out] at HM1 ⊢
 generalize hTickE hh i = qm at *
 refine HK.out _ _ ⟨fun _ => HS.out _ GT1.out, ?_⟩
 clear HK K
 try simp only [Act.put, lzA, lzB, lzC, lzD, lzE, lzF]
 refine bO 11 (by kernel_rfl) rfl ?_
 intro K HK
 try simp only [lzA, lzB, lzC]
 go_simp
 go_at_call 70
 refine (ref_sendC (c := c) (l := x.net.map bytesM) (ms := qm) _ (HC.out.trans (G1.out.trans GT1.out).sub) ?nv HM1.out HRT.out (by rw [List.length_map]; have := H24.out; omega)).mono ?_
 case nv => have h9 := HQ3.out; simpa using h9
 rintro e3 w3 ⟨v3, rfl, hn3, hb3⟩
 obtain ⟨a3, c3, rfl, -⟩ := id hn3
 have HN3 := Lib.hid hn3
 have G3 := Lib.hid (Grow.trans GT1.out hb3)
 have ZDW := Lib.hid (GT1.out).size
 clear hn3 hb3
 rw [send_map, List.length_map]
 refine HK.out _ _ ⟨fun _ => HS.out _ G3.out, ?_⟩
 clear HK K
 try simp only [Act.put, lzA, lzB, lzC, lzD, lzE, lzF]
 refine bO 12 (by kernel_rfl) rfl ?_
 intro K HK
 try simp only [lzA, lzB, lzC]
 go_simp
 refine HK.out _ _ ⟨fun _ => HS.out _ G3.out, ?_⟩
 clear HK K
 try simp only [Act.put, lzA, lzB, lzC, lzD, lzE, lzF]
 refine bO 13 (by kernel_rfl) rfl ?_
 intro K HK
 refine wanted_go rfl ?_
 try simp only [lzA, lzB, lzC]
 refine wp_store_cell (.tmp 246) (.tmp 245) (v := .slice a3 (sendA x.net qm).length c3) (new := #[.slice al x.head.log.length cl, .int .i64 x.head.boot, .int .i64 x.head.next, .slice ao x.head.opn.length co, .slice (some ⟨bh, oh, none⟩) x.houses.length ch, .slice a3 (sendA x.net qm).length c3]) rfl rfl (by rfl) (by rfl) (row_grow R2.out G3.out) info_nets (by simp) (by rfl) (by rfl) ?_
 intro w5 r5 g5
 have R55 := Lib.hid r5
 have HG5 := Lib.hid g5
 clear r5 g5
 refine HK.out _ _ ⟨fun h => absurd rfl h, ?_⟩
 clear HK K
 try simp only [Act.put]
 refine but_done (by kernel_rfl) ?_
 have R45 := Lib.hid (row_by (row_grow R4.out G3.out) HG5.out (by intro e; have := Option.some.inj e; omega))
 have G5 := Lib.hid ((G1.out.trans G3.out).grown HG5.out (fun q hq => by simp at hq; omega))
 obtain ⟨c0, c1x, c2, c3x, c4, c5⟩ := cells6 R55.out
 have z2 : w.heap.size < w5.heap.size := (Array.getElem?_eq_some_iff.1 R55.out).1
 go_wp2_with (first | (refine wpList_store_row rfl (.tmp 4) (.tmp 262) rfl rfl rfl R45.out info_wd rfl rfl ?_))
 intro w7 r7 g7
 obtain ⟨p0, p1, p2, p3, p4, p5⟩ := cells6 r7
 clear c0 c1x c2 c3x c4 c5
 go_wp2
 refine bodyPost_ret (v := .tuple #[.agg #[.slice al x.head.log.length cl, .int .i64 x.head.boot, .int .i64 x.head.next, .slice ao x.head.opn.length co, .slice (some ⟨bh, oh, none⟩) x.houses.length ch, .slice a3 (sendA x.net qm).length c3], .int .i64 0]) (by simp [results, Try.results138, go_sem, p0, p1, p2, p3, p4, p5]) rfl ?_
 have G7 := G5.out.grown g7 (fun q hq => by simp at hq; omega)
 rw [HE.out, HE2.out]
 refine ⟨_, rfl, Of.wd_mk (HQ1.out.mono (ov_in HC.out)) (HQ2.out.mono (ov_in HC.out)) ?_, G7⟩
 have h9 := HN3.out
 rw [send_map] at h9
 refine Sl.mono (fun a u e => ?_) (show Nts _ _ _ from by simpa using h9)
 have hgd := ZDW.out
 have hz := HZ.out
 have e5 := ov_past (w := w) HG5.out (Nat.le_refl _) (by omega) a u e
 have e7 := ov_past (w := w) g7 (by omega) (by omega) a u e5
 exact ovz_sub HC.out (G1.out.trans GT1.out) a u e7
set_option maxRecDepth 100000 in
set_option maxHeartbeats 4000000 in
theorem ref_do_twice {c : CM} {v vs : Value} {x : AW} {sn : Int} {sp : List Pt} {n : Nat} {G : Reg} {k : Nat} (w : World) (hc : Sub c w.cell?) (hv : Of Ty.wd c v x) (hs : Of Ty.st c vs ⟨4, sn, sp⟩) (hi : WI n G x) (hf : Few k x) (hk : k ≤ 1000) (ht : there x sn = true) :
  Calls Try.prog 138 #[v, vs] w fun e w' => ∃ v', e = .returned (.tuple #[v', .int .i64 (doErr x ⟨4, sn, sp⟩)]) ∧ Of Ty.wd (ov c w w') v' (doA x ⟨4, sn, sp⟩) ∧ Grow w w' := by
 obtain ⟨al, cl, ao, co, ah, ch, an, cn, rfl⟩ := hv.wd_form
 obtain ⟨ap, cp, rfl⟩ := hs.st_form
 obtain ⟨q1, q2, q3⟩ := hv.wd_parts
 have HQ1 := Lib.hid q1
 have HQ2 := Lib.hid q2
 have HQ3 := Lib.hid q3
 have HSP := Lib.hid hs.st_parts
 have HHD := Lib.hid (hi.hdok hf hk)
 have HWI := Lib.hid hi
 have HV := Lib.hid hv
 have HC := Lib.hid hc
 have HT := Lib.hid ht
 clear hc hv hs q1 q2 q3 hi hf
 obtain ⟨wa, hwa⟩ : ∃ y : World, y = w.alloc (.cells #[.slice al x.head.log.length cl, .int .i64 x.head.boot, .int .i64 x.head.next, .slice ao x.head.opn.length co, .slice ah x.houses.length ch, .slice an x.net.length cn] 93) := ⟨_, rfl⟩
 obtain ⟨wb, hwb⟩ : ∃ y : World, y = wa.alloc (.cells #[.int .i64 4, .int .i64 sn, .slice ap sp.length cp] 164) := ⟨_, rfl⟩
 obtain ⟨wz, hwz⟩ : ∃ y : World, y = wb.alloc (.cells #[.slice none 0 0, .int .i64 0, .int .i64 0, .slice none 0 0, .slice none 0 0, .slice none 0 0] 93) := ⟨_, rfl⟩
 have hsa : wa.heap.size = w.heap.size + 1 := by rw [hwa]; simp
 have hsb : wb.heap.size = w.heap.size + 2 := by rw [hwb]; simp [hsa]
 have R2 : Hid (wz.heap[w.heap.size]? = some (.cells #[.slice al x.head.log.length cl, .int .i64 x.head.boot, .int .i64 x.head.next, .slice ao x.head.opn.length co, .slice ah x.houses.length ch, .slice an x.net.length cn] 93 (0, 0))) := Lib.hid (by rw [hwz, hwb, hwa]; exact heap_later (heap_later (row_new _ _) _) _)
 have R3 : Hid (wz.heap[w.heap.size + 1]? = some (.cells #[.int .i64 4, .int .i64 sn, .slice ap sp.length cp] 164 (0, 0))) := Lib.hid (by rw [hwz, hwb, ← hsa]; exact heap_later (row_new _ _) _)
 have R4 : Hid (wz.heap[w.heap.size + 2]? = some (.cells #[.slice none 0 0, .int .i64 0, .int .i64 0, .slice none 0 0, .slice none 0 0, .slice none 0 0] 93 (0, 0))) := Lib.hid (by rw [hwz, ← hsb]; exact row_new _ _)
 have G1 : Hid (Grow w wz) := Lib.hid (by rw [hwz, hwb, hwa]; exact (((Grow.refl w).alloc _).alloc _).alloc _)
 have HZ : Hid (wz.heap.size = w.heap.size + 3) := Lib.hid (by rw [hwz]; simp [hsb])
 go_enter Try.func138, Try.ntmps138
 go_upto_region 1 with fail
 rw [← hwa]
 try rw [hsa]
 rw [← hwb]
 try rw [hsb]
 rw [← hwz]
 clear hwa hwb hwz hsa hsb
 obtain ⟨c0, c1, c2, c3, c4, c5⟩ := cells6 R2.out
 obtain ⟨d0, d1, d2⟩ := cells3 R3.out
 have z2 : w.heap.size < wz.heap.size := (Array.getElem?_eq_some_iff.1 R2.out).1
 have z3 : w.heap.size + 1 < wz.heap.size := (Array.getElem?_eq_some_iff.1 R3.out).1
 go_cut [6] from 22 (fun s6 wc => s6 = .bool (there x sn) ∧ wz = wc)
 case first =>
  by_cases h0 : 0 ≤ sn
  ·by_cases h1 : sn < (x.net.length : Int)
   ·go_wp2
    go_meet
    case rel => exact ⟨by first | rfl | (simp [there, h0, h1]; done), rfl⟩
   ·go_wp2
    go_meet
    case rel => exact ⟨by first | rfl | (simp [there, h0, h1]; done) | (simp [there, h0]; omega), rfl⟩
  ·go_wp2
   go_meet
   case rel => exact ⟨by first | rfl | (simp [there]; done) | (simp [there]; omega), rfl⟩
 case rest =>
 obtain ⟨rfl, rfl⟩ := hcut
 obtain ⟨h0, h1⟩ : 0 ≤ sn ∧ sn < (x.net.length : Int) := of_decide_eq_true HT.out
 have HE2 : Hid (doErr x ⟨4, sn, sp⟩ = 0) := Lib.hid (by unfold doErr; simp [ht])
 have HE0 : Hid (doA x ⟨4, sn, sp⟩ = if x.net.length < 24 then { x with net := x.net ++ [x.net.getD sn.toNat ⟨0, 0, 0, []⟩] } else x) := Lib.hid (by unfold doA; simp [ht])
 rw [ht]
 obtain ⟨i, hi⟩ : ∃ i : Nat, sn = (i : Int) := ⟨sn.toNat, by omega⟩
 have hil : i < x.net.length := by omega
 have hti : sn.toNat = i := by omega
 obtain ⟨an', cn', he9, -, -, -, hel⟩ := HQ3.out
 simp only [Value.slice.injEq] at he9
 obtain ⟨rfl, -, rfl⟩ := he9
 obtain ⟨bb, o, u, rfl, ci, hbi⟩ := Nts.at_ hel i (by simpa using hil)
 obtain ⟨au, cu, rfl, -⟩ := id hbi
 have HBI := Lib.hid hbi
 have HCI := Lib.hid ci
 have HMI : Hid ((x.net.map bytesM)[i]'(by simpa using hil) = bytesM (x.net.getD sn.toNat ⟨0, 0, 0, []⟩)) := Lib.hid (by rw [hti, List.getD_eq_getElem?_getD, List.getElem?_eq_getElem hil, List.getElem_map]; rfl)
 have H24 := Lib.hid HWI.out.len
 replace ci := (HC.out.trans G1.out.sub) _ _ ci
 clear hel hbi ht HT
 rw [HMI.out] at HBI ci HCI
 clear HMI
 generalize x.net.getD sn.toNat ⟨0, 0, 0, []⟩ = m at *
 by_cases h24 : x.net.length < 24
 ·have HE := Lib.hid HE0.out
  rw [if_pos h24] at HE
  have h24' : (x.net.length : Int) < 24 := by omega
  have hi0 : (0 : Int) ≤ sn := by omega
  have hi9 : sn < (x.net.length : Int) := by omega
  clear HE0
  go_wp2_with (first | (at_builtin; refine wpList_appc (c := c) (base := w.heap.size + 3) (l := []) (m := x.net.map bytesM) (v := .slice (some ⟨wz.heap.size, 0, none⟩) 0 0) ei_bts rfl (one_Tsl Ty.byte) (by decide) rfl (.tmp 86) (.tmp 88) rfl rfl (OwnC.made0 Ty.bs _ _ _ _ ?c1 ?c1') rfl ?src ?c3 ?c4 ?_))
  case c1 => rw [HZ.out]; exact Nat.le_refl _
  case c1' => rfl
  case src => exact Src.of_sl_c (by decide) (HC.out.trans (G1.out.alloc _).sub) HQ3.out
  case c3 => (try simp); omega
  case c4 => have := HZ.out; (try simp); omega
  intro a8 c8 w8 ho8 hg8 hb8
  try simp only [List.length_nil, Nat.zero_add, List.nil_append] at ho8
  try simp only [List.length_nil, Nat.zero_add]
  have HO8 := Lib.hid ho8
  have G8 := Lib.hid (grow_by (w0 := wz) ((Grow.refl wz).alloc _) hg8 (own_at (Nat.le_refl _)))
  clear ho8 hg8 hb8 c0 c1 c2 c3 c4 c5 d0 d1 d2 ci z2 z3
  go_wp2_with (first | (at_builtin; refine wpList_appc (c := c) (base := w.heap.size + 3) (l := x.net.map bytesM) (m := [bytesM m]) ei_bts rfl (one_Tsl Ty.byte) (by decide) rfl (.tmp 89) (.tmp 91) rfl rfl (HO8.out.grow ((Grow.refl _).alloc _)) rfl (Src.of_new (T := Ty.bs) (x := bytesM m) (cs := #[.slice au (bytesM m).length cu]) ⟨_, rfl, HBI.out⟩ _ _ ?d1) ?d2 ?d3 ?_))
  case d1 => first | rfl | simp
  case d2 => (try simp); omega
  case d3 => have := G8.out.size; have := HZ.out; (try simp); omega
  intro a9 c9 w9 ho9 hg9 hb9
  have G9 := Lib.hid (grow_by (w0 := wz) (G8.out.alloc _) hg9 (fun q hq => by have := (HO8.out.lt q hq).1; have := HZ.out; omega))
  have HO9 := Lib.hid ho9
  have R29 := Lib.hid (row_grow R2.out G9.out)
  have R49 := Lib.hid (row_grow R4.out G9.out)
  clear ho9 hg9 hb9
  try simp only [List.length_map, List.length_singleton]
  go_wp2_with (first | (refine wpList_store_cell rfl (.tmp 93) (.tmp 92) (v := .slice a9 (x.net.length + 1) c9) (new := #[.slice al x.head.log.length cl, .int .i64 x.head.boot, .int .i64 x.head.next, .slice ao x.head.opn.length co, .slice ah x.houses.length ch, .slice a9 (x.net.length + 1) c9]) rfl rfl (by rfl) (by rfl) R29.out info_nets (by simp) (by rfl) (by rfl) ?_))
  intro w5 r5 g5
  have R55 := Lib.hid r5
  have R45 := Lib.hid (row_by R49.out g5 (by intro e; have := Option.some.inj e; omega))
  have G5 := Lib.hid ((G1.out.trans G9.out).grown g5 (fun q hq => by simp at hq; omega))
  have HO5 := Lib.hid (HO9.out.kept g5 (own_apart HO9.out (by omega)))
  clear r5 g5
  obtain ⟨c0, c1, c2, c3, c4, c5⟩ := cells6 R55.out
  have z2 : w.heap.size < w5.heap.size := (Array.getElem?_eq_some_iff.1 R55.out).1
  go_wp2_with (first | (refine wpList_store_row rfl (.tmp 4) (.tmp 94) rfl rfl rfl R45.out info_wd rfl rfl ?_))
  intro w7 r7 g7
  obtain ⟨p0, p1, p2, p3, p4, p5⟩ := cells6 r7
  clear c0 c1 c2 c3 c4 c5
  go_wp2
  refine bodyPost_ret (v := .tuple #[.agg #[.slice al x.head.log.length cl, .int .i64 x.head.boot, .int .i64 x.head.next, .slice ao x.head.opn.length co, .slice ah x.houses.length ch, .slice a9 (x.net.length + 1) c9], .int .i64 0]) (by simp [results, Try.results138, go_sem, p0, p1, p2, p3, p4, p5]) rfl ?_
  have G7 := G5.out.grown g7 (fun q hq => by simp at hq; omega)
  rw [HE.out, HE2.out]
  refine ⟨_, rfl, Of.wd_mk (HQ1.out.mono (ov_in HC.out)) (HQ2.out.mono (ov_in HC.out)) ?_, G7⟩
  have h9 := (HO5.out.kept g7 (own_apart HO5.out (by omega))).slc (by decide) (ov_in HC.out) fun a ha => ov_new (by omega)
  rw [List.map_append]
  simpa using h9
 ·have HE := Lib.hid HE0.out
  rw [if_neg h24] at HE
  have h24' : ¬ (x.net.length : Int) < 24 := by omega
  have hi0 : (0 : Int) ≤ sn := by omega
  have hi9 : sn < (x.net.length : Int) := by omega
  clear HE0
  go_wp2_with (first | (refine wpList_store_row rfl (.tmp 4) (.tmp 94) rfl rfl rfl R4.out info_wd rfl rfl ?_))
  intro w7 r7 g7
  obtain ⟨p0, p1, p2, p3, p4, p5⟩ := cells6 r7
  clear c0 c1 c2 c3 c4 c5
  go_wp2
  refine bodyPost_ret (v := .tuple #[.agg #[.slice al x.head.log.length cl, .int .i64 x.head.boot, .int .i64 x.head.next, .slice ao x.head.opn.length co, .slice ah x.houses.length ch, .slice (some ⟨bb, o, none⟩) x.net.length cn], .int .i64 0]) (by simp [results, Try.results138, go_sem, p0, p1, p2, p3, p4, p5]) rfl ?_
  have G7 := G1.out.grown g7 (fun q hq => by simp at hq; omega)
  rw [HE.out, HE2.out]
  exact ⟨_, rfl, HV.out.mono (ov_in HC.out), G7⟩
end Go.Proofs.Ytgbhpghgohggcaa
namespace Go.Proofs.Ytgbhpghgohggcaa
theorem getN_len : ∀ {n : Nat} {l : List UInt8} {xs : List Int} {r : List UInt8}, getN n l = .inl (xs, r) → xs.length = n
 | 0, l, xs, r, h => by
  simp only [getN, Sum.inl.injEq, Prod.mk.injEq] at h
  rw [← h.1]; rfl
 | n + 1, l, xs, r, h => by
  rw [getN] at h
  split at h
  ·cases hn : getN n (l.drop (getB l).2.1.toNat) with
   | inl p =>
    obtain ⟨ys, r'⟩ := p
    rw [hn] at h
    simp only [Sum.inl.injEq, Prod.mk.injEq] at h
    rw [← h.1, List.length_cons, getN_len hn]
   | inr e => rw [hn] at h; cases h
  ·cases h
def thenN (j : Nat) : Sum (List Int × List UInt8) Int → Sum (List Int × List UInt8) Int
 | .inl (xs, r) => match getN j r with
  | .inl (ys, r') => .inl (xs ++ ys, r')
  | .inr e => .inr e
 | .inr e => .inr e
theorem getN_add (j : Nat) : ∀ (k : Nat) (l : List UInt8), getN (k + j) l = thenN j (getN k l)
 | 0, l => by
  rw [Nat.zero_add]
  show getN j l = thenN j (.inl ([], l))
  unfold thenN
  cases h : getN j l with
  | inl p => obtain ⟨ys, r'⟩ := p; simp [h]
  | inr e => simp [h]
 | k + 1, l => by
  rw [show k + 1 + j = (k + j) + 1 by omega, getN, getN]
  by_cases h : (getB l).2.2 = 0
  ·rw [if_pos h, if_pos h, getN_add j k]
   cases hk : getN k (l.drop (getB l).2.1.toNat) with
   | inl p =>
    obtain ⟨xs, r⟩ := p
    simp only [thenN]
    cases hj : getN j r with
    | inl q => obtain ⟨ys, r'⟩ := q; simp
    | inr e => simp
   | inr e => simp [thenN]
  ·rw [if_neg h, if_neg h]; simp [thenN]
structure RdSt (l : List UInt8) (xs : List Int) (r : List UInt8) (want : Int) : Prop where
 got : getN xs.length l = .inl (xs, r)
 few : xs.length < 3 → want = 3
 more : 3 ≤ xs.length → 0 ≤ xs.getD 2 0 ∧ xs.getD 2 0 ≤ 4 ∧ want = 3 + 2 * xs.getD 2 0
 le : (xs.length : Int) ≤ want
theorem RdSt.start (l : List UInt8) : RdSt l [] l 3 := ⟨rfl, fun _ => rfl, fun h => by simp at h, by simp⟩
theorem getN_one {l r : List UInt8} {xs : List Int} (h : getN xs.length l = .inl (xs, r)) : getN (xs.length + 1) l = if (getB r).2.2 = 0 then .inl (xs ++ [(getB r).1], r.drop (getB r).2.1.toNat) else .inr (getB r).2.2 := by
 rw [getN_add, h]
 by_cases hc : (getB r).2.2 = 0 <;> simp [thenN, getN, hc]
theorem getN_three {l r : List UInt8} {xs : List Int} {j : Nat} (h : getN xs.length l = .inl (xs, r)) (hj : xs.length = 3 + j) : ∃ r3, getN 3 l = .inl (xs.take 3, r3) ∧ getN j r3 = .inl (xs.drop 3, r) := by
 rw [hj, getN_add] at h
 cases h3 : getN 3 l with
 | inr e => rw [h3] at h; simp [thenN] at h
 | inl p =>
  obtain ⟨ys, r3⟩ := p
  have hl := getN_len h3
  rw [h3] at h
  simp only [thenN] at h
  cases h4 : getN j r3 with
  | inr e => rw [h4] at h; simp at h
  | inl q =>
   obtain ⟨zs, r4⟩ := q
   rw [h4] at h
   simp only [Sum.inl.injEq, Prod.mk.injEq] at h
   obtain ⟨rfl, rfl⟩ := h
   refine ⟨r3, ?_, ?_⟩
   ·rw [List.take_append_of_le_length (by omega), List.take_of_length_le (by omega)]
   ·rw [List.drop_append_of_le_length (by omega), List.drop_of_length_le (by omega)]; simpa using h4
theorem getD_take {xs : List Int} {i n : Nat} (h : i < n) : (xs.take n).getD i 0 = xs.getD i 0 := by
 rw [List.getD_eq_getElem?_getD, List.getD_eq_getElem?_getD, List.getElem?_take_of_lt h]
theorem RdSt.fails {l r : List UInt8} {xs : List Int} {want : Int} (h : RdSt l xs r want) (hlt : (xs.length : Int) < want) (he : (getB r).2.2 ≠ 0) (kind : Int) : readBody kind l = (ms0, (getB r).2.2) := by
 have h1 := getN_one h.got
 rw [if_neg he] at h1
 by_cases h3 : xs.length < 3
 ·have h2 : getN 3 l = .inr (getB r).2.2 := by
   rw [show 3 = (xs.length + 1) + (2 - xs.length) by omega, getN_add, h1]; rfl
  unfold readBody
  rw [h2]
 ·obtain ⟨m0, m4, hw⟩ := h.more (by omega)
  obtain ⟨r3, e3, ej⟩ := getN_three h.got (j := xs.length - 3) (by omega)
  unfold readBody
  rw [e3]
  simp only [getD_take (xs := xs) (i := 2) (n := 3) (by omega), getD_take (xs := xs) (i := 1) (n := 3) (by omega), getD_take (xs := xs) (i := 0) (n := 3) (by omega)]
  rw [if_neg (by omega)]
  have h5 : getN (2 * (xs.getD 2 0).toNat) r3 = .inr (getB r).2.2 := by
   have h6 : getN (xs.drop 3).length r3 = .inl (xs.drop 3, r) := by rw [List.length_drop]; exact ej
   have h7 := getN_one h6
   rw [if_neg he] at h7
   rw [show 2 * (xs.getD 2 0).toNat = ((xs.drop 3).length + 1) + (2 * (xs.getD 2 0).toNat - ((xs.drop 3).length + 1)) by rw [List.length_drop]; omega, getN_add, h7]; rfl
  rw [h5]
theorem RdSt.five {l r : List UInt8} {xs : List Int} {want : Int} (h : RdSt l xs r want) (h2 : xs.length = 2) (he : (getB r).2.2 = 0) (hr : (getB r).1 < 0 ∨ 4 < (getB r).1) (kind : Int) : readBody kind l = (ms0, 5) := by
 have h1 := getN_one h.got
 rw [if_pos he, h2] at h1
 unfold readBody
 rw [h1]
 have : (xs ++ [(getB r).1]).getD 2 0 = (getB r).1 := by
  rw [List.getD_eq_getElem?_getD, List.getElem?_append_right (by omega), h2]; rfl
 simp only [this]
 rw [if_pos hr]
theorem RdSt.next {l r : List UInt8} {xs : List Int} {want : Int} (h : RdSt l xs r want) (hlt : (xs.length : Int) < want) (he : (getB r).2.2 = 0) (hr : xs.length = 2 → 0 ≤ (getB r).1 ∧ (getB r).1 ≤ 4) :
  RdSt l (xs ++ [(getB r).1]) (r.drop (getB r).2.1.toNat) (if xs.length = 2 then 3 + 2 * (getB r).1 else want) := by
 have h1 := getN_one h.got
 rw [if_pos he] at h1
 have hl : (xs ++ [(getB r).1]).length = xs.length + 1 := by simp
 have hg : ∀ h3 : 3 ≤ xs.length, (xs ++ [(getB r).1]).getD 2 0 = xs.getD 2 0 := fun h3 => by
  rw [List.getD_eq_getElem?_getD, List.getElem?_append_left (by omega), List.getD_eq_getElem?_getD]
 refine ⟨by rw [hl]; exact h1, fun h3 => ?_, fun h3 => ?_, ?_⟩
 ·rw [hl] at h3
  rw [if_neg (by omega)]
  exact h.few (by omega)
 ·rw [hl] at h3
  by_cases h2 : xs.length = 2
  ·have : (xs ++ [(getB r).1]).getD 2 0 = (getB r).1 := by
    rw [List.getD_eq_getElem?_getD, List.getElem?_append_right (by omega), h2]; rfl
   rw [this, if_pos h2]
   exact ⟨(hr h2).1, (hr h2).2, rfl⟩
  ·rw [hg (by omega), if_neg h2]
   exact h.more (by omega)
 ·rw [hl]
  split
  ·have := hr (by assumption); omega
  ·omega
theorem RdSt.all {l r : List UInt8} {xs : List Int} {want : Int} (h : RdSt l xs r want) (hle : want ≤ (xs.length : Int)) (kind : Int) :
  readBody kind l = if r ≠ [] then (ms0, 2) else
   if wrongM ⟨kind, xs.getD 0 0, xs.getD 1 0, pairs (xs.getD 1 0) (xs.drop 3)⟩ = 0 then (⟨kind, xs.getD 0 0, xs.getD 1 0, pairs (xs.getD 1 0) (xs.drop 3)⟩, 0)
   else (ms0, wrongM ⟨kind, xs.getD 0 0, xs.getD 1 0, pairs (xs.getD 1 0) (xs.drop 3)⟩) := by
 have h3 : 3 ≤ xs.length := by
  by_cases h3 : xs.length < 3
  ·have := h.few h3; omega
  ·omega
 obtain ⟨m0, m4, hw⟩ := h.more h3
 have hl := h.le
 obtain ⟨r3, e3, ej⟩ := getN_three h.got (j := xs.length - 3) (by omega)
 unfold readBody
 rw [e3]
 simp only [getD_take (xs := xs) (i := 2) (n := 3) (by omega), getD_take (xs := xs) (i := 1) (n := 3) (by omega), getD_take (xs := xs) (i := 0) (n := 3) (by omega)]
 rw [if_neg (by omega), show 2 * (xs.getD 2 0).toNat = xs.length - 3 by omega, ej]
end Go.Proofs.Ytgbhpghgohggcaa
namespace Go.Proofs.Ytgbhpghgohggcaa
open Go.RowKit
def lenOf : Value → Nat
 | .slice _ n _ => n
 | _ => 0
theorem RdSt.bound {l r : List UInt8} {xs : List Int} {want : Int} (h : RdSt l xs r want) : 3 ≤ want ∧ want ≤ 11 := by
 by_cases h3 : xs.length < 3
 ·have := h.few h3; omega
 ·have := h.more (by omega); omega
theorem RdSt.pairs_all {l r : List UInt8} {xs : List Int} {want : Int} (h : RdSt l xs r want) (hw : want ≤ (xs.length : Int)) : (∃ n, xs.length = 3 + 2 * n) ∧ (∀ j, 3 + 2 * j < xs.length → 3 + 2 * j + 1 < xs.length) := by
 have h3 : 3 ≤ xs.length := by have := h.bound; omega
 obtain ⟨m0, m4, hw2⟩ := h.more h3
 have hl := h.le
 exact ⟨⟨(xs.getD 2 0).toNat, by omega⟩, fun j hj => by omega⟩
theorem cell_by2 {w w' : World} {B : Nat} {a : Addr} {v : Value} (h : w.cell? a = some v) (hg : w.grownBy w' (some B)) (hne : a.block ≠ B) : w'.cell? a = some v := by
 rw [by_cell hg (World.block_lt_of_cell? w a h) hne]; exact h
theorem intD_at {xs : List Int} {i : Nat} (h : i < xs.length) : xs.getD i 0 = xs[i] := by
 rw [List.getD_eq_getElem?_getD, List.getElem?_eq_getElem h]; rfl
theorem OwnC.int_at {c : CM} {w : World} {base e g cap : Nat} {xs : List Int} (h : OwnC Ty.int c w base e (.slice (some ⟨g, 0, none⟩) xs.length cap) xs) {i : Nat} (hi : i < xs.length) : w.cell? ⟨g, i, none⟩ = some (.int .i64 (xs.getD i 0)) := by
 obtain ⟨g', cs, he, ⟨rfl, -⟩, hA⟩ := h.get (by decide) i hi
 obtain rfl : g = g' := by simpa using he
 have := hA 0 _ rfl
 rw [intD_at hi]
 simpa [Ty.int] using this
theorem OwnC.int_ok {c : CM} {w : World} {base e : Nat} {v : Value} {xs : List Int} (h : OwnC Ty.int c w base e v xs) (i : Nat) : I64 (xs.getD i 0) := by
 by_cases hi : i < xs.length
 ·obtain ⟨css, -, h2, h3⟩ := h
  have := (h3 i css[i] xs[i] (List.getElem?_eq_getElem (by omega)) (List.getElem?_eq_getElem hi)).2
  rw [intD_at hi]; exact this
 ·rw [List.getD_eq_getElem?_getD, List.getElem?_eq_none (by omega)]; exact zero_ok
theorem OwnC.ints_ok {c : CM} {w : World} {base e : Nat} {v : Value} {xs : List Int} (h : OwnC Ty.int c w base e v xs) : ∀ x ∈ xs, I64 x := fun x hx => by
 obtain ⟨i, hi, rfl⟩ := List.mem_iff_getElem.1 hx
 have := h.int_ok i
 rw [intD_at hi] at this; exact this
theorem nums_at {c : CM} {w : World} {base e cap : Nat} {a : Option Addr} {xs : List Int} (h : OwnC Ty.int c w base e (.slice a xs.length cap) xs) (h3 : 3 ≤ xs.length) : ∃ g, a = some ⟨g, 0, none⟩ ∧ w.cell? ⟨g, 0, none⟩ = some (.int .i64 (xs.getD 0 0)) ∧ w.cell? ⟨g, 1, none⟩ = some (.int .i64 (xs.getD 1 0)) ∧ g < w.heap.size := by
 obtain ⟨g, cs, rfl, -, -⟩ := h.get (by decide) 0 (by omega)
 exact ⟨g, rfl, h.int_at (by omega), h.int_at (by omega), (h.lt g rfl).2⟩
theorem nums_two {c : CM} {w : World} {base e g cap : Nat} {xs : List Int} (h : OwnC Ty.int c w base e (.slice (some ⟨g, 0, none⟩) xs.length cap) xs) {i : Nat} (hi : i + 1 < xs.length) : w.cell? ⟨g, i, none⟩ = some (.int .i64 (xs.getD i 0)) ∧ w.cell? ⟨g, i + 1, none⟩ = some (.int .i64 (xs.getD (i + 1) 0)) := ⟨h.int_at (by omega), h.int_at hi⟩
theorem pairs_more (h : Int) {xs : List Int} {k : Nat} (hl : 3 + 2 * k + 1 < xs.length) : pairs h ((xs.drop 3).take (2 * (k + 1))) = pairs h ((xs.drop 3).take (2 * k)) ++ [⟨h, xs.getD (3 + 2 * k) 0, xs.getD (3 + 2 * k + 1) 0⟩] := by
 have e1 : (xs.drop 3).length = xs.length - 3 := List.length_drop
 have e2 : (xs.drop 3).take (2 * (k + 1)) = (xs.drop 3).take (2 * k) ++ [xs.getD (3 + 2 * k) 0, xs.getD (3 + 2 * k + 1) 0] := by
  rw [show 2 * (k + 1) = 2 * k + 1 + 1 by omega, List.take_succ_eq_append_getElem (by omega), List.take_succ_eq_append_getElem (by omega), List.getElem_drop, List.getElem_drop, intD_at (by omega), intD_at (by omega), List.append_assoc]
  rfl
 rw [e2, pairs_snoc h k (by rw [List.length_take]; omega)]
theorem pairs_short (h : Int) {xs : List Int} {k : Nat} (hk : 3 + 2 * k ≤ xs.length) : (pairs h ((xs.drop 3).take (2 * k))).length = k :=
 (nums_pairs k (by rw [List.length_take, List.length_drop]; omega)).2
theorem pairs_fine {h : Int} (hh : I64 h) : ∀ {l : List Int}, (∀ x ∈ l, I64 x) → PtsOk (pairs h l)
 | [], _ => fun p hp => by simp [pairs] at hp
 | [x], _ => fun p hp => by simp [pairs] at hp
 | x :: y :: l, hl => fun p hp => by
  rw [pairs] at hp
  rcases List.mem_cons.1 hp with rfl | hp
  ·exact ⟨hh, hl _ (by simp), hl _ (by simp)⟩
  ·exact pairs_fine hh (fun z hz => hl z (by simp [hz])) p hp
theorem info_int : (Try.prog.info? 3).map (·.size) = some 1 := by kernel_rfl
theorem info_parts : (Try.prog.info? 23).map (·.size) = some 1 := by kernel_rfl
structure PSt (w wr : World) (B6 wb : Nat) (z : Nat) (d h : Int) (vp : Value) (g8 c8 : Nat) (ps : List Pt) (xs : List Int) : Prop where
 res : wr.heap[w.heap.size]? = some (.cells #[.int .i64 0, .int .i64 0, .int .i64 0, .slice none 0 0] 39 (0, 0))
 msg : wr.heap[B6]? = some (.cells #[.int .i64 z, .int .i64 d, .int .i64 h, vp] 39 (0, 0))
 num : OwnC Ty.int (fun _ => none) wr wb 3 (.slice (some ⟨g8, 0, none⟩) xs.length c8) xs
 own : wr.ownsRow (B6 + 1) 32 3 vp ps.length (ps.flatMap Pt.cells)
 grow : Grow w wr
 lo : w.heap.size < B6
 wbs : B6 < wb
 dis : ∀ q, vp.ownBlock = some q → q ≠ B6 ∧ q ≠ g8
theorem PSt.still {w wr y z9 : World} {B6 wb z : Nat} {d h : Int} {vp : Value} {g8 c8 : Nat} {ps : List Pt} {xs : List Int} (p : PSt w wr B6 wb z d h vp g8 c8 ps xs) (_hG : Grow wr y) (hg : y.grownBy z9 vp.ownBlock) {u v x t : Value} {i j : Nat}
  (hS : y.cell? ⟨B6, 3, none⟩ = some u ∧ y.cell? ⟨B6, 2, none⟩ = some v ∧ y.cell? ⟨g8, i, none⟩ = some x ∧ y.cell? ⟨g8, j, none⟩ = some t) :
  z9.cell? ⟨B6, 3, none⟩ = some u ∧ z9.cell? ⟨B6, 2, none⟩ = some v ∧ z9.cell? ⟨g8, i, none⟩ = some x ∧ z9.cell? ⟨g8, j, none⟩ = some t := by
 have k : ∀ (a : Addr) (v : Value), some a.block ≠ vp.ownBlock → y.cell? a = some v → z9.cell? a = some v := fun a v hne e => by
  rw [World.cell?_of_block (hg.block a.block (World.block_lt_of_cell? y a e) hne)]; exact e
 have n6 : some B6 ≠ vp.ownBlock := fun e => (p.dis _ e.symm).1 rfl
 have n8 : some g8 ≠ vp.ownBlock := fun e => (p.dis _ e.symm).2 rfl
 exact ⟨k _ _ n6 hS.1, k _ _ n6 hS.2.1, k _ _ n8 hS.2.2.1, k _ _ n8 hS.2.2.2⟩
theorem PSt.part {w wr y z9 zz : World} {B6 wb z : Nat} {d h : Int} {vp : Value} {g8 c8 : Nat} {ps ps' : List Pt} {xs : List Int} {a' : Option Addr} {n c' : Nat} (p : PSt w wr B6 wb z d h vp g8 c8 ps xs) (hG : Grow wr y)
  (ho : z9.ownsRow (B6 + 1) 32 3 (.slice a' n c') ps'.length (ps'.flatMap Pt.cells)) (hg : y.grownBy z9 vp.ownBlock)
  (hb : (Value.slice a' n c').ownBlock = vp.ownBlock ∨ ∃ g, (Value.slice a' n c').ownBlock = some g ∧ y.heap.size ≤ g)
  (hz : zz.heap[B6]? = some (.cells #[.int .i64 z, .int .i64 d, .int .i64 h, .slice a' n c'] 39 (0, 0))) (hgz : z9.grownBy zz (some B6)) : PSt w zz B6 wb z d h (.slice a' n c') g8 c8 ps' xs := by
 have z8 := p.num.lt g8 rfl
 have zg := hG.size
 have z9s := hg.size
 have hlo := p.lo
 have hwb := p.wbs
 have n8 : some g8 ≠ vp.ownBlock := fun e => (p.dis _ e.symm).2 rfl
 have nR : some w.heap.size ≠ vp.ownBlock := fun e => by have := (p.own.lt _ e.symm).1; omega
 have hdis : ∀ q, (Value.slice a' n c').ownBlock = some q → q ≠ B6 ∧ q ≠ g8 := fun q hq => by
  rcases hb with e | ⟨g, e, hge⟩
  ·exact p.dis q (e.symm.trans hq)
  ·rw [e] at hq
   obtain rfl := Option.some.inj hq
   constructor <;> omega
 refine ⟨row_by (row_by (row_grow p.res hG) hg nR) hgz (by intro e; have := Option.some.inj e; omega), hz, ?_, ?_, ?_, hlo, hwb, hdis⟩
 ·refine ((p.num.grow hG).kept hg (.inr ?_)).kept hgz (.inr ?_)
  ·simpa [Value.ownBlock] using n8
  ·simp [Value.ownBlock]; omega
 ·refine ho.kept hgz ?_
  cases e : (Value.slice a' n c').ownBlock with
  | none => exact .inl rfl
  | some q => exact .inr (by have := (hdis q e).1; intro e2; exact this (Option.some.inj e2))
 ·exact ((p.grow.trans hG).grown hg (fun q hq => by have := (p.own.lt q hq).1; omega)).grown hgz (fun q hq => by simp at hq; omega)
theorem ref_fail {n : Int} (w : World) : Calls Try.prog 133 #[.int .i64 n] w fun e w' => e = .returned (.tuple #[.agg #[.int .i64 0, .int .i64 0, .int .i64 0, .slice none 0 0], .int .i64 n]) ∧ Grow w w' := by
 have R2 := Lib.hid (row_new w (.cells #[.int .i64 0, .int .i64 0, .int .i64 0, .slice none 0 0] 39))
 have G1 := Lib.hid ((Grow.refl w).alloc (.cells #[.int .i64 0, .int .i64 0, .int .i64 0, .slice none 0 0] 39))
 go_enter Try.func133, Try.ntmps133
 go_wp2_with (first | (refine wpList_store_row rfl (.tmp 2) (.tmp 4) rfl rfl rfl R2.out info_ms rfl rfl ?_))
 intro w7 r7 g7
 obtain ⟨p0, p1, p2, p3⟩ := cells4 r7
 go_wp2
 refine bodyPost_ret (v := .tuple #[.agg #[.int .i64 0, .int .i64 0, .int .i64 0, .slice none 0 0], .int .i64 n]) (by simp [results, Try.results133, go_sem, p0, p1, p2, p3]) rfl ?_
 exact ⟨rfl, G1.out.grown g7 (fun q hq => by simp at hq; omega)⟩
set_option maxRecDepth 100000 in
set_option maxHeartbeats 4000000 in
theorem ref_readN {v : Value} {b : List UInt8} (w : World) (hv : Bts w.cell? v b) :
  Calls Try.prog 68 #[v] w fun e w' => ∃ v', e = .returned (.tuple #[v', .int .i64 (readB b).2]) ∧ Of Ty.ms (ov (fun _ => none) w w') v' (readB b).1 ∧ Grow w w' := by
 have HV := Lib.hid hv
 obtain ⟨a, cap, rfl, h1, h2, -, hel⟩ := hv
 unfold maxLen at h2
 by_cases hl3 : b.length < 3
 ·have HE : Hid (readB b = (ms0, 8)) := by show readB b = _; unfold readB; rw [if_pos hl3]
  have R2 := Lib.hid (row_new w (.cells #[.int .i64 0, .int .i64 0, .int .i64 0, .slice none 0 0] 39))
  have G1 := Lib.hid ((Grow.refl w).alloc (.cells #[.int .i64 0, .int .i64 0, .int .i64 0, .slice none 0 0] 39))
  clear hel
  go_enter Try.func68, Try.ntmps68
  go_wp2_with fail
  refine (ref_fail _).mono ?_
  rintro e w1 ⟨rfl, hb⟩
  have R3 := Lib.hid (row_grow R2.out hb)
  have G3 := Lib.hid (G1.out.trans hb)
  clear hb
  go_wp2_with (first | (refine wpList_store_row rfl (.tmp 2) (.tmp 20) rfl rfl rfl R3.out info_ms rfl rfl ?_))
  intro w7 r7 g7
  obtain ⟨p0, p1, p2, p3⟩ := cells4 r7
  go_wp2
  refine bodyPost_ret (v := .tuple #[.agg #[.int .i64 0, .int .i64 0, .int .i64 0, .slice none 0 0], .int .i64 8]) (by simp [results, Try.results68, go_sem, p0, p1, p2, p3]) rfl ?_
  rw [HE.out]
  exact ⟨_, rfl, of_ms0 _, G3.out.grown g7 (fun q hq => by simp at hq; omega)⟩
 have HSM := Lib.hid (fun (W : World) (hW : Grow w W) => ref_sum W ((HV.out.take' (b.length - 2) (by omega)).mono hW.sub))
 obtain ⟨bb, o, rfl, c0⟩ := byteAt hel 0 (by omega)
 obtain ⟨bb', o', he, cx⟩ := byteAt hel (b.length - 2) (by omega)
 obtain ⟨rfl, rfl⟩ : bb = bb' ∧ o = o' := by simpa using he
 obtain ⟨bb', o', he', cy⟩ := byteAt hel (b.length - 1) (by omega)
 obtain ⟨rfl, rfl⟩ : bb = bb' ∧ o = o' := by simpa using he'
 clear he he' hel
 obtain ⟨e, hle⟩ : ∃ e, b.length = e + 2 := ⟨b.length - 2, by omega⟩
 obtain ⟨x, hx⟩ : ∃ x, x = (b[b.length - 2]'(by omega)).toNat := ⟨_, rfl⟩
 obtain ⟨y, hy⟩ : ∃ x, x = (b[b.length - 1]'(by omega)).toNat := ⟨_, rfl⟩
 obtain ⟨z, hz⟩ : ∃ x, x = (b[0]'(by omega)).toNat := ⟨_, rfl⟩
 obtain ⟨s, hs⟩ : ∃ s, s = sumB (b.take (b.length - 2)) := ⟨_, rfl⟩
 have hx2 : x < 256 := by rw [hx]; exact UInt8.toNat_lt _
 have hy2 : y < 256 := by rw [hy]; exact UInt8.toNat_lt _
 have hz2 : z < 256 := by rw [hz]; exact UInt8.toNat_lt _
 have hs1 : s < 65521 := by rw [hs]; exact sumB_lt _
 have hok : sumOk b = decide (s = 256 * x + y) := by
  refine sum_test (e := e) hle ?_ ?_ hx2 hy2 (by rw [hs]; congr 2; omega)
  ·rw [hx]; simp [hle]
  ·rw [hy]; simp [hle]
 have HZ : Hid (((b.getD 0 0).toNat : Nat) = z) := Lib.hid (by rw [hz, List.getD_eq_getElem?_getD, List.getElem?_eq_getElem (by omega)]; rfl)
 rw [← hx] at cx
 rw [← hy] at cy
 rw [← hz] at c0
 rw [← hs] at HSM
 rw [show b.length - 2 = e by omega] at cx HSM
 rw [show b.length - 1 = e + 1 by omega] at cy
 have HL3 := Lib.hid hl3
 have HSL := Lib.hid (HV.out.take' (b.length - 2) (by omega))
 rw [show b.length - 2 = e by omega] at HSL
 have HTD : Hid (b.take (b.length - 2) = b.take e) := Lib.hid (by congr 1; omega)
 have HTL : Hid ((b.take e).length = e) := Lib.hid (by rw [List.length_take]; omega)
 rw [hle] at hl3 h1 ⊢
 clear hx hy hz hs hle
 have HOK := Lib.hid hok
 clear hok
 have HC0 := Lib.hid c0
 have HCX := Lib.hid cx
 have HCY := Lib.hid cy
 have HSV := Lib.hid (fun (W : World) (hW : Grow w W) => (show W.cell? ⟨bb, o + e, none⟩ = some (.int .u8 x) ∧ W.cell? ⟨bb, o + (e + 1), none⟩ = some (.int .u8 y) from ⟨hW.sub _ _ HCX.out, hW.sub _ _ HCY.out⟩))
 obtain ⟨wa, hwa⟩ : ∃ y : World, y = w.alloc (.cells #[.int .i64 0, .int .i64 0, .int .i64 0, .slice none 0 0] 39) := ⟨_, rfl⟩
 have R2 : Hid (wa.heap[w.heap.size]? = some (.cells #[.int .i64 0, .int .i64 0, .int .i64 0, .slice none 0 0] 39 (0, 0))) := Lib.hid (by rw [hwa]; exact row_new _ _)
 have G1 : Hid (Grow w wa) := Lib.hid (by rw [hwa]; exact (Grow.refl w).alloc _)
 have HS := Lib.hid (fun (W : World) (hW : Grow wa W) => HSV.out W (G1.out.trans hW))
 have HSM2 := Lib.hid (fun (W : World) (hW : Grow wa W) => HSM.out W (G1.out.trans hW))
 clear c0 cx cy HSV HSM
 by_cases ht : s = 256 * x + y
 ·have HOT := Lib.hid (show sumOk b = true by rw [HOK.out]; exact decide_eq_true ht)
  have hbx : ((s : Int) != IntKind.i64.wrap (IntKind.i64.wrap (256 * IntKind.i64.wrap (x : Int)) + (y : Int))) = false := by rw [IntWalk.i64_in (x : Int) (by omega), IntWalk.i64_in (256 * (x : Int)) (by omega), IntWalk.i64_in (256 * (x : Int) + (y : Int)) (by omega)]; rw [bne_eq_false_iff_eq]; omega
  have hbx3 : ((s : Int) != IntKind.i64.wrap (IntKind.i64.wrap (256 * IntKind.i64.wrap (x : Int)) + IntKind.i64.wrap (y : Int))) = false := by rw [IntWalk.i64_in (x : Int) (by omega), IntWalk.i64_in (y : Int) (by omega), IntWalk.i64_in (256 * (x : Int)) (by omega), IntWalk.i64_in (256 * (x : Int) + (y : Int)) (by omega)]; rw [bne_eq_false_iff_eq]; omega
  have hbx2 : ((s : Int) != 256 * (x : Int) + (y : Int)) = false := by rw [bne_eq_false_iff_eq]; omega
  clear HOK ht
  have ha1 : IntKind.i64.wrap ((e : Int) + 1) = (e : Int) + 1 := IntWalk.i64_in _ (by omega)
  have hi1 : (e : Int) + 1 < (e : Int) + 2 := by omega
  have hi0 : (0 : Int) ≤ (e : Int) + 1 := by omega
  have hec : (e : Int) ≤ (cap : Int) := by omega
  have hec0 : (0 : Int) ≤ (e : Int) := by omega
  have hec2 : (e : Int) < (e : Int) + 2 := by omega
  go_enter Try.func68, Try.ntmps68
  go_upto_region 5 with fail
  rw [← hwa]
  clear hwa
  go_cut [42] from 43 (fun s42 wc => s42 = .bool false ∧ Grow wa wc)
  case first =>
   go_region_held3 (fun w' => w'.cell? ⟨bb, o + e, none⟩ = some (.int .u8 x) ∧ w'.cell? ⟨bb, o + (e + 1), none⟩ = some (.int .u8 y)) (first | assumption | exact HS.out _ (by repeat (first | with_reducible assumption | with_reducible exact Grow.refl _ | with_reducible apply Grow.drewN | with_reducible apply Grow.drew | with_reducible apply Grow.alloc | (refine Grow.trans ?_ (by with_reducible assumption))))) (first | (go_at_call 134; refine (HSM2.out _ (by repeat (first | with_reducible assumption | with_reducible exact Grow.refl _ | with_reducible apply Grow.drewN | with_reducible apply Grow.drew | with_reducible apply Grow.alloc | (refine Grow.trans ?_ (by with_reducible assumption))))).mono ?_; rintro e0 w4 ⟨rfl, hb4⟩))
   have GW4 : Grow wa w4 := (by repeat (first | with_reducible assumption | with_reducible exact Grow.refl _ | with_reducible apply Grow.drewN | with_reducible apply Grow.drew | with_reducible apply Grow.alloc | (refine Grow.trans ?_ (by with_reducible assumption))))
   go_wp2
   go_meet
   case rel => exact ⟨by first | rfl | (rw [hbx]; done) | (rw [hbx2]; done) | (rw [hbx3]; done), GW4⟩
  case rest =>
  obtain ⟨rfl, hgw⟩ := hcut
  have HGW := Lib.hid hgw
  have c0 := (G1.out.trans hgw).sub _ _ HC0.out
  simp only [Nat.add_zero] at c0
  have hzw : IntKind.i64.wrap (z : Int) = (z : Int) := IntWalk.i64_in _ (by omega)
  clear hgw
  go_wp2
  obtain ⟨wb, hwb⟩ : ∃ x : World, x = wc.alloc (.cells #[.int .i64 z, .int .i64 0, .int .i64 0, .slice none 0 0] 39) := ⟨_, rfl⟩
  obtain ⟨B6, hB6⟩ : ∃ B, B = wc.heap.size := ⟨_, rfl⟩
  have hrow : wb.heap[B6]? = some (.cells #[.int .i64 z, .int .i64 0, .int .i64 0, .slice none 0 0] 39 (0, 0)) := by rw [hwb, hB6]; exact row_new _ _
  have hgw : Grow wa wb := by rw [hwb]; exact HGW.out.alloc _
  have hlo : wa.heap.size ≤ B6 := by rw [hB6]; exact HGW.out.size
  rw [← hwb, ← hB6]
  clear hwb hB6 c0
  have RM := Lib.hid hrow
  have GB := Lib.hid (G1.out.trans hgw)
  have R2B := Lib.hid (row_grow R2.out hgw)
  have HLO : Hid (w.heap.size < B6) := Lib.hid (by have := (Array.getElem?_eq_some_iff.1 R2.out).1; omega)
  have HLB : Hid (B6 < wb.heap.size) := Lib.hid (Array.getElem?_eq_some_iff.1 hrow).1
  have HRB : Hid (readB b = readBody z ((b.take e).drop 1)) := Lib.hid (by unfold readB; rw [if_neg HL3.out, if_pos HOT.out, HZ.out, HTD.out])
  have HLL : Hid (((b.take e).drop 1).length = e - 1) := Lib.hid (by rw [List.length_drop, HTL.out])
  have HSB := Lib.hid (HSL.out.drop 1 (by omega))
  have HZI : Hid (I64 (z : Int)) := Lib.hid (i64_of (by omega) (by omega))
  have hcp : e + 1 ≤ cap - 1 := by omega
  have hcm : cap ≤ maxLen := by have h9 := HV.out; obtain ⟨a', cap', he9, -, h8, -⟩ := h9; simp only [Value.slice.injEq] at he9; omega
  clear hrow hgw hlo R2 G1 HGW HSL HSM2 HS HOT HTL HTD HZ HL3 HC0 HCX HCY HV hzw hbx hbx2 hbx3 ha1 hi1 hi0 hl3 hx2 hy2 hs1
  generalize (b.take e).drop 1 = L at *
  go_loopw [7, 8, 9] (fun s7 s8 s9 wr => ∃ (xs : List Int) (r : List UInt8) (want : Int) (q cr : Nat), RdSt L xs r want ∧ s9 = .int .i64 want ∧ s7 = .slice (some ⟨bb, q, none⟩) r.length cr ∧ r.length + 2 ≤ cr ∧ cr ≤ maxLen ∧ Bts w.cell? (.slice (some ⟨bb, q, none⟩) r.length cr) r ∧ OwnC Ty.int (fun _ => none) wr wb.heap.size 3 s8 xs ∧ Grow wb wr) (fun _ s8 _ _ => 11 - lenOf s8)
  case atStart =>
   refine ⟨[], L, 3, o + 1, cap - 1, RdSt.start L, rfl, by rw [HLL.out], by rw [HLL.out]; omega, by omega, ?_, OwnC.nil _ _ _ _ _, Grow.refl _⟩
   have h9 := HSB.out
   rw [HLL.out]
   simpa [show Ty.byte.size = 1 from rfl] using h9
  case round =>
   obtain ⟨xs, r, want, q, cr, hrd, rfl, rfl, hcr, hcm2, hbr, hown, hb⟩ := hrel
   obtain ⟨wx, rfl⟩ : ∃ x : World, x = wr := ⟨_, rfl⟩
   obtain ⟨a8, c8, rfl⟩ := hown.form
   obtain ⟨hw3, hw11⟩ := hrd.bound
   have HOWN := Lib.hid hown
   have HB := Lib.hid hb
   have HBR := Lib.hid hbr
   have HRD := Lib.hid hrd
   have GX := Lib.hid (GB.out.trans hb)
   have R2X := Lib.hid (row_grow R2B.out hb)
   have HLE := Lib.hid hrd.le
   clear hown hb hbr hrd
   by_cases hlt : (xs.length : Int) < want
   ·have HG := Lib.hid (ref_get wx (HBR.out.mono GX.out.sub))
    obtain ⟨g0, g1, g2, g3, g4, g5⟩ := getB_bound r
    by_cases he : (getB r).2.2 = 0
    ·obtain ⟨k, hk⟩ : ∃ k : Nat, (getB r).2.1 = k := ⟨(getB r).2.1.toNat, by omega⟩
     have HNX := Lib.hid (fun h => HRD.out.next hlt he h)
     have HFV : Hid (xs.length = 2 → (getB r).1 < 0 ∨ 4 < (getB r).1 → readB b = (ms0, 5)) := fun h9 h8 => by rw [HRB.out]; exact HRD.out.five h9 he h8 _
     rw [hk] at HG HNX
     rw [he] at HG
     simp only [Int.toNat_natCast] at HNX
     have hkl : k ≤ r.length := by omega
     have HBK := Lib.hid (HBR.out.drop k hkl)
     have HDL : Hid ((r.drop k).length = r.length - k) := Lib.hid List.length_drop
     have HIX : Hid (I64 (getB r).1) := Lib.hid (i64_of (by omega) (by omega))
     clear hk he g2 g3 g4 g5
     generalize (getB r).1 = x at *
     have hkc : k ≤ cr := by omega
     unfold maxLen at hcm2
     have hxl : xs.length < 12 := by have := HLE.out; omega
     go_wp2_with fail
     refine HG.out.mono ?_
     rintro e9 w3 ⟨rfl, hb3⟩
     have HO3 := Lib.hid (HOWN.out.grow hb3)
     have G3 := Lib.hid (GX.out.trans hb3)
     have GB3 := Lib.hid (HB.out.trans hb3)
     have R3 := Lib.hid (row_grow R2X.out hb3)
     clear hb3
     go_wp2_with (first | (at_builtin; refine wpList_appc (c := fun _ => none) (base := wb.heap.size) (l := xs) (m := [x]) ei_int rfl one_Tint (by decide) rfl (.tmp 72) (.tmp 74) rfl rfl ?own rfl (Src.of_new (T := Ty.int) (x := x) (cs := #[.int .i64 x]) ⟨rfl, HIX.out⟩ _ _ ?d1) ?d2 ?d3 ?_))
     case own => exact HO3.out.grow ((Grow.refl _).alloc _)
     case d1 => simp
     case d2 => simp; omega
     case d3 => have := GB3.out.size; simp; omega
     intro a9 c9 w9 ho9 hg9 hb9
     have HO9 := Lib.hid ho9
     have GB9 := Lib.hid (grow_by (w0 := wb) (GB3.out.alloc _) hg9 (fun q hq => (HO3.out.lt q hq).1))
     have G9 := Lib.hid (GB.out.trans GB9.out)
     have R9 := Lib.hid (row_grow R2B.out GB9.out)
     clear ho9 hg9 hb9
     have hll : xs.length + [x].length = xs.length + 1 := by simp
     by_cases h2 : xs.length = 2
     ·have hb17 : ((xs.length : Int) + 1 == 3) = true := by rw [h2]; rfl
      have hxl2 : xs.length + 1 = 3 := by omega
      by_cases hx0 : x < 0
      ·have HE := Lib.hid (HFV.out h2 (.inl hx0))
       go_wp2_with fail
       refine (ref_fail _).mono ?_
       rintro e8 w8 ⟨rfl, hb8⟩
       have R8 := Lib.hid (row_grow R9.out hb8)
       have G8 := Lib.hid (G9.out.trans hb8)
       clear hb8
       go_wp2_with (first | (refine wpList_store_row rfl (.tmp 2) (.tmp 90) rfl rfl rfl R8.out info_ms rfl rfl ?_))
       intro w7 r7 g7
       obtain ⟨p0, p1, p2, p3⟩ := cells4 r7
       go_wp2
       refine bodyPost_ret (v := .tuple #[.agg #[.int .i64 0, .int .i64 0, .int .i64 0, .slice none 0 0], .int .i64 5]) (by simp [results, Try.results68, go_sem, p0, p1, p2, p3]) rfl ?_
       rw [HE.out]
       exact ⟨_, rfl, of_ms0 _, G8.out.grown g7 (fun q hq => by simp at hq; omega)⟩
      by_cases hx4 : 4 < x
      ·have HE := Lib.hid (HFV.out h2 (.inr hx4))
       go_wp2_with fail
       refine (ref_fail _).mono ?_
       rintro e8 w8 ⟨rfl, hb8⟩
       have R8 := Lib.hid (row_grow R9.out hb8)
       have G8 := Lib.hid (G9.out.trans hb8)
       clear hb8
       go_wp2_with (first | (refine wpList_store_row rfl (.tmp 2) (.tmp 90) rfl rfl rfl R8.out info_ms rfl rfl ?_))
       intro w7 r7 g7
       obtain ⟨p0, p1, p2, p3⟩ := cells4 r7
       go_wp2
       refine bodyPost_ret (v := .tuple #[.agg #[.int .i64 0, .int .i64 0, .int .i64 0, .slice none 0 0], .int .i64 5]) (by simp [results, Try.results68, go_sem, p0, p1, p2, p3]) rfl ?_
       rw [HE.out]
       exact ⟨_, rfl, of_ms0 _, G8.out.grown g7 (fun q hq => by simp at hq; omega)⟩
      obtain ⟨xn, rfl⟩ : ∃ xn : Nat, x = xn := ⟨x.toNat, by omega⟩
      have HN := Lib.hid (HNX.out (fun _ => ⟨by omega, by omega⟩))
      rw [if_pos h2] at HN
      have hxn : xn ≤ 4 := by omega
      go_wp2
      go_roundw
      case rel =>
       refine ⟨xs ++ [(xn : Int)], r.drop k, 3 + 2 * (xn : Int), q + k, cr - k, HN.out, by go_num, by rw [HDL.out], by rw [HDL.out]; omega, by unfold maxLen; omega, ?_, HO9.out, GB9.out⟩
       have h9 := HBK.out
       rw [HDL.out]
       simpa [show Ty.byte.size = 1 from rfl] using h9
      case measure => simp [lenOf]; omega
     ·have hb17 : ((xs.length : Int) + 1 == 3) = false := by rw [beq_eq_false_iff_ne]; omega
      have hxl2 : ¬ xs.length + 1 = 3 := by omega
      have HN := Lib.hid (HNX.out (fun h => absurd h h2))
      rw [if_neg h2] at HN
      go_wp2
      go_roundw
      case rel =>
       refine ⟨xs ++ [x], r.drop k, want, q + k, cr - k, HN.out, rfl, by rw [HDL.out], by rw [HDL.out]; omega, by unfold maxLen; omega, ?_, HO9.out, GB9.out⟩
       have h9 := HBK.out
       rw [HDL.out]
       simpa [show Ty.byte.size = 1 from rfl] using h9
      case measure => simp [lenOf]; omega
    ·have HE : Hid (readB b = (ms0, (getB r).2.2)) := Lib.hid (by rw [HRB.out]; exact HRD.out.fails hlt he _)
     have hbe : ((getB r).2.2 != 0) = true := by simp [he]
     clear he g0 g1 g2 g3 g4 g5
     generalize (getB r).2.2 = er at *
     generalize (getB r).2.1 = ek at *
     generalize (getB r).1 = ex at *
     go_wp2_with fail
     refine HG.out.mono ?_
     rintro e9 w3 ⟨rfl, hb3⟩
     have G3 := Lib.hid (GX.out.trans hb3)
     have R3 := Lib.hid (row_grow R2X.out hb3)
     clear hb3
     go_wp2_with fail
     refine (ref_fail _).mono ?_
     rintro e8 w8 ⟨rfl, hb8⟩
     have R8 := Lib.hid (row_grow R3.out hb8)
     have G8 := Lib.hid (G3.out.trans hb8)
     clear hb8
     go_wp2_with (first | (refine wpList_store_row rfl (.tmp 2) (.tmp 70) rfl rfl rfl R8.out info_ms rfl rfl ?_))
     intro w7 r7 g7
     obtain ⟨p0, p1, p2, p3⟩ := cells4 r7
     go_wp2
     refine bodyPost_ret (v := .tuple #[.agg #[.int .i64 0, .int .i64 0, .int .i64 0, .slice none 0 0], .int .i64 er]) (by simp [results, Try.results68, go_sem, p0, p1, p2, p3]) rfl ?_
     rw [HE.out]
     exact ⟨_, rfl, of_ms0 _, G8.out.grown g7 (fun q hq => by simp at hq; omega)⟩
   ·have HAL := Lib.hid (HRD.out.all (by omega) (z : Int))
    by_cases hr : r = []
    ·have hrl : ¬ (0 : Int) < (r.length : Int) := by rw [hr]; simp
     have HPL := Lib.hid (HRD.out.pairs_all (by omega))
     rw [if_neg (by simp [hr])] at HAL
     have hx3 : 3 ≤ xs.length := by omega
     have hx11 : xs.length ≤ 11 := by have := HLE.out; omega
     obtain ⟨g8, rfl, n0, n1, hn8⟩ := nums_at HOWN.out hx3
     have HN8 := Lib.hid hn8
     have RMX := Lib.hid (row_grow RM.out HB.out)
     obtain ⟨m0, m1, m2, m3⟩ := cells4 RMX.out
     have z6 : B6 < wx.heap.size := (Array.getElem?_eq_some_iff.1 RMX.out).1
     have z8 : wb.heap.size ≤ g8 := (HOWN.out.lt g8 rfl).1
     have HS : Hid (∀ W, Grow wx W → W.cell? ⟨g8, 0, none⟩ = some (.int .i64 (xs.getD 0 0)) ∧ W.cell? ⟨g8, 1, none⟩ = some (.int .i64 (xs.getD 1 0))) := fun W hW => ⟨hW.sub _ _ n0, hW.sub _ _ n1⟩
     have hi0 : (0 : Int) < (xs.length : Int) := by omega
     have hi1 : (1 : Int) < (xs.length : Int) := by omega
     have hn0 : 0 < xs.length := by omega
     have hn1 : 1 < xs.length := by omega
     have HIX1 := Lib.hid (HOWN.out.int_ok 1)
     have HIX0 := Lib.hid (HOWN.out.int_ok 0)
     clear hr m0 m1 m2 m3 n0 n1 hn8
     generalize xs.getD 0 0 = dd at *
     generalize xs.getD 1 0 = hh at *
     go_upto_region 23 with fail
     refine but_start (fun w' => w'.cell? ⟨g8, 0, none⟩ = some (.int .i64 dd) ∧ w'.cell? ⟨g8, 1, none⟩ = some (.int .i64 hh)) 9 (by kernel_rfl) ?_
     obtain ⟨wd, hWd⟩ : ∃ x : World, x = wx.drew := ⟨_, rfl⟩
     rw [← hWd]
     have GD : Grow wx wd := by rw [hWd]; exact (Grow.refl _).drew
     have zD : wx.heap.size = wd.heap.size := by rw [hWd]; rfl
     have ZD := Lib.hid zD
     clear hWd zD
     refine bLm [0] 12 (by kernel_rfl) (fun _ _ _ _ _ h => h) (HS.out _ GD) ?_
     repeat (refine tNm (v := ?_) rfl (by rfl) ?_ ?_; rotate_left; (· (intro w' hSw; (try dsimp only at hSw); obtain ⟨hs0, hs1⟩ := hSw; go_simp <;> with_reducible rfl)); try simp only [Act.put, lzA, lzC, lzD, lzE, lzF])
     refine tEm ?_
     refine bLm [1, 2, 3, 4, 5] 12 (by kernel_rfl) (fun _ _ _ _ _ h => h) (HS.out _ GD) ?_
     repeat (refine tNm (v := ?_) rfl (by rfl) ?_ ?_; rotate_left; (· (intro w' hSw; (try dsimp only at hSw); obtain ⟨hs0, hs1⟩ := hSw; go_simp <;> with_reducible rfl)); try simp only [Act.put, lzA, lzB, lzC, lzD, lzE, lzF])
     refine tEm ?_
     refine bO 6 (by kernel_rfl) rfl ?_
     intro K HK
     try simp only [lzA, lzB, lzC]
     go_simp
     refine HK.out _ _ ⟨fun _ => HS.out _ GD, ?_⟩
     clear HK K
     try simp only [Act.put, lzA, lzB, lzC, lzD, lzE, lzF]
     refine bO 7 (by kernel_rfl) rfl ?_
     intro K HK
     refine wanted_go rfl ?_
     try simp only [lzA, lzB, lzC]
     refine wp_store_cell (.tmp 108) (.tmp 104) (v := .int .i64 dd) (new := #[.int .i64 z, .int .i64 dd, .int .i64 0, .slice none 0 0]) rfl rfl (by rfl) (by rfl) (row_grow RMX.out GD) info_int (by simp) (by rfl) (by rfl) ?_
     intro z7 rz7 gz7
     have Hz7 := Lib.hid (And.intro rz7 gz7)
     clear rz7 gz7
     refine HK.out _ _ ⟨fun _ => ⟨cell_by2 (HS.out _ GD).1 (Hz7.out.2) (by have := HLB.out; show g8 ≠ B6; omega), cell_by2 (HS.out _ GD).2 (Hz7.out.2) (by have := HLB.out; show g8 ≠ B6; omega)⟩, ?_⟩
     clear HK K
     try simp only [Act.put]
     refine bO 8 (by kernel_rfl) rfl ?_
     intro K HK
     try simp only [lzA, lzB, lzC]
     go_simp
     refine HK.out _ _ ⟨fun _ => ⟨cell_by2 (HS.out _ GD).1 (Hz7.out.2) (by have := HLB.out; show g8 ≠ B6; omega), cell_by2 (HS.out _ GD).2 (Hz7.out.2) (by have := HLB.out; show g8 ≠ B6; omega)⟩, ?_⟩
     clear HK K
     try simp only [Act.put, lzA, lzB, lzC, lzD, lzE, lzF]
     refine bO 9 (by kernel_rfl) rfl ?_
     intro K HK
     refine wanted_go rfl ?_
     try simp only [lzA, lzB, lzC]
     refine wp_store_cell (.tmp 109) (.tmp 107) (v := .int .i64 hh) (new := #[.int .i64 z, .int .i64 dd, .int .i64 hh, .slice none 0 0]) rfl rfl (by rfl) (by rfl) Hz7.out.1 info_int (by simp) (by rfl) (by rfl) ?_
     intro z9 rz9 gz9
     have Hz9 := Lib.hid (And.intro rz9 gz9)
     clear rz9 gz9
     refine HK.out _ _ ⟨fun h => absurd rfl h, ?_⟩
     clear HK K
     try simp only [Act.put]
     refine but_done (by kernel_rfl) ?_
     have HG8 := Lib.hid (grownBy_trans (grownBy_of_grow GD (some B6)) (grownBy_trans Hz7.out.2 Hz9.out.2))
     have RM9 := Lib.hid Hz9.out.1
     have R29 := Lib.hid (row_by (row_grow R2X.out GD) (grownBy_trans Hz7.out.2 Hz9.out.2) (by have := HLO.out; intro e9; have := Option.some.inj e9; omega))
     have GX9 := Lib.hid (GX.out.grown HG8.out (fun q hq => by have := HLO.out; simp at hq; omega))
     have HO9 := Lib.hid (HOWN.out.kept HG8.out (.inr (by have := HLB.out; simp [Value.ownBlock]; omega)))
     obtain ⟨wy, rfl⟩ : ∃ x : World, x = z9 := ⟨_, rfl⟩
     clear Hz7 Hz9 HG8 GD ZD HS RMX R2X GX HOWN HB
     go_wp2
     go_loopw [13] (fun i wr => ∃ (i0 k : Nat) (vp : Value), i0 = 3 + 2 * k ∧ i0 ≤ xs.length ∧ i = .int .i64 (i0 : Nat) ∧ PSt w wr B6 wb.heap.size z dd hh vp g8 c8 (pairs hh ((xs.drop 3).take (2 * k))) xs) (fun i _ => xs.length - (intOf i).toNat)
     case atStart => exact ⟨3, 0, .slice none 0 0, rfl, by omega, rfl, ⟨R29.out, RM9.out, HO9.out, World.ownsRow_nil _ _ _ _, GX9.out, HLO.out, HLB.out, fun q hq => by simp [Value.ownBlock] at hq⟩⟩
     case round =>
      obtain ⟨i0, k, vp, hi0, hk3, rfl, hp⟩ := hrel
      have HI0 := Lib.hid hi0
      obtain ⟨wv, rfl⟩ : ∃ x : World, x = wr := ⟨_, rfl⟩
      obtain ⟨ap, cp, rfl⟩ := owns_form hp.own
      have HP := Lib.hid hp
      clear hp
      by_cases hlt2 : i0 < xs.length
      ·have hlt3 : i0 + 1 < xs.length := by have := HPL.out.2 k (by omega); omega
       have HPN := Lib.hid (pairs_more hh (xs := xs) (k := k) (by omega))
       rw [← hi0] at HPN
       have HPK := Lib.hid (pairs_short hh (xs := xs) (k := k) (by omega))
       obtain ⟨n0, n1⟩ := nums_two HP.out.num hlt3
       have HIA := Lib.hid (HP.out.num.int_ok i0)
       have HIB := Lib.hid (HP.out.num.int_ok (i0 + 1))
       have HS : Hid (∀ W, Grow wv W → W.cell? ⟨B6, 3, none⟩ = some (.slice ap (pairs hh ((xs.drop 3).take (2 * k))).length cp) ∧ W.cell? ⟨B6, 2, none⟩ = some (.int .i64 hh) ∧ W.cell? ⟨g8, i0, none⟩ = some (.int .i64 (xs.getD i0 0)) ∧ W.cell? ⟨g8, i0 + 1, none⟩ = some (.int .i64 (xs.getD (i0 + 1) 0))) := fun W hW => by
        obtain ⟨-, -, m2, m3⟩ := cells4 (row_grow HP.out.msg hW)
        exact ⟨m3, m2, hW.sub _ _ n0, hW.sub _ _ n1⟩
       clear n0 n1
       generalize xs.getD i0 0 = xa at *
       generalize xs.getD (i0 + 1) 0 = xb at *
       generalize pairs hh ((xs.drop 3).take (2 * k)) = ps at *
       have hia : IntKind.i64.wrap ((i0 : Int) + 1) = (i0 : Int) + 1 := IntWalk.i64_in _ (by omega)
       have hib : (0 : Int) ≤ (i0 : Int) + 1 := by omega
       have hic : (i0 : Int) + 1 < (xs.length : Int) := by omega
       have hid : ((i0 : Int) + 1).toNat = i0 + 1 := by omega
       clear hi0
       go_upto_region 27 with fail
       refine but_start (fun w' => w'.cell? ⟨B6, 3, none⟩ = some (.slice ap ps.length cp) ∧ w'.cell? ⟨B6, 2, none⟩ = some (.int .i64 hh) ∧ w'.cell? ⟨g8, i0, none⟩ = some (.int .i64 xa) ∧ w'.cell? ⟨g8, i0 + 1, none⟩ = some (.int .i64 xb)) 17 (by kernel_rfl) ?_
       obtain ⟨wd, hWd⟩ : ∃ x : World, x = wv.drew := ⟨_, rfl⟩
       rw [← hWd]
       have GD : Grow wv wd := by rw [hWd]; exact (Grow.refl _).drew
       have zD : wv.heap.size = wd.heap.size := by rw [hWd]; rfl
       have ZD := Lib.hid zD
       clear hWd zD
       refine bLm [0] 20 (by kernel_rfl) (fun _ _ _ _ _ h => h) (HS.out _ GD) ?_
       repeat (refine tNm (v := ?_) rfl (by rfl) ?_ ?_; rotate_left; (· (intro w' hSw; (try dsimp only at hSw); obtain ⟨hs0, hs1, hs2, hs3⟩ := hSw; go_simp <;> with_reducible rfl)); try simp only [Act.put, lzA, lzC, lzD, lzE, lzF])
       refine tEm ?_
       refine bLm [1, 2, 3, 4, 5, 6, 7, 8, 9, 10, 11, 12] 20 (by kernel_rfl) (fun _ _ _ _ _ h => h) (HS.out _ GD) ?_
       repeat (refine tNm (v := ?_) rfl (by rfl) ?_ ?_; rotate_left; (· (intro w' hSw; (try dsimp only at hSw); obtain ⟨hs0, hs1, hs2, hs3⟩ := hSw; go_simp <;> with_reducible rfl)); try simp only [Act.put, lzA, lzB, lzC, lzD, lzE, lzF])
       refine tEm ?_
       refine bO 13 (by kernel_rfl) rfl ?_
       intro K HK
       try simp only [lzA, lzB, lzC]
       go_simp
       refine HK.out _ _ ⟨fun _ => HS.out _ GD, ?_⟩
       clear HK K
       try simp only [Act.put, lzA, lzB, lzC, lzD, lzE, lzF]
       refine bO 14 (by kernel_rfl) rfl ?_
       intro K HK
       try simp only [lzA, lzB, lzC]
       go_simp
       obtain ⟨y9, hy9⟩ : ∃ x : World, x = wd.alloc (.cells #[.int .i64 hh, .int .i64 xa, .int .i64 xb] 32) := ⟨_, rfl⟩
       have GY : Grow wd y9 := by rw [hy9]; exact (Grow.refl _).alloc _
       have RY : y9.heap[wd.heap.size]? = some (.cells #[.int .i64 hh, .int .i64 xa, .int .i64 xb] 32 (0, 0)) := by rw [hy9]; exact row_new _ _
       have HY := Lib.hid (And.intro (GD.trans GY) RY)
       rw [← hy9]
       clear hy9 GY RY
       refine HK.out _ _ ⟨fun _ => HS.out _ HY.out.1, ?_⟩
       clear HK K
       try simp only [Act.put, lzA, lzB, lzC, lzD, lzE, lzF]
       refine bO 15 (by kernel_rfl) rfl ?_
       intro K HK
       refine wanted_go rfl ?_
       try simp only [lzA, lzB, lzC]
       refine wp_app_any (n := ps.length) ei_pt (.tmp 117) (.tmp 130) rfl rfl (owns_grow HP.out.own HY.out.1) (some ⟨wd.heap.size, 0, none⟩) 1 1 [.int .i64 hh, .int .i64 xa, .int .i64 xb] rfl (by simp) rfl (fun ad had j u hu => ?news) (one_pt ⟨hh, xa, xb⟩) (by have := HPK.out; have := HI0.out; unfold maxLen; omega) (by have := HPK.out; have := HI0.out; omega) (by have := HY.out.1.size; have := (Array.getElem?_eq_some_iff.1 HP.out.msg).1; have := HP.out.wbs; omega) ?_
       case news =>
        obtain rfl := Option.some.inj had
        have h9 := cells3 HY.out.2
        rw [Addr.add_lit, Nat.zero_add]
        match j, hu with
        | 0, hu => simp at hu; rw [← hu]; exact h9.1
        | 1, hu => simp at hu; rw [← hu]; exact h9.2.1
        | 2, hu => simp at hu; rw [← hu]; exact h9.2.2
        | j + 3, hu => simp at hu
       intro a9 c9 z9 hA
       have HA := Lib.hid hA
       clear hA
       refine HK.out _ _ ⟨fun _ => HP.out.still HY.out.1 HA.out.grown (HS.out _ HY.out.1), ?_⟩
       clear HK K
       try simp only [Act.put, lzD, lzE, lzF]
       refine bO 16 (by kernel_rfl) rfl ?_
       intro K HK
       try simp only [lzA, lzB, lzC]
       go_simp
       refine HK.out _ _ ⟨fun _ => HP.out.still HY.out.1 HA.out.grown (HS.out _ HY.out.1), ?_⟩
       clear HK K
       try simp only [Act.put, lzA, lzB, lzC, lzD, lzE, lzF]
       refine bO 17 (by kernel_rfl) rfl ?_
       intro K HK
       refine wanted_go rfl ?_
       try simp only [lzA, lzB, lzC]
       refine wp_store_cell (.tmp 132) (.tmp 131) (v := .slice a9 (ps.length + 1) c9) (new := #[.int .i64 z, .int .i64 dd, .int .i64 hh, .slice a9 (ps.length + 1) c9]) rfl rfl (by rfl) (by rfl) (row_by (row_grow HP.out.msg HY.out.1) HA.out.grown (fun e9 => (HP.out.dis _ e9.symm).1 rfl)) info_parts (by simp) (by rfl) (by rfl) ?_
       intro zz rz gz
       have HZZ := Lib.hid (And.intro rz gz)
       clear rz gz
       refine HK.out _ _ ⟨fun h => absurd rfl h, ?_⟩
       clear HK K
       try simp only [Act.put]
       refine but_done (by kernel_rfl) ?_
       go_wp2
       go_roundw
       case rel =>
        refine ⟨i0 + 2, k + 1, .slice a9 (ps.length + 1) c9, by have := HI0.out; omega, by omega, by go_num, ?_⟩
        rw [HPN.out]
        refine HP.out.part (ps' := ps ++ [⟨hh, xa, xb⟩]) HY.out.1 ?_ HA.out.grown HA.out.blk HZZ.out.1 HZZ.out.2
        have h9 := HA.out.own
        simpa [Pt.cells] using h9
       case measure => simp [intOf]; omega
      ·have HE0 := Lib.hid (show (xs.drop 3).take (2 * k) = xs.drop 3 from List.take_of_length_le (by rw [List.length_drop]; omega))
       have hp9 := HP.out
       rw [HE0.out] at hp9
       have HP9 := Lib.hid hp9
       have HPK := Lib.hid (pairs_short hh (xs := xs) (k := k) (by omega))
       rw [HE0.out] at HPK
       clear HP
       have HOK := Lib.hid (pairs_fine (l := xs.drop 3) HIX1.out (fun x hx => HP9.out.num.ints_ok x (List.mem_of_mem_drop hx)))
       clear hp9 HE0
       generalize pairs hh (xs.drop 3) = ps at *
       have HW := Lib.hid (fun (W : World) (hW : Grow wv W) => ref_wrong (m := ⟨z, dd, hh, ps⟩) W ⟨_, rfl, .slice ap ps.length cp, rfl, HZI.out, HIX0.out, HIX1.out, (Pts.of_own HP9.out.own HOK.out).mono hW.sub⟩)
       obtain ⟨m0, m1, m2, m3⟩ := cells4 HP9.out.msg
       have z7 : B6 < wv.heap.size := (Array.getElem?_eq_some_iff.1 HP9.out.msg).1
       go_wp2_with fail
       refine (HW.out _ (Grow.refl _)).mono ?_
       rintro e9 wy2 ⟨rfl, hby⟩
       have R2Y := Lib.hid (row_grow HP9.out.res hby)
       have RMY := Lib.hid (row_grow HP9.out.msg hby)
       have OWY := Lib.hid (owns_grow HP9.out.own hby)
       have GY := Lib.hid (HP9.out.grow.trans hby)
       clear hby m0 m1 m2 m3
       by_cases hwr : wrongM ⟨z, dd, hh, ps⟩ = 0
       ·have HE : Hid (readB b = (⟨z, dd, hh, ps⟩, 0)) := Lib.hid (by rw [HRB.out, HAL.out, if_pos hwr])
        have hbw : (wrongM ⟨z, dd, hh, ps⟩ != 0) = false := by simp [hwr]
        obtain ⟨m0, m1, m2, m3⟩ := cells4 RMY.out
        have z9 : B6 < wy2.heap.size := (Array.getElem?_eq_some_iff.1 RMY.out).1
        clear hwr
        generalize wrongM ⟨z, dd, hh, ps⟩ = er at *
        go_wp2_with (first | (refine wpList_store_row rfl (.tmp 2) (.tmp 142) rfl rfl rfl R2Y.out info_ms rfl rfl ?_))
        intro w7 r7 g7
        obtain ⟨p0, p1, p2, p3⟩ := cells4 r7
        clear m0 m1 m2 m3
        go_wp2
        refine bodyPost_ret (v := .tuple #[.agg #[.int .i64 z, .int .i64 dd, .int .i64 hh, .slice ap ps.length cp], .int .i64 0]) (by simp [results, Try.results68, go_sem, p0, p1, p2, p3]) rfl ?_
        rw [HE.out]
        refine ⟨_, rfl, ⟨_, rfl, .slice ap ps.length cp, rfl, HZI.out, HIX0.out, HIX1.out, ?_⟩, GY.out.grown g7 (fun q hq => by simp at hq; omega)⟩
        have h9 := OwnC.pts (c := fun _ => none) (OWY.out.kept g7 (by
         cases e9 : (Value.slice ap ps.length cp).ownBlock with
         | none => exact .inl rfl
         | some q => exact .inr (by have := (HP9.out.own.lt q e9).1; have := HP9.out.wbs; have := HLO.out; intro e8; have := Option.some.inj e8; omega))) HOK.out
        exact h9.slc (by decide) (fun _ _ e9 => by cases e9) (fun a9 ha => ov_new (by have := HP9.out.wbs; have := HLO.out; omega))
       ·have HE : Hid (readB b = (ms0, wrongM ⟨z, dd, hh, ps⟩)) := Lib.hid (by rw [HRB.out, HAL.out, if_neg hwr])
        have hbw : (wrongM ⟨z, dd, hh, ps⟩ != 0) = true := by simp [hwr]
        clear hwr
        generalize wrongM ⟨z, dd, hh, ps⟩ = er at *
        go_wp2_with fail
        refine (ref_fail _).mono ?_
        rintro e8 w8 ⟨rfl, hb8⟩
        have R8 := Lib.hid (row_grow R2Y.out hb8)
        have G8 := Lib.hid (GY.out.trans hb8)
        clear hb8
        go_wp2_with (first | (refine wpList_store_row rfl (.tmp 2) (.tmp 140) rfl rfl rfl R8.out info_ms rfl rfl ?_))
        intro w7 r7 g7
        obtain ⟨p0, p1, p2, p3⟩ := cells4 r7
        go_wp2
        refine bodyPost_ret (v := .tuple #[.agg #[.int .i64 0, .int .i64 0, .int .i64 0, .slice none 0 0], .int .i64 er]) (by simp [results, Try.results68, go_sem, p0, p1, p2, p3]) rfl ?_
        rw [HE.out]
        exact ⟨_, rfl, of_ms0 _, G8.out.grown g7 (fun q hq => by simp at hq; omega)⟩
    ·have hrl : (0 : Int) < (r.length : Int) := by have := List.length_pos_iff.2 hr; omega
     have HE : Hid (readB b = (ms0, 2)) := Lib.hid (by rw [HRB.out, HAL.out, if_pos hr])
     go_wp2_with fail
     refine (ref_fail _).mono ?_
     rintro e8 w8 ⟨rfl, hb8⟩
     have R8 := Lib.hid (row_grow R2X.out hb8)
     have G8 := Lib.hid (GX.out.trans hb8)
     clear hb8
     go_wp2_with (first | (refine wpList_store_row rfl (.tmp 2) (.tmp 100) rfl rfl rfl R8.out info_ms rfl rfl ?_))
     intro w7 r7 g7
     obtain ⟨p0, p1, p2, p3⟩ := cells4 r7
     go_wp2
     refine bodyPost_ret (v := .tuple #[.agg #[.int .i64 0, .int .i64 0, .int .i64 0, .slice none 0 0], .int .i64 2]) (by simp [results, Try.results68, go_sem, p0, p1, p2, p3]) rfl ?_
     rw [HE.out]
     exact ⟨_, rfl, of_ms0 _, G8.out.grown g7 (fun q hq => by simp at hq; omega)⟩
 ·have HOT := Lib.hid (show sumOk b = false by rw [HOK.out]; exact decide_eq_false ht)
  have hbx : ((s : Int) != IntKind.i64.wrap (IntKind.i64.wrap (256 * IntKind.i64.wrap (x : Int)) + (y : Int))) = true := by rw [IntWalk.i64_in (x : Int) (by omega), IntWalk.i64_in (256 * (x : Int)) (by omega), IntWalk.i64_in (256 * (x : Int) + (y : Int)) (by omega)]; rw [bne_iff_ne]; omega
  have hbx3 : ((s : Int) != IntKind.i64.wrap (IntKind.i64.wrap (256 * IntKind.i64.wrap (x : Int)) + IntKind.i64.wrap (y : Int))) = true := by rw [IntWalk.i64_in (x : Int) (by omega), IntWalk.i64_in (y : Int) (by omega), IntWalk.i64_in (256 * (x : Int)) (by omega), IntWalk.i64_in (256 * (x : Int) + (y : Int)) (by omega)]; rw [bne_iff_ne]; omega
  have hbx2 : ((s : Int) != 256 * (x : Int) + (y : Int)) = true := by rw [bne_iff_ne]; omega
  clear HOK ht
  have ha1 : IntKind.i64.wrap ((e : Int) + 1) = (e : Int) + 1 := IntWalk.i64_in _ (by omega)
  have hi1 : (e : Int) + 1 < (e : Int) + 2 := by omega
  have hi0 : (0 : Int) ≤ (e : Int) + 1 := by omega
  have hec : (e : Int) ≤ (cap : Int) := by omega
  have hec0 : (0 : Int) ≤ (e : Int) := by omega
  have hec2 : (e : Int) < (e : Int) + 2 := by omega
  have HE : Hid (readB b = (ms0, 7)) := Lib.hid (by unfold readB; rw [if_neg HL3.out, if_neg (by rw [HOT.out]; decide)])
  go_enter Try.func68, Try.ntmps68
  go_upto_region 5 with fail
  rw [← hwa]
  clear hwa
  go_cut [42] from 43 (fun s42 wc => s42 = .bool true ∧ Grow wa wc)
  case first =>
   go_region_held3 (fun w' => w'.cell? ⟨bb, o + e, none⟩ = some (.int .u8 x) ∧ w'.cell? ⟨bb, o + (e + 1), none⟩ = some (.int .u8 y)) (first | assumption | exact HS.out _ (by repeat (first | with_reducible assumption | with_reducible exact Grow.refl _ | with_reducible apply Grow.drewN | with_reducible apply Grow.drew | with_reducible apply Grow.alloc | (refine Grow.trans ?_ (by with_reducible assumption))))) (first | (go_at_call 134; refine (HSM2.out _ (by repeat (first | with_reducible assumption | with_reducible exact Grow.refl _ | with_reducible apply Grow.drewN | with_reducible apply Grow.drew | with_reducible apply Grow.alloc | (refine Grow.trans ?_ (by with_reducible assumption))))).mono ?_; rintro e0 w4 ⟨rfl, hb4⟩))
   have GW4 : Grow wa w4 := (by repeat (first | with_reducible assumption | with_reducible exact Grow.refl _ | with_reducible apply Grow.drewN | with_reducible apply Grow.drew | with_reducible apply Grow.alloc | (refine Grow.trans ?_ (by with_reducible assumption))))
   go_wp2
   go_meet
   case rel => exact ⟨by first | rfl | (rw [hbx]; done) | (rw [hbx2]; done) | (rw [hbx3]; done), GW4⟩
  case rest =>
  obtain ⟨rfl, GW4⟩ := hcut
  have R4 := Lib.hid (row_grow R2.out GW4)
  go_wp2_with fail
  refine (ref_fail _).mono ?_
  rintro e w5 ⟨rfl, hb⟩
  have R5 := Lib.hid (row_grow R4.out hb)
  have G5 := Lib.hid (G1.out.trans (GW4.trans hb))
  clear hb
  go_wp2_with (first | (refine wpList_store_row rfl (.tmp 2) (.tmp 45) rfl rfl rfl R5.out info_ms rfl rfl ?_))
  intro w7 r7 g7
  obtain ⟨p0, p1, p2, p3⟩ := cells4 r7
  go_wp2
  refine bodyPost_ret (v := .tuple #[.agg #[.int .i64 0, .int .i64 0, .int .i64 0, .slice none 0 0], .int .i64 7]) (by simp [results, Try.results68, go_sem, p0, p1, p2, p3]) rfl ?_
  rw [HE.out]
  exact ⟨_, rfl, of_ms0 _, G5.out.grown g7 (fun q hq => by simp at hq; omega)⟩
theorem ref_read {v : Value} {b : List UInt8} (w : World) (hv : Bts w.cell? v b) :
  Calls Try.prog 68 #[v] w fun e w' => ∃ v', e = .returned (.tuple #[v', .int .i64 (readB b).2]) ∧ Of Ty.ms w'.cell? v' (readB b).1 ∧ Grow w w' :=
 (ref_readN w hv).mono fun e w' ⟨v', he, hO, hg⟩ => ⟨v', he, hO.mono (fun a u e9 => by
  unfold ov at e9
  split at e9
  ·cases e9
  ·exact e9), hg⟩
theorem wp_appv {P : Program} {t e : TypeId} {size bytes : Nat} (hE : EI P t e size bytes) {α : Type} {T : Ty α} (hT : T.size = size) (h1 : TOne T) (hb0 : 0 < bytes) {c : CM} {w : World} {o : Oper} {a : Act} {K : Act → World → Prop} {Q : Exit → Act → World → Prop} (s x : Operand) (ho : o.op = .call { callee := .builtin .append, args := #[s, x], argTypes := #[t, t] })
  {base : Nat} {v vs : Value} {l m k : List α} (hk : l ++ m = k) (hs : a.eval s = v) (hown : OwnC T c w base e v l) (hx : a.eval x = vs) (hsrc : Src T c w vs m)
  (hbytes : (l.length + m.length) * bytes ≤ 140737488355328) (hbase : base ≤ w.heap.size)
  (h : ∀ a' n' c' w', n' = k.length → OwnC T c w' base e (.slice a' n' c') k → w.grownBy w' v.ownBlock → ((Value.slice a' n' c').ownBlock = v.ownBlock ∨ ∃ g, (Value.slice a' n' c').ownBlock = some g ∧ w.heap.size ≤ g) → K (a.put o.dst (.slice a' n' c')) w') : o.wp P a w K Q :=
 wp_appc hE hT h1 hb0 s x ho hs hown hx hsrc hbytes hbase fun a' c' w' h2 h3 h4 => h a' _ c' w' (by rw [← hk, List.length_append]) (hk ▸ h2) h3 h4
set_option maxRecDepth 100000 in
set_option maxHeartbeats 4000000 in
theorem ref_do_lose {c : CM} {v vs : Value} {x : AW} {sn : Int} {sp : List Pt} {n : Nat} {G : Reg} {k : Nat} (w : World) (hc : Sub c w.cell?) (hv : Of Ty.wd c v x) (hs : Of Ty.st c vs ⟨3, sn, sp⟩) (hi : WI n G x) (hf : Few k x) (hk : k ≤ 1000) (ht : there x sn = true) :
  Calls Try.prog 138 #[v, vs] w fun e w' => ∃ v', e = .returned (.tuple #[v', .int .i64 (doErr x ⟨3, sn, sp⟩)]) ∧ Of Ty.wd (ov c w w') v' (doA x ⟨3, sn, sp⟩) ∧ Grow w w' := by
 obtain ⟨al, cl, ao, co, ah, ch, an, cn, rfl⟩ := hv.wd_form
 obtain ⟨ap, cp, rfl⟩ := hs.st_form
 obtain ⟨q1, q2, q3⟩ := hv.wd_parts
 have HQ1 := Lib.hid q1
 have HQ2 := Lib.hid q2
 have HQ3 := Lib.hid q3
 have HSP := Lib.hid hs.st_parts
 have HHD := Lib.hid (hi.hdok hf hk)
 have HWI := Lib.hid hi
 have HV := Lib.hid hv
 have HC := Lib.hid hc
 have HT := Lib.hid ht
 clear hc hv hs q1 q2 q3 hi hf
 obtain ⟨wa, hwa⟩ : ∃ y : World, y = w.alloc (.cells #[.slice al x.head.log.length cl, .int .i64 x.head.boot, .int .i64 x.head.next, .slice ao x.head.opn.length co, .slice ah x.houses.length ch, .slice an x.net.length cn] 93) := ⟨_, rfl⟩
 obtain ⟨wb, hwb⟩ : ∃ y : World, y = wa.alloc (.cells #[.int .i64 3, .int .i64 sn, .slice ap sp.length cp] 164) := ⟨_, rfl⟩
 obtain ⟨wz, hwz⟩ : ∃ y : World, y = wb.alloc (.cells #[.slice none 0 0, .int .i64 0, .int .i64 0, .slice none 0 0, .slice none 0 0, .slice none 0 0] 93) := ⟨_, rfl⟩
 have hsa : wa.heap.size = w.heap.size + 1 := by rw [hwa]; simp
 have hsb : wb.heap.size = w.heap.size + 2 := by rw [hwb]; simp [hsa]
 have R2 : Hid (wz.heap[w.heap.size]? = some (.cells #[.slice al x.head.log.length cl, .int .i64 x.head.boot, .int .i64 x.head.next, .slice ao x.head.opn.length co, .slice ah x.houses.length ch, .slice an x.net.length cn] 93 (0, 0))) := Lib.hid (by rw [hwz, hwb, hwa]; exact heap_later (heap_later (row_new _ _) _) _)
 have R3 : Hid (wz.heap[w.heap.size + 1]? = some (.cells #[.int .i64 3, .int .i64 sn, .slice ap sp.length cp] 164 (0, 0))) := Lib.hid (by rw [hwz, hwb, ← hsa]; exact heap_later (row_new _ _) _)
 have R4 : Hid (wz.heap[w.heap.size + 2]? = some (.cells #[.slice none 0 0, .int .i64 0, .int .i64 0, .slice none 0 0, .slice none 0 0, .slice none 0 0] 93 (0, 0))) := Lib.hid (by rw [hwz, ← hsb]; exact row_new _ _)
 have G1 : Hid (Grow w wz) := Lib.hid (by rw [hwz, hwb, hwa]; exact (((Grow.refl w).alloc _).alloc _).alloc _)
 have HZ : Hid (wz.heap.size = w.heap.size + 3) := Lib.hid (by rw [hwz]; simp [hsb])
 go_enter Try.func138, Try.ntmps138
 go_upto_region 1 with fail
 rw [← hwa]
 try rw [hsa]
 rw [← hwb]
 try rw [hsb]
 rw [← hwz]
 clear hwa hwb hwz hsa hsb
 obtain ⟨c0, c1, c2, c3, c4, c5⟩ := cells6 R2.out
 obtain ⟨d0, d1, d2⟩ := cells3 R3.out
 have z2 : w.heap.size < wz.heap.size := (Array.getElem?_eq_some_iff.1 R2.out).1
 have z3 : w.heap.size + 1 < wz.heap.size := (Array.getElem?_eq_some_iff.1 R3.out).1
 go_cut [6] from 22 (fun s6 wc => s6 = .bool (there x sn) ∧ wz = wc)
 case first =>
  by_cases h0 : 0 ≤ sn
  ·by_cases h1 : sn < (x.net.length : Int)
   ·go_wp2
    go_meet
    case rel => exact ⟨by first | rfl | (simp [there, h0, h1]; done), rfl⟩
   ·go_wp2
    go_meet
    case rel => exact ⟨by first | rfl | (simp [there, h0, h1]; done) | (simp [there, h0]; omega), rfl⟩
  ·go_wp2
   go_meet
   case rel => exact ⟨by first | rfl | (simp [there]; done) | (simp [there]; omega), rfl⟩
 case rest =>
 obtain ⟨rfl, rfl⟩ := hcut
 obtain ⟨h0, h1⟩ : 0 ≤ sn ∧ sn < (x.net.length : Int) := of_decide_eq_true HT.out
 have HE2 : Hid (doErr x ⟨3, sn, sp⟩ = 0) := Lib.hid (by unfold doErr; simp [ht])
 have HE0 : Hid (doA x ⟨3, sn, sp⟩ = { x with net := x.net.eraseIdx sn.toNat }) := Lib.hid (by unfold doA; simp [ht])
 rw [ht]
 obtain ⟨i, hi⟩ : ∃ i : Nat, sn = (i : Int) := ⟨sn.toNat, by omega⟩
 have hil : i < x.net.length := by omega
 have hti : sn.toNat = i := by omega
 have hq3 := HQ3.out
 obtain ⟨an', cn', he9, hcc, -, -, hel⟩ := hq3
 simp only [Value.slice.injEq] at he9
 obtain ⟨rfl, -, rfl⟩ := he9
 rw [List.length_map] at hcc
 obtain ⟨bb, o, u, rfl, ci, hbi⟩ := Nts.at_ hel i (by simpa using hil)
 obtain ⟨au, cu, rfl, -⟩ := id hbi
 have HMI : Hid ((x.net.map bytesM)[i]'(by simpa using hil) = bytesM x.net[i]) := Lib.hid (by rw [List.getElem_map])
 rw [HMI.out] at hbi ci
 have HRD := Lib.hid (fun (W : World) (hW : Grow w W) => ref_read W (hbi.mono (HC.out.trans hW.sub)))
 have HRB := Lib.hid (read_bytes (HWI.out.right _ (List.getElem_mem hil)))
 rw [HRB.out] at HRD
 have H24 := Lib.hid HWI.out.len
 have HN3 : Hid (Nts c (.slice (some ⟨bb, o, none⟩) x.net.length cn) (x.net.map bytesM)) := Lib.hid HQ3.out
 rw [hti] at HE0
 have HSI : Hid (sn = (i : Int)) := Lib.hid hi
 replace ci := (HC.out.trans G1.out.sub) _ _ ci
 clear hel hbi ht HT HRB HMI
 generalize x.net[i] = m at *
 have hi0 : (0 : Int) ≤ sn := by omega
 have hi9 : sn < (x.net.length : Int) := by omega
 subst hi
 go_upto_region 21 with fail
 clear c0 c1 c2 c3 c4 c5 d0 d1 d2 ci z2 z3
 have hll : (x.net.map bytesM).length = x.net.length := List.length_map _
 have HTK := Lib.hid (HN3.out.take' i (by omega))
 have HDR0 := Lib.hid (HN3.out.drop (i + 1) (by omega))
 have HEM := Lib.hid (erase_map x.net i)
 have HLE : Hid ((x.net.eraseIdx i).length = i + (x.net.length - (i + 1))) := Lib.hid (by rw [List.length_eraseIdx, if_pos hil]; omega)
 have hii : IntKind.i64.wrap ((i : Int) + 1) = (i : Int) + 1 := IntWalk.i64_in _ (by have := H24.out; omega)
 have hi2 : (0 : Int) ≤ (i : Int) + 1 := by omega
 have hi3 : (i : Int) + 1 ≤ (x.net.length : Int) := by omega
 have hi4 : ((i : Int) + 1).toNat = i + 1 := by omega
 have hi5 : (i : Int) ≤ (cn : Int) := by omega
 have hi7 : (x.net.length : Int) ≤ (cn : Int) := by omega
 have HS : Hid (∀ W, Grow wz W → W.cell? ⟨w.heap.size, 5, none⟩ = some (.slice (some ⟨bb, o, none⟩) x.net.length cn) ∧ W.cell? ⟨w.heap.size + 1, 1, none⟩ = some (.int .i64 i)) := fun W hW => by
  obtain ⟨-, -, -, -, -, j5⟩ := cells6 (row_grow R2.out hW)
  obtain ⟨-, f1, -⟩ := cells3 (row_grow R3.out hW)
  exact ⟨j5, f1⟩
 go_cut [11] from 95 (fun s11 wc => s11 = .slice au (bytesM m).length cu ∧ ∃ a9 n9 c9, wc.heap[w.heap.size]? = some (.cells #[.slice al x.head.log.length cl, .int .i64 x.head.boot, .int .i64 x.head.next, .slice ao x.head.opn.length co, .slice ah x.houses.length ch, .slice a9 n9 c9] 93 (0, 0)) ∧ wc.heap[w.heap.size + 1]? = some (.cells #[.int .i64 3, .int .i64 i, .slice ap sp.length cp] 164 (0, 0)) ∧ wc.heap[w.heap.size + 2]? = some (.cells #[.slice none 0 0, .int .i64 0, .int .i64 0, .slice none 0 0, .slice none 0 0, .slice none 0 0] 93 (0, 0)) ∧ OwnC Ty.bs c wc (w.heap.size + 3) 69 (.slice a9 n9 c9) ((x.net.eraseIdx i).map bytesM) ∧ Grow w wc)
 case first =>
  by_cases hcap : cn = i + 1
  ·have HDR : Hid (Sl Ty.bs c (.slice (some ⟨bb, o, none⟩) 0 0) ((x.net.map bytesM).drop (i + 1))) := Lib.hid (Sl.none' _ _ _ (List.drop_eq_nil_of_le (by omega)))
   obtain rfl := hcap
   have hi5b : (i : Int) ≤ (i : Int) + 1 := by omega
   refine but_start (fun w' => w'.cell? ⟨w.heap.size, 5, none⟩ = some (.slice (some ⟨bb, o, none⟩) x.net.length (i + 1)) ∧ w'.cell? ⟨w.heap.size + 1, 1, none⟩ = some (.int .i64 i)) 15 (by kernel_rfl) ?_
   obtain ⟨wd, hWd⟩ : ∃ x : World, x = wz.drew := ⟨_, rfl⟩
   rw [← hWd]
   have GD : Grow wz wd := by rw [hWd]; exact (Grow.refl _).drew
   have zD : wz.heap.size = wd.heap.size := by rw [hWd]; rfl
   have ZD := Lib.hid zD
   clear hWd zD
   refine bLm [1, 2, 3, 4, 5, 7, 8, 9, 10, 11, 12] 20 (by kernel_rfl) (fun _ _ _ _ _ h => h) (HS.out _ GD) ?_
   repeat (refine tNm (v := ?_) rfl (by rfl) ?_ ?_; rotate_left; (· (intro w' hSw; (try dsimp only at hSw); obtain ⟨hs0, hs1⟩ := hSw; go_simp <;> with_reducible rfl)); try simp only [Act.put, lzA, lzB, lzC, lzD, lzE, lzF])
   refine tEm ?_
   refine bO 0 (by kernel_rfl) rfl ?_
   intro K HK
   try simp only [lzA, lzC]
   go_simp
   obtain ⟨w7, hw7⟩ : ∃ y : World, y = wd.alloc (.cells #[] 69) := ⟨_, rfl⟩
   have HO7 : Hid (OwnC Ty.bs c w7 (w.heap.size + 3) 69 (.slice (some ⟨wd.heap.size, 0, none⟩) 0 0) []) := Lib.hid (by rw [hw7]; exact OwnC.made0 Ty.bs _ _ _ _ (by have := ZD.out; have := HZ.out; omega) rfl)
   have HG7 : Hid (Grow wz w7) := Lib.hid (by rw [hw7]; exact GD.alloc _)
   rw [← hw7]
   clear hw7
   refine HK.out _ _ ⟨fun _ => HS.out _ HG7.out, ?_⟩
   clear HK K
   try simp only [Act.put, lzA, lzB, lzC, lzD, lzE, lzF]
   refine bO 6 (by kernel_rfl) rfl ?_
   intro K HK
   refine wanted_go rfl ?_
   try simp only [lzA, lzB, lzC]
   refine wp_appv (c := c) (base := w.heap.size + 3) (l := []) (m := (x.net.map bytesM).take i) (k := (x.net.map bytesM).take i) (v := .slice (some ⟨wd.heap.size, 0, none⟩) 0 0) ei_bts rfl (one_Tsl Ty.byte) (by decide) (.tmp 95) (.tmp 100) rfl (List.nil_append _) rfl HO7.out rfl (Src.of_sl_c (by decide) (HC.out.trans (G1.out.trans HG7.out).sub) HTK.out) (by have := H24.out; rw [List.length_take]; simp; omega) (by have := HG7.out.size; have := HZ.out; omega) ?_
   intro a8 n8 c8 w8 hn8 ho8 hg8 hb8
   have HO8 := Lib.hid ho8
   have HG8 := Lib.hid (grow_by (w0 := wz) HG7.out hg8 (fun q hq => by have := (HO7.out.lt q hq).1; have := HZ.out; omega))
   clear hn8 ho8 hg8 hb8
   refine HK.out _ _ ⟨fun _ => HS.out _ HG8.out, ?_⟩
   clear HK K
   try simp only [Act.put, lzD, lzE, lzF]
   refine bO 13 (by kernel_rfl) rfl ?_
   intro K HK
   refine wanted_go rfl ?_
   try simp only [lzA, lzB, lzC]
   refine wp_appv (c := c) (base := w.heap.size + 3) (l := (x.net.map bytesM).take i) (m := (x.net.map bytesM).drop (i + 1)) (k := (x.net.eraseIdx i).map bytesM) (v := .slice a8 n8 c8) ei_bts rfl (one_Tsl Ty.byte) (by decide) (.tmp 101) (.tmp 107) rfl HEM.out rfl HO8.out rfl (Src.of_sl_c (by decide) (HC.out.trans (G1.out.trans HG8.out).sub) ?srcd) (by have := H24.out; rw [List.length_take, List.length_drop, List.length_map]; omega) (by have := HG8.out.size; have := HZ.out; omega) ?_
   case srcd => exact HDR.out
   intro a9 n9 c9 w9 hn9 ho9 hg9 hb9
   have HO9 := Lib.hid ho9
   have HG9 := Lib.hid (grow_by (w0 := wz) HG8.out hg9 (fun q hq => by have := (HO8.out.lt q hq).1; have := HZ.out; omega))
   clear hn9 ho9 hg9 hb9
   refine HK.out _ _ ⟨fun _ => HS.out _ HG9.out, ?_⟩
   clear HK K
   try simp only [Act.put, lzD, lzE, lzF]
   refine bO 14 (by kernel_rfl) rfl ?_
   intro K HK
   try simp only [lzA, lzB, lzC]
   go_simp
   refine HK.out _ _ ⟨fun _ => HS.out _ HG9.out, ?_⟩
   clear HK K
   try simp only [Act.put, lzA, lzB, lzC, lzD, lzE, lzF]
   refine bO 15 (by kernel_rfl) rfl ?_
   intro K HK
   refine wanted_go rfl ?_
   try simp only [lzA, lzB, lzC]
   refine wp_store_cell (.tmp 109) (.tmp 108) (v := .slice a9 n9 c9) (new := #[.slice al x.head.log.length cl, .int .i64 x.head.boot, .int .i64 x.head.next, .slice ao x.head.opn.length co, .slice ah x.houses.length ch, .slice a9 n9 c9]) rfl rfl (by rfl) (by rfl) (row_grow R2.out HG9.out) info_nets (by simp) (by rfl) (by rfl) ?_
   intro w5 r5 g5
   refine HK.out _ _ ⟨fun h => absurd rfl h, ?_⟩
   clear HK K
   try simp only [Act.put]
   refine but_done (by kernel_rfl) ?_
   go_wp2
   go_meet
   case rel => exact ⟨rfl, a9, n9, c9, r5, row_by (row_grow R3.out HG9.out) g5 (by intro e; have := Option.some.inj e; omega), row_by (row_grow R4.out HG9.out) g5 (by intro e; have := Option.some.inj e; omega), HO9.out.kept g5 (own_apart HO9.out (by omega)), (G1.out.trans HG9.out).grown g5 (fun q hq => by simp at hq; omega)⟩
  ·have HDR : Hid (Sl Ty.bs c (.slice (some ⟨bb, o + (i + 1), none⟩) (x.net.length - (i + 1)) (cn - (i + 1))) ((x.net.map bytesM).drop (i + 1))) := Lib.hid (by simpa [show Ty.bs.size = 1 from rfl] using HDR0.out)
   refine but_start (fun w' => w'.cell? ⟨w.heap.size, 5, none⟩ = some (.slice (some ⟨bb, o, none⟩) x.net.length cn) ∧ w'.cell? ⟨w.heap.size + 1, 1, none⟩ = some (.int .i64 i)) 15 (by kernel_rfl) ?_
   obtain ⟨wd, hWd⟩ : ∃ x : World, x = wz.drew := ⟨_, rfl⟩
   rw [← hWd]
   have GD : Grow wz wd := by rw [hWd]; exact (Grow.refl _).drew
   have zD : wz.heap.size = wd.heap.size := by rw [hWd]; rfl
   have ZD := Lib.hid zD
   clear hWd zD
   refine bLm [1, 2, 3, 4, 5, 7, 8, 9, 10, 11, 12] 20 (by kernel_rfl) (fun _ _ _ _ _ h => h) (HS.out _ GD) ?_
   repeat (refine tNm (v := ?_) rfl (by rfl) ?_ ?_; rotate_left; (· (intro w' hSw; (try dsimp only at hSw); obtain ⟨hs0, hs1⟩ := hSw; go_simp <;> with_reducible rfl)); try simp only [Act.put, lzA, lzB, lzC, lzD, lzE, lzF])
   refine tEm ?_
   refine bO 0 (by kernel_rfl) rfl ?_
   intro K HK
   try simp only [lzA, lzC]
   go_simp
   obtain ⟨w7, hw7⟩ : ∃ y : World, y = wd.alloc (.cells #[] 69) := ⟨_, rfl⟩
   have HO7 : Hid (OwnC Ty.bs c w7 (w.heap.size + 3) 69 (.slice (some ⟨wd.heap.size, 0, none⟩) 0 0) []) := Lib.hid (by rw [hw7]; exact OwnC.made0 Ty.bs _ _ _ _ (by have := ZD.out; have := HZ.out; omega) rfl)
   have HG7 : Hid (Grow wz w7) := Lib.hid (by rw [hw7]; exact GD.alloc _)
   rw [← hw7]
   clear hw7
   refine HK.out _ _ ⟨fun _ => HS.out _ HG7.out, ?_⟩
   clear HK K
   try simp only [Act.put, lzA, lzB, lzC, lzD, lzE, lzF]
   refine bO 6 (by kernel_rfl) rfl ?_
   intro K HK
   refine wanted_go rfl ?_
   try simp only [lzA, lzB, lzC]
   refine wp_appv (c := c) (base := w.heap.size + 3) (l := []) (m := (x.net.map bytesM).take i) (k := (x.net.map bytesM).take i) (v := .slice (some ⟨wd.heap.size, 0, none⟩) 0 0) ei_bts rfl (one_Tsl Ty.byte) (by decide) (.tmp 95) (.tmp 100) rfl (List.nil_append _) rfl HO7.out rfl (Src.of_sl_c (by decide) (HC.out.trans (G1.out.trans HG7.out).sub) HTK.out) (by have := H24.out; rw [List.length_take]; simp; omega) (by have := HG7.out.size; have := HZ.out; omega) ?_
   intro a8 n8 c8 w8 hn8 ho8 hg8 hb8
   have HO8 := Lib.hid ho8
   have HG8 := Lib.hid (grow_by (w0 := wz) HG7.out hg8 (fun q hq => by have := (HO7.out.lt q hq).1; have := HZ.out; omega))
   clear hn8 ho8 hg8 hb8
   refine HK.out _ _ ⟨fun _ => HS.out _ HG8.out, ?_⟩
   clear HK K
   try simp only [Act.put, lzD, lzE, lzF]
   refine bO 13 (by kernel_rfl) rfl ?_
   intro K HK
   refine wanted_go rfl ?_
   try simp only [lzA, lzB, lzC]
   refine wp_appv (c := c) (base := w.heap.size + 3) (l := (x.net.map bytesM).take i) (m := (x.net.map bytesM).drop (i + 1)) (k := (x.net.eraseIdx i).map bytesM) (v := .slice a8 n8 c8) ei_bts rfl (one_Tsl Ty.byte) (by decide) (.tmp 101) (.tmp 107) rfl HEM.out rfl HO8.out rfl (Src.of_sl_c (by decide) (HC.out.trans (G1.out.trans HG8.out).sub) ?srcd) (by have := H24.out; rw [List.length_take, List.length_drop, List.length_map]; omega) (by have := HG8.out.size; have := HZ.out; omega) ?_
   case srcd => exact HDR.out
   intro a9 n9 c9 w9 hn9 ho9 hg9 hb9
   have HO9 := Lib.hid ho9
   have HG9 := Lib.hid (grow_by (w0 := wz) HG8.out hg9 (fun q hq => by have := (HO8.out.lt q hq).1; have := HZ.out; omega))
   clear hn9 ho9 hg9 hb9
   refine HK.out _ _ ⟨fun _ => HS.out _ HG9.out, ?_⟩
   clear HK K
   try simp only [Act.put, lzD, lzE, lzF]
   refine bO 14 (by kernel_rfl) rfl ?_
   intro K HK
   try simp only [lzA, lzB, lzC]
   go_simp
   refine HK.out _ _ ⟨fun _ => HS.out _ HG9.out, ?_⟩
   clear HK K
   try simp only [Act.put, lzA, lzB, lzC, lzD, lzE, lzF]
   refine bO 15 (by kernel_rfl) rfl ?_
   intro K HK
   refine wanted_go rfl ?_
   try simp only [lzA, lzB, lzC]
   refine wp_store_cell (.tmp 109) (.tmp 108) (v := .slice a9 n9 c9) (new := #[.slice al x.head.log.length cl, .int .i64 x.head.boot, .int .i64 x.head.next, .slice ao x.head.opn.length co, .slice ah x.houses.length ch, .slice a9 n9 c9]) rfl rfl (by rfl) (by rfl) (row_grow R2.out HG9.out) info_nets (by simp) (by rfl) (by rfl) ?_
   intro w5 r5 g5
   refine HK.out _ _ ⟨fun h => absurd rfl h, ?_⟩
   clear HK K
   try simp only [Act.put]
   refine but_done (by kernel_rfl) ?_
   go_wp2
   go_meet
   case rel => exact ⟨rfl, a9, n9, c9, r5, row_by (row_grow R3.out HG9.out) g5 (by intro e; have := Option.some.inj e; omega), row_by (row_grow R4.out HG9.out) g5 (by intro e; have := Option.some.inj e; omega), HO9.out.kept g5 (own_apart HO9.out (by omega)), (G1.out.trans HG9.out).grown g5 (fun q hq => by simp at hq; omega)⟩
 case rest =>
 obtain ⟨rfl, a9, n9, c9, r9, r3, r4, ho9, hgw⟩ := hcut
 have R29 := Lib.hid r9
 have R39 := Lib.hid r3
 have R49 := Lib.hid r4
 have HO9 := Lib.hid ho9
 have GW9 := Lib.hid hgw
 obtain ⟨w9, rfl⟩ : ∃ y : World, y = wc := ⟨_, rfl⟩
 clear r9 r3 r4 ho9 hgw HS HTK HDR0 hii hi2 hi3 hi4 hi5 hi7
 go_wp2_with fail
 refine (HRD.out _ GW9.out).mono ?_
 rintro e w5 ⟨v5, rfl, hx5, hb5⟩
 obtain ⟨ap5, cp5, rfl⟩ := hx5.ms_form
 have R25 := Lib.hid (row_grow R29.out hb5)
 have R35 := Lib.hid (row_grow R39.out hb5)
 have R45 := Lib.hid (row_grow R49.out hb5)
 have HO5 := Lib.hid (HO9.out.grow hb5)
 have G5 := Lib.hid (GW9.out.trans hb5)
 clear hx5 hb5
 obtain ⟨c0, c1, c2, c3, c4, c5⟩ := cells6 R25.out
 obtain ⟨d0, d1, d2⟩ := cells3 R35.out
 have z2 : w.heap.size < w5.heap.size := (Array.getElem?_eq_some_iff.1 R25.out).1
 have z3 : w.heap.size + 1 < w5.heap.size := (Array.getElem?_eq_some_iff.1 R35.out).1
 go_upto_region 23 with fail
 obtain ⟨w6, hw6⟩ : ∃ y : World, y = w5.alloc (.cells #[.int .i64 m.kind, .int .i64 m.deed, .int .i64 m.house, .slice ap5 m.parts.length cp5] 39) := ⟨_, rfl⟩
 have G56 : Hid (Grow w5 w6) := Lib.hid (by rw [hw6]; exact (Grow.refl _).alloc _)
 rw [← hw6]
 clear hw6 c0 c1 c2 c3 c4 c5 d0 d1 d2 z2 z3
 have R26 := Lib.hid (row_grow R25.out G56.out)
 have R36 := Lib.hid (row_grow R35.out G56.out)
 have R46 := Lib.hid (row_grow R45.out G56.out)
 have HO6 := Lib.hid (HO5.out.grow G56.out)
 have G6 := Lib.hid (G5.out.trans G56.out)
 obtain ⟨c0, c1, c2, c3, c4, c5⟩ := cells6 R26.out
 obtain ⟨d0, d1, d2⟩ := cells3 R36.out
 have z2 : w.heap.size < w6.heap.size := (Array.getElem?_eq_some_iff.1 R26.out).1
 have z3 : w.heap.size + 1 < w6.heap.size := (Array.getElem?_eq_some_iff.1 R36.out).1
 go_upto_region 24 with fail
 go_wp2_with (first | (refine wpList_store_row rfl (.tmp 4) (.tmp 130) rfl rfl rfl R46.out info_wd rfl rfl ?_))
 intro w7 r7 g7
 obtain ⟨p0, p1, p2, p3, p4, p5⟩ := cells6 r7
 clear c0 c1 c2 c3 c4 c5
 go_wp2
 refine bodyPost_ret (v := .tuple #[.agg #[.slice al x.head.log.length cl, .int .i64 x.head.boot, .int .i64 x.head.next, .slice ao x.head.opn.length co, .slice ah x.houses.length ch, .slice a9 n9 c9], .int .i64 0]) (by simp [results, Try.results138, go_sem, p0, p1, p2, p3, p4, p5]) rfl ?_
 have G7 := G6.out.grown g7 (fun q hq => by simp at hq; omega)
 rw [HE0.out, HE2.out]
 refine ⟨_, rfl, Of.wd_mk (HQ1.out.mono (ov_in HC.out)) (HQ2.out.mono (ov_in HC.out)) ?_, G7⟩
 have h9 := (HO6.out.kept g7 (own_apart HO6.out (by omega))).slc (by decide) (ov_in HC.out) fun a ha => ov_new (by omega)
 exact h9
set_option maxRecDepth 100000 in
set_option maxHeartbeats 1000000 in
theorem hear_prep10 {c : CM} {v vm : Value} {h : Hs} {dd hh me : Int} {ps : List Pt} (w : World) (hc : Sub c w.cell?) (hv : Of Ty.hs c v h) (hm : Of Ty.ms c vm ⟨1, dd, hh, ps⟩) (hk : ∀ x ∈ h.log, KeysOk x.parts) (hkm : KeysOk ps) (hn : (h.log.length + 1) * 40 ≤ 140737488355328) (hme : I64 me) (e10 : voteE h dd ps = 10) :
  Calls Try.prog 35 #[v, .int .i64 me, vm] w fun e w' => ∃ v1 v2, e = .returned (.tuple #[v1, v2]) ∧ Of Ty.hs (ov c w w') v1 (hearH h ⟨1, dd, hh, ps⟩) ∧ Sl Ty.ms (ov c w w') v2 (hearM h me ⟨1, dd, hh, ps⟩) ∧ Grow w w' := by
 obtain ⟨al, cl, ar, cr, ad, cd, rfl⟩ := hv.hs_form
 obtain ⟨ap, cp, rfl⟩ : ∃ ap cp, vm = .agg #[.int .i64 1, .int .i64 dd, .int .i64 hh, .slice ap ps.length cp] := hm.ms_form
 have hms : Sl Ty.pt c (.slice ap ps.length cp) ps ∧ I64 1 ∧ I64 dd ∧ I64 hh := Of.ms_parts hm
 have HMS := Lib.hid hms
 have HV0 := Lib.hid hv
 have HC := Lib.hid hc
 have HK0 := Lib.hid hk
 have HKM := Lib.hid hkm
 have HN := Lib.hid hn
 have HME := Lib.hid hme
 have HVO := Lib.hid (fun (W : World) (hW : Grow w W) => ref_vote (d := dd) W (hv.mono (hc.trans hW.sub)) (hms.1.mono (hc.trans hW.sub)) hkm)
 have HRD := Lib.hid (fun (W : World) (hW : Grow w W) => ref_ready (d := dd) W (hv.mono (hc.trans hW.sub)))
 have HIN := Lib.hid (fun (W : World) (hW : Grow w W) => ref_in (n := dd) W ((Of.hs_log hv).2.2.mono (hc.trans hW.sub)))
 have HG0 : Hid (Grow w (((w.alloc (.cells #[.slice al h.log.length cl, .int .i64 h.sums.a, .int .i64 h.sums.b, .int .i64 h.sums.c, .int .i64 h.sums.d, .slice ar h.ready.length cr, .slice ad h.done.length cd] 29)).alloc (.cells #[.int .i64 1, .int .i64 dd, .int .i64 hh, .slice ap ps.length cp] 39)).alloc (.cells #[.slice none 0 0, .int .i64 0, .int .i64 0, .int .i64 0, .int .i64 0, .slice none 0 0, .slice none 0 0] 29))) := Lib.hid ((((Grow.refl w).alloc _).alloc _).alloc _)
 have HR3 : Hid ((((w.alloc (.cells #[.slice al h.log.length cl, .int .i64 h.sums.a, .int .i64 h.sums.b, .int .i64 h.sums.c, .int .i64 h.sums.d, .slice ar h.ready.length cr, .slice ad h.done.length cd] 29)).alloc (.cells #[.int .i64 1, .int .i64 dd, .int .i64 hh, .slice ap ps.length cp] 39)).alloc (.cells #[.slice none 0 0, .int .i64 0, .int .i64 0, .int .i64 0, .int .i64 0, .slice none 0 0, .slice none 0 0] 29)).heap[w.heap.size]? = some (.cells #[.slice al h.log.length cl, .int .i64 h.sums.a, .int .i64 h.sums.b, .int .i64 h.sums.c, .int .i64 h.sums.d, .slice ar h.ready.length cr, .slice ad h.done.length cd] 29 (0, 0))) := Lib.hid (heap_later (heap_later (row_new _ _) _) _)
 have HR5 : Hid ((((w.alloc (.cells #[.slice al h.log.length cl, .int .i64 h.sums.a, .int .i64 h.sums.b, .int .i64 h.sums.c, .int .i64 h.sums.d, .slice ar h.ready.length cr, .slice ad h.done.length cd] 29)).alloc (.cells #[.int .i64 1, .int .i64 dd, .int .i64 hh, .slice ap ps.length cp] 39)).alloc (.cells #[.slice none 0 0, .int .i64 0, .int .i64 0, .int .i64 0, .int .i64 0, .slice none 0 0, .slice none 0 0] 29)).heap[w.heap.size + 1]? = some (.cells #[.int .i64 1, .int .i64 dd, .int .i64 hh, .slice ap ps.length cp] 39 (0, 0))) := Lib.hid (heap_later (by simpa using row_new (w.alloc (.cells #[.slice al h.log.length cl, .int .i64 h.sums.a, .int .i64 h.sums.b, .int .i64 h.sums.c, .int .i64 h.sums.d, .slice ar h.ready.length cr, .slice ad h.done.length cd] 29)) _) _)
 have HR6 : Hid ((((w.alloc (.cells #[.slice al h.log.length cl, .int .i64 h.sums.a, .int .i64 h.sums.b, .int .i64 h.sums.c, .int .i64 h.sums.d, .slice ar h.ready.length cr, .slice ad h.done.length cd] 29)).alloc (.cells #[.int .i64 1, .int .i64 dd, .int .i64 hh, .slice ap ps.length cp] 39)).alloc (.cells #[.slice none 0 0, .int .i64 0, .int .i64 0, .int .i64 0, .int .i64 0, .slice none 0 0, .slice none 0 0] 29)).heap[w.heap.size + 1 + 1]? = some (.cells #[.slice none 0 0, .int .i64 0, .int .i64 0, .int .i64 0, .int .i64 0, .slice none 0 0, .slice none 0 0] 29 (0, 0))) := Lib.hid (by simpa using row_new ((w.alloc (.cells #[.slice al h.log.length cl, .int .i64 h.sums.a, .int .i64 h.sums.b, .int .i64 h.sums.c, .int .i64 h.sums.d, .slice ar h.ready.length cr, .slice ad h.done.length cd] 29)).alloc (.cells #[.int .i64 1, .int .i64 dd, .int .i64 hh, .slice ap ps.length cp] 39)) _)
 clear hv hm hc hk hkm hn hme hms
 have HEH : Hid (hearH h ⟨1, dd, hh, ps⟩ = h) := by
  show hearH h ⟨1, dd, hh, ps⟩ = h
  unfold hearH
  rw [if_pos rfl, if_neg (by show ¬ (voteE h dd ps = 0 ∧ _); rw [e10]; simp)]
 have HEM : Hid (hearM h me ⟨1, dd, hh, ps⟩ = []) := by
  show hearM h me ⟨1, dd, hh, ps⟩ = []
  unfold hearM
  rw [if_pos rfl, if_pos e10]
 have E10 := Lib.hid e10
 clear e10
 go_enter Try.func35, Try.ntmps35
 go_wp2_with fail
 refine (HVO.out _ HG0.out).mono ?_
 rw [E10.out]
 rintro e v1 ⟨rfl, hbv1⟩
 (obtain ⟨cv1, fv1⟩ := bcell hbv1; have zv10 : w.heap.size < v1.heap.size := (by have := hbv1.size; (try simp at this); omega); have zv11 : w.heap.size + 1 < v1.heap.size := (by have := hbv1.size; (try simp at this); omega); have zv12 : w.heap.size + 1 + 1 < v1.heap.size := (by have := hbv1.size; (try simp at this); omega); have Gv1 := Lib.hid hbv1; clear hbv1)
 have R6 := row_grow HR6.out Gv1.out
 obtain ⟨p0, p1, p2, p3, p4, p5, p6⟩ := cells7 R6
 have pf := row_free R6
 obtain ⟨s0, s1, s2, s3, s4, s5, s6, s7⟩ : v1.cell? ⟨w.heap.size, 0, none⟩ = some (.slice al h.log.length cl) ∧ v1.cell? ⟨w.heap.size, 1, none⟩ = some (.int .i64 h.sums.a) ∧ v1.cell? ⟨w.heap.size, 2, none⟩ = some (.int .i64 h.sums.b) ∧ v1.cell? ⟨w.heap.size, 3, none⟩ = some (.int .i64 h.sums.c) ∧ v1.cell? ⟨w.heap.size, 4, none⟩ = some (.int .i64 h.sums.d) ∧ v1.cell? ⟨w.heap.size, 5, none⟩ = some (.slice ar h.ready.length cr) ∧ v1.cell? ⟨w.heap.size, 6, none⟩ = some (.slice ad h.done.length cd) ∧ v1.cell? ⟨w.heap.size + 1, 1, none⟩ = some (.int .i64 dd) := by refine ⟨?_, ?_, ?_, ?_, ?_, ?_, ?_, ?_⟩ <;> go_simp
 clear R6
 go_wp2
 refine bodyPost_ret (v := .tuple #[.agg #[.slice al h.log.length cl, .int .i64 h.sums.a, .int .i64 h.sums.b, .int .i64 h.sums.c, .int .i64 h.sums.d, .slice ar h.ready.length cr, .slice ad h.done.length cd], .slice none 0 0]) (by simp [results, Try.results35, go_sem, p0, p1, p2, p3, p4, p5, p6]) rfl ?_
 rw [HEH.out, HEM.out]
 refine ⟨_, _, rfl, ?_, Sl.nil _ _, ?_⟩
 ·exact HV0.out.mono (ov_in HC.out)
 ·(repeat (with_reducible refine Grow.setCell ?_ (by first | (simp; done) | (simp; omega) | omega) _))
  exact HG0.out.trans Gv1.out
end Go.Proofs.Ytgbhpghgohggcaa
