/- Walks: note of the document's answer. -/
import Derived.Test.YtgbhpghgohggcaaN1
namespace Go.Proofs.Ytgbhpghgohggcaa
open Go.RowKit
theorem Of.rc_form {c : CM} {v : Value} {r : Rc} (hv : Of Ty.rc c v r) : ∃ ap cp, v = .agg #[.int .i64 r.kind, .int .i64 r.deed, .slice ap r.parts.length cp] := by
  obtain ⟨cs, rfl, vp, rfl, -, -, hp⟩ := hv
  obtain ⟨ap, cp, rfl, -⟩ := id hp
  exact ⟨_, _, rfl⟩
theorem Of.cells {α : Type} {T : Ty α} {c : CM} {cs : Array Value} {x : α} (h : Of T c (.agg cs) x) : T.R c cs.toList x := by
  obtain ⟨cs', he, hR⟩ := h
  simp only [Value.agg.injEq] at he
  subst he
  exact hR
theorem Of.hs_log {c : CM} {al ar ad : Option Addr} {nl cl nr cr nd cd : Nat} {sa sb sc sd : Value} {h : Hs} (hv : Of Ty.hs c (.agg #[.slice al nl cl, sa, sb, sc, sd, .slice ar nr cr, .slice ad nd cd]) h) : Sl Ty.rc c (.slice al nl cl) h.log ∧ Sl Ty.rd c (.slice ar nr cr) h.ready ∧ Sl Ty.int c (.slice ad nd cd) h.done := by
  obtain ⟨vl, vr, vd, he, hl, -, -, -, -, hr, hd⟩ := hv.cells
  simp at he
  obtain ⟨rfl, -, -, -, -, rfl, rfl⟩ := he
  exact ⟨hl, hr, hd⟩
set_option maxRecDepth 100000 in
set_option maxHeartbeats 1000000 in
theorem ref_note {c : CM} {v vr : Value} {h : Hs} {r : Rc} (w : World) (hc : Sub c w.cell?) (hv : Of Ty.hs c v h) (hr : Of Ty.rc c vr r) (hk : ∀ x ∈ h.log, KeysOk x.parts) (hkr : KeysOk r.parts) (hm : (h.log.length + 1) * 40 ≤ 140737488355328) :
    Calls Try.prog 119 #[v, vr] w fun e w' => ∃ v', e = .returned v' ∧ Of Ty.hs (ov c w w') v' (noteE h r) ∧ Grow w w' := by
  obtain ⟨al, cl, ar, cr, ad, cd, rfl⟩ := hv.hs_form
  obtain ⟨ap, cp, rfl⟩ := hr.rc_form
  have hll := (Of.hs_log hv).1
  have HR := Lib.hid hr.cells
  have HONE : Hid (OwnC Ty.rc c w w.heap.size 48 (.slice none 0 0) []) := Lib.hid (OwnC.nil _ _ _ _ _)
  have HSRC := Lib.hid (fun (W : World) (hW : Grow w W) => (Src.of_sl_c (T := Ty.rc) (by decide) hc hll).grow hW)
  have HM := Lib.hid hm
  have HK0 := Lib.hid hk
  have HKR := Lib.hid hkr
  have HC := Lib.hid hc
  clear hv hr hll hm hk hkr hc HONE
  generalize hne : noteE h r = x
  have HNE : Hid (houseR (h.log ++ [r]) = x) := hne
  clear hne
  go_enter Try.func119, Try.ntmps119
  go_wp2_with fail
  have hGW : Grow w (((w.alloc (.cells #[.slice al h.log.length cl, .int .i64 h.sums.a, .int .i64 h.sums.b, .int .i64 h.sums.c, .int .i64 h.sums.d, .slice ar h.ready.length cr, .slice ad h.done.length cd] 29)).alloc (.cells #[.int .i64 r.kind, .int .i64 r.deed, .slice ap r.parts.length cp] 48)).alloc (.cells #[.slice none 0 0, .int .i64 0, .int .i64 0, .int .i64 0, .int .i64 0, .slice none 0 0, .slice none 0 0] 29)) := (((Grow.refl w).alloc _).alloc _).alloc _
  have hS : (((w.alloc (.cells #[.slice al h.log.length cl, .int .i64 h.sums.a, .int .i64 h.sums.b, .int .i64 h.sums.c, .int .i64 h.sums.d, .slice ar h.ready.length cr, .slice ad h.done.length cd] 29)).alloc (.cells #[.int .i64 r.kind, .int .i64 r.deed, .slice ap r.parts.length cp] 48)).alloc (.cells #[.slice none 0 0, .int .i64 0, .int .i64 0, .int .i64 0, .int .i64 0, .slice none 0 0, .slice none 0 0] 29)).cell? ⟨w.heap.size, 0, none⟩ = some (.slice al h.log.length cl) ∧ (((w.alloc (.cells #[.slice al h.log.length cl, .int .i64 h.sums.a, .int .i64 h.sums.b, .int .i64 h.sums.c, .int .i64 h.sums.d, .slice ar h.ready.length cr, .slice ad h.done.length cd] 29)).alloc (.cells #[.int .i64 r.kind, .int .i64 r.deed, .slice ap r.parts.length cp] 48)).alloc (.cells #[.slice none 0 0, .int .i64 0, .int .i64 0, .int .i64 0, .int .i64 0, .slice none 0 0, .slice none 0 0] 29)).cell? ⟨w.heap.size + 1, 0, none⟩ = some (.int .i64 r.kind) ∧ (((w.alloc (.cells #[.slice al h.log.length cl, .int .i64 h.sums.a, .int .i64 h.sums.b, .int .i64 h.sums.c, .int .i64 h.sums.d, .slice ar h.ready.length cr, .slice ad h.done.length cd] 29)).alloc (.cells #[.int .i64 r.kind, .int .i64 r.deed, .slice ap r.parts.length cp] 48)).alloc (.cells #[.slice none 0 0, .int .i64 0, .int .i64 0, .int .i64 0, .int .i64 0, .slice none 0 0, .slice none 0 0] 29)).cell? ⟨w.heap.size + 1, 1, none⟩ = some (.int .i64 r.deed) ∧ (((w.alloc (.cells #[.slice al h.log.length cl, .int .i64 h.sums.a, .int .i64 h.sums.b, .int .i64 h.sums.c, .int .i64 h.sums.d, .slice ar h.ready.length cr, .slice ad h.done.length cd] 29)).alloc (.cells #[.int .i64 r.kind, .int .i64 r.deed, .slice ap r.parts.length cp] 48)).alloc (.cells #[.slice none 0 0, .int .i64 0, .int .i64 0, .int .i64 0, .int .i64 0, .slice none 0 0, .slice none 0 0] 29)).cell? ⟨w.heap.size + 1, 2, none⟩ = some (.slice ap r.parts.length cp) := by refine ⟨?_, ?_, ?_, ?_⟩ <;> go_simp
  have hZ : (((w.alloc (.cells #[.slice al h.log.length cl, .int .i64 h.sums.a, .int .i64 h.sums.b, .int .i64 h.sums.c, .int .i64 h.sums.d, .slice ar h.ready.length cr, .slice ad h.done.length cd] 29)).alloc (.cells #[.int .i64 r.kind, .int .i64 r.deed, .slice ap r.parts.length cp] 48)).alloc (.cells #[.slice none 0 0, .int .i64 0, .int .i64 0, .int .i64 0, .int .i64 0, .slice none 0 0, .slice none 0 0] 29)).cell? ⟨w.heap.size + 1 + 1, 0, none⟩ = some (.slice none 0 0) ∧ (((w.alloc (.cells #[.slice al h.log.length cl, .int .i64 h.sums.a, .int .i64 h.sums.b, .int .i64 h.sums.c, .int .i64 h.sums.d, .slice ar h.ready.length cr, .slice ad h.done.length cd] 29)).alloc (.cells #[.int .i64 r.kind, .int .i64 r.deed, .slice ap r.parts.length cp] 48)).alloc (.cells #[.slice none 0 0, .int .i64 0, .int .i64 0, .int .i64 0, .int .i64 0, .slice none 0 0, .slice none 0 0] 29)).cell? ⟨w.heap.size + 1 + 1, 1, none⟩ = some (.int .i64 0) ∧ (((w.alloc (.cells #[.slice al h.log.length cl, .int .i64 h.sums.a, .int .i64 h.sums.b, .int .i64 h.sums.c, .int .i64 h.sums.d, .slice ar h.ready.length cr, .slice ad h.done.length cd] 29)).alloc (.cells #[.int .i64 r.kind, .int .i64 r.deed, .slice ap r.parts.length cp] 48)).alloc (.cells #[.slice none 0 0, .int .i64 0, .int .i64 0, .int .i64 0, .int .i64 0, .slice none 0 0, .slice none 0 0] 29)).cell? ⟨w.heap.size + 1 + 1, 2, none⟩ = some (.int .i64 0) ∧ (((w.alloc (.cells #[.slice al h.log.length cl, .int .i64 h.sums.a, .int .i64 h.sums.b, .int .i64 h.sums.c, .int .i64 h.sums.d, .slice ar h.ready.length cr, .slice ad h.done.length cd] 29)).alloc (.cells #[.int .i64 r.kind, .int .i64 r.deed, .slice ap r.parts.length cp] 48)).alloc (.cells #[.slice none 0 0, .int .i64 0, .int .i64 0, .int .i64 0, .int .i64 0, .slice none 0 0, .slice none 0 0] 29)).cell? ⟨w.heap.size + 1 + 1, 3, none⟩ = some (.int .i64 0) ∧ (((w.alloc (.cells #[.slice al h.log.length cl, .int .i64 h.sums.a, .int .i64 h.sums.b, .int .i64 h.sums.c, .int .i64 h.sums.d, .slice ar h.ready.length cr, .slice ad h.done.length cd] 29)).alloc (.cells #[.int .i64 r.kind, .int .i64 r.deed, .slice ap r.parts.length cp] 48)).alloc (.cells #[.slice none 0 0, .int .i64 0, .int .i64 0, .int .i64 0, .int .i64 0, .slice none 0 0, .slice none 0 0] 29)).cell? ⟨w.heap.size + 1 + 1, 4, none⟩ = some (.int .i64 0) ∧ (((w.alloc (.cells #[.slice al h.log.length cl, .int .i64 h.sums.a, .int .i64 h.sums.b, .int .i64 h.sums.c, .int .i64 h.sums.d, .slice ar h.ready.length cr, .slice ad h.done.length cd] 29)).alloc (.cells #[.int .i64 r.kind, .int .i64 r.deed, .slice ap r.parts.length cp] 48)).alloc (.cells #[.slice none 0 0, .int .i64 0, .int .i64 0, .int .i64 0, .int .i64 0, .slice none 0 0, .slice none 0 0] 29)).cell? ⟨w.heap.size + 1 + 1, 5, none⟩ = some (.slice none 0 0) ∧ (((w.alloc (.cells #[.slice al h.log.length cl, .int .i64 h.sums.a, .int .i64 h.sums.b, .int .i64 h.sums.c, .int .i64 h.sums.d, .slice ar h.ready.length cr, .slice ad h.done.length cd] 29)).alloc (.cells #[.int .i64 r.kind, .int .i64 r.deed, .slice ap r.parts.length cp] 48)).alloc (.cells #[.slice none 0 0, .int .i64 0, .int .i64 0, .int .i64 0, .int .i64 0, .slice none 0 0, .slice none 0 0] 29)).cell? ⟨w.heap.size + 1 + 1, 6, none⟩ = some (.slice none 0 0) := by refine ⟨?_, ?_, ?_, ?_, ?_, ?_, ?_⟩ <;> go_simp
  have hZF : ∀ o, (((w.alloc (.cells #[.slice al h.log.length cl, .int .i64 h.sums.a, .int .i64 h.sums.b, .int .i64 h.sums.c, .int .i64 h.sums.d, .slice ar h.ready.length cr, .slice ad h.done.length cd] 29)).alloc (.cells #[.int .i64 r.kind, .int .i64 r.deed, .slice ap r.parts.length cp] 48)).alloc (.cells #[.slice none 0 0, .int .i64 0, .int .i64 0, .int .i64 0, .int .i64 0, .slice none 0 0, .slice none 0 0] 29)).frozen? ⟨w.heap.size + 1 + 1, o, none⟩ = false := by intro o; go_simp
  have hsz : w.heap.size + 1 + 1 < (((w.alloc (.cells #[.slice al h.log.length cl, .int .i64 h.sums.a, .int .i64 h.sums.b, .int .i64 h.sums.c, .int .i64 h.sums.d, .slice ar h.ready.length cr, .slice ad h.done.length cd] 29)).alloc (.cells #[.int .i64 r.kind, .int .i64 r.deed, .slice ap r.parts.length cp] 48)).alloc (.cells #[.slice none 0 0, .int .i64 0, .int .i64 0, .int .i64 0, .int .i64 0, .slice none 0 0, .slice none 0 0] 29)).heap.size := by simp
  generalize hW3 : (((w.alloc (.cells #[.slice al h.log.length cl, .int .i64 h.sums.a, .int .i64 h.sums.b, .int .i64 h.sums.c, .int .i64 h.sums.d, .slice ar h.ready.length cr, .slice ad h.done.length cd] 29)).alloc (.cells #[.int .i64 r.kind, .int .i64 r.deed, .slice ap r.parts.length cp] 48)).alloc (.cells #[.slice none 0 0, .int .i64 0, .int .i64 0, .int .i64 0, .int .i64 0, .slice none 0 0, .slice none 0 0] 29)) = w3 at *
  have HW3 := Lib.hid hW3
  have HGW := Lib.hid hGW
  have HS : Hid (∀ W, Grow w3 W → W.cell? ⟨w.heap.size, 0, none⟩ = some (.slice al h.log.length cl) ∧ W.cell? ⟨w.heap.size + 1, 0, none⟩ = some (.int .i64 r.kind) ∧ W.cell? ⟨w.heap.size + 1, 1, none⟩ = some (.int .i64 r.deed) ∧ W.cell? ⟨w.heap.size + 1, 2, none⟩ = some (.slice ap r.parts.length cp)) := fun W hW => ⟨hW.sub _ _ hS.1, hW.sub _ _ hS.2.1, hW.sub _ _ hS.2.2.1, hW.sub _ _ hS.2.2.2⟩
  have HSB : Hid (∀ W, w3.grownBy W (some (w.heap.size + 1 + 1)) → W.cell? ⟨w.heap.size, 0, none⟩ = some (.slice al h.log.length cl) ∧ W.cell? ⟨w.heap.size + 1, 0, none⟩ = some (.int .i64 r.kind) ∧ W.cell? ⟨w.heap.size + 1, 1, none⟩ = some (.int .i64 r.deed) ∧ W.cell? ⟨w.heap.size + 1, 2, none⟩ = some (.slice ap r.parts.length cp)) := fun W hW => by
    have k : ∀ (b o : Nat) (u : Value), b < w.heap.size + 1 + 1 → w3.cell? ⟨b, o, none⟩ = some u → W.cell? ⟨b, o, none⟩ = some u := fun b o u hb e => by
      rw [World.cell?_of_block (w := w3) (hW.block b (World.block_lt_of_cell? w3 _ e) (by simp; omega))]; exact e
    exact ⟨k _ _ _ (by omega) hS.1, k _ _ _ (by omega) hS.2.1, k _ _ _ (by omega) hS.2.2.1, k _ _ _ (by omega) hS.2.2.2⟩
  have HSR := Lib.hid (fun (W : World) (hW : Grow w3 W) => HSRC.out W (HGW.out.trans hW))
  have HL : Hid (h.log.length + 1 ≤ 3518437208883) := by show _ ≤ _; have := HM.out; omega
  have HZ : Hid (∀ W, Grow w3 W → W.cell? ⟨w.heap.size + 1 + 1, 0, none⟩ = some (.slice none 0 0) ∧ W.cell? ⟨w.heap.size + 1 + 1, 1, none⟩ = some (.int .i64 0) ∧ W.cell? ⟨w.heap.size + 1 + 1, 2, none⟩ = some (.int .i64 0) ∧ W.cell? ⟨w.heap.size + 1 + 1, 3, none⟩ = some (.int .i64 0) ∧ W.cell? ⟨w.heap.size + 1 + 1, 4, none⟩ = some (.int .i64 0) ∧ W.cell? ⟨w.heap.size + 1 + 1, 5, none⟩ = some (.slice none 0 0) ∧ W.cell? ⟨w.heap.size + 1 + 1, 6, none⟩ = some (.slice none 0 0) ∧ ∀ o, W.frozen? ⟨w.heap.size + 1 + 1, o, none⟩ = false) := fun W hW => ⟨hW.sub _ _ hZ.1, hW.sub _ _ hZ.2.1, hW.sub _ _ hZ.2.2.1, hW.sub _ _ hZ.2.2.2.1, hW.sub _ _ hZ.2.2.2.2.1, hW.sub _ _ hZ.2.2.2.2.2.1, hW.sub _ _ hZ.2.2.2.2.2.2, fun o => by rw [hW.frozen (p := ⟨w.heap.size + 1 + 1, o, none⟩) hsz]; exact hZF o⟩
  clear hW3 hGW hS hZ hZF
  refine but_start (fun w' => w'.cell? ⟨w.heap.size, 0, none⟩ = some (.slice al h.log.length cl) ∧ w'.cell? ⟨w.heap.size + 1, 0, none⟩ = some (.int .i64 r.kind) ∧ w'.cell? ⟨w.heap.size + 1, 1, none⟩ = some (.int .i64 r.deed) ∧ w'.cell? ⟨w.heap.size + 1, 2, none⟩ = some (.slice ap r.parts.length cp)) 8 (by kernel_rfl) ?_
  obtain ⟨wd, hWd⟩ : ∃ x : World, x = w3.drew := ⟨_, rfl⟩
  rw [← hWd]
  have GD : Grow w3 wd := by rw [hWd]; exact (Grow.refl _).drew
  have zD : w3.heap.size = wd.heap.size := by rw [hWd]; rfl
  have ZD := Lib.hid zD
  clear hWd zD
  refine but_take (i := 1) (v := ?_) 8 rfl (by kernel_rfl) (by kernel_rfl) (by kernel_rfl) (by kernel_rfl) (by kernel_rfl) (fun _ _ _ h => h) (HS.out _ GD) (Or.inl ⟨by rfl, ?_⟩) ?_
  rotate_left
  · (intro w' hSw; (try dsimp only at hSw); obtain ⟨hs0, hs1, hs2, hs3⟩ := hSw; go_simp <;> with_reducible rfl)
  try simp only [Act.put, List.setIfInBounds_toArray, List.set_cons_zero, List.set_cons_succ]
  refine but_take (i := 2) (v := ?_) 8 rfl (by kernel_rfl) (by kernel_rfl) (by kernel_rfl) (by kernel_rfl) (by kernel_rfl) (fun _ _ _ h => h) (HS.out _ GD) (Or.inl ⟨by rfl, ?_⟩) ?_
  rotate_left
  · (intro w' hSw; (try dsimp only at hSw); obtain ⟨hs0, hs1, hs2, hs3⟩ := hSw; go_simp <;> with_reducible rfl)
  try simp only [Act.put, List.setIfInBounds_toArray, List.set_cons_zero, List.set_cons_succ]
  refine but_take (i := 4) (v := ?_) 8 rfl (by kernel_rfl) (by kernel_rfl) (by kernel_rfl) (by kernel_rfl) (by kernel_rfl) (fun _ _ _ h => h) (HS.out _ GD) (Or.inl ⟨by rfl, ?_⟩) ?_
  rotate_left
  · (intro w' hSw; (try dsimp only at hSw); obtain ⟨hs0, hs1, hs2, hs3⟩ := hSw; go_simp <;> with_reducible rfl)
  try simp only [Act.put, List.setIfInBounds_toArray, List.set_cons_zero, List.set_cons_succ]
  refine but_two (i := 0) (j := 5) (by kernel_rfl) rfl rfl (fun K HK' => ?_) (fun K HK' => ?_)
  · skip
    have HK := Lib.hid HK'
    clear HK'
    go_simp
    refine HK.out _ _ ⟨fun _ => HS.out _ (GD.alloc _), ?_⟩
    clear HK K
    try simp only [Act.put, List.setIfInBounds_toArray, List.set_cons_zero, List.set_cons_succ]
    refine but_two (i := 3) (j := 5) (by kernel_rfl) rfl rfl (fun K HK' => ?_) (fun K HK' => ?_)
    · skip
      have HK := Lib.hid HK'
      clear HK'
      refine step_appc (v := .slice (some ⟨wd.heap.size, 0, none⟩) 0 0) ei_rc rfl one_Trc (by decide) rfl (.tmp 5) (.tmp 7) rfl rfl ((OwnC.made0 Ty.rc c _ w3.heap.size _ (by have := ZD.out; (try simp); omega) (by simp))) rfl (HSR.out _ (GD.alloc _)) (by have := HL.out; simp; omega) (GD.alloc _).size ?_
      intro a3 c3 q3 ho3 hg3 hb3
      try simp only [List.length_nil, List.length_cons, Nat.zero_add, List.nil_append] at ho3
      try simp only [List.length_nil, List.length_cons, Nat.zero_add] at hb3
      try simp only [List.length_nil, List.length_cons, Nat.zero_add]
      have G3 := grow_by (w0 := w3) (GD.alloc _) hg3 (own_at (by have := ZD.out; (try simp); omega))
      have B3 := Lib.hid (own_new (B := w3.heap.size) (GD.alloc _).size hb3 (own_at (by have := ZD.out; (try simp); omega)))
      have HO3 := Lib.hid ho3
      have HG3 := Lib.hid hg3
      clear ho3 hg3 hb3
      refine HK.out _ _ ⟨fun _ => HS.out _ G3, ?_⟩
      clear HK K
      try simp only [Act.put, List.setIfInBounds_toArray, List.set_cons_zero, List.set_cons_succ]
      refine but_one (i := 5) (by kernel_rfl) rfl (fun K HK' => ?_)
      have HK := Lib.hid HK'
      clear HK'
      go_simp
      refine HK.out _ _ ⟨fun _ => HS.out _ (G3.alloc _), ?_⟩
      clear HK K
      try simp only [Act.put, List.setIfInBounds_toArray, List.set_cons_zero, List.set_cons_succ]
      refine but_one (i := 6) (by kernel_rfl) rfl (fun K HK' => ?_)
      have HK := Lib.hid HK'
      clear HK'
      refine step_appc (v := .slice a3 (h.log.length) c3) ei_rc rfl one_Trc (by decide) rfl (.tmp 8) (.tmp 10) rfl rfl ((HO3.out).grow ((Grow.refl _).alloc _)) rfl ((Src.of_new (T := Ty.rc) (c := c) (cs := #[.int .i64 r.kind, .int .i64 r.deed, .slice ap r.parts.length cp]) HR.out _ _ (by simp))) (by have := HL.out; simp; omega) (G3.alloc _).size ?_
      intro a6 c6 q6 ho6 hg6 hb6
      try simp only [List.length_nil, List.length_cons, Nat.zero_add, List.nil_append] at ho6
      try simp only [List.length_nil, List.length_cons, Nat.zero_add] at hb6
      try simp only [List.length_nil, List.length_cons, Nat.zero_add]
      have G6 := grow_by (w0 := w3) (G3.alloc _) hg6 B3.out
      have B6 := Lib.hid (own_new (B := w3.heap.size) (G3.alloc _).size hb6 B3.out)
      have HO6 := Lib.hid ho6
      have HG6 := Lib.hid hg6
      clear ho6 hg6 hb6
      refine HK.out _ _ ⟨fun _ => HS.out _ G6, ?_⟩
      clear HK K
      try simp only [Act.put, List.setIfInBounds_toArray, List.set_cons_zero, List.set_cons_succ]
      refine but_one (i := 7) (by kernel_rfl) rfl (fun K HK' => ?_)
      have HK := Lib.hid HK'
      clear HK'
      go_simp
      go_at_call 29
      refine (ref_house_c (c := wo (w.heap.size + 1 + 1) (ov c w q6)) (l := h.log ++ [r]) q6 (wo_ov_sub HC.out (HGW.out.trans G6)) (HO6.out.slc (by decide) (wo_ov_in HC.out (by omega)) fun a ha => wo_ov_new (by omega) (by omega)) (by intro x hx; rcases List.mem_append.1 hx with hx | hx; exact HK0.out x hx; simp at hx; subst hx; exact HKR.out) (by have := HL.out; simp; omega)).mono ?_
      rw [HNE.out]
      rintro e q7 ⟨vx, rfl, hX, hb7⟩
      obtain ⟨al2, cl2, ar2, cr2, ad2, cd2, rfl⟩ := hX.hs_form
      have HX := Lib.hid hX
      have G7 := G6.trans hb7
      have HB7 := Lib.hid hb7
      obtain ⟨p0, p1, p2, p3, p4, p5, p6, pf⟩ := HZ.out _ G7
      have z7 : w.heap.size + 1 + 1 < q7.heap.size := by have := G7.size; omega
      clear hX hb7
      refine HK.out _ _ ⟨fun _ => HS.out _ G7, ?_⟩
      clear HK K
      try simp only [Act.put, List.setIfInBounds_toArray, List.set_cons_zero, List.set_cons_succ]
      refine but_one (i := 8) (by kernel_rfl) rfl (fun K HK' => ?_)
      have HK := Lib.hid HK'
      clear HK'
      go_simp
      refine HK.out _ _ ⟨fun h => absurd rfl h, ?_⟩
      clear HK K
      try simp only [Act.put, List.setIfInBounds_toArray, List.set_cons_zero, List.set_cons_succ]
      refine but_done (by kernel_rfl) ?_
      go_wp2
      refine bodyPost_ret (v := .agg #[.slice al2 x.log.length cl2, .int .i64 x.sums.a, .int .i64 x.sums.b, .int .i64 x.sums.c, .int .i64 x.sums.d, .slice ar2 x.ready.length cr2, .slice ad2 x.done.length cd2]) (by simp [results, Try.results119, go_sem, p0, p1, p2, p3, p4, p5, p6, pf]) rfl ?_
      refine ⟨_, rfl, ?_, ?_⟩
      · refine HX.out.mono (ov_box (B := w.heap.size + 1 + 1) (HGW.out.trans G6) HB7.out (by have := G6.size; omega) fun a ha => ?_)
        rw [setCell_ne ha, setCell_ne ha, setCell_ne ha, setCell_ne ha, setCell_ne ha, setCell_ne ha, setCell_ne ha]
      · (repeat (with_reducible refine Grow.setCell ?_ (by first | (simp; done) | (simp; omega) | omega) _))
        exact HGW.out.trans G7
    · skip
      have HK := Lib.hid HK'
      clear HK'
      go_simp
      refine HK.out _ _ ⟨fun _ => HS.out _ ((GD.alloc _).alloc _), ?_⟩
      clear HK K
      try simp only [Act.put, List.setIfInBounds_toArray, List.set_cons_zero, List.set_cons_succ]
      refine but_one (i := 3) (by kernel_rfl) rfl (fun K HK' => ?_)
      have HK := Lib.hid HK'
      clear HK'
      refine step_appc (v := .slice (some ⟨wd.heap.size, 0, none⟩) 0 0) ei_rc rfl one_Trc (by decide) rfl (.tmp 5) (.tmp 7) rfl rfl (((OwnC.made0 Ty.rc c _ w3.heap.size _ (by have := ZD.out; (try simp); omega) (by simp))).grow ((Grow.refl _).alloc _)) rfl (HSR.out _ ((GD.alloc _).alloc _)) (by have := HL.out; simp; omega) ((GD.alloc _).alloc _).size ?_
      intro a3 c3 q3 ho3 hg3 hb3
      try simp only [List.length_nil, List.length_cons, Nat.zero_add, List.nil_append] at ho3
      try simp only [List.length_nil, List.length_cons, Nat.zero_add] at hb3
      try simp only [List.length_nil, List.length_cons, Nat.zero_add]
      have G3 := grow_by (w0 := w3) ((GD.alloc _).alloc _) hg3 (own_at (by have := ZD.out; (try simp); omega))
      have B3 := Lib.hid (own_new (B := w3.heap.size) ((GD.alloc _).alloc _).size hb3 (own_at (by have := ZD.out; (try simp); omega)))
      have HO3 := Lib.hid ho3
      have HG3 := Lib.hid hg3
      clear ho3 hg3 hb3
      refine HK.out _ _ ⟨fun _ => HS.out _ G3, ?_⟩
      clear HK K
      try simp only [Act.put, List.setIfInBounds_toArray, List.set_cons_zero, List.set_cons_succ]
      refine but_one (i := 6) (by kernel_rfl) rfl (fun K HK' => ?_)
      have HK := Lib.hid HK'
      clear HK'
      refine step_appc (v := .slice a3 (h.log.length) c3) ei_rc rfl one_Trc (by decide) rfl (.tmp 8) (.tmp 10) rfl rfl (HO3.out) rfl (((Src.of_new (T := Ty.rc) (c := c) (cs := #[.int .i64 r.kind, .int .i64 r.deed, .slice ap r.parts.length cp]) HR.out _ _ (by simp))).kept HG3.out (by simp [Value.ownBlock])) (by have := HL.out; simp; omega) G3.size ?_
      intro a6 c6 q6 ho6 hg6 hb6
      try simp only [List.length_nil, List.length_cons, Nat.zero_add, List.nil_append] at ho6
      try simp only [List.length_nil, List.length_cons, Nat.zero_add] at hb6
      try simp only [List.length_nil, List.length_cons, Nat.zero_add]
      have G6 := grow_by (w0 := w3) G3 hg6 B3.out
      have B6 := Lib.hid (own_new (B := w3.heap.size) G3.size hb6 B3.out)
      have HO6 := Lib.hid ho6
      have HG6 := Lib.hid hg6
      clear ho6 hg6 hb6
      refine HK.out _ _ ⟨fun _ => HS.out _ G6, ?_⟩
      clear HK K
      try simp only [Act.put, List.setIfInBounds_toArray, List.set_cons_zero, List.set_cons_succ]
      refine but_one (i := 7) (by kernel_rfl) rfl (fun K HK' => ?_)
      have HK := Lib.hid HK'
      clear HK'
      go_simp
      go_at_call 29
      refine (ref_house_c (c := wo (w.heap.size + 1 + 1) (ov c w q6)) (l := h.log ++ [r]) q6 (wo_ov_sub HC.out (HGW.out.trans G6)) (HO6.out.slc (by decide) (wo_ov_in HC.out (by omega)) fun a ha => wo_ov_new (by omega) (by omega)) (by intro x hx; rcases List.mem_append.1 hx with hx | hx; exact HK0.out x hx; simp at hx; subst hx; exact HKR.out) (by have := HL.out; simp; omega)).mono ?_
      rw [HNE.out]
      rintro e q7 ⟨vx, rfl, hX, hb7⟩
      obtain ⟨al2, cl2, ar2, cr2, ad2, cd2, rfl⟩ := hX.hs_form
      have HX := Lib.hid hX
      have G7 := G6.trans hb7
      have HB7 := Lib.hid hb7
      obtain ⟨p0, p1, p2, p3, p4, p5, p6, pf⟩ := HZ.out _ G7
      have z7 : w.heap.size + 1 + 1 < q7.heap.size := by have := G7.size; omega
      clear hX hb7
      refine HK.out _ _ ⟨fun _ => HS.out _ G7, ?_⟩
      clear HK K
      try simp only [Act.put, List.setIfInBounds_toArray, List.set_cons_zero, List.set_cons_succ]
      refine but_one (i := 8) (by kernel_rfl) rfl (fun K HK' => ?_)
      have HK := Lib.hid HK'
      clear HK'
      go_simp
      refine HK.out _ _ ⟨fun h => absurd rfl h, ?_⟩
      clear HK K
      try simp only [Act.put, List.setIfInBounds_toArray, List.set_cons_zero, List.set_cons_succ]
      refine but_done (by kernel_rfl) ?_
      go_wp2
      refine bodyPost_ret (v := .agg #[.slice al2 x.log.length cl2, .int .i64 x.sums.a, .int .i64 x.sums.b, .int .i64 x.sums.c, .int .i64 x.sums.d, .slice ar2 x.ready.length cr2, .slice ad2 x.done.length cd2]) (by simp [results, Try.results119, go_sem, p0, p1, p2, p3, p4, p5, p6, pf]) rfl ?_
      refine ⟨_, rfl, ?_, ?_⟩
      · refine HX.out.mono (ov_box (B := w.heap.size + 1 + 1) (HGW.out.trans G6) HB7.out (by have := G6.size; omega) fun a ha => ?_)
        rw [setCell_ne ha, setCell_ne ha, setCell_ne ha, setCell_ne ha, setCell_ne ha, setCell_ne ha, setCell_ne ha]
      · (repeat (with_reducible refine Grow.setCell ?_ (by first | (simp; done) | (simp; omega) | omega) _))
        exact HGW.out.trans G7
  · skip
    have HK := Lib.hid HK'
    clear HK'
    go_simp
    refine HK.out _ _ ⟨fun _ => HS.out _ (GD.alloc _), ?_⟩
    clear HK K
    try simp only [Act.put, List.setIfInBounds_toArray, List.set_cons_zero, List.set_cons_succ]
    refine but_one (i := 0) (by kernel_rfl) rfl (fun K HK' => ?_)
    have HK := Lib.hid HK'
    clear HK'
    go_simp
    refine HK.out _ _ ⟨fun _ => HS.out _ ((GD.alloc _).alloc _), ?_⟩
    clear HK K
    try simp only [Act.put, List.setIfInBounds_toArray, List.set_cons_zero, List.set_cons_succ]
    refine but_one (i := 3) (by kernel_rfl) rfl (fun K HK' => ?_)
    have HK := Lib.hid HK'
    clear HK'
    refine step_appc (v := .slice (some ⟨wd.heap.size + 1, 0, none⟩) 0 0) ei_rc rfl one_Trc (by decide) rfl (.tmp 5) (.tmp 7) rfl rfl ((OwnC.made0 Ty.rc c _ w3.heap.size _ (by have := ZD.out; (try simp); omega) (by simp))) rfl (HSR.out _ ((GD.alloc _).alloc _)) (by have := HL.out; simp; omega) ((GD.alloc _).alloc _).size ?_
    intro a3 c3 q3 ho3 hg3 hb3
    try simp only [List.length_nil, List.length_cons, Nat.zero_add, List.nil_append] at ho3
    try simp only [List.length_nil, List.length_cons, Nat.zero_add] at hb3
    try simp only [List.length_nil, List.length_cons, Nat.zero_add]
    have G3 := grow_by (w0 := w3) ((GD.alloc _).alloc _) hg3 (own_at (by have := ZD.out; (try simp); omega))
    have B3 := Lib.hid (own_new (B := w3.heap.size) ((GD.alloc _).alloc _).size hb3 (own_at (by have := ZD.out; (try simp); omega)))
    have HO3 := Lib.hid ho3
    have HG3 := Lib.hid hg3
    clear ho3 hg3 hb3
    refine HK.out _ _ ⟨fun _ => HS.out _ G3, ?_⟩
    clear HK K
    try simp only [Act.put, List.setIfInBounds_toArray, List.set_cons_zero, List.set_cons_succ]
    refine but_one (i := 6) (by kernel_rfl) rfl (fun K HK' => ?_)
    have HK := Lib.hid HK'
    clear HK'
    refine step_appc (v := .slice a3 (h.log.length) c3) ei_rc rfl one_Trc (by decide) rfl (.tmp 8) (.tmp 10) rfl rfl (HO3.out) rfl ((((Src.of_new (T := Ty.rc) (c := c) (cs := #[.int .i64 r.kind, .int .i64 r.deed, .slice ap r.parts.length cp]) HR.out _ _ (by simp))).grow ((Grow.refl _).alloc _)).kept HG3.out (by simp [Value.ownBlock])) (by have := HL.out; simp; omega) G3.size ?_
    intro a6 c6 q6 ho6 hg6 hb6
    try simp only [List.length_nil, List.length_cons, Nat.zero_add, List.nil_append] at ho6
    try simp only [List.length_nil, List.length_cons, Nat.zero_add] at hb6
    try simp only [List.length_nil, List.length_cons, Nat.zero_add]
    have G6 := grow_by (w0 := w3) G3 hg6 B3.out
    have B6 := Lib.hid (own_new (B := w3.heap.size) G3.size hb6 B3.out)
    have HO6 := Lib.hid ho6
    have HG6 := Lib.hid hg6
    clear ho6 hg6 hb6
    refine HK.out _ _ ⟨fun _ => HS.out _ G6, ?_⟩
    clear HK K
    try simp only [Act.put, List.setIfInBounds_toArray, List.set_cons_zero, List.set_cons_succ]
    refine but_one (i := 7) (by kernel_rfl) rfl (fun K HK' => ?_)
    have HK := Lib.hid HK'
    clear HK'
    go_simp
    go_at_call 29
    refine (ref_house_c (c := wo (w.heap.size + 1 + 1) (ov c w q6)) (l := h.log ++ [r]) q6 (wo_ov_sub HC.out (HGW.out.trans G6)) (HO6.out.slc (by decide) (wo_ov_in HC.out (by omega)) fun a ha => wo_ov_new (by omega) (by omega)) (by intro x hx; rcases List.mem_append.1 hx with hx | hx; exact HK0.out x hx; simp at hx; subst hx; exact HKR.out) (by have := HL.out; simp; omega)).mono ?_
    rw [HNE.out]
    rintro e q7 ⟨vx, rfl, hX, hb7⟩
    obtain ⟨al2, cl2, ar2, cr2, ad2, cd2, rfl⟩ := hX.hs_form
    have HX := Lib.hid hX
    have G7 := G6.trans hb7
    have HB7 := Lib.hid hb7
    obtain ⟨p0, p1, p2, p3, p4, p5, p6, pf⟩ := HZ.out _ G7
    have z7 : w.heap.size + 1 + 1 < q7.heap.size := by have := G7.size; omega
    clear hX hb7
    refine HK.out _ _ ⟨fun _ => HS.out _ G7, ?_⟩
    clear HK K
    try simp only [Act.put, List.setIfInBounds_toArray, List.set_cons_zero, List.set_cons_succ]
    refine but_one (i := 8) (by kernel_rfl) rfl (fun K HK' => ?_)
    have HK := Lib.hid HK'
    clear HK'
    go_simp
    refine HK.out _ _ ⟨fun h => absurd rfl h, ?_⟩
    clear HK K
    try simp only [Act.put, List.setIfInBounds_toArray, List.set_cons_zero, List.set_cons_succ]
    refine but_done (by kernel_rfl) ?_
    go_wp2
    refine bodyPost_ret (v := .agg #[.slice al2 x.log.length cl2, .int .i64 x.sums.a, .int .i64 x.sums.b, .int .i64 x.sums.c, .int .i64 x.sums.d, .slice ar2 x.ready.length cr2, .slice ad2 x.done.length cd2]) (by simp [results, Try.results119, go_sem, p0, p1, p2, p3, p4, p5, p6, pf]) rfl ?_
    refine ⟨_, rfl, ?_, ?_⟩
    · refine HX.out.mono (ov_box (B := w.heap.size + 1 + 1) (HGW.out.trans G6) HB7.out (by have := G6.size; omega) fun a ha => ?_)
      rw [setCell_ne ha, setCell_ne ha, setCell_ne ha, setCell_ne ha, setCell_ne ha, setCell_ne ha, setCell_ne ha]
    · (repeat (with_reducible refine Grow.setCell ?_ (by first | (simp; done) | (simp; omega) | omega) _))
      exact HGW.out.trans G7
end Go.Proofs.Ytgbhpghgohggcaa
