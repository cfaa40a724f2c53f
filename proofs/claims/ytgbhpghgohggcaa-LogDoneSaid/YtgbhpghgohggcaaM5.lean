/- Walks: log.Note of the program. -/
import Derived.Test.YtgbhpghgohggcaaM4
namespace Go.Proofs.Ytgbhpghgohggcaa
open Go.RowKit
/-- an own row and a thing from elsewhere, in memory without the row -/
theorem frag_own {W0 w w' : World} {v : Value} (hg : Grow w w') : Sub (fr W0 w [v.ownBlock]) (frag w' v.ownBlock) := fun a u e => by
  unfold fr at e
  split at e
  · cases e
  · rename_i hn
    have h2 : some a.block ≠ v.ownBlock := fun e => hn (.inr (by simp [e]))
    unfold frag
    rw [if_neg h2]
    exact hg.sub _ _ e
theorem frag_app {w w' : World} {row : Option Nat} (hg : w.grownBy w' row) : Sub (frag w row) w'.cell? := fun a u e => by
  unfold frag at e
  split at e
  · cases e
  · rename_i hn
    rw [World.cell?_of_block (hg.block a.block (World.block_lt_of_cell? w a e) hn)]
    exact e
set_option maxRecDepth 100000 in
set_option maxHeartbeats 2000000 in
theorem wlog_note {v vr : Value} {h : Hs} {r : Rc} (w : World) (hv : Of Ty.hs w.cell? v h) (hr : Of Ty.rc w.cell? vr r) (hk : ∀ x ∈ h.log, KeysOk x.parts) (hkr : KeysOk r.parts) (hm : (h.log.length + 1) * 40 ≤ 140737488351232)
    (hp : ∀ x ∈ h.log, x.parts.length * 24 ≤ 140737488355328) (hpr : r.parts.length * 24 ≤ 140737488355328) :
    Calls Try.prog 38 #[v, vr] w fun e w' => ∃ v', e = .returned v' ∧ Of Ty.hs (ov (fun _ => none) w w') v' (noteE h r) ∧ Grow w w' := by
  obtain ⟨al, cl, ar, cr, ad, cd, rfl⟩ := hv.hs_form
  obtain ⟨ap, cp, rfl⟩ := hr.rc_form
  have hl := (Of.hs_log hv).1
  have hr3 : Ty.rc.R w.cell? #[.int .i64 r.kind, .int .i64 r.deed, .slice ap r.parts.length cp].toList r := Of.cells hr
  have HR := Lib.hid hr3
  have HOWN := Lib.hid (fun (W : World) (hW : Grow w W) => log_own W (hl.mono hW.sub) (by omega) hp)
  have hkk : ∀ x ∈ h.log ++ [r], KeysOk x.parts := by
    intro x hx
    rcases List.mem_append.1 hx with hx | hx
    · exact hk x hx
    · rw [List.mem_singleton.1 hx]; exact hkr
  have hpp : ∀ x ∈ h.log ++ [r], x.parts.length * 24 ≤ 140737488355328 := by
    intro x hx
    rcases List.mem_append.1 hx with hx | hx
    · exact hp x hx
    · rw [List.mem_singleton.1 hx]; exact hpr
  have HHS := Lib.hid (fun (v' : Value) (W : World) (hv' : Rcs W.cell? v' (h.log ++ [r])) => wlog_house W hv' hkk (by simpa using hm) hpp)
  have HM := Lib.hid hm
  have HG0 : Hid (Grow w (((w.alloc (.cells #[.slice al h.log.length cl, .int .i64 h.sums.a, .int .i64 h.sums.b, .int .i64 h.sums.c, .int .i64 h.sums.d, .slice ar h.ready.length cr, .slice ad h.done.length cd] 29)).alloc (.cells #[.int .i64 r.kind, .int .i64 r.deed, .slice ap r.parts.length cp] 48)).alloc (.cells zrow 29))) := Lib.hid ((((Grow.refl w).alloc _).alloc _).alloc _)
  have HR2 : Hid ((((w.alloc (.cells #[.slice al h.log.length cl, .int .i64 h.sums.a, .int .i64 h.sums.b, .int .i64 h.sums.c, .int .i64 h.sums.d, .slice ar h.ready.length cr, .slice ad h.done.length cd] 29)).alloc (.cells #[.int .i64 r.kind, .int .i64 r.deed, .slice ap r.parts.length cp] 48)).alloc (.cells zrow 29)).heap[w.heap.size]? = some (.cells #[.slice al h.log.length cl, .int .i64 h.sums.a, .int .i64 h.sums.b, .int .i64 h.sums.c, .int .i64 h.sums.d, .slice ar h.ready.length cr, .slice ad h.done.length cd] 29 (0, 0))) := Lib.hid (heap_later (heap_later (row_new _ _) _) _)
  have HR3 : Hid ((((w.alloc (.cells #[.slice al h.log.length cl, .int .i64 h.sums.a, .int .i64 h.sums.b, .int .i64 h.sums.c, .int .i64 h.sums.d, .slice ar h.ready.length cr, .slice ad h.done.length cd] 29)).alloc (.cells #[.int .i64 r.kind, .int .i64 r.deed, .slice ap r.parts.length cp] 48)).alloc (.cells zrow 29)).heap[w.heap.size + 1]? = some (.cells #[.int .i64 r.kind, .int .i64 r.deed, .slice ap r.parts.length cp] 48 (0, 0))) := Lib.hid (heap_later (by simpa using row_new (w.alloc (.cells #[.slice al h.log.length cl, .int .i64 h.sums.a, .int .i64 h.sums.b, .int .i64 h.sums.c, .int .i64 h.sums.d, .slice ar h.ready.length cr, .slice ad h.done.length cd] 29)) _) _)
  have HR4 : Hid ((((w.alloc (.cells #[.slice al h.log.length cl, .int .i64 h.sums.a, .int .i64 h.sums.b, .int .i64 h.sums.c, .int .i64 h.sums.d, .slice ar h.ready.length cr, .slice ad h.done.length cd] 29)).alloc (.cells #[.int .i64 r.kind, .int .i64 r.deed, .slice ap r.parts.length cp] 48)).alloc (.cells zrow 29)).heap[w.heap.size + 1 + 1]? = some (.cells zrow 29 (0, 0))) := Lib.hid (by simpa using row_new ((w.alloc (.cells #[.slice al h.log.length cl, .int .i64 h.sums.a, .int .i64 h.sums.b, .int .i64 h.sums.c, .int .i64 h.sums.d, .slice ar h.ready.length cr, .slice ad h.done.length cd] 29)).alloc (.cells #[.int .i64 r.kind, .int .i64 r.deed, .slice ap r.parts.length cp] 48)) _)
  clear hv hr hk hkr hm hp hpr hl hr3 hkk hpp
  go_enter Try.func38, Try.ntmps38
  go_wp2
  obtain ⟨w3, hWE⟩ : ∃ x : World, x = (((w.alloc (.cells #[.slice al h.log.length cl, .int .i64 h.sums.a, .int .i64 h.sums.b, .int .i64 h.sums.c, .int .i64 h.sums.d, .slice ar h.ready.length cr, .slice ad h.done.length cd] 29)).alloc (.cells #[.int .i64 r.kind, .int .i64 r.deed, .slice ap r.parts.length cp] 48)).alloc (.cells zrow 29)) := ⟨_, rfl⟩
  rw [← hWE] at HG0 HR2 HR3 HR4
  rw [← hWE]
  clear hWE
  obtain ⟨g0, -, -, -, -, -, -⟩ := cells7 HR2.out
  obtain ⟨g1, g2, g3⟩ := cells3 HR3.out
  have HS : Hid (∀ W, Grow w3 W → W.cell? ⟨w.heap.size, 0, none⟩ = some (.slice al h.log.length cl) ∧ W.cell? ⟨w.heap.size + 1, 0, none⟩ = some (.int .i64 r.kind) ∧ W.cell? ⟨w.heap.size + 1, 1, none⟩ = some (.int .i64 r.deed) ∧ W.cell? ⟨w.heap.size + 1, 2, none⟩ = some (.slice ap r.parts.length cp)) := fun W hW => ⟨hW.sub _ _ g0, hW.sub _ _ g1, hW.sub _ _ g2, hW.sub _ _ g3⟩
  have hz4 : w.heap.size + 1 + 1 < w3.heap.size := (Array.getElem?_eq_some_iff.1 HR4.out).1
  clear g0 g1 g2 g3
  refine but_start (fun w' => w'.cell? ⟨w.heap.size, 0, none⟩ = some (.slice al h.log.length cl) ∧ w'.cell? ⟨w.heap.size + 1, 0, none⟩ = some (.int .i64 r.kind) ∧ w'.cell? ⟨w.heap.size + 1, 1, none⟩ = some (.int .i64 r.deed) ∧ w'.cell? ⟨w.heap.size + 1, 2, none⟩ = some (.slice ap r.parts.length cp)) 7 (by kernel_rfl) ?_
  obtain ⟨wd, hWd⟩ : ∃ x : World, x = w3.drew := ⟨_, rfl⟩
  rw [← hWd]
  have GD : Grow w3 wd := by rw [hWd]; exact (Grow.refl _).drew
  have zD : w3.heap.size = wd.heap.size := by rw [hWd]; rfl
  have ZD := Lib.hid zD
  clear hWd zD
  refine but_take (i := 0) (v := ?_) 8 rfl (by kernel_rfl) (by kernel_rfl) (by kernel_rfl) (by kernel_rfl) (by kernel_rfl) (fun _ _ _ h => h) (HS.out _ GD) (Or.inl ⟨by rfl, ?_⟩) ?_
  rotate_left
  · (intro w' hSw; (try dsimp only at hSw); obtain ⟨hs0, hs1, hs2, hs3⟩ := hSw; go_simp <;> with_reducible rfl)
  try simp only [Act.put, List.getElem_toArray, List.getElem_cons_succ, List.getElem_cons_zero, List.setIfInBounds_toArray, List.set_cons_zero, List.set_cons_succ]
  refine but_take (i := 1) (v := ?_) 8 rfl (by kernel_rfl) (by kernel_rfl) (by kernel_rfl) (by kernel_rfl) (by kernel_rfl) (fun _ _ _ h => h) (HS.out _ GD) (Or.inl ⟨by rfl, ?_⟩) ?_
  rotate_left
  · (intro w' hSw; (try dsimp only at hSw); obtain ⟨hs0, hs1, hs2, hs3⟩ := hSw; go_simp <;> with_reducible rfl)
  try simp only [Act.put, List.getElem_toArray, List.getElem_cons_succ, List.getElem_cons_zero, List.setIfInBounds_toArray, List.set_cons_zero, List.set_cons_succ]
  refine but_take (i := 3) (v := ?_) 8 rfl (by kernel_rfl) (by kernel_rfl) (by kernel_rfl) (by kernel_rfl) (by kernel_rfl) (fun _ _ _ h => h) (HS.out _ GD) (Or.inl ⟨by rfl, ?_⟩) ?_
  rotate_left
  · (intro w' hSw; (try dsimp only at hSw); obtain ⟨hs0, hs1, hs2, hs3⟩ := hSw; go_simp <;> with_reducible rfl)
  try simp only [Act.put, List.getElem_toArray, List.getElem_cons_succ, List.getElem_cons_zero, List.setIfInBounds_toArray, List.set_cons_zero, List.set_cons_succ]
  refine but_two (i := 2) (j := 4) (by kernel_rfl) rfl rfl ?_ ?_
  · skip
    intro K HK'
    have HK := Lib.hid HK'
    clear HK'
    skip
    try simp only [List.getElem_toArray, List.getElem_cons_succ, List.getElem_cons_zero]
    go_simp
    go_at_call 40
    refine (HOWN.out _ (HG0.out.trans GD)).mono ?_
    rintro e wo ⟨vo, rfl, ho, hbo⟩
    obtain ⟨ao, co, rfl⟩ := ho.form
    have HO := Lib.hid ho
    have GO := GD.trans hbo
    have HBO := Lib.hid hbo
    have ZO : Hid (w3.heap.size ≤ (wd).heap.size) := Lib.hid GD.size
    clear ho hbo
    refine HK.out _ _ ⟨fun _ => HS.out _ GO, ?_⟩
    clear HK K
    try simp only [Act.put, List.getElem_toArray, List.getElem_cons_succ, List.getElem_cons_zero, List.setIfInBounds_toArray, List.set_cons_zero, List.set_cons_succ]
    refine but_one (i := 4) (by kernel_rfl) rfl ?_
    intro K HK'
    have HK := Lib.hid HK'
    clear HK'
    skip
    try simp only [List.getElem_toArray, List.getElem_cons_succ, List.getElem_cons_zero]
    go_simp
    refine HK.out _ _ ⟨fun _ => HS.out _ (GO.alloc _), ?_⟩
    clear HK K
    try simp only [Act.put, List.getElem_toArray, List.getElem_cons_succ, List.getElem_cons_zero, List.setIfInBounds_toArray, List.set_cons_zero, List.set_cons_succ]
    refine but_one (i := 5) (by kernel_rfl) rfl ?_
    intro K HK'
    have HK := Lib.hid HK'
    clear HK'
    refine wanted_go rfl ?_
    try simp only [List.getElem_toArray, List.getElem_cons_succ, List.getElem_cons_zero]
    have HFR : Hid (Sub w.cell? (frag (wo.alloc (.cells #[.int .i64 r.kind, .int .i64 r.deed, .slice ap r.parts.length cp] 48)) (Value.slice ao h.log.length co).ownBlock)) := Lib.hid (frag_of_lt (HG0.out.trans (GO.alloc _)) fun q hq => by have := (HO.out.lt q hq).1; have := ZO.out; have := HG0.out.size; omega)
    refine wp_appc (c := (frag (wo.alloc (.cells #[.int .i64 r.kind, .int .i64 r.deed, .slice ap r.parts.length cp] 48)) (Value.slice ao h.log.length co).ownBlock)) (base := wd.heap.size) (l := h.log) (m := [r]) ei_rc rfl one_Trc (by decide) (.tmp 7) (.tmp 9) rfl rfl ((HO.out.mono (frag_own ((Grow.refl wo).alloc _))).grow ((Grow.refl wo).alloc _)) rfl (Src.of_new (T := Ty.rc) (cs := #[.int .i64 r.kind, .int .i64 r.deed, .slice ap r.parts.length cp]) (Ty.rc.mono HFR.out HR.out) _ _ rfl) (by have := HM.out; simp; omega) (by have := HBO.out.size; (try simp at this ⊢); omega) ?_
    intro a5 c5 w5 ho5 hg5 hb5
    have HR5 := Lib.hid (ho5.sl (by decide) (frag_app hg5))
    have G5 : Grow w3 w5 := grow_by (w0 := w3) (GO.alloc _) hg5 (fun q hq => by have := (HO.out.lt q hq).1; have := ZO.out; omega)
    clear ho5 hg5 hb5
    refine HK.out _ _ ⟨fun _ => HS.out _ G5, ?_⟩
    clear HK K
    try simp only [Act.put, List.getElem_toArray, List.getElem_cons_succ, List.getElem_cons_zero, List.setIfInBounds_toArray, List.set_cons_zero, List.set_cons_succ]
    refine but_one (i := 6) (by kernel_rfl) rfl ?_
    intro K HK'
    have HK := Lib.hid HK'
    clear HK'
    skip
    try simp only [List.getElem_toArray, List.getElem_cons_succ, List.getElem_cons_zero]
    go_simp
    go_at_call 36
    refine (HHS.out _ w5 HR5.out).mono ?_
    rintro e w6 ⟨vx, rfl, hX, hb6⟩
    change Of Ty.hs _ _ (noteE h r) at hX
    obtain ⟨x, hx⟩ : ∃ x, x = noteE h r := ⟨_, rfl⟩
    rw [← hx] at hX
    have HXE := Lib.hid hx
    clear hx
    obtain ⟨al2, cl2, ar2, cr2, ad2, cd2, rfl⟩ := hX.hs_form
    have HX := Lib.hid hX
    have G6 := G5.trans hb6
    have HB6 := Lib.hid hb6
    clear hX hb6
    refine HK.out _ _ ⟨fun _ => HS.out _ G6, ?_⟩
    clear HK K
    try simp only [Act.put, List.getElem_toArray, List.getElem_cons_succ, List.getElem_cons_zero, List.setIfInBounds_toArray, List.set_cons_zero, List.set_cons_succ]
    refine but_one (i := 7) (by kernel_rfl) rfl ?_
    intro K HK'
    have HK := Lib.hid HK'
    clear HK'
    refine wanted_go rfl ?_
    try simp only [List.getElem_toArray, List.getElem_cons_succ, List.getElem_cons_zero]
    refine wp_store_row (.tmp 4) (.tmp 11) rfl rfl rfl (row_grow HR4.out G6) info_hs rfl rfl ?_
    intro w7 r7 g7
    refine HK.out _ _ ⟨fun h => absurd rfl h, ?_⟩
    clear HK K
    try simp only [Act.put, List.getElem_toArray, List.getElem_cons_succ, List.getElem_cons_zero, List.setIfInBounds_toArray, List.set_cons_zero, List.set_cons_succ]
    refine but_done (by kernel_rfl) ?_
    obtain ⟨p0, p1, p2, p3, p4, p5, p6⟩ := cells7 r7
    go_wp2
    refine bodyPost_ret (v := .agg #[.slice al2 x.log.length cl2, .int .i64 x.sums.a, .int .i64 x.sums.b, .int .i64 x.sums.c, .int .i64 x.sums.d, .slice ar2 x.ready.length cr2, .slice ad2 x.done.length cd2]) (by simp [results, Try.results38, go_sem, p0, p1, p2, p3, p4, p5, p6]) rfl ?_
    rw [← HXE.out]
    refine ⟨_, rfl, HX.out.mono fun a u e => ?_, (HG0.out.trans G6).grown g7 (fun k hk => by simp at hk; omega)⟩
    have z1 := G5.size
    have z2 := HG0.out.size
    unfold ov at e ⊢
    split at e
    · cases e
    · rw [if_neg (by omega), by_cell g7 (World.block_lt_of_cell? w6 a e) (by omega)]; exact e
  · skip
    intro K HK'
    have HK := Lib.hid HK'
    clear HK'
    skip
    try simp only [List.getElem_toArray, List.getElem_cons_succ, List.getElem_cons_zero]
    go_simp
    refine HK.out _ _ ⟨fun _ => HS.out _ (GD.alloc _), ?_⟩
    clear HK K
    try simp only [Act.put, List.getElem_toArray, List.getElem_cons_succ, List.getElem_cons_zero, List.setIfInBounds_toArray, List.set_cons_zero, List.set_cons_succ]
    refine but_one (i := 2) (by kernel_rfl) rfl ?_
    intro K HK'
    have HK := Lib.hid HK'
    clear HK'
    skip
    try simp only [List.getElem_toArray, List.getElem_cons_succ, List.getElem_cons_zero]
    go_simp
    go_at_call 40
    refine (HOWN.out _ (HG0.out.trans (GD.alloc _))).mono ?_
    rintro e wo ⟨vo, rfl, ho, hbo⟩
    obtain ⟨ao, co, rfl⟩ := ho.form
    have HO := Lib.hid ho
    have GO := (GD.alloc _).trans hbo
    have HBO := Lib.hid hbo
    have ZO : Hid (w3.heap.size ≤ ((wd.alloc (.cells #[.int .i64 r.kind, .int .i64 r.deed, .slice ap r.parts.length cp] 48))).heap.size) := Lib.hid (GD.alloc _).size
    clear ho hbo
    refine HK.out _ _ ⟨fun _ => HS.out _ GO, ?_⟩
    clear HK K
    try simp only [Act.put, List.getElem_toArray, List.getElem_cons_succ, List.getElem_cons_zero, List.setIfInBounds_toArray, List.set_cons_zero, List.set_cons_succ]
    refine but_one (i := 5) (by kernel_rfl) rfl ?_
    intro K HK'
    have HK := Lib.hid HK'
    clear HK'
    refine wanted_go rfl ?_
    try simp only [List.getElem_toArray, List.getElem_cons_succ, List.getElem_cons_zero]
    have HFR : Hid (Sub w.cell? (frag wo (Value.slice ao h.log.length co).ownBlock)) := Lib.hid (frag_of_lt (HG0.out.trans GO) fun q hq => by have := (HO.out.lt q hq).1; have := ZO.out; have := HG0.out.size; omega)
    refine wp_appc (c := (frag wo (Value.slice ao h.log.length co).ownBlock)) (base := (wd.alloc (.cells #[.int .i64 r.kind, .int .i64 r.deed, .slice ap r.parts.length cp] 48)).heap.size) (l := h.log) (m := [r]) ei_rc rfl one_Trc (by decide) (.tmp 7) (.tmp 9) rfl rfl (HO.out.mono (frag_own (Grow.refl wo))) rfl ((Src.of_new (T := Ty.rc) (cs := #[.int .i64 r.kind, .int .i64 r.deed, .slice ap r.parts.length cp]) (Ty.rc.mono HFR.out HR.out) wd 48 rfl).grow HBO.out) (by have := HM.out; simp; omega) (by have := HBO.out.size; (try simp at this ⊢); omega) ?_
    intro a5 c5 w5 ho5 hg5 hb5
    have HR5 := Lib.hid (ho5.sl (by decide) (frag_app hg5))
    have G5 : Grow w3 w5 := grow_by (w0 := w3) GO hg5 (fun q hq => by have := (HO.out.lt q hq).1; have := ZO.out; omega)
    clear ho5 hg5 hb5
    refine HK.out _ _ ⟨fun _ => HS.out _ G5, ?_⟩
    clear HK K
    try simp only [Act.put, List.getElem_toArray, List.getElem_cons_succ, List.getElem_cons_zero, List.setIfInBounds_toArray, List.set_cons_zero, List.set_cons_succ]
    refine but_one (i := 6) (by kernel_rfl) rfl ?_
    intro K HK'
    have HK := Lib.hid HK'
    clear HK'
    skip
    try simp only [List.getElem_toArray, List.getElem_cons_succ, List.getElem_cons_zero]
    go_simp
    go_at_call 36
    refine (HHS.out _ w5 HR5.out).mono ?_
    rintro e w6 ⟨vx, rfl, hX, hb6⟩
    change Of Ty.hs _ _ (noteE h r) at hX
    obtain ⟨x, hx⟩ : ∃ x, x = noteE h r := ⟨_, rfl⟩
    rw [← hx] at hX
    have HXE := Lib.hid hx
    clear hx
    obtain ⟨al2, cl2, ar2, cr2, ad2, cd2, rfl⟩ := hX.hs_form
    have HX := Lib.hid hX
    have G6 := G5.trans hb6
    have HB6 := Lib.hid hb6
    clear hX hb6
    refine HK.out _ _ ⟨fun _ => HS.out _ G6, ?_⟩
    clear HK K
    try simp only [Act.put, List.getElem_toArray, List.getElem_cons_succ, List.getElem_cons_zero, List.setIfInBounds_toArray, List.set_cons_zero, List.set_cons_succ]
    refine but_one (i := 7) (by kernel_rfl) rfl ?_
    intro K HK'
    have HK := Lib.hid HK'
    clear HK'
    refine wanted_go rfl ?_
    try simp only [List.getElem_toArray, List.getElem_cons_succ, List.getElem_cons_zero]
    refine wp_store_row (.tmp 4) (.tmp 11) rfl rfl rfl (row_grow HR4.out G6) info_hs rfl rfl ?_
    intro w7 r7 g7
    refine HK.out _ _ ⟨fun h => absurd rfl h, ?_⟩
    clear HK K
    try simp only [Act.put, List.getElem_toArray, List.getElem_cons_succ, List.getElem_cons_zero, List.setIfInBounds_toArray, List.set_cons_zero, List.set_cons_succ]
    refine but_done (by kernel_rfl) ?_
    obtain ⟨p0, p1, p2, p3, p4, p5, p6⟩ := cells7 r7
    go_wp2
    refine bodyPost_ret (v := .agg #[.slice al2 x.log.length cl2, .int .i64 x.sums.a, .int .i64 x.sums.b, .int .i64 x.sums.c, .int .i64 x.sums.d, .slice ar2 x.ready.length cr2, .slice ad2 x.done.length cd2]) (by simp [results, Try.results38, go_sem, p0, p1, p2, p3, p4, p5, p6]) rfl ?_
    rw [← HXE.out]
    refine ⟨_, rfl, HX.out.mono fun a u e => ?_, (HG0.out.trans G6).grown g7 (fun k hk => by simp at hk; omega)⟩
    have z1 := G5.size
    have z2 := HG0.out.size
    unfold ov at e ⊢
    split at e
    · cases e
    · rw [if_neg (by omega), by_cell g7 (World.block_lt_of_cell? w6 a e) (by omega)]; exact e
end Go.Proofs.Ytgbhpghgohggcaa
