/- Walks: Hear of the document's answer: whoever is asked (N). -/
import Derived.Test.YtgbhpghgohggcaaN5
namespace Go.Proofs.Ytgbhpghgohggcaa
open Go.RowKit
set_option maxRecDepth 100000 in
set_option maxHeartbeats 1000000 in
theorem hear_prepN {c : CM} {v vm : Value} {h : Hs} {dd hh me : Int} {ps : List Pt} (w : World) (hc : Sub c w.cell?) (hv : Of Ty.hs c v h) (hm : Of Ty.ms c vm ⟨1, dd, hh, ps⟩) (hk : ∀ x ∈ h.log, KeysOk x.parts) (hkm : KeysOk ps) (hn : (h.log.length + 1) * 40 ≤ 140737488355328) (hme : I64 me) (e0 : voteE h dd ps = 0) (rd : readyE h.ready dd = false) :
    Calls Try.prog 35 #[v, .int .i64 me, vm] w fun e w' => ∃ v1 v2, e = .returned (.tuple #[v1, v2]) ∧ Of Ty.hs (ov c w w') v1 (hearH h ⟨1, dd, hh, ps⟩) ∧ Sl Ty.ms (ov c w w') v2 (hearM h me ⟨1, dd, hh, ps⟩) ∧ Grow w w' := by
  obtain ⟨al, cl, ar, cr, ad, cd, rfl⟩ := hv.hs_form
  obtain ⟨ap, cp, rfl⟩ : ∃ ap cp, vm = .agg #[.int .i64 1, .int .i64 dd, .int .i64 hh, .slice ap ps.length cp] := hm.ms_form
  have hms : Sl Ty.pt c (.slice ap ps.length cp) ps ∧ I64 1 ∧ I64 dd ∧ I64 hh := Of.ms_parts hm
  have HMS := Lib.hid hms
  have HV0 := Lib.hid hv
  have HC := Lib.hid hc
  have HK0 := Lib.hid hk
  have HKM := Lib.hid hkm
  have HN := Lib.hid hn
  have HME := Lib.hid hme
  have HVO := Lib.hid (fun (W : World) (hW : Grow w W) => ref_vote (d := dd) W (hv.mono (hc.trans hW.sub)) (hms.1.mono (hc.trans hW.sub)) hkm)
  have HRD := Lib.hid (fun (W : World) (hW : Grow w W) => ref_ready (d := dd) W (hv.mono (hc.trans hW.sub)))
  have HIN := Lib.hid (fun (W : World) (hW : Grow w W) => ref_in (n := dd) W ((Of.hs_log hv).2.2.mono (hc.trans hW.sub)))
  have HG0 : Hid (Grow w (((w.alloc (.cells #[.slice al h.log.length cl, .int .i64 h.sums.a, .int .i64 h.sums.b, .int .i64 h.sums.c, .int .i64 h.sums.d, .slice ar h.ready.length cr, .slice ad h.done.length cd] 29)).alloc (.cells #[.int .i64 1, .int .i64 dd, .int .i64 hh, .slice ap ps.length cp] 39)).alloc (.cells #[.slice none 0 0, .int .i64 0, .int .i64 0, .int .i64 0, .int .i64 0, .slice none 0 0, .slice none 0 0] 29))) := Lib.hid ((((Grow.refl w).alloc _).alloc _).alloc _)
  have HR3 : Hid ((((w.alloc (.cells #[.slice al h.log.length cl, .int .i64 h.sums.a, .int .i64 h.sums.b, .int .i64 h.sums.c, .int .i64 h.sums.d, .slice ar h.ready.length cr, .slice ad h.done.length cd] 29)).alloc (.cells #[.int .i64 1, .int .i64 dd, .int .i64 hh, .slice ap ps.length cp] 39)).alloc (.cells #[.slice none 0 0, .int .i64 0, .int .i64 0, .int .i64 0, .int .i64 0, .slice none 0 0, .slice none 0 0] 29)).heap[w.heap.size]? = some (.cells #[.slice al h.log.length cl, .int .i64 h.sums.a, .int .i64 h.sums.b, .int .i64 h.sums.c, .int .i64 h.sums.d, .slice ar h.ready.length cr, .slice ad h.done.length cd] 29 (0, 0))) := Lib.hid (heap_later (heap_later (row_new _ _) _) _)
  have HR5 : Hid ((((w.alloc (.cells #[.slice al h.log.length cl, .int .i64 h.sums.a, .int .i64 h.sums.b, .int .i64 h.sums.c, .int .i64 h.sums.d, .slice ar h.ready.length cr, .slice ad h.done.length cd] 29)).alloc (.cells #[.int .i64 1, .int .i64 dd, .int .i64 hh, .slice ap ps.length cp] 39)).alloc (.cells #[.slice none 0 0, .int .i64 0, .int .i64 0, .int .i64 0, .int .i64 0, .slice none 0 0, .slice none 0 0] 29)).heap[w.heap.size + 1]? = some (.cells #[.int .i64 1, .int .i64 dd, .int .i64 hh, .slice ap ps.length cp] 39 (0, 0))) := Lib.hid (heap_later (by simpa using row_new (w.alloc (.cells #[.slice al h.log.length cl, .int .i64 h.sums.a, .int .i64 h.sums.b, .int .i64 h.sums.c, .int .i64 h.sums.d, .slice ar h.ready.length cr, .slice ad h.done.length cd] 29)) _) _)
  have HR6 : Hid ((((w.alloc (.cells #[.slice al h.log.length cl, .int .i64 h.sums.a, .int .i64 h.sums.b, .int .i64 h.sums.c, .int .i64 h.sums.d, .slice ar h.ready.length cr, .slice ad h.done.length cd] 29)).alloc (.cells #[.int .i64 1, .int .i64 dd, .int .i64 hh, .slice ap ps.length cp] 39)).alloc (.cells #[.slice none 0 0, .int .i64 0, .int .i64 0, .int .i64 0, .int .i64 0, .slice none 0 0, .slice none 0 0] 29)).heap[w.heap.size + 1 + 1]? = some (.cells #[.slice none 0 0, .int .i64 0, .int .i64 0, .int .i64 0, .int .i64 0, .slice none 0 0, .slice none 0 0] 29 (0, 0))) := Lib.hid (by simpa using row_new ((w.alloc (.cells #[.slice al h.log.length cl, .int .i64 h.sums.a, .int .i64 h.sums.b, .int .i64 h.sums.c, .int .i64 h.sums.d, .slice ar h.ready.length cr, .slice ad h.done.length cd] 29)).alloc (.cells #[.int .i64 1, .int .i64 dd, .int .i64 hh, .slice ap ps.length cp] 39)) _)
  clear hv hm hc hk hkm hn hme hms
  have HEH : Hid (hearH h ⟨1, dd, hh, ps⟩ = noteE h ⟨1, dd, ps⟩) := by
    show hearH h ⟨1, dd, hh, ps⟩ = noteE h ⟨1, dd, ps⟩
    unfold hearH
    rw [if_pos rfl, if_pos ⟨e0, rd⟩]
  have HEM : Hid (hearM h me ⟨1, dd, hh, ps⟩ = sayE 2 dd me) := by
    show hearM h me ⟨1, dd, hh, ps⟩ = sayE 2 dd me
    unfold hearM
    rw [if_pos rfl, if_neg (by show ¬ voteE h dd ps = 10; omega), if_pos e0]
  have E0 := Lib.hid e0
  have RD := Lib.hid rd
  clear e0 rd
  go_enter Try.func35, Try.ntmps35
  go_wp2_with fail
  refine (HVO.out _ HG0.out).mono ?_
  rw [E0.out]
  rintro e v1 ⟨rfl, hbv1⟩
  (obtain ⟨cv1, fv1⟩ := bcell hbv1; have zv10 : w.heap.size < v1.heap.size := (by have := hbv1.size; (try simp at this); omega); have zv11 : w.heap.size + 1 < v1.heap.size := (by have := hbv1.size; (try simp at this); omega); have zv12 : w.heap.size + 1 + 1 < v1.heap.size := (by have := hbv1.size; (try simp at this); omega); have Gv1 := Lib.hid hbv1; clear hbv1)
  go_wp2_with fail
  refine (HRD.out _ (HG0.out.trans Gv1.out)).mono ?_
  rw [RD.out]
  rintro e v2 ⟨rfl, hbv2⟩
  (obtain ⟨cv2, fv2⟩ := bcell hbv2; have zv20 : w.heap.size < v2.heap.size := (by have := hbv2.size; (try simp at this); omega); have zv21 : w.heap.size + 1 < v2.heap.size := (by have := hbv2.size; (try simp at this); omega); have zv22 : w.heap.size + 1 + 1 < v2.heap.size := (by have := hbv2.size; (try simp at this); omega); have Gv2 := Lib.hid hbv2; clear hbv2)
  go_wp2_with fail
  have GW : Hid (Grow _ v2) := Lib.hid (Gv1.out.trans Gv2.out)
  have GV : Hid (Grow w v2) := Lib.hid (HG0.out.trans GW.out)
  have ZV : Hid (w.heap.size + 1 + 1 < v2.heap.size) := Lib.hid (Array.getElem?_eq_some_iff.1 (row_grow HR6.out GW.out)).1
  have hrr : Ty.rc.R (wk w.heap.size 3 (ov c w v2)) [.int .i64 (⟨1, dd, ps⟩ : Rc).kind, .int .i64 dd, .slice ap ps.length cp] ⟨1, dd, ps⟩ := Ty.rc.mono (wk_in HC.out 3) (show Ty.rc.R c [.int .i64 1, .int .i64 dd, .slice ap ps.length cp] ⟨1, dd, ps⟩ from ⟨_, rfl, HMS.out.2.1, HMS.out.2.2.1, HMS.out.1⟩)
  refine (ref_note (c := wk w.heap.size 3 (ov c w v2)) (r := ⟨1, dd, ps⟩) v2 (wk_ov HC.out GV.out 3) (HV0.out.mono (wk_in HC.out 3)) ⟨_, rfl, hrr⟩ HK0.out HKM.out HN.out).mono ?_
  clear hrr
  generalize noteE h ⟨1, dd, ps⟩ = x at *
  rintro e v3 ⟨vx, rfl, hX, hbv3⟩
  obtain ⟨al2, cl2, ar2, cr2, ad2, cd2, rfl⟩ := hX.hs_form
  have HX := Lib.hid hX
  have HG3 := Lib.hid hbv3
  clear hX
  have GW3 : Hid (Grow _ v3) := Lib.hid (GW.out.trans hbv3)
  obtain ⟨k0, k1, k2, k3, k4, k5, k6⟩ := cells7 (row_grow HR3.out GW3.out)
  have kf := row_free (row_grow HR3.out GW3.out)
  obtain ⟨m0, m1, m2, m3⟩ := cells4 (row_grow HR5.out GW3.out)
  clear hbv3
  go_wp2_with (first | (refine wpList_store_row rfl (.tmp 3) (.tmp 37) rfl rfl rfl (row_grow HR3.out GW3.out) info_hs rfl rfl ?_))
  intro v4 r4 g4
  have R3 := Lib.hid r4
  have BY4 := Lib.hid g4
  clear r4 g4
  have R5 : Hid (v4.heap[w.heap.size + 1]? = _) := Lib.hid (row_by (row_grow HR5.out GW3.out) BY4.out (by simp))
  have R6 : Hid (v4.heap[w.heap.size + 1 + 1]? = _) := Lib.hid (row_by (row_grow HR6.out GW3.out) BY4.out (by simp; omega))
  clear k0 k1 k2 k3 k4 k5 k6 kf m0 m1 m2 m3
  have HG4 : Hid (Grow w v4) := Lib.hid ((GV.out.trans HG3.out).grown BY4.out (fun k hk => by simp at hk; omega))
  obtain ⟨k0, k1, k2, k3, k4, k5, k6⟩ := cells7 R3.out
  obtain ⟨m0, m1, m2, m3⟩ := cells4 R5.out
  go_wp2_with fail
  have hS : v4.cell? ⟨w.heap.size, 0, none⟩ = some (.slice al2 x.log.length cl2) ∧ v4.cell? ⟨w.heap.size, 1, none⟩ = some (.int .i64 x.sums.a) ∧ v4.cell? ⟨w.heap.size, 2, none⟩ = some (.int .i64 x.sums.b) ∧ v4.cell? ⟨w.heap.size, 3, none⟩ = some (.int .i64 x.sums.c) ∧ v4.cell? ⟨w.heap.size, 4, none⟩ = some (.int .i64 x.sums.d) ∧ v4.cell? ⟨w.heap.size, 5, none⟩ = some (.slice ar2 x.ready.length cr2) ∧ v4.cell? ⟨w.heap.size, 6, none⟩ = some (.slice ad2 x.done.length cd2) ∧ v4.cell? ⟨w.heap.size + 1, 1, none⟩ = some (.int .i64 dd) := by refine ⟨?_, ?_, ?_, ?_, ?_, ?_, ?_, ?_⟩ <;> go_simp
  have HGW : Hid (Grow w v4) := Lib.hid HG4.out
  have R6 : Hid (v4.heap[w.heap.size + 1 + 1]? = some (.cells #[.slice none 0 0, .int .i64 0, .int .i64 0, .int .i64 0, .int .i64 0, .slice none 0 0, .slice none 0 0] 29 (0, 0))) := Lib.hid R6.out
  have hz0 : w.heap.size + 1 + 1 < v4.heap.size := (Array.getElem?_eq_some_iff.1 R6.out).1
  obtain ⟨s0, s1, s2, s3, s4, s5, s6, s7⟩ := hS
  have HS : Hid (∀ W, v4.grownBy W (some (w.heap.size + 1 + 1)) → W.cell? ⟨w.heap.size, 0, none⟩ = some (.slice al2 x.log.length cl2) ∧ W.cell? ⟨w.heap.size, 1, none⟩ = some (.int .i64 x.sums.a) ∧ W.cell? ⟨w.heap.size, 2, none⟩ = some (.int .i64 x.sums.b) ∧ W.cell? ⟨w.heap.size, 3, none⟩ = some (.int .i64 x.sums.c) ∧ W.cell? ⟨w.heap.size, 4, none⟩ = some (.int .i64 x.sums.d) ∧ W.cell? ⟨w.heap.size, 5, none⟩ = some (.slice ar2 x.ready.length cr2) ∧ W.cell? ⟨w.heap.size, 6, none⟩ = some (.slice ad2 x.done.length cd2) ∧ W.cell? ⟨w.heap.size + 1, 1, none⟩ = some (.int .i64 dd)) := fun W hW => by
    have k : ∀ (b o : Nat) (u : Value), b < w.heap.size + 1 + 1 → v4.cell? ⟨b, o, none⟩ = some u → W.cell? ⟨b, o, none⟩ = some u := fun b o u hb e => by
      rw [by_cell hW (World.block_lt_of_cell? v4 _ e) (by simp; omega)]; exact e
    exact ⟨k _ _ _ (by omega) s0, k _ _ _ (by omega) s1, k _ _ _ (by omega) s2, k _ _ _ (by omega) s3, k _ _ _ (by omega) s4, k _ _ _ (by omega) s5, k _ _ _ (by omega) s6, k _ _ _ (by omega) s7⟩
  clear s0 s1 s2 s3 s4 s5 s6 s7
  refine but_start (fun w' => w'.cell? ⟨w.heap.size, 0, none⟩ = some (.slice al2 x.log.length cl2) ∧ w'.cell? ⟨w.heap.size, 1, none⟩ = some (.int .i64 x.sums.a) ∧ w'.cell? ⟨w.heap.size, 2, none⟩ = some (.int .i64 x.sums.b) ∧ w'.cell? ⟨w.heap.size, 3, none⟩ = some (.int .i64 x.sums.c) ∧ w'.cell? ⟨w.heap.size, 4, none⟩ = some (.int .i64 x.sums.d) ∧ w'.cell? ⟨w.heap.size, 5, none⟩ = some (.slice ar2 x.ready.length cr2) ∧ w'.cell? ⟨w.heap.size, 6, none⟩ = some (.slice ad2 x.done.length cd2) ∧ w'.cell? ⟨w.heap.size + 1, 1, none⟩ = some (.int .i64 dd)) 8 (by kernel_rfl) ?_
  obtain ⟨wd, hWd⟩ : ∃ x : World, x = v4.drew := ⟨_, rfl⟩
  rw [← hWd]
  have GD : Grow v4 wd := by rw [hWd]; exact (Grow.refl _).drew
  have zD : v4.heap.size = wd.heap.size := by rw [hWd]; rfl
  have ZD := Lib.hid zD
  clear hWd zD
  have hzd : w.heap.size + 1 + 1 < wd.heap.size := by have := ZD.out; omega
  have hzw : w.heap.size ≤ wd.heap.size := by have := hzd; omega
  have FIN : Hid (∀ (Wf : World) (q : Nat), w.heap.size ≤ q → (∀ a : Addr, a.block < wd.heap.size → a.block ≠ w.heap.size + 1 + 1 → Wf.cell? a = wd.cell? a) → At Wf.cell? q 0 (#[.int .i64 2, .int .i64 dd, .int .i64 me, .slice none 0 0] : Array Value).toList → Grow w Wf → ∃ v1 v2, Ending.returned (.tuple #[.agg #[.slice al2 x.log.length cl2, .int .i64 x.sums.a, .int .i64 x.sums.b, .int .i64 x.sums.c, .int .i64 x.sums.d, .slice ar2 x.ready.length cr2, .slice ad2 x.done.length cd2], .slice (some ⟨q, 0, none⟩) 1 1]) = .returned (.tuple #[v1, v2]) ∧ Of Ty.hs (ov c w Wf) v1 (hearH h ⟨1, dd, hh, ps⟩) ∧ Sl Ty.ms (ov c w Wf) v2 (hearM h me ⟨1, dd, hh, ps⟩) ∧ Grow w Wf) := by
    intro Wf q hq hA hAt hGf
    refine ⟨_, _, rfl, ?_, ?_, hGf⟩
    · rw [HEH.out]
      exact HX.out.mono (ov_boxes (k := 3) GV.out HG3.out (by have := ZV.out; omega) fun a u ha e => by
        rw [hA a (by have h1 := World.block_lt_of_cell? v3 a e; have h2 := BY4.out.size; have h3 := ZD.out; omega) (by omega), (World.cell?_of_block (show wd.heap[a.block]? = v4.heap[a.block]? from (GD.block _ (by have h1 := World.block_lt_of_cell? v3 a e; have h2 := BY4.out.size; omega)))), by_cell BY4.out (World.block_lt_of_cell? v3 a e) (by omega)]
        exact e)
    · rw [HEM.out]
      exact sl_one (T := Ty.ms) ⟨_, rfl, (show I64 2 from by unfold I64; decide), HMS.out.2.2.1, HME.out, Sl.nil _ _⟩ (at_ov hAt hq) (by decide) (by decide)
  refine but_take (i := 0) (v := ?_) 8 rfl (by kernel_rfl) (by kernel_rfl) (by kernel_rfl) (by kernel_rfl) (by kernel_rfl) (fun _ _ _ h => h) (HS.out _ (grownBy_of_grow GD _)) (Or.inl ⟨by rfl, ?_⟩) ?_
  rotate_left
  · (intro w' hSw; (try dsimp only at hSw); obtain ⟨hs0, hs1, hs2, hs3, hs4, hs5, hs6, hs7⟩ := hSw; go_simp <;> with_reducible rfl)
  try simp only [Act.put, List.getElem_toArray, List.getElem_cons_succ, List.getElem_cons_zero, List.setIfInBounds_toArray, List.set_cons_zero, List.set_cons_succ]
  refine but_take (i := 1) (v := ?_) 8 rfl (by kernel_rfl) (by kernel_rfl) (by kernel_rfl) (by kernel_rfl) (by kernel_rfl) (fun _ _ _ h => h) (HS.out _ (grownBy_of_grow GD _)) (Or.inl ⟨by rfl, ?_⟩) ?_
  rotate_left
  · (intro w' hSw; (try dsimp only at hSw); obtain ⟨hs0, hs1, hs2, hs3, hs4, hs5, hs6, hs7⟩ := hSw; go_simp <;> with_reducible rfl)
  try simp only [Act.put, List.getElem_toArray, List.getElem_cons_succ, List.getElem_cons_zero, List.setIfInBounds_toArray, List.set_cons_zero, List.set_cons_succ]
  refine but_take (i := 2) (v := ?_) 8 rfl (by kernel_rfl) (by kernel_rfl) (by kernel_rfl) (by kernel_rfl) (by kernel_rfl) (fun _ _ _ h => h) (HS.out _ (grownBy_of_grow GD _)) (Or.inl ⟨by rfl, ?_⟩) ?_
  rotate_left
  · (intro w' hSw; (try dsimp only at hSw); obtain ⟨hs0, hs1, hs2, hs3, hs4, hs5, hs6, hs7⟩ := hSw; go_simp <;> with_reducible rfl)
  try simp only [Act.put, List.getElem_toArray, List.getElem_cons_succ, List.getElem_cons_zero, List.setIfInBounds_toArray, List.set_cons_zero, List.set_cons_succ]
  refine but_take (i := 3) (v := ?_) 8 rfl (by kernel_rfl) (by kernel_rfl) (by kernel_rfl) (by kernel_rfl) (by kernel_rfl) (fun _ _ _ h => h) (HS.out _ (grownBy_of_grow GD _)) (Or.inl ⟨by rfl, ?_⟩) ?_
  rotate_left
  · (intro w' hSw; (try dsimp only at hSw); obtain ⟨hs0, hs1, hs2, hs3, hs4, hs5, hs6, hs7⟩ := hSw; go_simp <;> with_reducible rfl)
  try simp only [Act.put, List.getElem_toArray, List.getElem_cons_succ, List.getElem_cons_zero, List.setIfInBounds_toArray, List.set_cons_zero, List.set_cons_succ]
  refine but_take (i := 4) (v := ?_) 8 rfl (by kernel_rfl) (by kernel_rfl) (by kernel_rfl) (by kernel_rfl) (by kernel_rfl) (fun _ _ _ h => h) (HS.out _ (grownBy_of_grow GD _)) (Or.inl ⟨by rfl, ?_⟩) ?_
  rotate_left
  · (intro w' hSw; (try dsimp only at hSw); obtain ⟨hs0, hs1, hs2, hs3, hs4, hs5, hs6, hs7⟩ := hSw; go_simp <;> with_reducible rfl)
  try simp only [Act.put, List.getElem_toArray, List.getElem_cons_succ, List.getElem_cons_zero, List.setIfInBounds_toArray, List.set_cons_zero, List.set_cons_succ]
  refine but_take (i := 5) (v := ?_) 8 rfl (by kernel_rfl) (by kernel_rfl) (by kernel_rfl) (by kernel_rfl) (by kernel_rfl) (fun _ _ _ h => h) (HS.out _ (grownBy_of_grow GD _)) (Or.inl ⟨by rfl, ?_⟩) ?_
  rotate_left
  · (intro w' hSw; (try dsimp only at hSw); obtain ⟨hs0, hs1, hs2, hs3, hs4, hs5, hs6, hs7⟩ := hSw; go_simp <;> with_reducible rfl)
  try simp only [Act.put, List.getElem_toArray, List.getElem_cons_succ, List.getElem_cons_zero, List.setIfInBounds_toArray, List.set_cons_zero, List.set_cons_succ]
  refine but_two (i := 6) (j := 7) (by kernel_rfl) rfl rfl ?_ ?_
  · skip
    intro K HK'
    have HK := Lib.hid HK'
    clear HK'
    skip
    try simp only [List.getElem_toArray, List.getElem_cons_succ, List.getElem_cons_zero]
    go_simp
    refine HK.out _ _ ⟨fun _ => HS.out _ (grownBy_trans (grownBy_of_grow GD _) (grownBy_of_grow ((Grow.refl _).alloc _) _)), ?_⟩
    clear HK K
    try simp only [Act.put, List.getElem_toArray, List.getElem_cons_succ, List.getElem_cons_zero, List.setIfInBounds_toArray, List.set_cons_zero, List.set_cons_succ]
    refine but_one (i := 7) (by kernel_rfl) rfl ?_
    intro K HK'
    have HK := Lib.hid HK'
    clear HK'
    refine wanted_go rfl ?_
    try simp only [List.getElem_toArray, List.getElem_cons_succ, List.getElem_cons_zero]
    refine wp_store_row (.tmp 6) (.tmp 67) rfl rfl rfl (row_grow R6.out (GD.alloc _)) info_hs rfl rfl ?_
    intro w7 r7 g7
    refine HK.out _ _ ⟨fun _ => HS.out _ (grownBy_trans (grownBy_trans (grownBy_of_grow GD _) (grownBy_of_grow ((Grow.refl _).alloc _) _)) g7), ?_⟩
    clear HK K
    try simp only [Act.put, List.getElem_toArray, List.getElem_cons_succ, List.getElem_cons_zero, List.setIfInBounds_toArray, List.set_cons_zero, List.set_cons_succ]
    refine but_one (i := 8) (by kernel_rfl) rfl ?_
    intro K HK'
    have HK := Lib.hid HK'
    clear HK'
    skip
    try simp only [List.getElem_toArray, List.getElem_cons_succ, List.getElem_cons_zero]
    go_simp
    refine HK.out _ _ ⟨fun h => absurd rfl h, ?_⟩
    clear HK K
    try simp only [Act.put, List.getElem_toArray, List.getElem_cons_succ, List.getElem_cons_zero, List.setIfInBounds_toArray, List.set_cons_zero, List.set_cons_succ]
    refine but_done (by kernel_rfl) ?_
    obtain ⟨p0, p1, p2, p3, p4, p5, p6⟩ := cells7 r7
    go_wp2
    refine bodyPost_ret (v := .tuple #[.agg #[.slice al2 x.log.length cl2, .int .i64 x.sums.a, .int .i64 x.sums.b, .int .i64 x.sums.c, .int .i64 x.sums.d, .slice ar2 x.ready.length cr2, .slice ad2 x.done.length cd2], .slice (some ⟨wd.heap.size, 0, none⟩) 1 1]) (by simp [results, Try.results35, go_sem, p0, p1, p2, p3, p4, p5, p6]) rfl ?_
    refine FIN.out _ wd.heap.size hzw (fun a h1 h2 => (by_cell g7 (by simp; omega) h2).trans (((Grow.refl wd).alloc _).cell h1)) (fun j u e => (by_cell g7 (by simp) (by simp; omega)).trans (at_new wd _ _ j u e)) ?_
    exact (HGW.out.trans (GD.alloc _)).grown g7 (fun k hk => by simp at hk; omega)
  · skip
    intro K HK'
    have HK := Lib.hid HK'
    clear HK'
    refine wanted_go rfl ?_
    try simp only [List.getElem_toArray, List.getElem_cons_succ, List.getElem_cons_zero]
    refine wp_store_row (.tmp 6) (.tmp 67) rfl rfl rfl (row_grow R6.out GD) info_hs rfl rfl ?_
    intro w7 r7 g7
    refine HK.out _ _ ⟨fun _ => HS.out _ (grownBy_trans (grownBy_of_grow GD _) g7), ?_⟩
    clear HK K
    try simp only [Act.put, List.getElem_toArray, List.getElem_cons_succ, List.getElem_cons_zero, List.setIfInBounds_toArray, List.set_cons_zero, List.set_cons_succ]
    refine but_one (i := 6) (by kernel_rfl) rfl ?_
    intro K HK'
    have HK := Lib.hid HK'
    clear HK'
    skip
    try simp only [List.getElem_toArray, List.getElem_cons_succ, List.getElem_cons_zero]
    go_simp
    refine HK.out _ _ ⟨fun _ => HS.out _ (grownBy_trans (grownBy_trans (grownBy_of_grow GD _) g7) (grownBy_of_grow ((Grow.refl _).alloc _) _)), ?_⟩
    clear HK K
    try simp only [Act.put, List.getElem_toArray, List.getElem_cons_succ, List.getElem_cons_zero, List.setIfInBounds_toArray, List.set_cons_zero, List.set_cons_succ]
    refine but_one (i := 8) (by kernel_rfl) rfl ?_
    intro K HK'
    have HK := Lib.hid HK'
    clear HK'
    skip
    try simp only [List.getElem_toArray, List.getElem_cons_succ, List.getElem_cons_zero]
    go_simp
    refine HK.out _ _ ⟨fun h => absurd rfl h, ?_⟩
    clear HK K
    try simp only [Act.put, List.getElem_toArray, List.getElem_cons_succ, List.getElem_cons_zero, List.setIfInBounds_toArray, List.set_cons_zero, List.set_cons_succ]
    refine but_done (by kernel_rfl) ?_
    obtain ⟨p0, p1, p2, p3, p4, p5, p6⟩ := cells7 (heap_later r7 (.cells #[.int .i64 2, .int .i64 dd, .int .i64 me, .slice none 0 0] 39))
    go_wp2
    refine bodyPost_ret (v := .tuple #[.agg #[.slice al2 x.log.length cl2, .int .i64 x.sums.a, .int .i64 x.sums.b, .int .i64 x.sums.c, .int .i64 x.sums.d, .slice ar2 x.ready.length cr2, .slice ad2 x.done.length cd2], .slice (some ⟨w7.heap.size, 0, none⟩) 1 1]) (by simp [results, Try.results35, go_sem, p0, p1, p2, p3, p4, p5, p6]) rfl ?_
    refine FIN.out _ w7.heap.size (Nat.le_trans hzw g7.size) (fun a h1 h2 => (((Grow.refl w7).alloc _).cell (Nat.lt_of_lt_of_le h1 g7.size)).trans (by_cell g7 h1 h2)) (at_new w7 _ _) ?_
    exact ((HGW.out.trans GD).grown g7 (fun k hk => by simp at hk; omega)).alloc _
end Go.Proofs.Ytgbhpghgohggcaa
