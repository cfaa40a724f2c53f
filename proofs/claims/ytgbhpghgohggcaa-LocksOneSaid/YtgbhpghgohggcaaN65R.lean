/- Walks: Hear of the document's answer: whoever is asked (5R). -/
import Derived.Test.YtgbhpghgohggcaaN5
namespace Go.Proofs.Ytgbhpghgohggcaa
open Go.RowKit
set_option maxRecDepth 100000 in
set_option maxHeartbeats 1000000 in
theorem hear_abo5R {c : CM} {v vm : Value} {h : Hs} {dd hh me : Int} {ps : List Pt} (w : World) (hc : Sub c w.cell?) (hv : Of Ty.hs c v h) (hm : Of Ty.ms c vm ⟨5, dd, hh, ps⟩) (hk : ∀ x ∈ h.log, KeysOk x.parts) (hkm : KeysOk ps) (hn : (h.log.length + 1) * 40 ≤ 140737488355328) (hme : I64 me) (rd : readyE h.ready dd = true) :
    Calls Try.prog 35 #[v, .int .i64 me, vm] w fun e w' => ∃ v1 v2, e = .returned (.tuple #[v1, v2]) ∧ Of Ty.hs (ov c w w') v1 (hearH h ⟨5, dd, hh, ps⟩) ∧ Sl Ty.ms (ov c w w') v2 (hearM h me ⟨5, dd, hh, ps⟩) ∧ Grow w w' := by
  obtain ⟨al, cl, ar, cr, ad, cd, rfl⟩ := hv.hs_form
  obtain ⟨ap, cp, rfl⟩ : ∃ ap cp, vm = .agg #[.int .i64 5, .int .i64 dd, .int .i64 hh, .slice ap ps.length cp] := hm.ms_form
  have hms : Sl Ty.pt c (.slice ap ps.length cp) ps ∧ I64 5 ∧ I64 dd ∧ I64 hh := Of.ms_parts hm
  have HMS := Lib.hid hms
  have HV0 := Lib.hid hv
  have HC := Lib.hid hc
  have HK0 := Lib.hid hk
  have HKM := Lib.hid hkm
  have HN := Lib.hid hn
  have HME := Lib.hid hme
  have HVO := Lib.hid (fun (W : World) (hW : Grow w W) => ref_vote (d := dd) W (hv.mono (hc.trans hW.sub)) (hms.1.mono (hc.trans hW.sub)) hkm)
  have HRD := Lib.hid (fun (W : World) (hW : Grow w W) => ref_ready (d := dd) W (hv.mono (hc.trans hW.sub)))
  have HIN := Lib.hid (fun (W : World) (hW : Grow w W) => ref_in (n := dd) W ((Of.hs_log hv).2.2.mono (hc.trans hW.sub)))
  have HG0 : Hid (Grow w (((w.alloc (.cells #[.slice al h.log.length cl, .int .i64 h.sums.a, .int .i64 h.sums.b, .int .i64 h.sums.c, .int .i64 h.sums.d, .slice ar h.ready.length cr, .slice ad h.done.length cd] 29)).alloc (.cells #[.int .i64 5, .int .i64 dd, .int .i64 hh, .slice ap ps.length cp] 39)).alloc (.cells #[.slice none 0 0, .int .i64 0, .int .i64 0, .int .i64 0, .int .i64 0, .slice none 0 0, .slice none 0 0] 29))) := Lib.hid ((((Grow.refl w).alloc _).alloc _).alloc _)
  have HR3 : Hid ((((w.alloc (.cells #[.slice al h.log.length cl, .int .i64 h.sums.a, .int .i64 h.sums.b, .int .i64 h.sums.c, .int .i64 h.sums.d, .slice ar h.ready.length cr, .slice ad h.done.length cd] 29)).alloc (.cells #[.int .i64 5, .int .i64 dd, .int .i64 hh, .slice ap ps.length cp] 39)).alloc (.cells #[.slice none 0 0, .int .i64 0, .int .i64 0, .int .i64 0, .int .i64 0, .slice none 0 0, .slice none 0 0] 29)).heap[w.heap.size]? = some (.cells #[.slice al h.log.length cl, .int .i64 h.sums.a, .int .i64 h.sums.b, .int .i64 h.sums.c, .int .i64 h.sums.d, .slice ar h.ready.length cr, .slice ad h.done.length cd] 29 (0, 0))) := Lib.hid (heap_later (heap_later (row_new _ _) _) _)
  have HR5 : Hid ((((w.alloc (.cells #[.slice al h.log.length cl, .int .i64 h.sums.a, .int .i64 h.sums.b, .int .i64 h.sums.c, .int .i64 h.sums.d, .slice ar h.ready.length cr, .slice ad h.done.length cd] 29)).alloc (.cells #[.int .i64 5, .int .i64 dd, .int .i64 hh, .slice ap ps.length cp] 39)).alloc (.cells #[.slice none 0 0, .int .i64 0, .int .i64 0, .int .i64 0, .int .i64 0, .slice none 0 0, .slice none 0 0] 29)).heap[w.heap.size + 1]? = some (.cells #[.int .i64 5, .int .i64 dd, .int .i64 hh, .slice ap ps.length cp] 39 (0, 0))) := Lib.hid (heap_later (by simpa using row_new (w.alloc (.cells #[.slice al h.log.length cl, .int .i64 h.sums.a, .int .i64 h.sums.b, .int .i64 h.sums.c, .int .i64 h.sums.d, .slice ar h.ready.length cr, .slice ad h.done.length cd] 29)) _) _)
  have HR6 : Hid ((((w.alloc (.cells #[.slice al h.log.length cl, .int .i64 h.sums.a, .int .i64 h.sums.b, .int .i64 h.sums.c, .int .i64 h.sums.d, .slice ar h.ready.length cr, .slice ad h.done.length cd] 29)).alloc (.cells #[.int .i64 5, .int .i64 dd, .int .i64 hh, .slice ap ps.length cp] 39)).alloc (.cells #[.slice none 0 0, .int .i64 0, .int .i64 0, .int .i64 0, .int .i64 0, .slice none 0 0, .slice none 0 0] 29)).heap[w.heap.size + 1 + 1]? = some (.cells #[.slice none 0 0, .int .i64 0, .int .i64 0, .int .i64 0, .int .i64 0, .slice none 0 0, .slice none 0 0] 29 (0, 0))) := Lib.hid (by simpa using row_new ((w.alloc (.cells #[.slice al h.log.length cl, .int .i64 h.sums.a, .int .i64 h.sums.b, .int .i64 h.sums.c, .int .i64 h.sums.d, .slice ar h.ready.length cr, .slice ad h.done.length cd] 29)).alloc (.cells #[.int .i64 5, .int .i64 dd, .int .i64 hh, .slice ap ps.length cp] 39)) _)
  clear hv hm hc hk hkm hn hme hms
  have HEH : Hid (hearH h ⟨5, dd, hh, ps⟩ = noteE h ⟨3, dd, []⟩) := by
    show hearH h ⟨5, dd, hh, ps⟩ = noteE h ⟨3, dd, []⟩
    unfold hearH
    rw [if_neg (fun e => by cases e), if_neg (fun e => by cases e), if_pos rfl, if_pos rd]
  have HEM : Hid (hearM h me ⟨5, dd, hh, ps⟩ = []) := by
    show hearM h me ⟨5, dd, hh, ps⟩ = []
    unfold hearM
    rw [if_neg (fun e => by cases e), if_neg (fun e => by cases e)]
  have RD := Lib.hid rd
  clear rd
  go_enter Try.func35, Try.ntmps35
  go_wp2_with fail
  refine (HRD.out _ HG0.out).mono ?_
  rw [RD.out]
  rintro e v1 ⟨rfl, hbv1⟩
  (obtain ⟨cv1, fv1⟩ := bcell hbv1; have zv10 : w.heap.size < v1.heap.size := (by have := hbv1.size; (try simp at this); omega); have zv11 : w.heap.size + 1 < v1.heap.size := (by have := hbv1.size; (try simp at this); omega); have zv12 : w.heap.size + 1 + 1 < v1.heap.size := (by have := hbv1.size; (try simp at this); omega); have Gv1 := Lib.hid hbv1; clear hbv1)
  have GV0 : Hid (Grow _ v1) := Lib.hid Gv1.out
  have hz : ∀ u, (zeroValue 3).run Try.prog u = .ok (.int .i64 0) u := fun u => by kernel_rfl
  have hmm := @run_makeMap Try.prog
  go_wp2_with (first | (refine wp_insert keyInt Try.underlying142 rfl _ _ _ rfl (MapIs.new (enc := encInt) _) 4 (.int .i64 2) rfl rfl rfl ?_))
  clear hmm
  intro m1 hM1 hm1
  have gm1 : Grow v1 m1 := ((Grow.refl _).alloc (.map #[] 0)).grown hm1 (fun k hk => by simp at hk; omega)
  have HM1 := Lib.hid hM1
  clear hM1 hm1
  go_wp2_with (first | (refine wp_insert keyInt Try.underlying142 rfl _ _ _ rfl HM1.out 5 (.int .i64 3) rfl rfl rfl ?_))
  intro m2 hM2 hm2
  have gm2 : Grow v1 m2 := gm1.grown hm2 (fun k hk => by simp at hk; omega)
  have HM2 := Lib.hid hM2
  clear hM2 hm2 gm1
  have GM2 := Lib.hid gm2
  have GW2 : Hid (Grow _ m2) := Lib.hid (GV0.out.trans gm2)
  obtain ⟨k0, k1, k2, k3, k4, k5, k6⟩ := cells7 (row_grow HR3.out GW2.out)
  obtain ⟨n0, n1, n2, n3⟩ := cells4 (row_grow HR5.out GW2.out)
  clear gm2
  go_wp2_with (first | (at_lookup; refine wp_lookup' keyInt Try.underlying142 hz rfl _ _ rfl HM2.out 5 (.int .i64 3) (by rfl) rfl rfl ?_))
  clear k0 k1 k2 k3 k4 k5 k6
  obtain ⟨k0, k1, k2, k3, k4, k5, k6⟩ := cells7 (row_grow HR3.out GW2.out)
  go_wp2_with fail
  have GW : Hid (Grow _ m2) := Lib.hid GW2.out
  have GV : Hid (Grow w m2) := Lib.hid (HG0.out.trans GW.out)
  have ZV : Hid (w.heap.size + 1 + 1 < m2.heap.size) := Lib.hid (Array.getElem?_eq_some_iff.1 (row_grow HR6.out GW.out)).1
  have hrr : Ty.rc.R (wk w.heap.size 3 (ov c w m2)) [.int .i64 (⟨3, dd, []⟩ : Rc).kind, .int .i64 dd, .slice none 0 0] ⟨3, dd, []⟩ := Ty.rc.mono (wk_in HC.out 3) (show Ty.rc.R c [.int .i64 3, .int .i64 dd, .slice none 0 0] ⟨3, dd, []⟩ from ⟨_, rfl, (show I64 3 from by unfold I64; decide), HMS.out.2.2.1, Sl.nil _ _⟩)
  refine (ref_note (c := wk w.heap.size 3 (ov c w m2)) (r := ⟨3, dd, []⟩) m2 (wk_ov HC.out GV.out 3) (HV0.out.mono (wk_in HC.out 3)) ⟨_, rfl, hrr⟩ HK0.out (by intro p hp; simp at hp) HN.out).mono ?_
  clear hrr
  generalize noteE h ⟨3, dd, []⟩ = x at *
  rintro e v3 ⟨vx, rfl, hX, hbv3⟩
  obtain ⟨al2, cl2, ar2, cr2, ad2, cd2, rfl⟩ := hX.hs_form
  have HX := Lib.hid hX
  have HG3 := Lib.hid hbv3
  clear hX
  have GW3 : Hid (Grow _ v3) := Lib.hid (GW.out.trans hbv3)
  obtain ⟨k0, k1, k2, k3, k4, k5, k6⟩ := cells7 (row_grow HR3.out GW3.out)
  have kf := row_free (row_grow HR3.out GW3.out)
  obtain ⟨m0, m1, m2, m3⟩ := cells4 (row_grow HR5.out GW3.out)
  clear hbv3
  go_wp2_with (first | (refine wpList_store_row rfl (.tmp 3) (.tmp 54) rfl rfl rfl (row_grow HR3.out GW3.out) info_hs rfl rfl ?_))
  intro v4 r4 g4
  have R3 := Lib.hid r4
  have BY4 := Lib.hid g4
  clear r4 g4
  have R5 : Hid (v4.heap[w.heap.size + 1]? = _) := Lib.hid (row_by (row_grow HR5.out GW3.out) BY4.out (by simp))
  have R6 : Hid (v4.heap[w.heap.size + 1 + 1]? = _) := Lib.hid (row_by (row_grow HR6.out GW3.out) BY4.out (by simp; omega))
  clear k0 k1 k2 k3 k4 k5 k6 kf m0 m1 m2 m3
  have HG4 : Hid (Grow w v4) := Lib.hid ((GV.out.trans HG3.out).grown BY4.out (fun k hk => by simp at hk; omega))
  obtain ⟨k0, k1, k2, k3, k4, k5, k6⟩ := cells7 R3.out
  obtain ⟨m0, m1, m2, m3⟩ := cells4 R5.out
  have R6b := R6.out
  skip
  obtain ⟨p0, p1, p2, p3, p4, p5, p6⟩ := cells7 R6b
  have pf := row_free R6b
  obtain ⟨s0, s1, s2, s3, s4, s5, s6, s7⟩ : v4.cell? ⟨w.heap.size, 0, none⟩ = some (.slice al2 x.log.length cl2) ∧ v4.cell? ⟨w.heap.size, 1, none⟩ = some (.int .i64 x.sums.a) ∧ v4.cell? ⟨w.heap.size, 2, none⟩ = some (.int .i64 x.sums.b) ∧ v4.cell? ⟨w.heap.size, 3, none⟩ = some (.int .i64 x.sums.c) ∧ v4.cell? ⟨w.heap.size, 4, none⟩ = some (.int .i64 x.sums.d) ∧ v4.cell? ⟨w.heap.size, 5, none⟩ = some (.slice ar2 x.ready.length cr2) ∧ v4.cell? ⟨w.heap.size, 6, none⟩ = some (.slice ad2 x.done.length cd2) ∧ v4.cell? ⟨w.heap.size + 1, 1, none⟩ = some (.int .i64 dd) := by refine ⟨?_, ?_, ?_, ?_, ?_, ?_, ?_, ?_⟩ <;> go_simp
  clear R6b
  go_wp2
  refine bodyPost_ret (v := .tuple #[.agg #[.slice al2 x.log.length cl2, .int .i64 x.sums.a, .int .i64 x.sums.b, .int .i64 x.sums.c, .int .i64 x.sums.d, .slice ar2 x.ready.length cr2, .slice ad2 x.done.length cd2], .slice none 0 0]) (by simp [results, Try.results35, go_sem, p0, p1, p2, p3, p4, p5, p6, pf]) rfl ?_
  rw [HEH.out, HEM.out]
  refine ⟨_, _, rfl, ?_, Sl.nil _ _, ?_⟩
  · refine HX.out.mono (ov_boxes (k := 3) GV.out HG3.out (by have := ZV.out; omega) fun a u ha e => ?_)
    have l1 := World.block_lt_of_cell? v3 a e
    have l2 := BY4.out.size
    have e4 : v4.cell? a = some u := by rw [by_cell BY4.out l1 (by omega)]; exact e
    exact (by_cell (by_set7 v4 (w.heap.size + 1 + 1) _ _ _ _ _ _ _) (show a.block < v4.heap.size by omega) (show a.block ≠ w.heap.size + 1 + 1 by omega)).trans e4
  · (repeat (with_reducible refine Grow.setCell ?_ (by first | (simp; done) | (simp; omega) | omega) _))
    exact HG4.out
end Go.Proofs.Ytgbhpghgohggcaa
