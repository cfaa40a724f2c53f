/- Walks: Hear of the document's answer: whoever is asked (4N). -/
import Derived.Test.YtgbhpghgohggcaaN5
namespace Go.Proofs.Ytgbhpghgohggcaa
open Go.RowKit
set_option maxRecDepth 100000 in
set_option maxHeartbeats 1000000 in
theorem hear_com4N {c : CM} {v vm : Value} {h : Hs} {dd hh me : Int} {ps : List Pt} (w : World) (hc : Sub c w.cell?) (hv : Of Ty.hs c v h) (hm : Of Ty.ms c vm ⟨4, dd, hh, ps⟩) (hk : ∀ x ∈ h.log, KeysOk x.parts) (hkm : KeysOk ps) (hn : (h.log.length + 1) * 40 ≤ 140737488355328) (hme : I64 me) (rd : readyE h.ready dd = false) (hin : dd ∉ h.done) :
    Calls Try.prog 35 #[v, .int .i64 me, vm] w fun e w' => ∃ v1 v2, e = .returned (.tuple #[v1, v2]) ∧ Of Ty.hs (ov c w w') v1 (hearH h ⟨4, dd, hh, ps⟩) ∧ Sl Ty.ms (ov c w w') v2 (hearM h me ⟨4, dd, hh, ps⟩) ∧ Grow w w' := by
  obtain ⟨al, cl, ar, cr, ad, cd, rfl⟩ := hv.hs_form
  obtain ⟨ap, cp, rfl⟩ : ∃ ap cp, vm = .agg #[.int .i64 4, .int .i64 dd, .int .i64 hh, .slice ap ps.length cp] := hm.ms_form
  have hms : Sl Ty.pt c (.slice ap ps.length cp) ps ∧ I64 4 ∧ I64 dd ∧ I64 hh := Of.ms_parts hm
  have HMS := Lib.hid hms
  have HV0 := Lib.hid hv
  have HC := Lib.hid hc
  have HK0 := Lib.hid hk
  have HKM := Lib.hid hkm
  have HN := Lib.hid hn
  have HME := Lib.hid hme
  have HVO := Lib.hid (fun (W : World) (hW : Grow w W) => ref_vote (d := dd) W (hv.mono (hc.trans hW.sub)) (hms.1.mono (hc.trans hW.sub)) hkm)
  have HRD := Lib.hid (fun (W : World) (hW : Grow w W) => ref_ready (d := dd) W (hv.mono (hc.trans hW.sub)))
  have HIN := Lib.hid (fun (W : World) (hW : Grow w W) => ref_in (n := dd) W ((Of.hs_log hv).2.2.mono (hc.trans hW.sub)))
  have HG0 : Hid (Grow w (((w.alloc (.cells #[.slice al h.log.length cl, .int .i64 h.sums.a, .int .i64 h.sums.b, .int .i64 h.sums.c, .int .i64 h.sums.d, .slice ar h.ready.length cr, .slice ad h.done.length cd] 29)).alloc (.cells #[.int .i64 4, .int .i64 dd, .int .i64 hh, .slice ap ps.length cp] 39)).alloc (.cells #[.slice none 0 0, .int .i64 0, .int .i64 0, .int .i64 0, .int .i64 0, .slice none 0 0, .slice none 0 0] 29))) := Lib.hid ((((Grow.refl w).alloc _).alloc _).alloc _)
  have HR3 : Hid ((((w.alloc (.cells #[.slice al h.log.length cl, .int .i64 h.sums.a, .int .i64 h.sums.b, .int .i64 h.sums.c, .int .i64 h.sums.d, .slice ar h.ready.length cr, .slice ad h.done.length cd] 29)).alloc (.cells #[.int .i64 4, .int .i64 dd, .int .i64 hh, .slice ap ps.length cp] 39)).alloc (.cells #[.slice none 0 0, .int .i64 0, .int .i64 0, .int .i64 0, .int .i64 0, .slice none 0 0, .slice none 0 0] 29)).heap[w.heap.size]? = some (.cells #[.slice al h.log.length cl, .int .i64 h.sums.a, .int .i64 h.sums.b, .int .i64 h.sums.c, .int .i64 h.sums.d, .slice ar h.ready.length cr, .slice ad h.done.length cd] 29 (0, 0))) := Lib.hid (heap_later (heap_later (row_new _ _) _) _)
  have HR5 : Hid ((((w.alloc (.cells #[.slice al h.log.length cl, .int .i64 h.sums.a, .int .i64 h.sums.b, .int .i64 h.sums.c, .int .i64 h.sums.d, .slice ar h.ready.length cr, .slice ad h.done.length cd] 29)).alloc (.cells #[.int .i64 4, .int .i64 dd, .int .i64 hh, .slice ap ps.length cp] 39)).alloc (.cells #[.slice none 0 0, .int .i64 0, .int .i64 0, .int .i64 0, .int .i64 0, .slice none 0 0, .slice none 0 0] 29)).heap[w.heap.size + 1]? = some (.cells #[.int .i64 4, .int .i64 dd, .int .i64 hh, .slice ap ps.length cp] 39 (0, 0))) := Lib.hid (heap_later (by simpa using row_new (w.alloc (.cells #[.slice al h.log.length cl, .int .i64 h.sums.a, .int .i64 h.sums.b, .int .i64 h.sums.c, .int .i64 h.sums.d, .slice ar h.ready.length cr, .slice ad h.done.length cd] 29)) _) _)
  have HR6 : Hid ((((w.alloc (.cells #[.slice al h.log.length cl, .int .i64 h.sums.a, .int .i64 h.sums.b, .int .i64 h.sums.c, .int .i64 h.sums.d, .slice ar h.ready.length cr, .slice ad h.done.length cd] 29)).alloc (.cells #[.int .i64 4, .int .i64 dd, .int .i64 hh, .slice ap ps.length cp] 39)).alloc (.cells #[.slice none 0 0, .int .i64 0, .int .i64 0, .int .i64 0, .int .i64 0, .slice none 0 0, .slice none 0 0] 29)).heap[w.heap.size + 1 + 1]? = some (.cells #[.slice none 0 0, .int .i64 0, .int .i64 0, .int .i64 0, .int .i64 0, .slice none 0 0, .slice none 0 0] 29 (0, 0))) := Lib.hid (by simpa using row_new ((w.alloc (.cells #[.slice al h.log.length cl, .int .i64 h.sums.a, .int .i64 h.sums.b, .int .i64 h.sums.c, .int .i64 h.sums.d, .slice ar h.ready.length cr, .slice ad h.done.length cd] 29)).alloc (.cells #[.int .i64 4, .int .i64 dd, .int .i64 hh, .slice ap ps.length cp] 39)) _)
  clear hv hm hc hk hkm hn hme hms
  have HEH : Hid (hearH h ⟨4, dd, hh, ps⟩ = h) := by
    show hearH h ⟨4, dd, hh, ps⟩ = h
    unfold hearH
    rw [if_neg (fun e => by cases e), if_pos rfl, if_neg (by rw [show readyE h.ready (Ms.deed ⟨4, dd, hh, ps⟩) = false from rd]; simp)]
  have HEM : Hid (hearM h me ⟨4, dd, hh, ps⟩ = []) := by
    show hearM h me ⟨4, dd, hh, ps⟩ = []
    unfold hearM
    rw [if_neg (fun e => by cases e), if_pos rfl, HEH.out, if_neg hin]
  have HIN2 := Lib.hid hin
  clear hin
  have RD := Lib.hid rd
  clear rd
  go_enter Try.func35, Try.ntmps35
  go_wp2_with fail
  refine (HRD.out _ HG0.out).mono ?_
  rw [RD.out]
  rintro e v1 ⟨rfl, hbv1⟩
  (obtain ⟨cv1, fv1⟩ := bcell hbv1; have zv10 : w.heap.size < v1.heap.size := (by have := hbv1.size; (try simp at this); omega); have zv11 : w.heap.size + 1 < v1.heap.size := (by have := hbv1.size; (try simp at this); omega); have zv12 : w.heap.size + 1 + 1 < v1.heap.size := (by have := hbv1.size; (try simp at this); omega); have Gv1 := Lib.hid hbv1; clear hbv1)
  go_wp2_with fail
  refine (HIN.out _ (HG0.out.trans Gv1.out)).mono ?_
  rw [decide_eq_false HIN2.out]
  rintro e v2 ⟨rfl, hbv2⟩
  (obtain ⟨cv2, fv2⟩ := bcell hbv2; have zv20 : w.heap.size < v2.heap.size := (by have := hbv2.size; (try simp at this); omega); have zv21 : w.heap.size + 1 < v2.heap.size := (by have := hbv2.size; (try simp at this); omega); have zv22 : w.heap.size + 1 + 1 < v2.heap.size := (by have := hbv2.size; (try simp at this); omega); have Gv2 := Lib.hid hbv2; clear hbv2)
  have R6 := row_grow HR6.out (Gv1.out.trans Gv2.out)
  obtain ⟨p0, p1, p2, p3, p4, p5, p6⟩ := cells7 R6
  have pf := row_free R6
  obtain ⟨s0, s1, s2, s3, s4, s5, s6, s7⟩ : v2.cell? ⟨w.heap.size, 0, none⟩ = some (.slice al h.log.length cl) ∧ v2.cell? ⟨w.heap.size, 1, none⟩ = some (.int .i64 h.sums.a) ∧ v2.cell? ⟨w.heap.size, 2, none⟩ = some (.int .i64 h.sums.b) ∧ v2.cell? ⟨w.heap.size, 3, none⟩ = some (.int .i64 h.sums.c) ∧ v2.cell? ⟨w.heap.size, 4, none⟩ = some (.int .i64 h.sums.d) ∧ v2.cell? ⟨w.heap.size, 5, none⟩ = some (.slice ar h.ready.length cr) ∧ v2.cell? ⟨w.heap.size, 6, none⟩ = some (.slice ad h.done.length cd) ∧ v2.cell? ⟨w.heap.size + 1, 1, none⟩ = some (.int .i64 dd) := by refine ⟨?_, ?_, ?_, ?_, ?_, ?_, ?_, ?_⟩ <;> go_simp
  clear R6
  go_wp2
  refine bodyPost_ret (v := .tuple #[.agg #[.slice al h.log.length cl, .int .i64 h.sums.a, .int .i64 h.sums.b, .int .i64 h.sums.c, .int .i64 h.sums.d, .slice ar h.ready.length cr, .slice ad h.done.length cd], .slice none 0 0]) (by simp [results, Try.results35, go_sem, p0, p1, p2, p3, p4, p5, p6, pf]) rfl ?_
  rw [HEH.out, HEM.out]
  refine ⟨_, _, rfl, ?_, Sl.nil _ _, ?_⟩
  · exact HV0.out.mono (ov_in HC.out)
  · (repeat (with_reducible refine Grow.setCell ?_ (by first | (simp; done) | (simp; omega) | omega) _))
    exact (HG0.out.trans Gv1.out).trans Gv2.out
end Go.Proofs.Ytgbhpghgohggcaa
