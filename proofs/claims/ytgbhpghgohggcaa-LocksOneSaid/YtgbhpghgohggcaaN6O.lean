/- Walks: Hear of the document's answer: whoever is asked (O). -/
import Derived.Test.YtgbhpghgohggcaaN5
namespace Go.Proofs.Ytgbhpghgohggcaa
open Go.RowKit
set_option maxRecDepth 100000 in
set_option maxHeartbeats 1000000 in
theorem hear_oth {c : CM} {v vm : Value} {h : Hs} {kd dd hh me : Int} {ps : List Pt} (w : World) (hc : Sub c w.cell?) (hv : Of Ty.hs c v h) (hm : Of Ty.ms c vm ⟨kd, dd, hh, ps⟩) (hk : ∀ x ∈ h.log, KeysOk x.parts) (hkm : KeysOk ps) (hn : (h.log.length + 1) * 40 ≤ 140737488355328) (hme : I64 me) (n1 : ¬ kd = 1) (n4 : ¬ kd = 4) (n5 : ¬ kd = 5) :
    Calls Try.prog 35 #[v, .int .i64 me, vm] w fun e w' => ∃ v1 v2, e = .returned (.tuple #[v1, v2]) ∧ Of Ty.hs (ov c w w') v1 (hearH h ⟨kd, dd, hh, ps⟩) ∧ Sl Ty.ms (ov c w w') v2 (hearM h me ⟨kd, dd, hh, ps⟩) ∧ Grow w w' := by
  obtain ⟨al, cl, ar, cr, ad, cd, rfl⟩ := hv.hs_form
  obtain ⟨ap, cp, rfl⟩ : ∃ ap cp, vm = .agg #[.int .i64 kd, .int .i64 dd, .int .i64 hh, .slice ap ps.length cp] := hm.ms_form
  have hms : Sl Ty.pt c (.slice ap ps.length cp) ps ∧ I64 kd ∧ I64 dd ∧ I64 hh := Of.ms_parts hm
  have HMS := Lib.hid hms
  have HV0 := Lib.hid hv
  have HC := Lib.hid hc
  have HK0 := Lib.hid hk
  have HKM := Lib.hid hkm
  have HN := Lib.hid hn
  have HME := Lib.hid hme
  have HVO := Lib.hid (fun (W : World) (hW : Grow w W) => ref_vote (d := dd) W (hv.mono (hc.trans hW.sub)) (hms.1.mono (hc.trans hW.sub)) hkm)
  have HRD := Lib.hid (fun (W : World) (hW : Grow w W) => ref_ready (d := dd) W (hv.mono (hc.trans hW.sub)))
  have HIN := Lib.hid (fun (W : World) (hW : Grow w W) => ref_in (n := dd) W ((Of.hs_log hv).2.2.mono (hc.trans hW.sub)))
  have HG0 : Hid (Grow w (((w.alloc (.cells #[.slice al h.log.length cl, .int .i64 h.sums.a, .int .i64 h.sums.b, .int .i64 h.sums.c, .int .i64 h.sums.d, .slice ar h.ready.length cr, .slice ad h.done.length cd] 29)).alloc (.cells #[.int .i64 kd, .int .i64 dd, .int .i64 hh, .slice ap ps.length cp] 39)).alloc (.cells #[.slice none 0 0, .int .i64 0, .int .i64 0, .int .i64 0, .int .i64 0, .slice none 0 0, .slice none 0 0] 29))) := Lib.hid ((((Grow.refl w).alloc _).alloc _).alloc _)
  have HR3 : Hid ((((w.alloc (.cells #[.slice al h.log.length cl, .int .i64 h.sums.a, .int .i64 h.sums.b, .int .i64 h.sums.c, .int .i64 h.sums.d, .slice ar h.ready.length cr, .slice ad h.done.length cd] 29)).alloc (.cells #[.int .i64 kd, .int .i64 dd, .int .i64 hh, .slice ap ps.length cp] 39)).alloc (.cells #[.slice none 0 0, .int .i64 0, .int .i64 0, .int .i64 0, .int .i64 0, .slice none 0 0, .slice none 0 0] 29)).heap[w.heap.size]? = some (.cells #[.slice al h.log.length cl, .int .i64 h.sums.a, .int .i64 h.sums.b, .int .i64 h.sums.c, .int .i64 h.sums.d, .slice ar h.ready.length cr, .slice ad h.done.length cd] 29 (0, 0))) := Lib.hid (heap_later (heap_later (row_new _ _) _) _)
  have HR5 : Hid ((((w.alloc (.cells #[.slice al h.log.length cl, .int .i64 h.sums.a, .int .i64 h.sums.b, .int .i64 h.sums.c, .int .i64 h.sums.d, .slice ar h.ready.length cr, .slice ad h.done.length cd] 29)).alloc (.cells #[.int .i64 kd, .int .i64 dd, .int .i64 hh, .slice ap ps.length cp] 39)).alloc (.cells #[.slice none 0 0, .int .i64 0, .int .i64 0, .int .i64 0, .int .i64 0, .slice none 0 0, .slice none 0 0] 29)).heap[w.heap.size + 1]? = some (.cells #[.int .i64 kd, .int .i64 dd, .int .i64 hh, .slice ap ps.length cp] 39 (0, 0))) := Lib.hid (heap_later (by simpa using row_new (w.alloc (.cells #[.slice al h.log.length cl, .int .i64 h.sums.a, .int .i64 h.sums.b, .int .i64 h.sums.c, .int .i64 h.sums.d, .slice ar h.ready.length cr, .slice ad h.done.length cd] 29)) _) _)
  have HR6 : Hid ((((w.alloc (.cells #[.slice al h.log.length cl, .int .i64 h.sums.a, .int .i64 h.sums.b, .int .i64 h.sums.c, .int .i64 h.sums.d, .slice ar h.ready.length cr, .slice ad h.done.length cd] 29)).alloc (.cells #[.int .i64 kd, .int .i64 dd, .int .i64 hh, .slice ap ps.length cp] 39)).alloc (.cells #[.slice none 0 0, .int .i64 0, .int .i64 0, .int .i64 0, .int .i64 0, .slice none 0 0, .slice none 0 0] 29)).heap[w.heap.size + 1 + 1]? = some (.cells #[.slice none 0 0, .int .i64 0, .int .i64 0, .int .i64 0, .int .i64 0, .slice none 0 0, .slice none 0 0] 29 (0, 0))) := Lib.hid (by simpa using row_new ((w.alloc (.cells #[.slice al h.log.length cl, .int .i64 h.sums.a, .int .i64 h.sums.b, .int .i64 h.sums.c, .int .i64 h.sums.d, .slice ar h.ready.length cr, .slice ad h.done.length cd] 29)).alloc (.cells #[.int .i64 kd, .int .i64 dd, .int .i64 hh, .slice ap ps.length cp] 39)) _)
  clear hv hm hc hk hkm hn hme hms
  have HEH : Hid (hearH h ⟨kd, dd, hh, ps⟩ = h) := by
    show hearH h ⟨kd, dd, hh, ps⟩ = h
    unfold hearH
    rw [if_neg n1, if_neg n4, if_neg n5]
  have HEM : Hid (hearM h me ⟨kd, dd, hh, ps⟩ = []) := by
    show hearM h me ⟨kd, dd, hh, ps⟩ = []
    unfold hearM
    rw [if_neg n1, if_neg n4]
  have b1 : (kd == 1) = false := by simpa using n1
  have b4 : (kd == 4) = false := by simpa using n4
  have b5 : (kd == 5) = false := by simpa using n5
  clear n1 n4 n5
  go_enter Try.func35, Try.ntmps35
  go_wp2
  refine bodyPost_ret (v := .tuple #[.agg #[.slice al h.log.length cl, .int .i64 h.sums.a, .int .i64 h.sums.b, .int .i64 h.sums.c, .int .i64 h.sums.d, .slice ar h.ready.length cr, .slice ad h.done.length cd], .slice none 0 0]) (by simp [results, Try.results35, go_sem]) rfl ?_
  rw [HEH.out, HEM.out]
  refine ⟨_, _, rfl, ?_, Sl.nil _ _, ?_⟩
  · exact HV0.out.mono (ov_in HC.out)
  · (repeat (with_reducible refine Grow.setCell ?_ (by first | (simp; done) | (simp; omega) | omega) _))
    exact (((Grow.refl w).alloc _).alloc _).alloc _
end Go.Proofs.Ytgbhpghgohggcaa
