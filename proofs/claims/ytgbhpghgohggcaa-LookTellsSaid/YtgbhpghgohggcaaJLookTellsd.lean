/- The parts that LookTells is proved of, joined: N6R, N6N, N6F, N64R, N64D, N64N, N65R, N65N, N6O, N7, U21, U24. No condition beside those that each theorem names. -/
import Derived.Deep.DeepCutAuto
import Derived.Test.YtgbhpghgohggcaaJLookTellsc
namespace Go.Proofs.Ytgbhpghgohggcaa
open Go.RowKit
set_option maxRecDepth 100000 in
set_option maxHeartbeats 1000000 in
theorem hear_prepR {c : CM} {v vm : Value} {h : Hs} {dd hh me : Int} {ps : List Pt} (w : World) (hc : Sub c w.cell?) (hv : Of Ty.hs c v h) (hm : Of Ty.ms c vm ⟨1, dd, hh, ps⟩) (hk : ∀ x ∈ h.log, KeysOk x.parts) (hkm : KeysOk ps) (hn : (h.log.length + 1) * 40 ≤ 140737488355328) (hme : I64 me) (e0 : voteE h dd ps = 0) (rd : readyE h.ready dd = true) :
  Calls Try.prog 35 #[v, .int .i64 me, vm] w fun e w' => ∃ v1 v2, e = .returned (.tuple #[v1, v2]) ∧ Of Ty.hs (ov c w w') v1 (hearH h ⟨1, dd, hh, ps⟩) ∧ Sl Ty.ms (ov c w w') v2 (hearM h me ⟨1, dd, hh, ps⟩) ∧ Grow w w' := by
 obtain ⟨al, cl, ar, cr, ad, cd, rfl⟩ := hv.hs_form
 obtain ⟨ap, cp, rfl⟩ : ∃ ap cp, vm = .agg #[.int .i64 1, .int .i64 dd, .int .i64 hh, .slice ap ps.length cp] := hm.ms_form
 have hms : Sl Ty.pt c (.slice ap ps.length cp) ps ∧ I64 1 ∧ I64 dd ∧ I64 hh := Of.ms_parts hm
 have HMS := Lib.hid hms
 have HV0 := Lib.hid hv
 have HC := Lib.hid hc
 have HK0 := Lib.hid hk
 have HKM := Lib.hid hkm
 have HN := Lib.hid hn
 have HME := Lib.hid hme
 have HVO := Lib.hid (fun (W : World) (hW : Grow w W) => ref_vote (d := dd) W (hv.mono (hc.trans hW.sub)) (hms.1.mono (hc.trans hW.sub)) hkm)
 have HRD := Lib.hid (fun (W : World) (hW : Grow w W) => ref_ready (d := dd) W (hv.mono (hc.trans hW.sub)))
 have HIN := Lib.hid (fun (W : World) (hW : Grow w W) => ref_in (n := dd) W ((Of.hs_log hv).2.2.mono (hc.trans hW.sub)))
 have HG0 : Hid (Grow w (((w.alloc (.cells #[.slice al h.log.length cl, .int .i64 h.sums.a, .int .i64 h.sums.b, .int .i64 h.sums.c, .int .i64 h.sums.d, .slice ar h.ready.length cr, .slice ad h.done.length cd] 29)).alloc (.cells #[.int .i64 1, .int .i64 dd, .int .i64 hh, .slice ap ps.length cp] 39)).alloc (.cells #[.slice none 0 0, .int .i64 0, .int .i64 0, .int .i64 0, .int .i64 0, .slice none 0 0, .slice none 0 0] 29))) := Lib.hid ((((Grow.refl w).alloc _).alloc _).alloc _)
 have HR3 : Hid ((((w.alloc (.cells #[.slice al h.log.length cl, .int .i64 h.sums.a, .int .i64 h.sums.b, .int .i64 h.sums.c, .int .i64 h.sums.d, .slice ar h.ready.length cr, .slice ad h.done.length cd] 29)).alloc (.cells #[.int .i64 1, .int .i64 dd, .int .i64 hh, .slice ap ps.length cp] 39)).alloc (.cells #[.slice none 0 0, .int .i64 0, .int .i64 0, .int .i64 0, .int .i64 0, .slice none 0 0, .slice none 0 0] 29)).heap[w.heap.size]? = some (.cells #[.slice al h.log.length cl, .int .i64 h.sums.a, .int .i64 h.sums.b, .int .i64 h.sums.c, .int .i64 h.sums.d, .slice ar h.ready.length cr, .slice ad h.done.length cd] 29 (0, 0))) := Lib.hid (heap_later (heap_later (row_new _ _) _) _)
 have HR5 : Hid ((((w.alloc (.cells #[.slice al h.log.length cl, .int .i64 h.sums.a, .int .i64 h.sums.b, .int .i64 h.sums.c, .int .i64 h.sums.d, .slice ar h.ready.length cr, .slice ad h.done.length cd] 29)).alloc (.cells #[.int .i64 1, .int .i64 dd, .int .i64 hh, .slice ap ps.length cp] 39)).alloc (.cells #[.slice none 0 0, .int .i64 0, .int .i64 0, .int .i64 0, .int .i64 0, .slice none 0 0, .slice none 0 0] 29)).heap[w.heap.size + 1]? = some (.cells #[.int .i64 1, .int .i64 dd, .int .i64 hh, .slice ap ps.length cp] 39 (0, 0))) := Lib.hid (heap_later (by simpa using row_new (w.alloc (.cells #[.slice al h.log.length cl, .int .i64 h.sums.a, .int .i64 h.sums.b, .int .i64 h.sums.c, .int .i64 h.sums.d, .slice ar h.ready.length cr, .slice ad h.done.length cd] 29)) _) _)
 have HR6 : Hid ((((w.alloc (.cells #[.slice al h.log.length cl, .int .i64 h.sums.a, .int .i64 h.sums.b, .int .i64 h.sums.c, .int .i64 h.sums.d, .slice ar h.ready.length cr, .slice ad h.done.length cd] 29)).alloc (.cells #[.int .i64 1, .int .i64 dd, .int .i64 hh, .slice ap ps.length cp] 39)).alloc (.cells #[.slice none 0 0, .int .i64 0, .int .i64 0, .int .i64 0, .int .i64 0, .slice none 0 0, .slice none 0 0] 29)).heap[w.heap.size + 1 + 1]? = some (.cells #[.slice none 0 0, .int .i64 0, .int .i64 0, .int .i64 0, .int .i64 0, .slice none 0 0, .slice none 0 0] 29 (0, 0))) := Lib.hid (by simpa using row_new ((w.alloc (.cells #[.slice al h.log.length cl, .int .i64 h.sums.a, .int .i64 h.sums.b, .int .i64 h.sums.c, .int .i64 h.sums.d, .slice ar h.ready.length cr, .slice ad h.done.length cd] 29)).alloc (.cells #[.int .i64 1, .int .i64 dd, .int .i64 hh, .slice ap ps.length cp] 39)) _)
 clear hv hm hc hk hkm hn hme hms
 have HEH : Hid (hearH h ⟨1, dd, hh, ps⟩ = h) := by
  show hearH h ⟨1, dd, hh, ps⟩ = h
  unfold hearH
  rw [if_pos rfl, if_neg (by show ¬ (_ ∧ readyE h.ready dd = false); rw [rd]; simp)]
 have HEM : Hid (hearM h me ⟨1, dd, hh, ps⟩ = sayE 2 dd me) := by
  show hearM h me ⟨1, dd, hh, ps⟩ = sayE 2 dd me
  unfold hearM
  rw [if_pos rfl, if_neg (by show ¬ voteE h dd ps = 10; omega), if_pos e0]
 have E0 := Lib.hid e0
 have RD := Lib.hid rd
 clear e0 rd
 go_enter Try.func35, Try.ntmps35
 go_wp2_with fail
 refine (HVO.out _ HG0.out).mono ?_
 rw [E0.out]
 rintro e v1 ⟨rfl, hbv1⟩
 (obtain ⟨cv1, fv1⟩ := bcell hbv1; have zv10 : w.heap.size < v1.heap.size := (by have := hbv1.size; (try simp at this); omega); have zv11 : w.heap.size + 1 < v1.heap.size := (by have := hbv1.size; (try simp at this); omega); have zv12 : w.heap.size + 1 + 1 < v1.heap.size := (by have := hbv1.size; (try simp at this); omega); have Gv1 := Lib.hid hbv1; clear hbv1)
 go_wp2_with fail
 refine (HRD.out _ (HG0.out.trans Gv1.out)).mono ?_
 rw [RD.out]
 rintro e v2 ⟨rfl, hbv2⟩
 (obtain ⟨cv2, fv2⟩ := bcell hbv2; have zv20 : w.heap.size < v2.heap.size := (by have := hbv2.size; (try simp at this); omega); have zv21 : w.heap.size + 1 < v2.heap.size := (by have := hbv2.size; (try simp at this); omega); have zv22 : w.heap.size + 1 + 1 < v2.heap.size := (by have := hbv2.size; (try simp at this); omega); have Gv2 := Lib.hid hbv2; clear hbv2)
 go_wp2_with fail
 have hS : v2.cell? ⟨w.heap.size, 0, none⟩ = some (.slice al h.log.length cl) ∧ v2.cell? ⟨w.heap.size, 1, none⟩ = some (.int .i64 h.sums.a) ∧ v2.cell? ⟨w.heap.size, 2, none⟩ = some (.int .i64 h.sums.b) ∧ v2.cell? ⟨w.heap.size, 3, none⟩ = some (.int .i64 h.sums.c) ∧ v2.cell? ⟨w.heap.size, 4, none⟩ = some (.int .i64 h.sums.d) ∧ v2.cell? ⟨w.heap.size, 5, none⟩ = some (.slice ar h.ready.length cr) ∧ v2.cell? ⟨w.heap.size, 6, none⟩ = some (.slice ad h.done.length cd) ∧ v2.cell? ⟨w.heap.size + 1, 1, none⟩ = some (.int .i64 dd) := by refine ⟨?_, ?_, ?_, ?_, ?_, ?_, ?_, ?_⟩ <;> go_simp
 have HGW : Hid (Grow w v2) := Lib.hid ((HG0.out.trans Gv1.out).trans Gv2.out)
 have R6 : Hid (v2.heap[w.heap.size + 1 + 1]? = some (.cells #[.slice none 0 0, .int .i64 0, .int .i64 0, .int .i64 0, .int .i64 0, .slice none 0 0, .slice none 0 0] 29 (0, 0))) := Lib.hid (row_grow HR6.out (Gv1.out.trans Gv2.out))
 have hz0 : w.heap.size + 1 + 1 < v2.heap.size := (Array.getElem?_eq_some_iff.1 R6.out).1
 obtain ⟨s0, s1, s2, s3, s4, s5, s6, s7⟩ := hS
 have HS : Hid (∀ W, v2.grownBy W (some (w.heap.size + 1 + 1)) → W.cell? ⟨w.heap.size, 0, none⟩ = some (.slice al h.log.length cl) ∧ W.cell? ⟨w.heap.size, 1, none⟩ = some (.int .i64 h.sums.a) ∧ W.cell? ⟨w.heap.size, 2, none⟩ = some (.int .i64 h.sums.b) ∧ W.cell? ⟨w.heap.size, 3, none⟩ = some (.int .i64 h.sums.c) ∧ W.cell? ⟨w.heap.size, 4, none⟩ = some (.int .i64 h.sums.d) ∧ W.cell? ⟨w.heap.size, 5, none⟩ = some (.slice ar h.ready.length cr) ∧ W.cell? ⟨w.heap.size, 6, none⟩ = some (.slice ad h.done.length cd) ∧ W.cell? ⟨w.heap.size + 1, 1, none⟩ = some (.int .i64 dd)) := fun W hW => by
  have k : ∀ (b o : Nat) (u : Value), b < w.heap.size + 1 + 1 → v2.cell? ⟨b, o, none⟩ = some u → W.cell? ⟨b, o, none⟩ = some u := fun b o u hb e => by
   rw [by_cell hW (World.block_lt_of_cell? v2 _ e) (by simp; omega)]; exact e
  exact ⟨k _ _ _ (by omega) s0, k _ _ _ (by omega) s1, k _ _ _ (by omega) s2, k _ _ _ (by omega) s3, k _ _ _ (by omega) s4, k _ _ _ (by omega) s5, k _ _ _ (by omega) s6, k _ _ _ (by omega) s7⟩
 clear s0 s1 s2 s3 s4 s5 s6 s7
 refine but_start (fun w' => w'.cell? ⟨w.heap.size, 0, none⟩ = some (.slice al h.log.length cl) ∧ w'.cell? ⟨w.heap.size, 1, none⟩ = some (.int .i64 h.sums.a) ∧ w'.cell? ⟨w.heap.size, 2, none⟩ = some (.int .i64 h.sums.b) ∧ w'.cell? ⟨w.heap.size, 3, none⟩ = some (.int .i64 h.sums.c) ∧ w'.cell? ⟨w.heap.size, 4, none⟩ = some (.int .i64 h.sums.d) ∧ w'.cell? ⟨w.heap.size, 5, none⟩ = some (.slice ar h.ready.length cr) ∧ w'.cell? ⟨w.heap.size, 6, none⟩ = some (.slice ad h.done.length cd) ∧ w'.cell? ⟨w.heap.size + 1, 1, none⟩ = some (.int .i64 dd)) 8 (by kernel_rfl) ?_
 obtain ⟨wd, hWd⟩ : ∃ x : World, x = v2.drew := ⟨_, rfl⟩
 rw [← hWd]
 have GD : Grow v2 wd := by rw [hWd]; exact (Grow.refl _).drew
 have zD : v2.heap.size = wd.heap.size := by rw [hWd]; rfl
 have ZD := Lib.hid zD
 clear hWd zD
 have hzd : w.heap.size + 1 + 1 < wd.heap.size := by have := ZD.out; omega
 have hzw : w.heap.size ≤ wd.heap.size := by have := hzd; omega
 have FIN : Hid (∀ (Wf : World) (q : Nat), w.heap.size ≤ q → (∀ a : Addr, a.block < wd.heap.size → a.block ≠ w.heap.size + 1 + 1 → Wf.cell? a = wd.cell? a) → At Wf.cell? q 0 (#[.int .i64 2, .int .i64 dd, .int .i64 me, .slice none 0 0] : Array Value).toList → Grow w Wf → ∃ v1 v2, Ending.returned (.tuple #[.agg #[.slice al h.log.length cl, .int .i64 h.sums.a, .int .i64 h.sums.b, .int .i64 h.sums.c, .int .i64 h.sums.d, .slice ar h.ready.length cr, .slice ad h.done.length cd], .slice (some ⟨q, 0, none⟩) 1 1]) = .returned (.tuple #[v1, v2]) ∧ Of Ty.hs (ov c w Wf) v1 (hearH h ⟨1, dd, hh, ps⟩) ∧ Sl Ty.ms (ov c w Wf) v2 (hearM h me ⟨1, dd, hh, ps⟩) ∧ Grow w Wf) := by
  intro Wf q hq hA hAt hGf
  refine ⟨_, _, rfl, ?_, ?_, hGf⟩
  ·rw [HEH.out]
   exact HV0.out.mono (ov_in HC.out)
  ·rw [HEM.out]
   exact sl_one (T := Ty.ms) ⟨_, rfl, (show I64 2 from by unfold I64; decide), HMS.out.2.2.1, HME.out, Sl.nil _ _⟩ (at_ov hAt hq) (by decide) (by decide)
 refine bLm [0] 8 (by kernel_rfl) (fun _ _ _ _ _ h => h) (HS.out _ (grownBy_of_grow GD _)) ?_
 repeat (refine tNm (v := ?_) rfl (by rfl) ?_ ?_; rotate_left; (· (intro w' hSw; (try dsimp only at hSw); obtain ⟨hs0, hs1, hs2, hs3, hs4, hs5, hs6, hs7⟩ := hSw; go_simp <;> with_reducible rfl)); try simp only [Act.put, lzA, lzC, lzD, lzE, lzF])
 refine tEm ?_
 refine bLm [1, 2, 3, 4, 5] 8 (by kernel_rfl) (fun _ _ _ _ _ h => h) (HS.out _ (grownBy_of_grow GD _)) ?_
 repeat (refine tNm (v := ?_) rfl (by rfl) ?_ ?_; rotate_left; (· (intro w' hSw; (try dsimp only at hSw); obtain ⟨hs0, hs1, hs2, hs3, hs4, hs5, hs6, hs7⟩ := hSw; go_simp <;> with_reducible rfl)); try simp only [Act.put, lzA, lzB, lzC, lzD, lzE, lzF])
 refine tEm ?_
 refine bP 6 7 (by kernel_rfl) rfl rfl ?_ ?_
 ·intro K HK
  try simp only [lzA, lzB, lzC]
  go_simp
  refine HK.out _ _ ⟨fun _ => HS.out _ (grownBy_trans (grownBy_of_grow GD _) (grownBy_of_grow ((Grow.refl _).alloc _) _)), ?_⟩
  clear HK K
  try simp only [Act.put, lzA, lzB, lzC, lzD, lzE, lzF]
  refine bO 7 (by kernel_rfl) rfl ?_
  intro K HK
  refine wanted_go rfl ?_
  try simp only [lzA, lzB, lzC]
  refine wp_store_row (.tmp 6) (.tmp 67) rfl rfl rfl (row_grow R6.out (GD.alloc _)) info_hs rfl rfl ?_
  intro w7 r7 g7
  refine HK.out _ _ ⟨fun _ => HS.out _ (grownBy_trans (grownBy_trans (grownBy_of_grow GD _) (grownBy_of_grow ((Grow.refl _).alloc _) _)) g7), ?_⟩
  clear HK K
  try simp only [Act.put]
  refine bO 8 (by kernel_rfl) rfl ?_
  intro K HK
  try simp only [lzA, lzB, lzC]
  go_simp
  refine HK.out _ _ ⟨fun h => absurd rfl h, ?_⟩
  clear HK K
  try simp only [Act.put, lzA, lzB, lzC, lzD, lzE, lzF]
  refine but_done (by kernel_rfl) ?_
  obtain ⟨p0, p1, p2, p3, p4, p5, p6⟩ := cells7 r7
  go_wp2
  refine bodyPost_ret (v := .tuple #[.agg #[.slice al h.log.length cl, .int .i64 h.sums.a, .int .i64 h.sums.b, .int .i64 h.sums.c, .int .i64 h.sums.d, .slice ar h.ready.length cr, .slice ad h.done.length cd], .slice (some ⟨wd.heap.size, 0, none⟩) 1 1]) (by simp [results, Try.results35, go_sem, p0, p1, p2, p3, p4, p5, p6]) rfl ?_
  refine FIN.out _ wd.heap.size hzw (fun a h1 h2 => (by_cell g7 (by simp; omega) h2).trans (((Grow.refl wd).alloc _).cell h1)) (fun j u e => (by_cell g7 (by simp) (by simp; omega)).trans (at_new wd _ _ j u e)) ?_
  exact (HGW.out.trans (GD.alloc _)).grown g7 (fun k hk => by simp at hk; omega)
 ·intro K HK
  refine wanted_go rfl ?_
  try simp only [lzA, lzB, lzC]
  refine wp_store_row (.tmp 6) (.tmp 67) rfl rfl rfl (row_grow R6.out GD) info_hs rfl rfl ?_
  intro w7 r7 g7
  refine HK.out _ _ ⟨fun _ => HS.out _ (grownBy_trans (grownBy_of_grow GD _) g7), ?_⟩
  clear HK K
  try simp only [Act.put]
  refine bO 6 (by kernel_rfl) rfl ?_
  intro K HK
  try simp only [lzA, lzB, lzC]
  go_simp
  refine HK.out _ _ ⟨fun _ => HS.out _ (grownBy_trans (grownBy_trans (grownBy_of_grow GD _) g7) (grownBy_of_grow ((Grow.refl _).alloc _) _)), ?_⟩
  clear HK K
  try simp only [Act.put, lzA, lzB, lzC, lzD, lzE, lzF]
  refine bO 8 (by kernel_rfl) rfl ?_
  intro K HK
  try simp only [lzA, lzB, lzC]
  go_simp
  refine HK.out _ _ ⟨fun h => absurd rfl h, ?_⟩
  clear HK K
  try simp only [Act.put, lzA, lzB, lzC, lzD, lzE, lzF]
  refine but_done (by kernel_rfl) ?_
  obtain ⟨p0, p1, p2, p3, p4, p5, p6⟩ := cells7 (heap_later r7 (.cells #[.int .i64 2, .int .i64 dd, .int .i64 me, .slice none 0 0] 39))
  go_wp2
  refine bodyPost_ret (v := .tuple #[.agg #[.slice al h.log.length cl, .int .i64 h.sums.a, .int .i64 h.sums.b, .int .i64 h.sums.c, .int .i64 h.sums.d, .slice ar h.ready.length cr, .slice ad h.done.length cd], .slice (some ⟨w7.heap.size, 0, none⟩) 1 1]) (by simp [results, Try.results35, go_sem, p0, p1, p2, p3, p4, p5, p6]) rfl ?_
  refine FIN.out _ w7.heap.size (Nat.le_trans hzw g7.size) (fun a h1 h2 => (((Grow.refl w7).alloc _).cell (Nat.lt_of_lt_of_le h1 g7.size)).trans (by_cell g7 h1 h2)) (at_new w7 _ _) ?_
  exact ((HGW.out.trans GD).grown g7 (fun k hk => by simp at hk; omega)).alloc _
set_option maxRecDepth 100000 in
set_option maxHeartbeats 1000000 in
theorem hear_prepN {c : CM} {v vm : Value} {h : Hs} {dd hh me : Int} {ps : List Pt} (w : World) (hc : Sub c w.cell?) (hv : Of Ty.hs c v h) (hm : Of Ty.ms c vm ⟨1, dd, hh, ps⟩) (hk : ∀ x ∈ h.log, KeysOk x.parts) (hkm : KeysOk ps) (hn : (h.log.length + 1) * 40 ≤ 140737488355328) (hme : I64 me) (e0 : voteE h dd ps = 0) (rd : readyE h.ready dd = false) :
  Calls Try.prog 35 #[v, .int .i64 me, vm] w fun e w' => ∃ v1 v2, e = .returned (.tuple #[v1, v2]) ∧ Of Ty.hs (ov c w w') v1 (hearH h ⟨1, dd, hh, ps⟩) ∧ Sl Ty.ms (ov c w w') v2 (hearM h me ⟨1, dd, hh, ps⟩) ∧ Grow w w' := by
 obtain ⟨al, cl, ar, cr, ad, cd, rfl⟩ := hv.hs_form
 obtain ⟨ap, cp, rfl⟩ : ∃ ap cp, vm = .agg #[.int .i64 1, .int .i64 dd, .int .i64 hh, .slice ap ps.length cp] := hm.ms_form
 have hms : Sl Ty.pt c (.slice ap ps.length cp) ps ∧ I64 1 ∧ I64 dd ∧ I64 hh := Of.ms_parts hm
 have HMS := Lib.hid hms
 have HV0 := Lib.hid hv
 have HC := Lib.hid hc
 have HK0 := Lib.hid hk
 have HKM := Lib.hid hkm
 have HN := Lib.hid hn
 have HME := Lib.hid hme
 have HVO := Lib.hid (fun (W : World) (hW : Grow w W) => ref_vote (d := dd) W (hv.mono (hc.trans hW.sub)) (hms.1.mono (hc.trans hW.sub)) hkm)
 have HRD := Lib.hid (fun (W : World) (hW : Grow w W) => ref_ready (d := dd) W (hv.mono (hc.trans hW.sub)))
 have HIN := Lib.hid (fun (W : World) (hW : Grow w W) => ref_in (n := dd) W ((Of.hs_log hv).2.2.mono (hc.trans hW.sub)))
 have HG0 : Hid (Grow w (((w.alloc (.cells #[.slice al h.log.length cl, .int .i64 h.sums.a, .int .i64 h.sums.b, .int .i64 h.sums.c, .int .i64 h.sums.d, .slice ar h.ready.length cr, .slice ad h.done.length cd] 29)).alloc (.cells #[.int .i64 1, .int .i64 dd, .int .i64 hh, .slice ap ps.length cp] 39)).alloc (.cells #[.slice none 0 0, .int .i64 0, .int .i64 0, .int .i64 0, .int .i64 0, .slice none 0 0, .slice none 0 0] 29))) := Lib.hid ((((Grow.refl w).alloc _).alloc _).alloc _)
 have HR3 : Hid ((((w.alloc (.cells #[.slice al h.log.length cl, .int .i64 h.sums.a, .int .i64 h.sums.b, .int .i64 h.sums.c, .int .i64 h.sums.d, .slice ar h.ready.length cr, .slice ad h.done.length cd] 29)).alloc (.cells #[.int .i64 1, .int .i64 dd, .int .i64 hh, .slice ap ps.length cp] 39)).alloc (.cells #[.slice none 0 0, .int .i64 0, .int .i64 0, .int .i64 0, .int .i64 0, .slice none 0 0, .slice none 0 0] 29)).heap[w.heap.size]? = some (.cells #[.slice al h.log.length cl, .int .i64 h.sums.a, .int .i64 h.sums.b, .int .i64 h.sums.c, .int .i64 h.sums.d, .slice ar h.ready.length cr, .slice ad h.done.length cd] 29 (0, 0))) := Lib.hid (heap_later (heap_later (row_new _ _) _) _)
 have HR5 : Hid ((((w.alloc (.cells #[.slice al h.log.length cl, .int .i64 h.sums.a, .int .i64 h.sums.b, .int .i64 h.sums.c, .int .i64 h.sums.d, .slice ar h.ready.length cr, .slice ad h.done.length cd] 29)).alloc (.cells #[.int .i64 1, .int .i64 dd, .int .i64 hh, .slice ap ps.length cp] 39)).alloc (.cells #[.slice none 0 0, .int .i64 0, .int .i64 0, .int .i64 0, .int .i64 0, .slice none 0 0, .slice none 0 0] 29)).heap[w.heap.size + 1]? = some (.cells #[.int .i64 1, .int .i64 dd, .int .i64 hh, .slice ap ps.length cp] 39 (0, 0))) := Lib.hid (heap_later (by simpa using row_new (w.alloc (.cells #[.slice al h.log.length cl, .int .i64 h.sums.a, .int .i64 h.sums.b, .int .i64 h.sums.c, .int .i64 h.sums.d, .slice ar h.ready.length cr, .slice ad h.done.length cd] 29)) _) _)
 have HR6 : Hid ((((w.alloc (.cells #[.slice al h.log.length cl, .int .i64 h.sums.a, .int .i64 h.sums.b, .int .i64 h.sums.c, .int .i64 h.sums.d, .slice ar h.ready.length cr, .slice ad h.done.length cd] 29)).alloc (.cells #[.int .i64 1, .int .i64 dd, .int .i64 hh, .slice ap ps.length cp] 39)).alloc (.cells #[.slice none 0 0, .int .i64 0, .int .i64 0, .int .i64 0, .int .i64 0, .slice none 0 0, .slice none 0 0] 29)).heap[w.heap.size + 1 + 1]? = some (.cells #[.slice none 0 0, .int .i64 0, .int .i64 0, .int .i64 0, .int .i64 0, .slice none 0 0, .slice none 0 0] 29 (0, 0))) := Lib.hid (by simpa using row_new ((w.alloc (.cells #[.slice al h.log.length cl, .int .i64 h.sums.a, .int .i64 h.sums.b, .int .i64 h.sums.c, .int .i64 h.sums.d, .slice ar h.ready.length cr, .slice ad h.done.length cd] 29)).alloc (.cells #[.int .i64 1, .int .i64 dd, .int .i64 hh, .slice ap ps.length cp] 39)) _)
 clear hv hm hc hk hkm hn hme hms
 have HEH : Hid (hearH h ⟨1, dd, hh, ps⟩ = noteE h ⟨1, dd, ps⟩) := by
  show hearH h ⟨1, dd, hh, ps⟩ = noteE h ⟨1, dd, ps⟩
  unfold hearH
  rw [if_pos rfl, if_pos ⟨e0, rd⟩]
 have HEM : Hid (hearM h me ⟨1, dd, hh, ps⟩ = sayE 2 dd me) := by
  show hearM h me ⟨1, dd, hh, ps⟩ = sayE 2 dd me
  unfold hearM
  rw [if_pos rfl, if_neg (by show ¬ voteE h dd ps = 10; omega), if_pos e0]
 have E0 := Lib.hid e0
 have RD := Lib.hid rd
 clear e0 rd
 go_enter Try.func35, Try.ntmps35
 go_wp2_with fail
 refine (HVO.out _ HG0.out).mono ?_
 rw [E0.out]
 rintro e v1 ⟨rfl, hbv1⟩
 (obtain ⟨cv1, fv1⟩ := bcell hbv1; have zv10 : w.heap.size < v1.heap.size := (by have := hbv1.size; (try simp at this); omega); have zv11 : w.heap.size + 1 < v1.heap.size := (by have := hbv1.size; (try simp at this); omega); have zv12 : w.heap.size + 1 + 1 < v1.heap.size := (by have := hbv1.size; (try simp at this); omega); have Gv1 := Lib.hid hbv1; clear hbv1)
 go_wp2_with fail
 refine (HRD.out _ (HG0.out.trans Gv1.out)).mono ?_
 rw [RD.out]
 rintro e v2 ⟨rfl, hbv2⟩
 (obtain ⟨cv2, fv2⟩ := bcell hbv2; have zv20 : w.heap.size < v2.heap.size := (by have := hbv2.size; (try simp at this); omega); have zv21 : w.heap.size + 1 < v2.heap.size := (by have := hbv2.size; (try simp at this); omega); have zv22 : w.heap.size + 1 + 1 < v2.heap.size := (by have := hbv2.size; (try simp at this); omega); have Gv2 := Lib.hid hbv2; clear hbv2)
 go_wp2_with fail
 have GW : Hid (Grow _ v2) := Lib.hid (Gv1.out.trans Gv2.out)
 have GV : Hid (Grow w v2) := Lib.hid (HG0.out.trans GW.out)
 have ZV : Hid (w.heap.size + 1 + 1 < v2.heap.size) := Lib.hid (Array.getElem?_eq_some_iff.1 (row_grow HR6.out GW.out)).1
 have hrr : Ty.rc.R (wk w.heap.size 3 (ov c w v2)) [.int .i64 (⟨1, dd, ps⟩ : Rc).kind, .int .i64 dd, .slice ap ps.length cp] ⟨1, dd, ps⟩ := Ty.rc.mono (wk_in HC.out 3) (show Ty.rc.R c [.int .i64 1, .int .i64 dd, .slice ap ps.length cp] ⟨1, dd, ps⟩ from ⟨_, rfl, HMS.out.2.1, HMS.out.2.2.1, HMS.out.1⟩)
 refine (ref_note (c := wk w.heap.size 3 (ov c w v2)) (r := ⟨1, dd, ps⟩) v2 (wk_ov HC.out GV.out 3) (HV0.out.mono (wk_in HC.out 3)) ⟨_, rfl, hrr⟩ HK0.out HKM.out HN.out).mono ?_
 clear hrr
 generalize noteE h ⟨1, dd, ps⟩ = x at *
 rintro e v3 ⟨vx, rfl, hX, hbv3⟩
 obtain ⟨al2, cl2, ar2, cr2, ad2, cd2, rfl⟩ := hX.hs_form
 have HX := Lib.hid hX
 have HG3 := Lib.hid hbv3
 clear hX
 have GW3 : Hid (Grow _ v3) := Lib.hid (GW.out.trans hbv3)
 obtain ⟨k0, k1, k2, k3, k4, k5, k6⟩ := cells7 (row_grow HR3.out GW3.out)
 have kf := row_free (row_grow HR3.out GW3.out)
 obtain ⟨m0, m1, m2, m3⟩ := cells4 (row_grow HR5.out GW3.out)
 clear hbv3
 go_wp2_with (first | (refine wpList_store_row rfl (.tmp 3) (.tmp 37) rfl rfl rfl (row_grow HR3.out GW3.out) info_hs rfl rfl ?_))
 intro v4 r4 g4
 have R3 := Lib.hid r4
 have BY4 := Lib.hid g4
 clear r4 g4
 have R5 : Hid (v4.heap[w.heap.size + 1]? = _) := Lib.hid (row_by (row_grow HR5.out GW3.out) BY4.out (by simp))
 have R6 : Hid (v4.heap[w.heap.size + 1 + 1]? = _) := Lib.hid (row_by (row_grow HR6.out GW3.out) BY4.out (by simp; omega))
 clear k0 k1 k2 k3 k4 k5 k6 kf m0 m1 m2 m3
 have HG4 : Hid (Grow w v4) := Lib.hid ((GV.out.trans HG3.out).grown BY4.out (fun k hk => by simp at hk; omega))
 obtain ⟨k0, k1, k2, k3, k4, k5, k6⟩ := cells7 R3.out
 obtain ⟨m0, m1, m2, m3⟩ := cells4 R5.out
 go_wp2_with fail
 have hS : v4.cell? ⟨w.heap.size, 0, none⟩ = some (.slice al2 x.log.length cl2) ∧ v4.cell? ⟨w.heap.size, 1, none⟩ = some (.int .i64 x.sums.a) ∧ v4.cell? ⟨w.heap.size, 2, none⟩ = some (.int .i64 x.sums.b) ∧ v4.cell? ⟨w.heap.size, 3, none⟩ = some (.int .i64 x.sums.c) ∧ v4.cell? ⟨w.heap.size, 4, none⟩ = some (.int .i64 x.sums.d) ∧ v4.cell? ⟨w.heap.size, 5, none⟩ = some (.slice ar2 x.ready.length cr2) ∧ v4.cell? ⟨w.heap.size, 6, none⟩ = some (.slice ad2 x.done.length cd2) ∧ v4.cell? ⟨w.heap.size + 1, 1, none⟩ = some (.int .i64 dd) := by refine ⟨?_, ?_, ?_, ?_, ?_, ?_, ?_, ?_⟩ <;> go_simp
 have HGW : Hid (Grow w v4) := Lib.hid HG4.out
 have R6 : Hid (v4.heap[w.heap.size + 1 + 1]? = some (.cells #[.slice none 0 0, .int .i64 0, .int .i64 0, .int .i64 0, .int .i64 0, .slice none 0 0, .slice none 0 0] 29 (0, 0))) := Lib.hid R6.out
 have hz0 : w.heap.size + 1 + 1 < v4.heap.size := (Array.getElem?_eq_some_iff.1 R6.out).1
 obtain ⟨s0, s1, s2, s3, s4, s5, s6, s7⟩ := hS
 have HS : Hid (∀ W, v4.grownBy W (some (w.heap.size + 1 + 1)) → W.cell? ⟨w.heap.size, 0, none⟩ = some (.slice al2 x.log.length cl2) ∧ W.cell? ⟨w.heap.size, 1, none⟩ = some (.int .i64 x.sums.a) ∧ W.cell? ⟨w.heap.size, 2, none⟩ = some (.int .i64 x.sums.b) ∧ W.cell? ⟨w.heap.size, 3, none⟩ = some (.int .i64 x.sums.c) ∧ W.cell? ⟨w.heap.size, 4, none⟩ = some (.int .i64 x.sums.d) ∧ W.cell? ⟨w.heap.size, 5, none⟩ = some (.slice ar2 x.ready.length cr2) ∧ W.cell? ⟨w.heap.size, 6, none⟩ = some (.slice ad2 x.done.length cd2) ∧ W.cell? ⟨w.heap.size + 1, 1, none⟩ = some (.int .i64 dd)) := fun W hW => by
  have k : ∀ (b o : Nat) (u : Value), b < w.heap.size + 1 + 1 → v4.cell? ⟨b, o, none⟩ = some u → W.cell? ⟨b, o, none⟩ = some u := fun b o u hb e => by
   rw [by_cell hW (World.block_lt_of_cell? v4 _ e) (by simp; omega)]; exact e
  exact ⟨k _ _ _ (by omega) s0, k _ _ _ (by omega) s1, k _ _ _ (by omega) s2, k _ _ _ (by omega) s3, k _ _ _ (by omega) s4, k _ _ _ (by omega) s5, k _ _ _ (by omega) s6, k _ _ _ (by omega) s7⟩
 clear s0 s1 s2 s3 s4 s5 s6 s7
 refine but_start (fun w' => w'.cell? ⟨w.heap.size, 0, none⟩ = some (.slice al2 x.log.length cl2) ∧ w'.cell? ⟨w.heap.size, 1, none⟩ = some (.int .i64 x.sums.a) ∧ w'.cell? ⟨w.heap.size, 2, none⟩ = some (.int .i64 x.sums.b) ∧ w'.cell? ⟨w.heap.size, 3, none⟩ = some (.int .i64 x.sums.c) ∧ w'.cell? ⟨w.heap.size, 4, none⟩ = some (.int .i64 x.sums.d) ∧ w'.cell? ⟨w.heap.size, 5, none⟩ = some (.slice ar2 x.ready.length cr2) ∧ w'.cell? ⟨w.heap.size, 6, none⟩ = some (.slice ad2 x.done.length cd2) ∧ w'.cell? ⟨w.heap.size + 1, 1, none⟩ = some (.int .i64 dd)) 8 (by kernel_rfl) ?_
 obtain ⟨wd, hWd⟩ : ∃ x : World, x = v4.drew := ⟨_, rfl⟩
 rw [← hWd]
 have GD : Grow v4 wd := by rw [hWd]; exact (Grow.refl _).drew
 have zD : v4.heap.size = wd.heap.size := by rw [hWd]; rfl
 have ZD := Lib.hid zD
 clear hWd zD
 have hzd : w.heap.size + 1 + 1 < wd.heap.size := by have := ZD.out; omega
 have hzw : w.heap.size ≤ wd.heap.size := by have := hzd; omega
 have FIN : Hid (∀ (Wf : World) (q : Nat), w.heap.size ≤ q → (∀ a : Addr, a.block < wd.heap.size → a.block ≠ w.heap.size + 1 + 1 → Wf.cell? a = wd.cell? a) → At Wf.cell? q 0 (#[.int .i64 2, .int .i64 dd, .int .i64 me, .slice none 0 0] : Array Value).toList → Grow w Wf → ∃ v1 v2, Ending.returned (.tuple #[.agg #[.slice al2 x.log.length cl2, .int .i64 x.sums.a, .int .i64 x.sums.b, .int .i64 x.sums.c, .int .i64 x.sums.d, .slice ar2 x.ready.length cr2, .slice ad2 x.done.length cd2], .slice (some ⟨q, 0, none⟩) 1 1]) = .returned (.tuple #[v1, v2]) ∧ Of Ty.hs (ov c w Wf) v1 (hearH h ⟨1, dd, hh, ps⟩) ∧ Sl Ty.ms (ov c w Wf) v2 (hearM h me ⟨1, dd, hh, ps⟩) ∧ Grow w Wf) := by
  intro Wf q hq hA hAt hGf
  refine ⟨_, _, rfl, ?_, ?_, hGf⟩
  ·rw [HEH.out]
   exact HX.out.mono (ov_boxes (k := 3) GV.out HG3.out (by have := ZV.out; omega) fun a u ha e => by
    rw [hA a (by have h1 := World.block_lt_of_cell? v3 a e; have h2 := BY4.out.size; have h3 := ZD.out; omega) (by omega), (World.cell?_of_block (show wd.heap[a.block]? = v4.heap[a.block]? from (GD.block _ (by have h1 := World.block_lt_of_cell? v3 a e; have h2 := BY4.out.size; omega)))), by_cell BY4.out (World.block_lt_of_cell? v3 a e) (by omega)]
    exact e)
  ·rw [HEM.out]
   exact sl_one (T := Ty.ms) ⟨_, rfl, (show I64 2 from by unfold I64; decide), HMS.out.2.2.1, HME.out, Sl.nil _ _⟩ (at_ov hAt hq) (by decide) (by decide)
 refine bLm [0] 8 (by kernel_rfl) (fun _ _ _ _ _ h => h) (HS.out _ (grownBy_of_grow GD _)) ?_
 repeat (refine tNm (v := ?_) rfl (by rfl) ?_ ?_; rotate_left; (· (intro w' hSw; (try dsimp only at hSw); obtain ⟨hs0, hs1, hs2, hs3, hs4, hs5, hs6, hs7⟩ := hSw; go_simp <;> with_reducible rfl)); try simp only [Act.put, lzA, lzC, lzD, lzE, lzF])
 refine tEm ?_
 refine bLm [1, 2, 3, 4, 5] 8 (by kernel_rfl) (fun _ _ _ _ _ h => h) (HS.out _ (grownBy_of_grow GD _)) ?_
 repeat (refine tNm (v := ?_) rfl (by rfl) ?_ ?_; rotate_left; (· (intro w' hSw; (try dsimp only at hSw); obtain ⟨hs0, hs1, hs2, hs3, hs4, hs5, hs6, hs7⟩ := hSw; go_simp <;> with_reducible rfl)); try simp only [Act.put, lzA, lzB, lzC, lzD, lzE, lzF])
 refine tEm ?_
 refine bP 6 7 (by kernel_rfl) rfl rfl ?_ ?_
 ·intro K HK
  try simp only [lzA, lzB, lzC]
  go_simp
  refine HK.out _ _ ⟨fun _ => HS.out _ (grownBy_trans (grownBy_of_grow GD _) (grownBy_of_grow ((Grow.refl _).alloc _) _)), ?_⟩
  clear HK K
  try simp only [Act.put, lzA, lzB, lzC, lzD, lzE, lzF]
  refine bO 7 (by kernel_rfl) rfl ?_
  intro K HK
  refine wanted_go rfl ?_
  try simp only [lzA, lzB, lzC]
  refine wp_store_row (.tmp 6) (.tmp 67) rfl rfl rfl (row_grow R6.out (GD.alloc _)) info_hs rfl rfl ?_
  intro w7 r7 g7
  refine HK.out _ _ ⟨fun _ => HS.out _ (grownBy_trans (grownBy_trans (grownBy_of_grow GD _) (grownBy_of_grow ((Grow.refl _).alloc _) _)) g7), ?_⟩
  clear HK K
  try simp only [Act.put]
  refine bO 8 (by kernel_rfl) rfl ?_
  intro K HK
  try simp only [lzA, lzB, lzC]
  go_simp
  refine HK.out _ _ ⟨fun h => absurd rfl h, ?_⟩
  clear HK K
  try simp only [Act.put, lzA, lzB, lzC, lzD, lzE, lzF]
  refine but_done (by kernel_rfl) ?_
  obtain ⟨p0, p1, p2, p3, p4, p5, p6⟩ := cells7 r7
  go_wp2
  refine bodyPost_ret (v := .tuple #[.agg #[.slice al2 x.log.length cl2, .int .i64 x.sums.a, .int .i64 x.sums.b, .int .i64 x.sums.c, .int .i64 x.sums.d, .slice ar2 x.ready.length cr2, .slice ad2 x.done.length cd2], .slice (some ⟨wd.heap.size, 0, none⟩) 1 1]) (by simp [results, Try.results35, go_sem, p0, p1, p2, p3, p4, p5, p6]) rfl ?_
  refine FIN.out _ wd.heap.size hzw (fun a h1 h2 => (by_cell g7 (by simp; omega) h2).trans (((Grow.refl wd).alloc _).cell h1)) (fun j u e => (by_cell g7 (by simp) (by simp; omega)).trans (at_new wd _ _ j u e)) ?_
  exact (HGW.out.trans (GD.alloc _)).grown g7 (fun k hk => by simp at hk; omega)
 ·intro K HK
  refine wanted_go rfl ?_
  try simp only [lzA, lzB, lzC]
  refine wp_store_row (.tmp 6) (.tmp 67) rfl rfl rfl (row_grow R6.out GD) info_hs rfl rfl ?_
  intro w7 r7 g7
  refine HK.out _ _ ⟨fun _ => HS.out _ (grownBy_trans (grownBy_of_grow GD _) g7), ?_⟩
  clear HK K
  try simp only [Act.put]
  refine bO 6 (by kernel_rfl) rfl ?_
  intro K HK
  try simp only [lzA, lzB, lzC]
  go_simp
  refine HK.out _ _ ⟨fun _ => HS.out _ (grownBy_trans (grownBy_trans (grownBy_of_grow GD _) g7) (grownBy_of_grow ((Grow.refl _).alloc _) _)), ?_⟩
  clear HK K
  try simp only [Act.put, lzA, lzB, lzC, lzD, lzE, lzF]
  refine bO 8 (by kernel_rfl) rfl ?_
  intro K HK
  try simp only [lzA, lzB, lzC]
  go_simp
  refine HK.out _ _ ⟨fun h => absurd rfl h, ?_⟩
  clear HK K
  try simp only [Act.put, lzA, lzB, lzC, lzD, lzE, lzF]
  refine but_done (by kernel_rfl) ?_
  obtain ⟨p0, p1, p2, p3, p4, p5, p6⟩ := cells7 (heap_later r7 (.cells #[.int .i64 2, .int .i64 dd, .int .i64 me, .slice none 0 0] 39))
  go_wp2
  refine bodyPost_ret (v := .tuple #[.agg #[.slice al2 x.log.length cl2, .int .i64 x.sums.a, .int .i64 x.sums.b, .int .i64 x.sums.c, .int .i64 x.sums.d, .slice ar2 x.ready.length cr2, .slice ad2 x.done.length cd2], .slice (some ⟨w7.heap.size, 0, none⟩) 1 1]) (by simp [results, Try.results35, go_sem, p0, p1, p2, p3, p4, p5, p6]) rfl ?_
  refine FIN.out _ w7.heap.size (Nat.le_trans hzw g7.size) (fun a h1 h2 => (((Grow.refl w7).alloc _).cell (Nat.lt_of_lt_of_le h1 g7.size)).trans (by_cell g7 h1 h2)) (at_new w7 _ _) ?_
  exact ((HGW.out.trans GD).grown g7 (fun k hk => by simp at hk; omega)).alloc _
set_option maxRecDepth 100000 in
set_option maxHeartbeats 1000000 in
theorem hear_prepF {c : CM} {v vm : Value} {h : Hs} {dd hh me : Int} {ps : List Pt} (w : World) (hc : Sub c w.cell?) (hv : Of Ty.hs c v h) (hm : Of Ty.ms c vm ⟨1, dd, hh, ps⟩) (hk : ∀ x ∈ h.log, KeysOk x.parts) (hkm : KeysOk ps) (hn : (h.log.length + 1) * 40 ≤ 140737488355328) (hme : I64 me) (e10 : ¬ voteE h dd ps = 10) (e0 : ¬ voteE h dd ps = 0) :
  Calls Try.prog 35 #[v, .int .i64 me, vm] w fun e w' => ∃ v1 v2, e = .returned (.tuple #[v1, v2]) ∧ Of Ty.hs (ov c w w') v1 (hearH h ⟨1, dd, hh, ps⟩) ∧ Sl Ty.ms (ov c w w') v2 (hearM h me ⟨1, dd, hh, ps⟩) ∧ Grow w w' := by
 obtain ⟨al, cl, ar, cr, ad, cd, rfl⟩ := hv.hs_form
 obtain ⟨ap, cp, rfl⟩ : ∃ ap cp, vm = .agg #[.int .i64 1, .int .i64 dd, .int .i64 hh, .slice ap ps.length cp] := hm.ms_form
 have hms : Sl Ty.pt c (.slice ap ps.length cp) ps ∧ I64 1 ∧ I64 dd ∧ I64 hh := Of.ms_parts hm
 have HMS := Lib.hid hms
 have HV0 := Lib.hid hv
 have HC := Lib.hid hc
 have HK0 := Lib.hid hk
 have HKM := Lib.hid hkm
 have HN := Lib.hid hn
 have HME := Lib.hid hme
 have HVO := Lib.hid (fun (W : World) (hW : Grow w W) => ref_vote (d := dd) W (hv.mono (hc.trans hW.sub)) (hms.1.mono (hc.trans hW.sub)) hkm)
 have HRD := Lib.hid (fun (W : World) (hW : Grow w W) => ref_ready (d := dd) W (hv.mono (hc.trans hW.sub)))
 have HIN := Lib.hid (fun (W : World) (hW : Grow w W) => ref_in (n := dd) W ((Of.hs_log hv).2.2.mono (hc.trans hW.sub)))
 have HG0 : Hid (Grow w (((w.alloc (.cells #[.slice al h.log.length cl, .int .i64 h.sums.a, .int .i64 h.sums.b, .int .i64 h.sums.c, .int .i64 h.sums.d, .slice ar h.ready.length cr, .slice ad h.done.length cd] 29)).alloc (.cells #[.int .i64 1, .int .i64 dd, .int .i64 hh, .slice ap ps.length cp] 39)).alloc (.cells #[.slice none 0 0, .int .i64 0, .int .i64 0, .int .i64 0, .int .i64 0, .slice none 0 0, .slice none 0 0] 29))) := Lib.hid ((((Grow.refl w).alloc _).alloc _).alloc _)
 have HR3 : Hid ((((w.alloc (.cells #[.slice al h.log.length cl, .int .i64 h.sums.a, .int .i64 h.sums.b, .int .i64 h.sums.c, .int .i64 h.sums.d, .slice ar h.ready.length cr, .slice ad h.done.length cd] 29)).alloc (.cells #[.int .i64 1, .int .i64 dd, .int .i64 hh, .slice ap ps.length cp] 39)).alloc (.cells #[.slice none 0 0, .int .i64 0, .int .i64 0, .int .i64 0, .int .i64 0, .slice none 0 0, .slice none 0 0] 29)).heap[w.heap.size]? = some (.cells #[.slice al h.log.length cl, .int .i64 h.sums.a, .int .i64 h.sums.b, .int .i64 h.sums.c, .int .i64 h.sums.d, .slice ar h.ready.length cr, .slice ad h.done.length cd] 29 (0, 0))) := Lib.hid (heap_later (heap_later (row_new _ _) _) _)
 have HR5 : Hid ((((w.alloc (.cells #[.slice al h.log.length cl, .int .i64 h.sums.a, .int .i64 h.sums.b, .int .i64 h.sums.c, .int .i64 h.sums.d, .slice ar h.ready.length cr, .slice ad h.done.length cd] 29)).alloc (.cells #[.int .i64 1, .int .i64 dd, .int .i64 hh, .slice ap ps.length cp] 39)).alloc (.cells #[.slice none 0 0, .int .i64 0, .int .i64 0, .int .i64 0, .int .i64 0, .slice none 0 0, .slice none 0 0] 29)).heap[w.heap.size + 1]? = some (.cells #[.int .i64 1, .int .i64 dd, .int .i64 hh, .slice ap ps.length cp] 39 (0, 0))) := Lib.hid (heap_later (by simpa using row_new (w.alloc (.cells #[.slice al h.log.length cl, .int .i64 h.sums.a, .int .i64 h.sums.b, .int .i64 h.sums.c, .int .i64 h.sums.d, .slice ar h.ready.length cr, .slice ad h.done.length cd] 29)) _) _)
 have HR6 : Hid ((((w.alloc (.cells #[.slice al h.log.length cl, .int .i64 h.sums.a, .int .i64 h.sums.b, .int .i64 h.sums.c, .int .i64 h.sums.d, .slice ar h.ready.length cr, .slice ad h.done.length cd] 29)).alloc (.cells #[.int .i64 1, .int .i64 dd, .int .i64 hh, .slice ap ps.length cp] 39)).alloc (.cells #[.slice none 0 0, .int .i64 0, .int .i64 0, .int .i64 0, .int .i64 0, .slice none 0 0, .slice none 0 0] 29)).heap[w.heap.size + 1 + 1]? = some (.cells #[.slice none 0 0, .int .i64 0, .int .i64 0, .int .i64 0, .int .i64 0, .slice none 0 0, .slice none 0 0] 29 (0, 0))) := Lib.hid (by simpa using row_new ((w.alloc (.cells #[.slice al h.log.length cl, .int .i64 h.sums.a, .int .i64 h.sums.b, .int .i64 h.sums.c, .int .i64 h.sums.d, .slice ar h.ready.length cr, .slice ad h.done.length cd] 29)).alloc (.cells #[.int .i64 1, .int .i64 dd, .int .i64 hh, .slice ap ps.length cp] 39)) _)
 clear hv hm hc hk hkm hn hme hms
 have HEH : Hid (hearH h ⟨1, dd, hh, ps⟩ = h) := by
  show hearH h ⟨1, dd, hh, ps⟩ = h
  unfold hearH
  rw [if_pos rfl, if_neg (fun h2 => e0 h2.1)]
 have HEM : Hid (hearM h me ⟨1, dd, hh, ps⟩ = sayE 3 dd me) := by
  show hearM h me ⟨1, dd, hh, ps⟩ = sayE 3 dd me
  unfold hearM
  rw [if_pos rfl, if_neg e10, if_neg e0]
 have hb10 : (voteE h dd ps == 10) = false := by simpa using e10
 have hb0 : (voteE h dd ps == 0) = false := by simpa using e0
 clear e0 e10
 generalize voteE h dd ps = ve at *
 go_enter Try.func35, Try.ntmps35
 go_wp2_with fail
 refine (HVO.out _ HG0.out).mono ?_
 rintro e v1 ⟨rfl, hbv1⟩
 (obtain ⟨cv1, fv1⟩ := bcell hbv1; have zv10 : w.heap.size < v1.heap.size := (by have := hbv1.size; (try simp at this); omega); have zv11 : w.heap.size + 1 < v1.heap.size := (by have := hbv1.size; (try simp at this); omega); have zv12 : w.heap.size + 1 + 1 < v1.heap.size := (by have := hbv1.size; (try simp at this); omega); have Gv1 := Lib.hid hbv1; clear hbv1)
 go_wp2_with fail
 have hS : v1.cell? ⟨w.heap.size, 0, none⟩ = some (.slice al h.log.length cl) ∧ v1.cell? ⟨w.heap.size, 1, none⟩ = some (.int .i64 h.sums.a) ∧ v1.cell? ⟨w.heap.size, 2, none⟩ = some (.int .i64 h.sums.b) ∧ v1.cell? ⟨w.heap.size, 3, none⟩ = some (.int .i64 h.sums.c) ∧ v1.cell? ⟨w.heap.size, 4, none⟩ = some (.int .i64 h.sums.d) ∧ v1.cell? ⟨w.heap.size, 5, none⟩ = some (.slice ar h.ready.length cr) ∧ v1.cell? ⟨w.heap.size, 6, none⟩ = some (.slice ad h.done.length cd) ∧ v1.cell? ⟨w.heap.size + 1, 1, none⟩ = some (.int .i64 dd) := by refine ⟨?_, ?_, ?_, ?_, ?_, ?_, ?_, ?_⟩ <;> go_simp
 have HGW : Hid (Grow w v1) := Lib.hid (HG0.out.trans Gv1.out)
 have R6 : Hid (v1.heap[w.heap.size + 1 + 1]? = some (.cells #[.slice none 0 0, .int .i64 0, .int .i64 0, .int .i64 0, .int .i64 0, .slice none 0 0, .slice none 0 0] 29 (0, 0))) := Lib.hid (row_grow HR6.out Gv1.out)
 have hz0 : w.heap.size + 1 + 1 < v1.heap.size := (Array.getElem?_eq_some_iff.1 R6.out).1
 obtain ⟨s0, s1, s2, s3, s4, s5, s6, s7⟩ := hS
 have HS : Hid (∀ W, v1.grownBy W (some (w.heap.size + 1 + 1)) → W.cell? ⟨w.heap.size, 0, none⟩ = some (.slice al h.log.length cl) ∧ W.cell? ⟨w.heap.size, 1, none⟩ = some (.int .i64 h.sums.a) ∧ W.cell? ⟨w.heap.size, 2, none⟩ = some (.int .i64 h.sums.b) ∧ W.cell? ⟨w.heap.size, 3, none⟩ = some (.int .i64 h.sums.c) ∧ W.cell? ⟨w.heap.size, 4, none⟩ = some (.int .i64 h.sums.d) ∧ W.cell? ⟨w.heap.size, 5, none⟩ = some (.slice ar h.ready.length cr) ∧ W.cell? ⟨w.heap.size, 6, none⟩ = some (.slice ad h.done.length cd) ∧ W.cell? ⟨w.heap.size + 1, 1, none⟩ = some (.int .i64 dd)) := fun W hW => by
  have k : ∀ (b o : Nat) (u : Value), b < w.heap.size + 1 + 1 → v1.cell? ⟨b, o, none⟩ = some u → W.cell? ⟨b, o, none⟩ = some u := fun b o u hb e => by
   rw [by_cell hW (World.block_lt_of_cell? v1 _ e) (by simp; omega)]; exact e
  exact ⟨k _ _ _ (by omega) s0, k _ _ _ (by omega) s1, k _ _ _ (by omega) s2, k _ _ _ (by omega) s3, k _ _ _ (by omega) s4, k _ _ _ (by omega) s5, k _ _ _ (by omega) s6, k _ _ _ (by omega) s7⟩
 clear s0 s1 s2 s3 s4 s5 s6 s7
 refine but_start (fun w' => w'.cell? ⟨w.heap.size, 0, none⟩ = some (.slice al h.log.length cl) ∧ w'.cell? ⟨w.heap.size, 1, none⟩ = some (.int .i64 h.sums.a) ∧ w'.cell? ⟨w.heap.size, 2, none⟩ = some (.int .i64 h.sums.b) ∧ w'.cell? ⟨w.heap.size, 3, none⟩ = some (.int .i64 h.sums.c) ∧ w'.cell? ⟨w.heap.size, 4, none⟩ = some (.int .i64 h.sums.d) ∧ w'.cell? ⟨w.heap.size, 5, none⟩ = some (.slice ar h.ready.length cr) ∧ w'.cell? ⟨w.heap.size, 6, none⟩ = some (.slice ad h.done.length cd) ∧ w'.cell? ⟨w.heap.size + 1, 1, none⟩ = some (.int .i64 dd)) 8 (by kernel_rfl) ?_
 obtain ⟨wd, hWd⟩ : ∃ x : World, x = v1.drew := ⟨_, rfl⟩
 rw [← hWd]
 have GD : Grow v1 wd := by rw [hWd]; exact (Grow.refl _).drew
 have zD : v1.heap.size = wd.heap.size := by rw [hWd]; rfl
 have ZD := Lib.hid zD
 clear hWd zD
 have hzd : w.heap.size + 1 + 1 < wd.heap.size := by have := ZD.out; omega
 have hzw : w.heap.size ≤ wd.heap.size := by have := hzd; omega
 have FIN : Hid (∀ (Wf : World) (q : Nat), w.heap.size ≤ q → (∀ a : Addr, a.block < wd.heap.size → a.block ≠ w.heap.size + 1 + 1 → Wf.cell? a = wd.cell? a) → At Wf.cell? q 0 (#[.int .i64 3, .int .i64 dd, .int .i64 me, .slice none 0 0] : Array Value).toList → Grow w Wf → ∃ v1 v2, Ending.returned (.tuple #[.agg #[.slice al h.log.length cl, .int .i64 h.sums.a, .int .i64 h.sums.b, .int .i64 h.sums.c, .int .i64 h.sums.d, .slice ar h.ready.length cr, .slice ad h.done.length cd], .slice (some ⟨q, 0, none⟩) 1 1]) = .returned (.tuple #[v1, v2]) ∧ Of Ty.hs (ov c w Wf) v1 (hearH h ⟨1, dd, hh, ps⟩) ∧ Sl Ty.ms (ov c w Wf) v2 (hearM h me ⟨1, dd, hh, ps⟩) ∧ Grow w Wf) := by
  intro Wf q hq hA hAt hGf
  refine ⟨_, _, rfl, ?_, ?_, hGf⟩
  ·rw [HEH.out]
   exact HV0.out.mono (ov_in HC.out)
  ·rw [HEM.out]
   exact sl_one (T := Ty.ms) ⟨_, rfl, (show I64 3 from by unfold I64; decide), HMS.out.2.2.1, HME.out, Sl.nil _ _⟩ (at_ov hAt hq) (by decide) (by decide)
 refine bLm [0] 8 (by kernel_rfl) (fun _ _ _ _ _ h => h) (HS.out _ (grownBy_of_grow GD _)) ?_
 repeat (refine tNm (v := ?_) rfl (by rfl) ?_ ?_; rotate_left; (· (intro w' hSw; (try dsimp only at hSw); obtain ⟨hs0, hs1, hs2, hs3, hs4, hs5, hs6, hs7⟩ := hSw; go_simp <;> with_reducible rfl)); try simp only [Act.put, lzA, lzC, lzD, lzE, lzF])
 refine tEm ?_
 refine bLm [1, 2, 3, 4, 5] 8 (by kernel_rfl) (fun _ _ _ _ _ h => h) (HS.out _ (grownBy_of_grow GD _)) ?_
 repeat (refine tNm (v := ?_) rfl (by rfl) ?_ ?_; rotate_left; (· (intro w' hSw; (try dsimp only at hSw); obtain ⟨hs0, hs1, hs2, hs3, hs4, hs5, hs6, hs7⟩ := hSw; go_simp <;> with_reducible rfl)); try simp only [Act.put, lzA, lzB, lzC, lzD, lzE, lzF])
 refine tEm ?_
 refine bP 6 7 (by kernel_rfl) rfl rfl ?_ ?_
 ·intro K HK
  try simp only [lzA, lzB, lzC]
  go_simp
  refine HK.out _ _ ⟨fun _ => HS.out _ (grownBy_trans (grownBy_of_grow GD _) (grownBy_of_grow ((Grow.refl _).alloc _) _)), ?_⟩
  clear HK K
  try simp only [Act.put, lzA, lzB, lzC, lzD, lzE, lzF]
  refine bO 7 (by kernel_rfl) rfl ?_
  intro K HK
  refine wanted_go rfl ?_
  try simp only [lzA, lzB, lzC]
  refine wp_store_row (.tmp 6) (.tmp 67) rfl rfl rfl (row_grow R6.out (GD.alloc _)) info_hs rfl rfl ?_
  intro w7 r7 g7
  refine HK.out _ _ ⟨fun _ => HS.out _ (grownBy_trans (grownBy_trans (grownBy_of_grow GD _) (grownBy_of_grow ((Grow.refl _).alloc _) _)) g7), ?_⟩
  clear HK K
  try simp only [Act.put]
  refine bO 8 (by kernel_rfl) rfl ?_
  intro K HK
  try simp only [lzA, lzB, lzC]
  go_simp
  refine HK.out _ _ ⟨fun h => absurd rfl h, ?_⟩
  clear HK K
  try simp only [Act.put, lzA, lzB, lzC, lzD, lzE, lzF]
  refine but_done (by kernel_rfl) ?_
  obtain ⟨p0, p1, p2, p3, p4, p5, p6⟩ := cells7 r7
  go_wp2
  refine bodyPost_ret (v := .tuple #[.agg #[.slice al h.log.length cl, .int .i64 h.sums.a, .int .i64 h.sums.b, .int .i64 h.sums.c, .int .i64 h.sums.d, .slice ar h.ready.length cr, .slice ad h.done.length cd], .slice (some ⟨wd.heap.size, 0, none⟩) 1 1]) (by simp [results, Try.results35, go_sem, p0, p1, p2, p3, p4, p5, p6]) rfl ?_
  refine FIN.out _ wd.heap.size hzw (fun a h1 h2 => (by_cell g7 (by simp; omega) h2).trans (((Grow.refl wd).alloc _).cell h1)) (fun j u e => (by_cell g7 (by simp) (by simp; omega)).trans (at_new wd _ _ j u e)) ?_
  exact (HGW.out.trans (GD.alloc _)).grown g7 (fun k hk => by simp at hk; omega)
 ·intro K HK
  refine wanted_go rfl ?_
  try simp only [lzA, lzB, lzC]
  refine wp_store_row (.tmp 6) (.tmp 67) rfl rfl rfl (row_grow R6.out GD) info_hs rfl rfl ?_
  intro w7 r7 g7
  refine HK.out _ _ ⟨fun _ => HS.out _ (grownBy_trans (grownBy_of_grow GD _) g7), ?_⟩
  clear HK K
  try simp only [Act.put]
  refine bO 6 (by kernel_rfl) rfl ?_
  intro K HK
  try simp only [lzA, lzB, lzC]
  go_simp
  refine HK.out _ _ ⟨fun _ => HS.out _ (grownBy_trans (grownBy_trans (grownBy_of_grow GD _) g7) (grownBy_of_grow ((Grow.refl _).alloc _) _)), ?_⟩
  clear HK K
  try simp only [Act.put, lzA, lzB, lzC, lzD, lzE, lzF]
  refine bO 8 (by kernel_rfl) rfl ?_
  intro K HK
  try simp only [lzA, lzB, lzC]
  go_simp
  refine HK.out _ _ ⟨fun h => absurd rfl h, ?_⟩
  clear HK K
  try simp only [Act.put, lzA, lzB, lzC, lzD, lzE, lzF]
  refine but_done (by kernel_rfl) ?_
  obtain ⟨p0, p1, p2, p3, p4, p5, p6⟩ := cells7 (heap_later r7 (.cells #[.int .i64 3, .int .i64 dd, .int .i64 me, .slice none 0 0] 39))
  go_wp2
  refine bodyPost_ret (v := .tuple #[.agg #[.slice al h.log.length cl, .int .i64 h.sums.a, .int .i64 h.sums.b, .int .i64 h.sums.c, .int .i64 h.sums.d, .slice ar h.ready.length cr, .slice ad h.done.length cd], .slice (some ⟨w7.heap.size, 0, none⟩) 1 1]) (by simp [results, Try.results35, go_sem, p0, p1, p2, p3, p4, p5, p6]) rfl ?_
  refine FIN.out _ w7.heap.size (Nat.le_trans hzw g7.size) (fun a h1 h2 => (((Grow.refl w7).alloc _).cell (Nat.lt_of_lt_of_le h1 g7.size)).trans (by_cell g7 h1 h2)) (at_new w7 _ _) ?_
  exact ((HGW.out.trans GD).grown g7 (fun k hk => by simp at hk; omega)).alloc _
set_option maxRecDepth 100000 in
set_option maxHeartbeats 1000000 in
theorem hear_com4R {c : CM} {v vm : Value} {h : Hs} {dd hh me : Int} {ps : List Pt} (w : World) (hc : Sub c w.cell?) (hv : Of Ty.hs c v h) (hm : Of Ty.ms c vm ⟨4, dd, hh, ps⟩) (hk : ∀ x ∈ h.log, KeysOk x.parts) (hkm : KeysOk ps) (hn : (h.log.length + 1) * 40 ≤ 140737488355328) (hme : I64 me) (rd : readyE h.ready dd = true) (hin : dd ∈ (noteE h ⟨2, dd, []⟩).done) :
  Calls Try.prog 35 #[v, .int .i64 me, vm] w fun e w' => ∃ v1 v2, e = .returned (.tuple #[v1, v2]) ∧ Of Ty.hs (ov c w w') v1 (hearH h ⟨4, dd, hh, ps⟩) ∧ Sl Ty.ms (ov c w w') v2 (hearM h me ⟨4, dd, hh, ps⟩) ∧ Grow w w' := by
 obtain ⟨al, cl, ar, cr, ad, cd, rfl⟩ := hv.hs_form
 obtain ⟨ap, cp, rfl⟩ : ∃ ap cp, vm = .agg #[.int .i64 4, .int .i64 dd, .int .i64 hh, .slice ap ps.length cp] := hm.ms_form
 have hms : Sl Ty.pt c (.slice ap ps.length cp) ps ∧ I64 4 ∧ I64 dd ∧ I64 hh := Of.ms_parts hm
 have HMS := Lib.hid hms
 have HV0 := Lib.hid hv
 have HC := Lib.hid hc
 have HK0 := Lib.hid hk
 have HKM := Lib.hid hkm
 have HN := Lib.hid hn
 have HME := Lib.hid hme
 have HVO := Lib.hid (fun (W : World) (hW : Grow w W) => ref_vote (d := dd) W (hv.mono (hc.trans hW.sub)) (hms.1.mono (hc.trans hW.sub)) hkm)
 have HRD := Lib.hid (fun (W : World) (hW : Grow w W) => ref_ready (d := dd) W (hv.mono (hc.trans hW.sub)))
 have HIN := Lib.hid (fun (W : World) (hW : Grow w W) => ref_in (n := dd) W ((Of.hs_log hv).2.2.mono (hc.trans hW.sub)))
 have HG0 : Hid (Grow w (((w.alloc (.cells #[.slice al h.log.length cl, .int .i64 h.sums.a, .int .i64 h.sums.b, .int .i64 h.sums.c, .int .i64 h.sums.d, .slice ar h.ready.length cr, .slice ad h.done.length cd] 29)).alloc (.cells #[.int .i64 4, .int .i64 dd, .int .i64 hh, .slice ap ps.length cp] 39)).alloc (.cells #[.slice none 0 0, .int .i64 0, .int .i64 0, .int .i64 0, .int .i64 0, .slice none 0 0, .slice none 0 0] 29))) := Lib.hid ((((Grow.refl w).alloc _).alloc _).alloc _)
 have HR3 : Hid ((((w.alloc (.cells #[.slice al h.log.length cl, .int .i64 h.sums.a, .int .i64 h.sums.b, .int .i64 h.sums.c, .int .i64 h.sums.d, .slice ar h.ready.length cr, .slice ad h.done.length cd] 29)).alloc (.cells #[.int .i64 4, .int .i64 dd, .int .i64 hh, .slice ap ps.length cp] 39)).alloc (.cells #[.slice none 0 0, .int .i64 0, .int .i64 0, .int .i64 0, .int .i64 0, .slice none 0 0, .slice none 0 0] 29)).heap[w.heap.size]? = some (.cells #[.slice al h.log.length cl, .int .i64 h.sums.a, .int .i64 h.sums.b, .int .i64 h.sums.c, .int .i64 h.sums.d, .slice ar h.ready.length cr, .slice ad h.done.length cd] 29 (0, 0))) := Lib.hid (heap_later (heap_later (row_new _ _) _) _)
 have HR5 : Hid ((((w.alloc (.cells #[.slice al h.log.length cl, .int .i64 h.sums.a, .int .i64 h.sums.b, .int .i64 h.sums.c, .int .i64 h.sums.d, .slice ar h.ready.length cr, .slice ad h.done.length cd] 29)).alloc (.cells #[.int .i64 4, .int .i64 dd, .int .i64 hh, .slice ap ps.length cp] 39)).alloc (.cells #[.slice none 0 0, .int .i64 0, .int .i64 0, .int .i64 0, .int .i64 0, .slice none 0 0, .slice none 0 0] 29)).heap[w.heap.size + 1]? = some (.cells #[.int .i64 4, .int .i64 dd, .int .i64 hh, .slice ap ps.length cp] 39 (0, 0))) := Lib.hid (heap_later (by simpa using row_new (w.alloc (.cells #[.slice al h.log.length cl, .int .i64 h.sums.a, .int .i64 h.sums.b, .int .i64 h.sums.c, .int .i64 h.sums.d, .slice ar h.ready.length cr, .slice ad h.done.length cd] 29)) _) _)
 have HR6 : Hid ((((w.alloc (.cells #[.slice al h.log.length cl, .int .i64 h.sums.a, .int .i64 h.sums.b, .int .i64 h.sums.c, .int .i64 h.sums.d, .slice ar h.ready.length cr, .slice ad h.done.length cd] 29)).alloc (.cells #[.int .i64 4, .int .i64 dd, .int .i64 hh, .slice ap ps.length cp] 39)).alloc (.cells #[.slice none 0 0, .int .i64 0, .int .i64 0, .int .i64 0, .int .i64 0, .slice none 0 0, .slice none 0 0] 29)).heap[w.heap.size + 1 + 1]? = some (.cells #[.slice none 0 0, .int .i64 0, .int .i64 0, .int .i64 0, .int .i64 0, .slice none 0 0, .slice none 0 0] 29 (0, 0))) := Lib.hid (by simpa using row_new ((w.alloc (.cells #[.slice al h.log.length cl, .int .i64 h.sums.a, .int .i64 h.sums.b, .int .i64 h.sums.c, .int .i64 h.sums.d, .slice ar h.ready.length cr, .slice ad h.done.length cd] 29)).alloc (.cells #[.int .i64 4, .int .i64 dd, .int .i64 hh, .slice ap ps.length cp] 39)) _)
 clear hv hm hc hk hkm hn hme hms
 have HEH : Hid (hearH h ⟨4, dd, hh, ps⟩ = noteE h ⟨2, dd, []⟩) := by
  show hearH h ⟨4, dd, hh, ps⟩ = noteE h ⟨2, dd, []⟩
  unfold hearH
  rw [if_neg (fun e => by cases e), if_pos rfl, if_pos rd]
 have HEM : Hid (hearM h me ⟨4, dd, hh, ps⟩ = sayE 6 dd me) := by
  show hearM h me ⟨4, dd, hh, ps⟩ = sayE 6 dd me
  unfold hearM
  rw [if_neg (fun e => by cases e), if_pos rfl, HEH.out, if_pos hin]
 have HIN2 := Lib.hid hin
 clear hin
 have RD := Lib.hid rd
 clear rd
 go_enter Try.func35, Try.ntmps35
 go_wp2_with fail
 refine (HRD.out _ HG0.out).mono ?_
 rw [RD.out]
 rintro e v1 ⟨rfl, hbv1⟩
 (obtain ⟨cv1, fv1⟩ := bcell hbv1; have zv10 : w.heap.size < v1.heap.size := (by have := hbv1.size; (try simp at this); omega); have zv11 : w.heap.size + 1 < v1.heap.size := (by have := hbv1.size; (try simp at this); omega); have zv12 : w.heap.size + 1 + 1 < v1.heap.size := (by have := hbv1.size; (try simp at this); omega); have Gv1 := Lib.hid hbv1; clear hbv1)
 have GV0 : Hid (Grow _ v1) := Lib.hid Gv1.out
 have hz : ∀ u, (zeroValue 3).run Try.prog u = .ok (.int .i64 0) u := fun u => by kernel_rfl
 have hmm := @run_makeMap Try.prog
 go_wp2_with (first | (refine wp_insert keyInt Try.underlying142 rfl _ _ _ rfl (MapIs.new (enc := encInt) _) 4 (.int .i64 2) rfl rfl rfl ?_))
 clear hmm
 intro m1 hM1 hm1
 have gm1 : Grow v1 m1 := ((Grow.refl _).alloc (.map #[] 0)).grown hm1 (fun k hk => by simp at hk; omega)
 have HM1 := Lib.hid hM1
 clear hM1 hm1
 go_wp2_with (first | (refine wp_insert keyInt Try.underlying142 rfl _ _ _ rfl HM1.out 5 (.int .i64 3) rfl rfl rfl ?_))
 intro m2 hM2 hm2
 have gm2 : Grow v1 m2 := gm1.grown hm2 (fun k hk => by simp at hk; omega)
 have HM2 := Lib.hid hM2
 clear hM2 hm2 gm1
 have GM2 := Lib.hid gm2
 have GW2 : Hid (Grow _ m2) := Lib.hid (GV0.out.trans gm2)
 obtain ⟨k0, k1, k2, k3, k4, k5, k6⟩ := cells7 (row_grow HR3.out GW2.out)
 obtain ⟨n0, n1, n2, n3⟩ := cells4 (row_grow HR5.out GW2.out)
 clear gm2
 go_wp2_with (first | (at_lookup; refine wp_lookup' keyInt Try.underlying142 hz rfl _ _ rfl HM2.out 4 (.int .i64 2) (by rfl) rfl rfl ?_))
 clear k0 k1 k2 k3 k4 k5 k6
 obtain ⟨k0, k1, k2, k3, k4, k5, k6⟩ := cells7 (row_grow HR3.out GW2.out)
 go_wp2_with fail
 have GW : Hid (Grow _ m2) := Lib.hid GW2.out
 have GV : Hid (Grow w m2) := Lib.hid (HG0.out.trans GW.out)
 have ZV : Hid (w.heap.size + 1 + 1 < m2.heap.size) := Lib.hid (Array.getElem?_eq_some_iff.1 (row_grow HR6.out GW.out)).1
 have hrr : Ty.rc.R (wk w.heap.size 3 (ov c w m2)) [.int .i64 (⟨2, dd, []⟩ : Rc).kind, .int .i64 dd, .slice none 0 0] ⟨2, dd, []⟩ := Ty.rc.mono (wk_in HC.out 3) (show Ty.rc.R c [.int .i64 2, .int .i64 dd, .slice none 0 0] ⟨2, dd, []⟩ from ⟨_, rfl, (show I64 2 from by unfold I64; decide), HMS.out.2.2.1, Sl.nil _ _⟩)
 refine (ref_note (c := wk w.heap.size 3 (ov c w m2)) (r := ⟨2, dd, []⟩) m2 (wk_ov HC.out GV.out 3) (HV0.out.mono (wk_in HC.out 3)) ⟨_, rfl, hrr⟩ HK0.out (by intro p hp; simp at hp) HN.out).mono ?_
 clear hrr
 generalize noteE h ⟨2, dd, []⟩ = x at *
 rintro e v3 ⟨vx, rfl, hX, hbv3⟩
 obtain ⟨al2, cl2, ar2, cr2, ad2, cd2, rfl⟩ := hX.hs_form
 have HX := Lib.hid hX
 have HG3 := Lib.hid hbv3
 clear hX
 have GW3 : Hid (Grow _ v3) := Lib.hid (GW.out.trans hbv3)
 obtain ⟨k0, k1, k2, k3, k4, k5, k6⟩ := cells7 (row_grow HR3.out GW3.out)
 have kf := row_free (row_grow HR3.out GW3.out)
 obtain ⟨m0, m1, m2, m3⟩ := cells4 (row_grow HR5.out GW3.out)
 clear hbv3
 go_wp2_with (first | (refine wpList_store_row rfl (.tmp 3) (.tmp 54) rfl rfl rfl (row_grow HR3.out GW3.out) info_hs rfl rfl ?_))
 intro v4 r4 g4
 have R3 := Lib.hid r4
 have BY4 := Lib.hid g4
 clear r4 g4
 have R5 : Hid (v4.heap[w.heap.size + 1]? = _) := Lib.hid (row_by (row_grow HR5.out GW3.out) BY4.out (by simp))
 have R6 : Hid (v4.heap[w.heap.size + 1 + 1]? = _) := Lib.hid (row_by (row_grow HR6.out GW3.out) BY4.out (by simp; omega))
 clear k0 k1 k2 k3 k4 k5 k6 kf m0 m1 m2 m3
 have HG4 : Hid (Grow w v4) := Lib.hid ((GV.out.trans HG3.out).grown BY4.out (fun k hk => by simp at hk; omega))
 obtain ⟨k0, k1, k2, k3, k4, k5, k6⟩ := cells7 R3.out
 obtain ⟨m0, m1, m2, m3⟩ := cells4 R5.out
 go_wp2_with fail
 have HIX := Lib.hid (fun (W : World) (hW : Grow v4 W) => ref_in (n := dd) W ((Of.hs_log ((HX.out.mono (ov_boxes (w' := v4) (k := 3) GV.out HG3.out (by have := ZV.out; omega) fun a u ha e => by rw [by_cell BY4.out (World.block_lt_of_cell? v3 a e) (by omega)]; exact e)).mono (ov_sub HC.out HG4.out))).2.2.mono hW.sub))
 go_wp2_with fail
 refine (HIX.out _ (Grow.refl _)).mono ?_
 rw [decide_eq_true HIN2.out]
 rintro e v5 ⟨rfl, hbv5⟩
 have HB5 := Lib.hid hbv5
 clear k0 k1 k2 k3 k4 k5 k6 m0 m1 m2 m3
 obtain ⟨k0, k1, k2, k3, k4, k5, k6⟩ := cells7 (row_grow R3.out HB5.out)
 obtain ⟨m0, m1, m2, m3⟩ := cells4 (row_grow R5.out HB5.out)
 clear hbv5
 go_wp2_with fail
 have hS : v5.cell? ⟨w.heap.size, 0, none⟩ = some (.slice al2 x.log.length cl2) ∧ v5.cell? ⟨w.heap.size, 1, none⟩ = some (.int .i64 x.sums.a) ∧ v5.cell? ⟨w.heap.size, 2, none⟩ = some (.int .i64 x.sums.b) ∧ v5.cell? ⟨w.heap.size, 3, none⟩ = some (.int .i64 x.sums.c) ∧ v5.cell? ⟨w.heap.size, 4, none⟩ = some (.int .i64 x.sums.d) ∧ v5.cell? ⟨w.heap.size, 5, none⟩ = some (.slice ar2 x.ready.length cr2) ∧ v5.cell? ⟨w.heap.size, 6, none⟩ = some (.slice ad2 x.done.length cd2) ∧ v5.cell? ⟨w.heap.size + 1, 1, none⟩ = some (.int .i64 dd) := by refine ⟨?_, ?_, ?_, ?_, ?_, ?_, ?_, ?_⟩ <;> go_simp
 have HGW : Hid (Grow w v5) := Lib.hid (HG4.out.trans HB5.out)
 have R6 : Hid (v5.heap[w.heap.size + 1 + 1]? = some (.cells #[.slice none 0 0, .int .i64 0, .int .i64 0, .int .i64 0, .int .i64 0, .slice none 0 0, .slice none 0 0] 29 (0, 0))) := Lib.hid (row_grow R6.out HB5.out)
 have hz0 : w.heap.size + 1 + 1 < v5.heap.size := (Array.getElem?_eq_some_iff.1 R6.out).1
 obtain ⟨s0, s1, s2, s3, s4, s5, s6, s7⟩ := hS
 have HS : Hid (∀ W, v5.grownBy W (some (w.heap.size + 1 + 1)) → W.cell? ⟨w.heap.size, 0, none⟩ = some (.slice al2 x.log.length cl2) ∧ W.cell? ⟨w.heap.size, 1, none⟩ = some (.int .i64 x.sums.a) ∧ W.cell? ⟨w.heap.size, 2, none⟩ = some (.int .i64 x.sums.b) ∧ W.cell? ⟨w.heap.size, 3, none⟩ = some (.int .i64 x.sums.c) ∧ W.cell? ⟨w.heap.size, 4, none⟩ = some (.int .i64 x.sums.d) ∧ W.cell? ⟨w.heap.size, 5, none⟩ = some (.slice ar2 x.ready.length cr2) ∧ W.cell? ⟨w.heap.size, 6, none⟩ = some (.slice ad2 x.done.length cd2) ∧ W.cell? ⟨w.heap.size + 1, 1, none⟩ = some (.int .i64 dd)) := fun W hW => by
  have k : ∀ (b o : Nat) (u : Value), b < w.heap.size + 1 + 1 → v5.cell? ⟨b, o, none⟩ = some u → W.cell? ⟨b, o, none⟩ = some u := fun b o u hb e => by
   rw [by_cell hW (World.block_lt_of_cell? v5 _ e) (by simp; omega)]; exact e
  exact ⟨k _ _ _ (by omega) s0, k _ _ _ (by omega) s1, k _ _ _ (by omega) s2, k _ _ _ (by omega) s3, k _ _ _ (by omega) s4, k _ _ _ (by omega) s5, k _ _ _ (by omega) s6, k _ _ _ (by omega) s7⟩
 clear s0 s1 s2 s3 s4 s5 s6 s7
 refine but_start (fun w' => w'.cell? ⟨w.heap.size, 0, none⟩ = some (.slice al2 x.log.length cl2) ∧ w'.cell? ⟨w.heap.size, 1, none⟩ = some (.int .i64 x.sums.a) ∧ w'.cell? ⟨w.heap.size, 2, none⟩ = some (.int .i64 x.sums.b) ∧ w'.cell? ⟨w.heap.size, 3, none⟩ = some (.int .i64 x.sums.c) ∧ w'.cell? ⟨w.heap.size, 4, none⟩ = some (.int .i64 x.sums.d) ∧ w'.cell? ⟨w.heap.size, 5, none⟩ = some (.slice ar2 x.ready.length cr2) ∧ w'.cell? ⟨w.heap.size, 6, none⟩ = some (.slice ad2 x.done.length cd2) ∧ w'.cell? ⟨w.heap.size + 1, 1, none⟩ = some (.int .i64 dd)) 8 (by kernel_rfl) ?_
 obtain ⟨wd, hWd⟩ : ∃ x : World, x = v5.drew := ⟨_, rfl⟩
 rw [← hWd]
 have GD : Grow v5 wd := by rw [hWd]; exact (Grow.refl _).drew
 have zD : v5.heap.size = wd.heap.size := by rw [hWd]; rfl
 have ZD := Lib.hid zD
 clear hWd zD
 have hzd : w.heap.size + 1 + 1 < wd.heap.size := by have := ZD.out; omega
 have hzw : w.heap.size ≤ wd.heap.size := by have := hzd; omega
 have FIN : Hid (∀ (Wf : World) (q : Nat), w.heap.size ≤ q → (∀ a : Addr, a.block < wd.heap.size → a.block ≠ w.heap.size + 1 + 1 → Wf.cell? a = wd.cell? a) → At Wf.cell? q 0 (#[.int .i64 6, .int .i64 dd, .int .i64 me, .slice none 0 0] : Array Value).toList → Grow w Wf → ∃ v1 v2, Ending.returned (.tuple #[.agg #[.slice al2 x.log.length cl2, .int .i64 x.sums.a, .int .i64 x.sums.b, .int .i64 x.sums.c, .int .i64 x.sums.d, .slice ar2 x.ready.length cr2, .slice ad2 x.done.length cd2], .slice (some ⟨q, 0, none⟩) 1 1]) = .returned (.tuple #[v1, v2]) ∧ Of Ty.hs (ov c w Wf) v1 (hearH h ⟨4, dd, hh, ps⟩) ∧ Sl Ty.ms (ov c w Wf) v2 (hearM h me ⟨4, dd, hh, ps⟩) ∧ Grow w Wf) := by
  intro Wf q hq hA hAt hGf
  refine ⟨_, _, rfl, ?_, ?_, hGf⟩
  ·rw [HEH.out]
   exact HX.out.mono (ov_boxes (k := 3) GV.out HG3.out (by have := ZV.out; omega) fun a u ha e => by
    have l1 := World.block_lt_of_cell? v3 a e
    have l2 := BY4.out.size
    have l3 := HB5.out.size
    have l4 := GD.size
    rw [hA a (by omega) (by omega), GD.cell (by omega), HB5.out.cell (by omega), by_cell BY4.out l1 (by omega)]
    exact e)
  ·rw [HEM.out]
   exact sl_one (T := Ty.ms) ⟨_, rfl, (show I64 6 from by unfold I64; decide), HMS.out.2.2.1, HME.out, Sl.nil _ _⟩ (at_ov hAt hq) (by decide) (by decide)
 refine bLm [0] 8 (by kernel_rfl) (fun _ _ _ _ _ h => h) (HS.out _ (grownBy_of_grow GD _)) ?_
 repeat (refine tNm (v := ?_) rfl (by rfl) ?_ ?_; rotate_left; (· (intro w' hSw; (try dsimp only at hSw); obtain ⟨hs0, hs1, hs2, hs3, hs4, hs5, hs6, hs7⟩ := hSw; go_simp <;> with_reducible rfl)); try simp only [Act.put, lzA, lzC, lzD, lzE, lzF])
 refine tEm ?_
 refine bLm [1, 2, 3, 4, 5] 8 (by kernel_rfl) (fun _ _ _ _ _ h => h) (HS.out _ (grownBy_of_grow GD _)) ?_
 repeat (refine tNm (v := ?_) rfl (by rfl) ?_ ?_; rotate_left; (· (intro w' hSw; (try dsimp only at hSw); obtain ⟨hs0, hs1, hs2, hs3, hs4, hs5, hs6, hs7⟩ := hSw; go_simp <;> with_reducible rfl)); try simp only [Act.put, lzA, lzB, lzC, lzD, lzE, lzF])
 refine tEm ?_
 refine bP 6 7 (by kernel_rfl) rfl rfl ?_ ?_
 ·intro K HK
  try simp only [lzA, lzB, lzC]
  go_simp
  refine HK.out _ _ ⟨fun _ => HS.out _ (grownBy_trans (grownBy_of_grow GD _) (grownBy_of_grow ((Grow.refl _).alloc _) _)), ?_⟩
  clear HK K
  try simp only [Act.put, lzA, lzB, lzC, lzD, lzE, lzF]
  refine bO 7 (by kernel_rfl) rfl ?_
  intro K HK
  refine wanted_go rfl ?_
  try simp only [lzA, lzB, lzC]
  refine wp_store_row (.tmp 6) (.tmp 67) rfl rfl rfl (row_grow R6.out (GD.alloc _)) info_hs rfl rfl ?_
  intro w7 r7 g7
  refine HK.out _ _ ⟨fun _ => HS.out _ (grownBy_trans (grownBy_trans (grownBy_of_grow GD _) (grownBy_of_grow ((Grow.refl _).alloc _) _)) g7), ?_⟩
  clear HK K
  try simp only [Act.put]
  refine bO 8 (by kernel_rfl) rfl ?_
  intro K HK
  try simp only [lzA, lzB, lzC]
  go_simp
  refine HK.out _ _ ⟨fun h => absurd rfl h, ?_⟩
  clear HK K
  try simp only [Act.put, lzA, lzB, lzC, lzD, lzE, lzF]
  refine but_done (by kernel_rfl) ?_
  obtain ⟨p0, p1, p2, p3, p4, p5, p6⟩ := cells7 r7
  go_wp2
  refine bodyPost_ret (v := .tuple #[.agg #[.slice al2 x.log.length cl2, .int .i64 x.sums.a, .int .i64 x.sums.b, .int .i64 x.sums.c, .int .i64 x.sums.d, .slice ar2 x.ready.length cr2, .slice ad2 x.done.length cd2], .slice (some ⟨wd.heap.size, 0, none⟩) 1 1]) (by simp [results, Try.results35, go_sem, p0, p1, p2, p3, p4, p5, p6]) rfl ?_
  refine FIN.out _ wd.heap.size hzw (fun a h1 h2 => (by_cell g7 (by simp; omega) h2).trans (((Grow.refl wd).alloc _).cell h1)) (fun j u e => (by_cell g7 (by simp) (by simp; omega)).trans (at_new wd _ _ j u e)) ?_
  exact (HGW.out.trans (GD.alloc _)).grown g7 (fun k hk => by simp at hk; omega)
 ·intro K HK
  refine wanted_go rfl ?_
  try simp only [lzA, lzB, lzC]
  refine wp_store_row (.tmp 6) (.tmp 67) rfl rfl rfl (row_grow R6.out GD) info_hs rfl rfl ?_
  intro w7 r7 g7
  refine HK.out _ _ ⟨fun _ => HS.out _ (grownBy_trans (grownBy_of_grow GD _) g7), ?_⟩
  clear HK K
  try simp only [Act.put]
  refine bO 6 (by kernel_rfl) rfl ?_
  intro K HK
  try simp only [lzA, lzB, lzC]
  go_simp
  refine HK.out _ _ ⟨fun _ => HS.out _ (grownBy_trans (grownBy_trans (grownBy_of_grow GD _) g7) (grownBy_of_grow ((Grow.refl _).alloc _) _)), ?_⟩
  clear HK K
  try simp only [Act.put, lzA, lzB, lzC, lzD, lzE, lzF]
  refine bO 8 (by kernel_rfl) rfl ?_
  intro K HK
  try simp only [lzA, lzB, lzC]
  go_simp
  refine HK.out _ _ ⟨fun h => absurd rfl h, ?_⟩
  clear HK K
  try simp only [Act.put, lzA, lzB, lzC, lzD, lzE, lzF]
  refine but_done (by kernel_rfl) ?_
  obtain ⟨p0, p1, p2, p3, p4, p5, p6⟩ := cells7 (heap_later r7 (.cells #[.int .i64 6, .int .i64 dd, .int .i64 me, .slice none 0 0] 39))
  go_wp2
  refine bodyPost_ret (v := .tuple #[.agg #[.slice al2 x.log.length cl2, .int .i64 x.sums.a, .int .i64 x.sums.b, .int .i64 x.sums.c, .int .i64 x.sums.d, .slice ar2 x.ready.length cr2, .slice ad2 x.done.length cd2], .slice (some ⟨w7.heap.size, 0, none⟩) 1 1]) (by simp [results, Try.results35, go_sem, p0, p1, p2, p3, p4, p5, p6]) rfl ?_
  refine FIN.out _ w7.heap.size (Nat.le_trans hzw g7.size) (fun a h1 h2 => (((Grow.refl w7).alloc _).cell (Nat.lt_of_lt_of_le h1 g7.size)).trans (by_cell g7 h1 h2)) (at_new w7 _ _) ?_
  exact ((HGW.out.trans GD).grown g7 (fun k hk => by simp at hk; omega)).alloc _
set_option maxRecDepth 100000 in
set_option maxHeartbeats 1000000 in
theorem hear_com4D {c : CM} {v vm : Value} {h : Hs} {dd hh me : Int} {ps : List Pt} (w : World) (hc : Sub c w.cell?) (hv : Of Ty.hs c v h) (hm : Of Ty.ms c vm ⟨4, dd, hh, ps⟩) (hk : ∀ x ∈ h.log, KeysOk x.parts) (hkm : KeysOk ps) (hn : (h.log.length + 1) * 40 ≤ 140737488355328) (hme : I64 me) (rd : readyE h.ready dd = false) (hin : dd ∈ h.done) :
  Calls Try.prog 35 #[v, .int .i64 me, vm] w fun e w' => ∃ v1 v2, e = .returned (.tuple #[v1, v2]) ∧ Of Ty.hs (ov c w w') v1 (hearH h ⟨4, dd, hh, ps⟩) ∧ Sl Ty.ms (ov c w w') v2 (hearM h me ⟨4, dd, hh, ps⟩) ∧ Grow w w' := by
 obtain ⟨al, cl, ar, cr, ad, cd, rfl⟩ := hv.hs_form
 obtain ⟨ap, cp, rfl⟩ : ∃ ap cp, vm = .agg #[.int .i64 4, .int .i64 dd, .int .i64 hh, .slice ap ps.length cp] := hm.ms_form
 have hms : Sl Ty.pt c (.slice ap ps.length cp) ps ∧ I64 4 ∧ I64 dd ∧ I64 hh := Of.ms_parts hm
 have HMS := Lib.hid hms
 have HV0 := Lib.hid hv
 have HC := Lib.hid hc
 have HK0 := Lib.hid hk
 have HKM := Lib.hid hkm
 have HN := Lib.hid hn
 have HME := Lib.hid hme
 have HVO := Lib.hid (fun (W : World) (hW : Grow w W) => ref_vote (d := dd) W (hv.mono (hc.trans hW.sub)) (hms.1.mono (hc.trans hW.sub)) hkm)
 have HRD := Lib.hid (fun (W : World) (hW : Grow w W) => ref_ready (d := dd) W (hv.mono (hc.trans hW.sub)))
 have HIN := Lib.hid (fun (W : World) (hW : Grow w W) => ref_in (n := dd) W ((Of.hs_log hv).2.2.mono (hc.trans hW.sub)))
 have HG0 : Hid (Grow w (((w.alloc (.cells #[.slice al h.log.length cl, .int .i64 h.sums.a, .int .i64 h.sums.b, .int .i64 h.sums.c, .int .i64 h.sums.d, .slice ar h.ready.length cr, .slice ad h.done.length cd] 29)).alloc (.cells #[.int .i64 4, .int .i64 dd, .int .i64 hh, .slice ap ps.length cp] 39)).alloc (.cells #[.slice none 0 0, .int .i64 0, .int .i64 0, .int .i64 0, .int .i64 0, .slice none 0 0, .slice none 0 0] 29))) := Lib.hid ((((Grow.refl w).alloc _).alloc _).alloc _)
 have HR3 : Hid ((((w.alloc (.cells #[.slice al h.log.length cl, .int .i64 h.sums.a, .int .i64 h.sums.b, .int .i64 h.sums.c, .int .i64 h.sums.d, .slice ar h.ready.length cr, .slice ad h.done.length cd] 29)).alloc (.cells #[.int .i64 4, .int .i64 dd, .int .i64 hh, .slice ap ps.length cp] 39)).alloc (.cells #[.slice none 0 0, .int .i64 0, .int .i64 0, .int .i64 0, .int .i64 0, .slice none 0 0, .slice none 0 0] 29)).heap[w.heap.size]? = some (.cells #[.slice al h.log.length cl, .int .i64 h.sums.a, .int .i64 h.sums.b, .int .i64 h.sums.c, .int .i64 h.sums.d, .slice ar h.ready.length cr, .slice ad h.done.length cd] 29 (0, 0))) := Lib.hid (heap_later (heap_later (row_new _ _) _) _)
 have HR5 : Hid ((((w.alloc (.cells #[.slice al h.log.length cl, .int .i64 h.sums.a, .int .i64 h.sums.b, .int .i64 h.sums.c, .int .i64 h.sums.d, .slice ar h.ready.length cr, .slice ad h.done.length cd] 29)).alloc (.cells #[.int .i64 4, .int .i64 dd, .int .i64 hh, .slice ap ps.length cp] 39)).alloc (.cells #[.slice none 0 0, .int .i64 0, .int .i64 0, .int .i64 0, .int .i64 0, .slice none 0 0, .slice none 0 0] 29)).heap[w.heap.size + 1]? = some (.cells #[.int .i64 4, .int .i64 dd, .int .i64 hh, .slice ap ps.length cp] 39 (0, 0))) := Lib.hid (heap_later (by simpa using row_new (w.alloc (.cells #[.slice al h.log.length cl, .int .i64 h.sums.a, .int .i64 h.sums.b, .int .i64 h.sums.c, .int .i64 h.sums.d, .slice ar h.ready.length cr, .slice ad h.done.length cd] 29)) _) _)
 have HR6 : Hid ((((w.alloc (.cells #[.slice al h.log.length cl, .int .i64 h.sums.a, .int .i64 h.sums.b, .int .i64 h.sums.c, .int .i64 h.sums.d, .slice ar h.ready.length cr, .slice ad h.done.length cd] 29)).alloc (.cells #[.int .i64 4, .int .i64 dd, .int .i64 hh, .slice ap ps.length cp] 39)).alloc (.cells #[.slice none 0 0, .int .i64 0, .int .i64 0, .int .i64 0, .int .i64 0, .slice none 0 0, .slice none 0 0] 29)).heap[w.heap.size + 1 + 1]? = some (.cells #[.slice none 0 0, .int .i64 0, .int .i64 0, .int .i64 0, .int .i64 0, .slice none 0 0, .slice none 0 0] 29 (0, 0))) := Lib.hid (by simpa using row_new ((w.alloc (.cells #[.slice al h.log.length cl, .int .i64 h.sums.a, .int .i64 h.sums.b, .int .i64 h.sums.c, .int .i64 h.sums.d, .slice ar h.ready.length cr, .slice ad h.done.length cd] 29)).alloc (.cells #[.int .i64 4, .int .i64 dd, .int .i64 hh, .slice ap ps.length cp] 39)) _)
 clear hv hm hc hk hkm hn hme hms
 have HEH : Hid (hearH h ⟨4, dd, hh, ps⟩ = h) := by
  show hearH h ⟨4, dd, hh, ps⟩ = h
  unfold hearH
  rw [if_neg (fun e => by cases e), if_pos rfl, if_neg (by rw [show readyE h.ready (Ms.deed ⟨4, dd, hh, ps⟩) = false from rd]; simp)]
 have HEM : Hid (hearM h me ⟨4, dd, hh, ps⟩ = sayE 6 dd me) := by
  show hearM h me ⟨4, dd, hh, ps⟩ = sayE 6 dd me
  unfold hearM
  rw [if_neg (fun e => by cases e), if_pos rfl, HEH.out, if_pos hin]
 have HIN2 := Lib.hid hin
 clear hin
 have RD := Lib.hid rd
 clear rd
 go_enter Try.func35, Try.ntmps35
 go_wp2_with fail
 refine (HRD.out _ HG0.out).mono ?_
 rw [RD.out]
 rintro e v1 ⟨rfl, hbv1⟩
 (obtain ⟨cv1, fv1⟩ := bcell hbv1; have zv10 : w.heap.size < v1.heap.size := (by have := hbv1.size; (try simp at this); omega); have zv11 : w.heap.size + 1 < v1.heap.size := (by have := hbv1.size; (try simp at this); omega); have zv12 : w.heap.size + 1 + 1 < v1.heap.size := (by have := hbv1.size; (try simp at this); omega); have Gv1 := Lib.hid hbv1; clear hbv1)
 go_wp2_with fail
 refine (HIN.out _ (HG0.out.trans Gv1.out)).mono ?_
 rw [decide_eq_true HIN2.out]
 rintro e v2 ⟨rfl, hbv2⟩
 (obtain ⟨cv2, fv2⟩ := bcell hbv2; have zv20 : w.heap.size < v2.heap.size := (by have := hbv2.size; (try simp at this); omega); have zv21 : w.heap.size + 1 < v2.heap.size := (by have := hbv2.size; (try simp at this); omega); have zv22 : w.heap.size + 1 + 1 < v2.heap.size := (by have := hbv2.size; (try simp at this); omega); have Gv2 := Lib.hid hbv2; clear hbv2)
 go_wp2_with fail
 have hS : v2.cell? ⟨w.heap.size, 0, none⟩ = some (.slice al h.log.length cl) ∧ v2.cell? ⟨w.heap.size, 1, none⟩ = some (.int .i64 h.sums.a) ∧ v2.cell? ⟨w.heap.size, 2, none⟩ = some (.int .i64 h.sums.b) ∧ v2.cell? ⟨w.heap.size, 3, none⟩ = some (.int .i64 h.sums.c) ∧ v2.cell? ⟨w.heap.size, 4, none⟩ = some (.int .i64 h.sums.d) ∧ v2.cell? ⟨w.heap.size, 5, none⟩ = some (.slice ar h.ready.length cr) ∧ v2.cell? ⟨w.heap.size, 6, none⟩ = some (.slice ad h.done.length cd) ∧ v2.cell? ⟨w.heap.size + 1, 1, none⟩ = some (.int .i64 dd) := by refine ⟨?_, ?_, ?_, ?_, ?_, ?_, ?_, ?_⟩ <;> go_simp
 have HGW : Hid (Grow w v2) := Lib.hid ((HG0.out.trans Gv1.out).trans Gv2.out)
 have R6 : Hid (v2.heap[w.heap.size + 1 + 1]? = some (.cells #[.slice none 0 0, .int .i64 0, .int .i64 0, .int .i64 0, .int .i64 0, .slice none 0 0, .slice none 0 0] 29 (0, 0))) := Lib.hid (row_grow HR6.out (Gv1.out.trans Gv2.out))
 have hz0 : w.heap.size + 1 + 1 < v2.heap.size := (Array.getElem?_eq_some_iff.1 R6.out).1
 obtain ⟨s0, s1, s2, s3, s4, s5, s6, s7⟩ := hS
 have HS : Hid (∀ W, v2.grownBy W (some (w.heap.size + 1 + 1)) → W.cell? ⟨w.heap.size, 0, none⟩ = some (.slice al h.log.length cl) ∧ W.cell? ⟨w.heap.size, 1, none⟩ = some (.int .i64 h.sums.a) ∧ W.cell? ⟨w.heap.size, 2, none⟩ = some (.int .i64 h.sums.b) ∧ W.cell? ⟨w.heap.size, 3, none⟩ = some (.int .i64 h.sums.c) ∧ W.cell? ⟨w.heap.size, 4, none⟩ = some (.int .i64 h.sums.d) ∧ W.cell? ⟨w.heap.size, 5, none⟩ = some (.slice ar h.ready.length cr) ∧ W.cell? ⟨w.heap.size, 6, none⟩ = some (.slice ad h.done.length cd) ∧ W.cell? ⟨w.heap.size + 1, 1, none⟩ = some (.int .i64 dd)) := fun W hW => by
  have k : ∀ (b o : Nat) (u : Value), b < w.heap.size + 1 + 1 → v2.cell? ⟨b, o, none⟩ = some u → W.cell? ⟨b, o, none⟩ = some u := fun b o u hb e => by
   rw [by_cell hW (World.block_lt_of_cell? v2 _ e) (by simp; omega)]; exact e
  exact ⟨k _ _ _ (by omega) s0, k _ _ _ (by omega) s1, k _ _ _ (by omega) s2, k _ _ _ (by omega) s3, k _ _ _ (by omega) s4, k _ _ _ (by omega) s5, k _ _ _ (by omega) s6, k _ _ _ (by omega) s7⟩
 clear s0 s1 s2 s3 s4 s5 s6 s7
 refine but_start (fun w' => w'.cell? ⟨w.heap.size, 0, none⟩ = some (.slice al h.log.length cl) ∧ w'.cell? ⟨w.heap.size, 1, none⟩ = some (.int .i64 h.sums.a) ∧ w'.cell? ⟨w.heap.size, 2, none⟩ = some (.int .i64 h.sums.b) ∧ w'.cell? ⟨w.heap.size, 3, none⟩ = some (.int .i64 h.sums.c) ∧ w'.cell? ⟨w.heap.size, 4, none⟩ = some (.int .i64 h.sums.d) ∧ w'.cell? ⟨w.heap.size, 5, none⟩ = some (.slice ar h.ready.length cr) ∧ w'.cell? ⟨w.heap.size, 6, none⟩ = some (.slice ad h.done.length cd) ∧ w'.cell? ⟨w.heap.size + 1, 1, none⟩ = some (.int .i64 dd)) 8 (by kernel_rfl) ?_
 obtain ⟨wd, hWd⟩ : ∃ x : World, x = v2.drew := ⟨_, rfl⟩
 rw [← hWd]
 have GD : Grow v2 wd := by rw [hWd]; exact (Grow.refl _).drew
 have zD : v2.heap.size = wd.heap.size := by rw [hWd]; rfl
 have ZD := Lib.hid zD
 clear hWd zD
 have hzd : w.heap.size + 1 + 1 < wd.heap.size := by have := ZD.out; omega
 have hzw : w.heap.size ≤ wd.heap.size := by have := hzd; omega
 have FIN : Hid (∀ (Wf : World) (q : Nat), w.heap.size ≤ q → (∀ a : Addr, a.block < wd.heap.size → a.block ≠ w.heap.size + 1 + 1 → Wf.cell? a = wd.cell? a) → At Wf.cell? q 0 (#[.int .i64 6, .int .i64 dd, .int .i64 me, .slice none 0 0] : Array Value).toList → Grow w Wf → ∃ v1 v2, Ending.returned (.tuple #[.agg #[.slice al h.log.length cl, .int .i64 h.sums.a, .int .i64 h.sums.b, .int .i64 h.sums.c, .int .i64 h.sums.d, .slice ar h.ready.length cr, .slice ad h.done.length cd], .slice (some ⟨q, 0, none⟩) 1 1]) = .returned (.tuple #[v1, v2]) ∧ Of Ty.hs (ov c w Wf) v1 (hearH h ⟨4, dd, hh, ps⟩) ∧ Sl Ty.ms (ov c w Wf) v2 (hearM h me ⟨4, dd, hh, ps⟩) ∧ Grow w Wf) := by
  intro Wf q hq hA hAt hGf
  refine ⟨_, _, rfl, ?_, ?_, hGf⟩
  ·rw [HEH.out]
   exact HV0.out.mono (ov_in HC.out)
  ·rw [HEM.out]
   exact sl_one (T := Ty.ms) ⟨_, rfl, (show I64 6 from by unfold I64; decide), HMS.out.2.2.1, HME.out, Sl.nil _ _⟩ (at_ov hAt hq) (by decide) (by decide)
 refine bLm [0] 8 (by kernel_rfl) (fun _ _ _ _ _ h => h) (HS.out _ (grownBy_of_grow GD _)) ?_
 repeat (refine tNm (v := ?_) rfl (by rfl) ?_ ?_; rotate_left; (· (intro w' hSw; (try dsimp only at hSw); obtain ⟨hs0, hs1, hs2, hs3, hs4, hs5, hs6, hs7⟩ := hSw; go_simp <;> with_reducible rfl)); try simp only [Act.put, lzA, lzC, lzD, lzE, lzF])
 refine tEm ?_
 refine bLm [1, 2, 3, 4, 5] 8 (by kernel_rfl) (fun _ _ _ _ _ h => h) (HS.out _ (grownBy_of_grow GD _)) ?_
 repeat (refine tNm (v := ?_) rfl (by rfl) ?_ ?_; rotate_left; (· (intro w' hSw; (try dsimp only at hSw); obtain ⟨hs0, hs1, hs2, hs3, hs4, hs5, hs6, hs7⟩ := hSw; go_simp <;> with_reducible rfl)); try simp only [Act.put, lzA, lzB, lzC, lzD, lzE, lzF])
 refine tEm ?_
 refine bP 6 7 (by kernel_rfl) rfl rfl ?_ ?_
 ·intro K HK
  try simp only [lzA, lzB, lzC]
  go_simp
  refine HK.out _ _ ⟨fun _ => HS.out _ (grownBy_trans (grownBy_of_grow GD _) (grownBy_of_grow ((Grow.refl _).alloc _) _)), ?_⟩
  clear HK K
  try simp only [Act.put, lzA, lzB, lzC, lzD, lzE, lzF]
  refine bO 7 (by kernel_rfl) rfl ?_
  intro K HK
  refine wanted_go rfl ?_
  try simp only [lzA, lzB, lzC]
  refine wp_store_row (.tmp 6) (.tmp 67) rfl rfl rfl (row_grow R6.out (GD.alloc _)) info_hs rfl rfl ?_
  intro w7 r7 g7
  refine HK.out _ _ ⟨fun _ => HS.out _ (grownBy_trans (grownBy_trans (grownBy_of_grow GD _) (grownBy_of_grow ((Grow.refl _).alloc _) _)) g7), ?_⟩
  clear HK K
  try simp only [Act.put]
  refine bO 8 (by kernel_rfl) rfl ?_
  intro K HK
  try simp only [lzA, lzB, lzC]
  go_simp
  refine HK.out _ _ ⟨fun h => absurd rfl h, ?_⟩
  clear HK K
  try simp only [Act.put, lzA, lzB, lzC, lzD, lzE, lzF]
  refine but_done (by kernel_rfl) ?_
  obtain ⟨p0, p1, p2, p3, p4, p5, p6⟩ := cells7 r7
  go_wp2
  refine bodyPost_ret (v := .tuple #[.agg #[.slice al h.log.length cl, .int .i64 h.sums.a, .int .i64 h.sums.b, .int .i64 h.sums.c, .int .i64 h.sums.d, .slice ar h.ready.length cr, .slice ad h.done.length cd], .slice (some ⟨wd.heap.size, 0, none⟩) 1 1]) (by simp [results, Try.results35, go_sem, p0, p1, p2, p3, p4, p5, p6]) rfl ?_
  refine FIN.out _ wd.heap.size hzw (fun a h1 h2 => (by_cell g7 (by simp; omega) h2).trans (((Grow.refl wd).alloc _).cell h1)) (fun j u e => (by_cell g7 (by simp) (by simp; omega)).trans (at_new wd _ _ j u e)) ?_
  exact (HGW.out.trans (GD.alloc _)).grown g7 (fun k hk => by simp at hk; omega)
 ·intro K HK
  refine wanted_go rfl ?_
  try simp only [lzA, lzB, lzC]
  refine wp_store_row (.tmp 6) (.tmp 67) rfl rfl rfl (row_grow R6.out GD) info_hs rfl rfl ?_
  intro w7 r7 g7
  refine HK.out _ _ ⟨fun _ => HS.out _ (grownBy_trans (grownBy_of_grow GD _) g7), ?_⟩
  clear HK K
  try simp only [Act.put]
  refine bO 6 (by kernel_rfl) rfl ?_
  intro K HK
  try simp only [lzA, lzB, lzC]
  go_simp
  refine HK.out _ _ ⟨fun _ => HS.out _ (grownBy_trans (grownBy_trans (grownBy_of_grow GD _) g7) (grownBy_of_grow ((Grow.refl _).alloc _) _)), ?_⟩
  clear HK K
  try simp only [Act.put, lzA, lzB, lzC, lzD, lzE, lzF]
  refine bO 8 (by kernel_rfl) rfl ?_
  intro K HK
  try simp only [lzA, lzB, lzC]
  go_simp
  refine HK.out _ _ ⟨fun h => absurd rfl h, ?_⟩
  clear HK K
  try simp only [Act.put, lzA, lzB, lzC, lzD, lzE, lzF]
  refine but_done (by kernel_rfl) ?_
  obtain ⟨p0, p1, p2, p3, p4, p5, p6⟩ := cells7 (heap_later r7 (.cells #[.int .i64 6, .int .i64 dd, .int .i64 me, .slice none 0 0] 39))
  go_wp2
  refine bodyPost_ret (v := .tuple #[.agg #[.slice al h.log.length cl, .int .i64 h.sums.a, .int .i64 h.sums.b, .int .i64 h.sums.c, .int .i64 h.sums.d, .slice ar h.ready.length cr, .slice ad h.done.length cd], .slice (some ⟨w7.heap.size, 0, none⟩) 1 1]) (by simp [results, Try.results35, go_sem, p0, p1, p2, p3, p4, p5, p6]) rfl ?_
  refine FIN.out _ w7.heap.size (Nat.le_trans hzw g7.size) (fun a h1 h2 => (((Grow.refl w7).alloc _).cell (Nat.lt_of_lt_of_le h1 g7.size)).trans (by_cell g7 h1 h2)) (at_new w7 _ _) ?_
  exact ((HGW.out.trans GD).grown g7 (fun k hk => by simp at hk; omega)).alloc _
set_option maxRecDepth 100000 in
set_option maxHeartbeats 1000000 in
theorem hear_com4N {c : CM} {v vm : Value} {h : Hs} {dd hh me : Int} {ps : List Pt} (w : World) (hc : Sub c w.cell?) (hv : Of Ty.hs c v h) (hm : Of Ty.ms c vm ⟨4, dd, hh, ps⟩) (hk : ∀ x ∈ h.log, KeysOk x.parts) (hkm : KeysOk ps) (hn : (h.log.length + 1) * 40 ≤ 140737488355328) (hme : I64 me) (rd : readyE h.ready dd = false) (hin : dd ∉ h.done) :
  Calls Try.prog 35 #[v, .int .i64 me, vm] w fun e w' => ∃ v1 v2, e = .returned (.tuple #[v1, v2]) ∧ Of Ty.hs (ov c w w') v1 (hearH h ⟨4, dd, hh, ps⟩) ∧ Sl Ty.ms (ov c w w') v2 (hearM h me ⟨4, dd, hh, ps⟩) ∧ Grow w w' := by
 obtain ⟨al, cl, ar, cr, ad, cd, rfl⟩ := hv.hs_form
 obtain ⟨ap, cp, rfl⟩ : ∃ ap cp, vm = .agg #[.int .i64 4, .int .i64 dd, .int .i64 hh, .slice ap ps.length cp] := hm.ms_form
 have hms : Sl Ty.pt c (.slice ap ps.length cp) ps ∧ I64 4 ∧ I64 dd ∧ I64 hh := Of.ms_parts hm
 have HMS := Lib.hid hms
 have HV0 := Lib.hid hv
 have HC := Lib.hid hc
 have HK0 := Lib.hid hk
 have HKM := Lib.hid hkm
 have HN := Lib.hid hn
 have HME := Lib.hid hme
 have HVO := Lib.hid (fun (W : World) (hW : Grow w W) => ref_vote (d := dd) W (hv.mono (hc.trans hW.sub)) (hms.1.mono (hc.trans hW.sub)) hkm)
 have HRD := Lib.hid (fun (W : World) (hW : Grow w W) => ref_ready (d := dd) W (hv.mono (hc.trans hW.sub)))
 have HIN := Lib.hid (fun (W : World) (hW : Grow w W) => ref_in (n := dd) W ((Of.hs_log hv).2.2.mono (hc.trans hW.sub)))
 have HG0 : Hid (Grow w (((w.alloc (.cells #[.slice al h.log.length cl, .int .i64 h.sums.a, .int .i64 h.sums.b, .int .i64 h.sums.c, .int .i64 h.sums.d, .slice ar h.ready.length cr, .slice ad h.done.length cd] 29)).alloc (.cells #[.int .i64 4, .int .i64 dd, .int .i64 hh, .slice ap ps.length cp] 39)).alloc (.cells #[.slice none 0 0, .int .i64 0, .int .i64 0, .int .i64 0, .int .i64 0, .slice none 0 0, .slice none 0 0] 29))) := Lib.hid ((((Grow.refl w).alloc _).alloc _).alloc _)
 have HR3 : Hid ((((w.alloc (.cells #[.slice al h.log.length cl, .int .i64 h.sums.a, .int .i64 h.sums.b, .int .i64 h.sums.c, .int .i64 h.sums.d, .slice ar h.ready.length cr, .slice ad h.done.length cd] 29)).alloc (.cells #[.int .i64 4, .int .i64 dd, .int .i64 hh, .slice ap ps.length cp] 39)).alloc (.cells #[.slice none 0 0, .int .i64 0, .int .i64 0, .int .i64 0, .int .i64 0, .slice none 0 0, .slice none 0 0] 29)).heap[w.heap.size]? = some (.cells #[.slice al h.log.length cl, .int .i64 h.sums.a, .int .i64 h.sums.b, .int .i64 h.sums.c, .int .i64 h.sums.d, .slice ar h.ready.length cr, .slice ad h.done.length cd] 29 (0, 0))) := Lib.hid (heap_later (heap_later (row_new _ _) _) _)
 have HR5 : Hid ((((w.alloc (.cells #[.slice al h.log.length cl, .int .i64 h.sums.a, .int .i64 h.sums.b, .int .i64 h.sums.c, .int .i64 h.sums.d, .slice ar h.ready.length cr, .slice ad h.done.length cd] 29)).alloc (.cells #[.int .i64 4, .int .i64 dd, .int .i64 hh, .slice ap ps.length cp] 39)).alloc (.cells #[.slice none 0 0, .int .i64 0, .int .i64 0, .int .i64 0, .int .i64 0, .slice none 0 0, .slice none 0 0] 29)).heap[w.heap.size + 1]? = some (.cells #[.int .i64 4, .int .i64 dd, .int .i64 hh, .slice ap ps.length cp] 39 (0, 0))) := Lib.hid (heap_later (by simpa using row_new (w.alloc (.cells #[.slice al h.log.length cl, .int .i64 h.sums.a, .int .i64 h.sums.b, .int .i64 h.sums.c, .int .i64 h.sums.d, .slice ar h.ready.length cr, .slice ad h.done.length cd] 29)) _) _)
 have HR6 : Hid ((((w.alloc (.cells #[.slice al h.log.length cl, .int .i64 h.sums.a, .int .i64 h.sums.b, .int .i64 h.sums.c, .int .i64 h.sums.d, .slice ar h.ready.length cr, .slice ad h.done.length cd] 29)).alloc (.cells #[.int .i64 4, .int .i64 dd, .int .i64 hh, .slice ap ps.length cp] 39)).alloc (.cells #[.slice none 0 0, .int .i64 0, .int .i64 0, .int .i64 0, .int .i64 0, .slice none 0 0, .slice none 0 0] 29)).heap[w.heap.size + 1 + 1]? = some (.cells #[.slice none 0 0, .int .i64 0, .int .i64 0, .int .i64 0, .int .i64 0, .slice none 0 0, .slice none 0 0] 29 (0, 0))) := Lib.hid (by simpa using row_new ((w.alloc (.cells #[.slice al h.log.length cl, .int .i64 h.sums.a, .int .i64 h.sums.b, .int .i64 h.sums.c, .int .i64 h.sums.d, .slice ar h.ready.length cr, .slice ad h.done.length cd] 29)).alloc (.cells #[.int .i64 4, .int .i64 dd, .int .i64 hh, .slice ap ps.length cp] 39)) _)
 clear hv hm hc hk hkm hn hme hms
 have HEH : Hid (hearH h ⟨4, dd, hh, ps⟩ = h) := by
  show hearH h ⟨4, dd, hh, ps⟩ = h
  unfold hearH
  rw [if_neg (fun e => by cases e), if_pos rfl, if_neg (by rw [show readyE h.ready (Ms.deed ⟨4, dd, hh, ps⟩) = false from rd]; simp)]
 have HEM : Hid (hearM h me ⟨4, dd, hh, ps⟩ = []) := by
  show hearM h me ⟨4, dd, hh, ps⟩ = []
  unfold hearM
  rw [if_neg (fun e => by cases e), if_pos rfl, HEH.out, if_neg hin]
 have HIN2 := Lib.hid hin
 clear hin
 have RD := Lib.hid rd
 clear rd
 go_enter Try.func35, Try.ntmps35
 go_wp2_with fail
 refine (HRD.out _ HG0.out).mono ?_
 rw [RD.out]
 rintro e v1 ⟨rfl, hbv1⟩
 (obtain ⟨cv1, fv1⟩ := bcell hbv1; have zv10 : w.heap.size < v1.heap.size := (by have := hbv1.size; (try simp at this); omega); have zv11 : w.heap.size + 1 < v1.heap.size := (by have := hbv1.size; (try simp at this); omega); have zv12 : w.heap.size + 1 + 1 < v1.heap.size := (by have := hbv1.size; (try simp at this); omega); have Gv1 := Lib.hid hbv1; clear hbv1)
 go_wp2_with fail
 refine (HIN.out _ (HG0.out.trans Gv1.out)).mono ?_
 rw [decide_eq_false HIN2.out]
 rintro e v2 ⟨rfl, hbv2⟩
 (obtain ⟨cv2, fv2⟩ := bcell hbv2; have zv20 : w.heap.size < v2.heap.size := (by have := hbv2.size; (try simp at this); omega); have zv21 : w.heap.size + 1 < v2.heap.size := (by have := hbv2.size; (try simp at this); omega); have zv22 : w.heap.size + 1 + 1 < v2.heap.size := (by have := hbv2.size; (try simp at this); omega); have Gv2 := Lib.hid hbv2; clear hbv2)
 have R6 := row_grow HR6.out (Gv1.out.trans Gv2.out)
 obtain ⟨p0, p1, p2, p3, p4, p5, p6⟩ := cells7 R6
 have pf := row_free R6
 obtain ⟨s0, s1, s2, s3, s4, s5, s6, s7⟩ : v2.cell? ⟨w.heap.size, 0, none⟩ = some (.slice al h.log.length cl) ∧ v2.cell? ⟨w.heap.size, 1, none⟩ = some (.int .i64 h.sums.a) ∧ v2.cell? ⟨w.heap.size, 2, none⟩ = some (.int .i64 h.sums.b) ∧ v2.cell? ⟨w.heap.size, 3, none⟩ = some (.int .i64 h.sums.c) ∧ v2.cell? ⟨w.heap.size, 4, none⟩ = some (.int .i64 h.sums.d) ∧ v2.cell? ⟨w.heap.size, 5, none⟩ = some (.slice ar h.ready.length cr) ∧ v2.cell? ⟨w.heap.size, 6, none⟩ = some (.slice ad h.done.length cd) ∧ v2.cell? ⟨w.heap.size + 1, 1, none⟩ = some (.int .i64 dd) := by refine ⟨?_, ?_, ?_, ?_, ?_, ?_, ?_, ?_⟩ <;> go_simp
 clear R6
 go_wp2
 refine bodyPost_ret (v := .tuple #[.agg #[.slice al h.log.length cl, .int .i64 h.sums.a, .int .i64 h.sums.b, .int .i64 h.sums.c, .int .i64 h.sums.d, .slice ar h.ready.length cr, .slice ad h.done.length cd], .slice none 0 0]) (by simp [results, Try.results35, go_sem, p0, p1, p2, p3, p4, p5, p6]) rfl ?_
 rw [HEH.out, HEM.out]
 refine ⟨_, _, rfl, ?_, Sl.nil _ _, ?_⟩
 ·exact HV0.out.mono (ov_in HC.out)
 ·(repeat (with_reducible refine Grow.setCell ?_ (by first | (simp; done) | (simp; omega) | omega) _))
  exact (HG0.out.trans Gv1.out).trans Gv2.out
set_option maxRecDepth 100000 in
set_option maxHeartbeats 1000000 in
theorem hear_abo5R {c : CM} {v vm : Value} {h : Hs} {dd hh me : Int} {ps : List Pt} (w : World) (hc : Sub c w.cell?) (hv : Of Ty.hs c v h) (hm : Of Ty.ms c vm ⟨5, dd, hh, ps⟩) (hk : ∀ x ∈ h.log, KeysOk x.parts) (hkm : KeysOk ps) (hn : (h.log.length + 1) * 40 ≤ 140737488355328) (hme : I64 me) (rd : readyE h.ready dd = true) :
  Calls Try.prog 35 #[v, .int .i64 me, vm] w fun e w' => ∃ v1 v2, e = .returned (.tuple #[v1, v2]) ∧ Of Ty.hs (ov c w w') v1 (hearH h ⟨5, dd, hh, ps⟩) ∧ Sl Ty.ms (ov c w w') v2 (hearM h me ⟨5, dd, hh, ps⟩) ∧ Grow w w' := by
 obtain ⟨al, cl, ar, cr, ad, cd, rfl⟩ := hv.hs_form
 obtain ⟨ap, cp, rfl⟩ : ∃ ap cp, vm = .agg #[.int .i64 5, .int .i64 dd, .int .i64 hh, .slice ap ps.length cp] := hm.ms_form
 have hms : Sl Ty.pt c (.slice ap ps.length cp) ps ∧ I64 5 ∧ I64 dd ∧ I64 hh := Of.ms_parts hm
 have HMS := Lib.hid hms
 have HV0 := Lib.hid hv
 have HC := Lib.hid hc
 have HK0 := Lib.hid hk
 have HKM := Lib.hid hkm
 have HN := Lib.hid hn
 have HME := Lib.hid hme
 have HVO := Lib.hid (fun (W : World) (hW : Grow w W) => ref_vote (d := dd) W (hv.mono (hc.trans hW.sub)) (hms.1.mono (hc.trans hW.sub)) hkm)
 have HRD := Lib.hid (fun (W : World) (hW : Grow w W) => ref_ready (d := dd) W (hv.mono (hc.trans hW.sub)))
 have HIN := Lib.hid (fun (W : World) (hW : Grow w W) => ref_in (n := dd) W ((Of.hs_log hv).2.2.mono (hc.trans hW.sub)))
 have HG0 : Hid (Grow w (((w.alloc (.cells #[.slice al h.log.length cl, .int .i64 h.sums.a, .int .i64 h.sums.b, .int .i64 h.sums.c, .int .i64 h.sums.d, .slice ar h.ready.length cr, .slice ad h.done.length cd] 29)).alloc (.cells #[.int .i64 5, .int .i64 dd, .int .i64 hh, .slice ap ps.length cp] 39)).alloc (.cells #[.slice none 0 0, .int .i64 0, .int .i64 0, .int .i64 0, .int .i64 0, .slice none 0 0, .slice none 0 0] 29))) := Lib.hid ((((Grow.refl w).alloc _).alloc _).alloc _)
 have HR3 : Hid ((((w.alloc (.cells #[.slice al h.log.length cl, .int .i64 h.sums.a, .int .i64 h.sums.b, .int .i64 h.sums.c, .int .i64 h.sums.d, .slice ar h.ready.length cr, .slice ad h.done.length cd] 29)).alloc (.cells #[.int .i64 5, .int .i64 dd, .int .i64 hh, .slice ap ps.length cp] 39)).alloc (.cells #[.slice none 0 0, .int .i64 0, .int .i64 0, .int .i64 0, .int .i64 0, .slice none 0 0, .slice none 0 0] 29)).heap[w.heap.size]? = some (.cells #[.slice al h.log.length cl, .int .i64 h.sums.a, .int .i64 h.sums.b, .int .i64 h.sums.c, .int .i64 h.sums.d, .slice ar h.ready.length cr, .slice ad h.done.length cd] 29 (0, 0))) := Lib.hid (heap_later (heap_later (row_new _ _) _) _)
 have HR5 : Hid ((((w.alloc (.cells #[.slice al h.log.length cl, .int .i64 h.sums.a, .int .i64 h.sums.b, .int .i64 h.sums.c, .int .i64 h.sums.d, .slice ar h.ready.length cr, .slice ad h.done.length cd] 29)).alloc (.cells #[.int .i64 5, .int .i64 dd, .int .i64 hh, .slice ap ps.length cp] 39)).alloc (.cells #[.slice none 0 0, .int .i64 0, .int .i64 0, .int .i64 0, .int .i64 0, .slice none 0 0, .slice none 0 0] 29)).heap[w.heap.size + 1]? = some (.cells #[.int .i64 5, .int .i64 dd, .int .i64 hh, .slice ap ps.length cp] 39 (0, 0))) := Lib.hid (heap_later (by simpa using row_new (w.alloc (.cells #[.slice al h.log.length cl, .int .i64 h.sums.a, .int .i64 h.sums.b, .int .i64 h.sums.c, .int .i64 h.sums.d, .slice ar h.ready.length cr, .slice ad h.done.length cd] 29)) _) _)
 have HR6 : Hid ((((w.alloc (.cells #[.slice al h.log.length cl, .int .i64 h.sums.a, .int .i64 h.sums.b, .int .i64 h.sums.c, .int .i64 h.sums.d, .slice ar h.ready.length cr, .slice ad h.done.length cd] 29)).alloc (.cells #[.int .i64 5, .int .i64 dd, .int .i64 hh, .slice ap ps.length cp] 39)).alloc (.cells #[.slice none 0 0, .int .i64 0, .int .i64 0, .int .i64 0, .int .i64 0, .slice none 0 0, .slice none 0 0] 29)).heap[w.heap.size + 1 + 1]? = some (.cells #[.slice none 0 0, .int .i64 0, .int .i64 0, .int .i64 0, .int .i64 0, .slice none 0 0, .slice none 0 0] 29 (0, 0))) := Lib.hid (by simpa using row_new ((w.alloc (.cells #[.slice al h.log.length cl, .int .i64 h.sums.a, .int .i64 h.sums.b, .int .i64 h.sums.c, .int .i64 h.sums.d, .slice ar h.ready.length cr, .slice ad h.done.length cd] 29)).alloc (.cells #[.int .i64 5, .int .i64 dd, .int .i64 hh, .slice ap ps.length cp] 39)) _)
 clear hv hm hc hk hkm hn hme hms
 have HEH : Hid (hearH h ⟨5, dd, hh, ps⟩ = noteE h ⟨3, dd, []⟩) := by
  show hearH h ⟨5, dd, hh, ps⟩ = noteE h ⟨3, dd, []⟩
  unfold hearH
  rw [if_neg (fun e => by cases e), if_neg (fun e => by cases e), if_pos rfl, if_pos rd]
 have HEM : Hid (hearM h me ⟨5, dd, hh, ps⟩ = []) := by
  show hearM h me ⟨5, dd, hh, ps⟩ = []
  unfold hearM
  rw [if_neg (fun e => by cases e), if_neg (fun e => by cases e)]
 have RD := Lib.hid rd
 clear rd
 go_enter Try.func35, Try.ntmps35
 go_wp2_with fail
 refine (HRD.out _ HG0.out).mono ?_
 rw [RD.out]
 rintro e v1 ⟨rfl, hbv1⟩
 (obtain ⟨cv1, fv1⟩ := bcell hbv1; have zv10 : w.heap.size < v1.heap.size := (by have := hbv1.size; (try simp at this); omega); have zv11 : w.heap.size + 1 < v1.heap.size := (by have := hbv1.size; (try simp at this); omega); have zv12 : w.heap.size + 1 + 1 < v1.heap.size := (by have := hbv1.size; (try simp at this); omega); have Gv1 := Lib.hid hbv1; clear hbv1)
 have GV0 : Hid (Grow _ v1) := Lib.hid Gv1.out
 have hz : ∀ u, (zeroValue 3).run Try.prog u = .ok (.int .i64 0) u := fun u => by kernel_rfl
 have hmm := @run_makeMap Try.prog
 go_wp2_with (first | (refine wp_insert keyInt Try.underlying142 rfl _ _ _ rfl (MapIs.new (enc := encInt) _) 4 (.int .i64 2) rfl rfl rfl ?_))
 clear hmm
 intro m1 hM1 hm1
 have gm1 : Grow v1 m1 := ((Grow.refl _).alloc (.map #[] 0)).grown hm1 (fun k hk => by simp at hk; omega)
 have HM1 := Lib.hid hM1
 clear hM1 hm1
 go_wp2_with (first | (refine wp_insert keyInt Try.underlying142 rfl _ _ _ rfl HM1.out 5 (.int .i64 3) rfl rfl rfl ?_))
 intro m2 hM2 hm2
 have gm2 : Grow v1 m2 := gm1.grown hm2 (fun k hk => by simp at hk; omega)
 have HM2 := Lib.hid hM2
 clear hM2 hm2 gm1
 have GM2 := Lib.hid gm2
 have GW2 : Hid (Grow _ m2) := Lib.hid (GV0.out.trans gm2)
 obtain ⟨k0, k1, k2, k3, k4, k5, k6⟩ := cells7 (row_grow HR3.out GW2.out)
 obtain ⟨n0, n1, n2, n3⟩ := cells4 (row_grow HR5.out GW2.out)
 clear gm2
 go_wp2_with (first | (at_lookup; refine wp_lookup' keyInt Try.underlying142 hz rfl _ _ rfl HM2.out 5 (.int .i64 3) (by rfl) rfl rfl ?_))
 clear k0 k1 k2 k3 k4 k5 k6
 obtain ⟨k0, k1, k2, k3, k4, k5, k6⟩ := cells7 (row_grow HR3.out GW2.out)
 go_wp2_with fail
 have GW : Hid (Grow _ m2) := Lib.hid GW2.out
 have GV : Hid (Grow w m2) := Lib.hid (HG0.out.trans GW.out)
 have ZV : Hid (w.heap.size + 1 + 1 < m2.heap.size) := Lib.hid (Array.getElem?_eq_some_iff.1 (row_grow HR6.out GW.out)).1
 have hrr : Ty.rc.R (wk w.heap.size 3 (ov c w m2)) [.int .i64 (⟨3, dd, []⟩ : Rc).kind, .int .i64 dd, .slice none 0 0] ⟨3, dd, []⟩ := Ty.rc.mono (wk_in HC.out 3) (show Ty.rc.R c [.int .i64 3, .int .i64 dd, .slice none 0 0] ⟨3, dd, []⟩ from ⟨_, rfl, (show I64 3 from by unfold I64; decide), HMS.out.2.2.1, Sl.nil _ _⟩)
 refine (ref_note (c := wk w.heap.size 3 (ov c w m2)) (r := ⟨3, dd, []⟩) m2 (wk_ov HC.out GV.out 3) (HV0.out.mono (wk_in HC.out 3)) ⟨_, rfl, hrr⟩ HK0.out (by intro p hp; simp at hp) HN.out).mono ?_
 clear hrr
 generalize noteE h ⟨3, dd, []⟩ = x at *
 rintro e v3 ⟨vx, rfl, hX, hbv3⟩
 obtain ⟨al2, cl2, ar2, cr2, ad2, cd2, rfl⟩ := hX.hs_form
 have HX := Lib.hid hX
 have HG3 := Lib.hid hbv3
 clear hX
 have GW3 : Hid (Grow _ v3) := Lib.hid (GW.out.trans hbv3)
 obtain ⟨k0, k1, k2, k3, k4, k5, k6⟩ := cells7 (row_grow HR3.out GW3.out)
 have kf := row_free (row_grow HR3.out GW3.out)
 obtain ⟨m0, m1, m2, m3⟩ := cells4 (row_grow HR5.out GW3.out)
 clear hbv3
 go_wp2_with (first | (refine wpList_store_row rfl (.tmp 3) (.tmp 54) rfl rfl rfl (row_grow HR3.out GW3.out) info_hs rfl rfl ?_))
 intro v4 r4 g4
 have R3 := Lib.hid r4
 have BY4 := Lib.hid g4
 clear r4 g4
 have R5 : Hid (v4.heap[w.heap.size + 1]? = _) := Lib.hid (row_by (row_grow HR5.out GW3.out) BY4.out (by simp))
 have R6 : Hid (v4.heap[w.heap.size + 1 + 1]? = _) := Lib.hid (row_by (row_grow HR6.out GW3.out) BY4.out (by simp; omega))
 clear k0 k1 k2 k3 k4 k5 k6 kf m0 m1 m2 m3
 have HG4 : Hid (Grow w v4) := Lib.hid ((GV.out.trans HG3.out).grown BY4.out (fun k hk => by simp at hk; omega))
 obtain ⟨k0, k1, k2, k3, k4, k5, k6⟩ := cells7 R3.out
 obtain ⟨m0, m1, m2, m3⟩ := cells4 R5.out
 have R6b := R6.out
 obtain ⟨p0, p1, p2, p3, p4, p5, p6⟩ := cells7 R6b
 have pf := row_free R6b
 obtain ⟨s0, s1, s2, s3, s4, s5, s6, s7⟩ : v4.cell? ⟨w.heap.size, 0, none⟩ = some (.slice al2 x.log.length cl2) ∧ v4.cell? ⟨w.heap.size, 1, none⟩ = some (.int .i64 x.sums.a) ∧ v4.cell? ⟨w.heap.size, 2, none⟩ = some (.int .i64 x.sums.b) ∧ v4.cell? ⟨w.heap.size, 3, none⟩ = some (.int .i64 x.sums.c) ∧ v4.cell? ⟨w.heap.size, 4, none⟩ = some (.int .i64 x.sums.d) ∧ v4.cell? ⟨w.heap.size, 5, none⟩ = some (.slice ar2 x.ready.length cr2) ∧ v4.cell? ⟨w.heap.size, 6, none⟩ = some (.slice ad2 x.done.length cd2) ∧ v4.cell? ⟨w.heap.size + 1, 1, none⟩ = some (.int .i64 dd) := by refine ⟨?_, ?_, ?_, ?_, ?_, ?_, ?_, ?_⟩ <;> go_simp
 clear R6b
 go_wp2
 refine bodyPost_ret (v := .tuple #[.agg #[.slice al2 x.log.length cl2, .int .i64 x.sums.a, .int .i64 x.sums.b, .int .i64 x.sums.c, .int .i64 x.sums.d, .slice ar2 x.ready.length cr2, .slice ad2 x.done.length cd2], .slice none 0 0]) (by simp [results, Try.results35, go_sem, p0, p1, p2, p3, p4, p5, p6]) rfl ?_
 rw [HEH.out, HEM.out]
 refine ⟨_, _, rfl, ?_, Sl.nil _ _, ?_⟩
 ·refine HX.out.mono (ov_boxes (k := 3) GV.out HG3.out (by have := ZV.out; omega) fun a u ha e => ?_)
  have l1 := World.block_lt_of_cell? v3 a e
  have l2 := BY4.out.size
  have e4 : v4.cell? a = some u := by rw [by_cell BY4.out l1 (by omega)]; exact e
  exact (by_cell (by_set7 v4 (w.heap.size + 1 + 1) _ _ _ _ _ _ _) (show a.block < v4.heap.size by omega) (show a.block ≠ w.heap.size + 1 + 1 by omega)).trans e4
 ·(repeat (with_reducible refine Grow.setCell ?_ (by first | (simp; done) | (simp; omega) | omega) _))
  exact HG4.out
set_option maxRecDepth 100000 in
set_option maxHeartbeats 1000000 in
theorem hear_abo5N {c : CM} {v vm : Value} {h : Hs} {dd hh me : Int} {ps : List Pt} (w : World) (hc : Sub c w.cell?) (hv : Of Ty.hs c v h) (hm : Of Ty.ms c vm ⟨5, dd, hh, ps⟩) (hk : ∀ x ∈ h.log, KeysOk x.parts) (hkm : KeysOk ps) (hn : (h.log.length + 1) * 40 ≤ 140737488355328) (hme : I64 me) (rd : readyE h.ready dd = false) :
  Calls Try.prog 35 #[v, .int .i64 me, vm] w fun e w' => ∃ v1 v2, e = .returned (.tuple #[v1, v2]) ∧ Of Ty.hs (ov c w w') v1 (hearH h ⟨5, dd, hh, ps⟩) ∧ Sl Ty.ms (ov c w w') v2 (hearM h me ⟨5, dd, hh, ps⟩) ∧ Grow w w' := by
 obtain ⟨al, cl, ar, cr, ad, cd, rfl⟩ := hv.hs_form
 obtain ⟨ap, cp, rfl⟩ : ∃ ap cp, vm = .agg #[.int .i64 5, .int .i64 dd, .int .i64 hh, .slice ap ps.length cp] := hm.ms_form
 have hms : Sl Ty.pt c (.slice ap ps.length cp) ps ∧ I64 5 ∧ I64 dd ∧ I64 hh := Of.ms_parts hm
 have HMS := Lib.hid hms
 have HV0 := Lib.hid hv
 have HC := Lib.hid hc
 have HK0 := Lib.hid hk
 have HKM := Lib.hid hkm
 have HN := Lib.hid hn
 have HME := Lib.hid hme
 have HVO := Lib.hid (fun (W : World) (hW : Grow w W) => ref_vote (d := dd) W (hv.mono (hc.trans hW.sub)) (hms.1.mono (hc.trans hW.sub)) hkm)
 have HRD := Lib.hid (fun (W : World) (hW : Grow w W) => ref_ready (d := dd) W (hv.mono (hc.trans hW.sub)))
 have HIN := Lib.hid (fun (W : World) (hW : Grow w W) => ref_in (n := dd) W ((Of.hs_log hv).2.2.mono (hc.trans hW.sub)))
 have HG0 : Hid (Grow w (((w.alloc (.cells #[.slice al h.log.length cl, .int .i64 h.sums.a, .int .i64 h.sums.b, .int .i64 h.sums.c, .int .i64 h.sums.d, .slice ar h.ready.length cr, .slice ad h.done.length cd] 29)).alloc (.cells #[.int .i64 5, .int .i64 dd, .int .i64 hh, .slice ap ps.length cp] 39)).alloc (.cells #[.slice none 0 0, .int .i64 0, .int .i64 0, .int .i64 0, .int .i64 0, .slice none 0 0, .slice none 0 0] 29))) := Lib.hid ((((Grow.refl w).alloc _).alloc _).alloc _)
 have HR3 : Hid ((((w.alloc (.cells #[.slice al h.log.length cl, .int .i64 h.sums.a, .int .i64 h.sums.b, .int .i64 h.sums.c, .int .i64 h.sums.d, .slice ar h.ready.length cr, .slice ad h.done.length cd] 29)).alloc (.cells #[.int .i64 5, .int .i64 dd, .int .i64 hh, .slice ap ps.length cp] 39)).alloc (.cells #[.slice none 0 0, .int .i64 0, .int .i64 0, .int .i64 0, .int .i64 0, .slice none 0 0, .slice none 0 0] 29)).heap[w.heap.size]? = some (.cells #[.slice al h.log.length cl, .int .i64 h.sums.a, .int .i64 h.sums.b, .int .i64 h.sums.c, .int .i64 h.sums.d, .slice ar h.ready.length cr, .slice ad h.done.length cd] 29 (0, 0))) := Lib.hid (heap_later (heap_later (row_new _ _) _) _)
 have HR5 : Hid ((((w.alloc (.cells #[.slice al h.log.length cl, .int .i64 h.sums.a, .int .i64 h.sums.b, .int .i64 h.sums.c, .int .i64 h.sums.d, .slice ar h.ready.length cr, .slice ad h.done.length cd] 29)).alloc (.cells #[.int .i64 5, .int .i64 dd, .int .i64 hh, .slice ap ps.length cp] 39)).alloc (.cells #[.slice none 0 0, .int .i64 0, .int .i64 0, .int .i64 0, .int .i64 0, .slice none 0 0, .slice none 0 0] 29)).heap[w.heap.size + 1]? = some (.cells #[.int .i64 5, .int .i64 dd, .int .i64 hh, .slice ap ps.length cp] 39 (0, 0))) := Lib.hid (heap_later (by simpa using row_new (w.alloc (.cells #[.slice al h.log.length cl, .int .i64 h.sums.a, .int .i64 h.sums.b, .int .i64 h.sums.c, .int .i64 h.sums.d, .slice ar h.ready.length cr, .slice ad h.done.length cd] 29)) _) _)
 have HR6 : Hid ((((w.alloc (.cells #[.slice al h.log.length cl, .int .i64 h.sums.a, .int .i64 h.sums.b, .int .i64 h.sums.c, .int .i64 h.sums.d, .slice ar h.ready.length cr, .slice ad h.done.length cd] 29)).alloc (.cells #[.int .i64 5, .int .i64 dd, .int .i64 hh, .slice ap ps.length cp] 39)).alloc (.cells #[.slice none 0 0, .int .i64 0, .int .i64 0, .int .i64 0, .int .i64 0, .slice none 0 0, .slice none 0 0] 29)).heap[w.heap.size + 1 + 1]? = some (.cells #[.slice none 0 0, .int .i64 0, .int .i64 0, .int .i64 0, .int .i64 0, .slice none 0 0, .slice none 0 0] 29 (0, 0))) := Lib.hid (by simpa using row_new ((w.alloc (.cells #[.slice al h.log.length cl, .int .i64 h.sums.a, .int .i64 h.sums.b, .int .i64 h.sums.c, .int .i64 h.sums.d, .slice ar h.ready.length cr, .slice ad h.done.length cd] 29)).alloc (.cells #[.int .i64 5, .int .i64 dd, .int .i64 hh, .slice ap ps.length cp] 39)) _)
 clear hv hm hc hk hkm hn hme hms
 have HEH : Hid (hearH h ⟨5, dd, hh, ps⟩ = h) := by
  show hearH h ⟨5, dd, hh, ps⟩ = h
  unfold hearH
  rw [if_neg (fun e => by cases e), if_neg (fun e => by cases e), if_pos rfl, if_neg (by rw [show readyE h.ready (Ms.deed ⟨5, dd, hh, ps⟩) = false from rd]; simp)]
 have HEM : Hid (hearM h me ⟨5, dd, hh, ps⟩ = []) := by
  show hearM h me ⟨5, dd, hh, ps⟩ = []
  unfold hearM
  rw [if_neg (fun e => by cases e), if_neg (fun e => by cases e)]
 have RD := Lib.hid rd
 clear rd
 go_enter Try.func35, Try.ntmps35
 go_wp2_with fail
 refine (HRD.out _ HG0.out).mono ?_
 rw [RD.out]
 rintro e v1 ⟨rfl, hbv1⟩
 (obtain ⟨cv1, fv1⟩ := bcell hbv1; have zv10 : w.heap.size < v1.heap.size := (by have := hbv1.size; (try simp at this); omega); have zv11 : w.heap.size + 1 < v1.heap.size := (by have := hbv1.size; (try simp at this); omega); have zv12 : w.heap.size + 1 + 1 < v1.heap.size := (by have := hbv1.size; (try simp at this); omega); have Gv1 := Lib.hid hbv1; clear hbv1)
 have R6 := row_grow HR6.out Gv1.out
 obtain ⟨p0, p1, p2, p3, p4, p5, p6⟩ := cells7 R6
 have pf := row_free R6
 obtain ⟨s0, s1, s2, s3, s4, s5, s6, s7⟩ : v1.cell? ⟨w.heap.size, 0, none⟩ = some (.slice al h.log.length cl) ∧ v1.cell? ⟨w.heap.size, 1, none⟩ = some (.int .i64 h.sums.a) ∧ v1.cell? ⟨w.heap.size, 2, none⟩ = some (.int .i64 h.sums.b) ∧ v1.cell? ⟨w.heap.size, 3, none⟩ = some (.int .i64 h.sums.c) ∧ v1.cell? ⟨w.heap.size, 4, none⟩ = some (.int .i64 h.sums.d) ∧ v1.cell? ⟨w.heap.size, 5, none⟩ = some (.slice ar h.ready.length cr) ∧ v1.cell? ⟨w.heap.size, 6, none⟩ = some (.slice ad h.done.length cd) ∧ v1.cell? ⟨w.heap.size + 1, 1, none⟩ = some (.int .i64 dd) := by refine ⟨?_, ?_, ?_, ?_, ?_, ?_, ?_, ?_⟩ <;> go_simp
 clear R6
 go_wp2
 refine bodyPost_ret (v := .tuple #[.agg #[.slice al h.log.length cl, .int .i64 h.sums.a, .int .i64 h.sums.b, .int .i64 h.sums.c, .int .i64 h.sums.d, .slice ar h.ready.length cr, .slice ad h.done.length cd], .slice none 0 0]) (by simp [results, Try.results35, go_sem, p0, p1, p2, p3, p4, p5, p6]) rfl ?_
 rw [HEH.out, HEM.out]
 refine ⟨_, _, rfl, ?_, Sl.nil _ _, ?_⟩
 ·exact HV0.out.mono (ov_in HC.out)
 ·(repeat (with_reducible refine Grow.setCell ?_ (by first | (simp; done) | (simp; omega) | omega) _))
  exact HG0.out.trans Gv1.out
set_option maxRecDepth 100000 in
set_option maxHeartbeats 1000000 in
theorem hear_oth {c : CM} {v vm : Value} {h : Hs} {kd dd hh me : Int} {ps : List Pt} (w : World) (hc : Sub c w.cell?) (hv : Of Ty.hs c v h) (hm : Of Ty.ms c vm ⟨kd, dd, hh, ps⟩) (hk : ∀ x ∈ h.log, KeysOk x.parts) (hkm : KeysOk ps) (hn : (h.log.length + 1) * 40 ≤ 140737488355328) (hme : I64 me) (n1 : ¬ kd = 1) (n4 : ¬ kd = 4) (n5 : ¬ kd = 5) :
  Calls Try.prog 35 #[v, .int .i64 me, vm] w fun e w' => ∃ v1 v2, e = .returned (.tuple #[v1, v2]) ∧ Of Ty.hs (ov c w w') v1 (hearH h ⟨kd, dd, hh, ps⟩) ∧ Sl Ty.ms (ov c w w') v2 (hearM h me ⟨kd, dd, hh, ps⟩) ∧ Grow w w' := by
 obtain ⟨al, cl, ar, cr, ad, cd, rfl⟩ := hv.hs_form
 obtain ⟨ap, cp, rfl⟩ : ∃ ap cp, vm = .agg #[.int .i64 kd, .int .i64 dd, .int .i64 hh, .slice ap ps.length cp] := hm.ms_form
 have hms : Sl Ty.pt c (.slice ap ps.length cp) ps ∧ I64 kd ∧ I64 dd ∧ I64 hh := Of.ms_parts hm
 have HMS := Lib.hid hms
 have HV0 := Lib.hid hv
 have HC := Lib.hid hc
 have HK0 := Lib.hid hk
 have HKM := Lib.hid hkm
 have HN := Lib.hid hn
 have HME := Lib.hid hme
 have HVO := Lib.hid (fun (W : World) (hW : Grow w W) => ref_vote (d := dd) W (hv.mono (hc.trans hW.sub)) (hms.1.mono (hc.trans hW.sub)) hkm)
 have HRD := Lib.hid (fun (W : World) (hW : Grow w W) => ref_ready (d := dd) W (hv.mono (hc.trans hW.sub)))
 have HIN := Lib.hid (fun (W : World) (hW : Grow w W) => ref_in (n := dd) W ((Of.hs_log hv).2.2.mono (hc.trans hW.sub)))
 have HG0 : Hid (Grow w (((w.alloc (.cells #[.slice al h.log.length cl, .int .i64 h.sums.a, .int .i64 h.sums.b, .int .i64 h.sums.c, .int .i64 h.sums.d, .slice ar h.ready.length cr, .slice ad h.done.length cd] 29)).alloc (.cells #[.int .i64 kd, .int .i64 dd, .int .i64 hh, .slice ap ps.length cp] 39)).alloc (.cells #[.slice none 0 0, .int .i64 0, .int .i64 0, .int .i64 0, .int .i64 0, .slice none 0 0, .slice none 0 0] 29))) := Lib.hid ((((Grow.refl w).alloc _).alloc _).alloc _)
 have HR3 : Hid ((((w.alloc (.cells #[.slice al h.log.length cl, .int .i64 h.sums.a, .int .i64 h.sums.b, .int .i64 h.sums.c, .int .i64 h.sums.d, .slice ar h.ready.length cr, .slice ad h.done.length cd] 29)).alloc (.cells #[.int .i64 kd, .int .i64 dd, .int .i64 hh, .slice ap ps.length cp] 39)).alloc (.cells #[.slice none 0 0, .int .i64 0, .int .i64 0, .int .i64 0, .int .i64 0, .slice none 0 0, .slice none 0 0] 29)).heap[w.heap.size]? = some (.cells #[.slice al h.log.length cl, .int .i64 h.sums.a, .int .i64 h.sums.b, .int .i64 h.sums.c, .int .i64 h.sums.d, .slice ar h.ready.length cr, .slice ad h.done.length cd] 29 (0, 0))) := Lib.hid (heap_later (heap_later (row_new _ _) _) _)
 have HR5 : Hid ((((w.alloc (.cells #[.slice al h.log.length cl, .int .i64 h.sums.a, .int .i64 h.sums.b, .int .i64 h.sums.c, .int .i64 h.sums.d, .slice ar h.ready.length cr, .slice ad h.done.length cd] 29)).alloc (.cells #[.int .i64 kd, .int .i64 dd, .int .i64 hh, .slice ap ps.length cp] 39)).alloc (.cells #[.slice none 0 0, .int .i64 0, .int .i64 0, .int .i64 0, .int .i64 0, .slice none 0 0, .slice none 0 0] 29)).heap[w.heap.size + 1]? = some (.cells #[.int .i64 kd, .int .i64 dd, .int .i64 hh, .slice ap ps.length cp] 39 (0, 0))) := Lib.hid (heap_later (by simpa using row_new (w.alloc (.cells #[.slice al h.log.length cl, .int .i64 h.sums.a, .int .i64 h.sums.b, .int .i64 h.sums.c, .int .i64 h.sums.d, .slice ar h.ready.length cr, .slice ad h.done.length cd] 29)) _) _)
 have HR6 : Hid ((((w.alloc (.cells #[.slice al h.log.length cl, .int .i64 h.sums.a, .int .i64 h.sums.b, .int .i64 h.sums.c, .int .i64 h.sums.d, .slice ar h.ready.length cr, .slice ad h.done.length cd] 29)).alloc (.cells #[.int .i64 kd, .int .i64 dd, .int .i64 hh, .slice ap ps.length cp] 39)).alloc (.cells #[.slice none 0 0, .int .i64 0, .int .i64 0, .int .i64 0, .int .i64 0, .slice none 0 0, .slice none 0 0] 29)).heap[w.heap.size + 1 + 1]? = some (.cells #[.slice none 0 0, .int .i64 0, .int .i64 0, .int .i64 0, .int .i64 0, .slice none 0 0, .slice none 0 0] 29 (0, 0))) := Lib.hid (by simpa using row_new ((w.alloc (.cells #[.slice al h.log.length cl, .int .i64 h.sums.a, .int .i64 h.sums.b, .int .i64 h.sums.c, .int .i64 h.sums.d, .slice ar h.ready.length cr, .slice ad h.done.length cd] 29)).alloc (.cells #[.int .i64 kd, .int .i64 dd, .int .i64 hh, .slice ap ps.length cp] 39)) _)
 clear hv hm hc hk hkm hn hme hms
 have HEH : Hid (hearH h ⟨kd, dd, hh, ps⟩ = h) := by
  show hearH h ⟨kd, dd, hh, ps⟩ = h
  unfold hearH
  rw [if_neg n1, if_neg n4, if_neg n5]
 have HEM : Hid (hearM h me ⟨kd, dd, hh, ps⟩ = []) := by
  show hearM h me ⟨kd, dd, hh, ps⟩ = []
  unfold hearM
  rw [if_neg n1, if_neg n4]
 have b1 : (kd == 1) = false := by simpa using n1
 have b4 : (kd == 4) = false := by simpa using n4
 have b5 : (kd == 5) = false := by simpa using n5
 clear n1 n4 n5
 go_enter Try.func35, Try.ntmps35
 go_wp2
 refine bodyPost_ret (v := .tuple #[.agg #[.slice al h.log.length cl, .int .i64 h.sums.a, .int .i64 h.sums.b, .int .i64 h.sums.c, .int .i64 h.sums.d, .slice ar h.ready.length cr, .slice ad h.done.length cd], .slice none 0 0]) (by simp [results, Try.results35, go_sem]) rfl ?_
 rw [HEH.out, HEM.out]
 refine ⟨_, _, rfl, ?_, Sl.nil _ _, ?_⟩
 ·exact HV0.out.mono (ov_in HC.out)
 ·(repeat (with_reducible refine Grow.setCell ?_ (by first | (simp; done) | (simp; omega) | omega) _))
  exact (((Grow.refl w).alloc _).alloc _).alloc _
theorem ref_hear {c : CM} {v vm : Value} {h : Hs} {m : Ms} {me : Int} (w : World) (hc : Sub c w.cell?) (hv : Of Ty.hs c v h) (hm : Of Ty.ms c vm m) (hk : ∀ x ∈ h.log, KeysOk x.parts) (hkm : KeysOk m.parts) (hn : (h.log.length + 1) * 40 ≤ 140737488355328) (hme : I64 me) (hmd : Made h) :
  Calls Try.prog 35 #[v, .int .i64 me, vm] w fun e w' => ∃ v1 v2, e = .returned (.tuple #[v1, v2]) ∧ Of Ty.hs (ov c w w') v1 (hearH h m) ∧ Sl Ty.ms (ov c w w') v2 (hearM h me m) ∧ Grow w w' := by
 obtain ⟨kd, dd, hh, ps⟩ := m
 by_cases h1 : kd = 1
 ·subst h1
  by_cases e10 : voteE h dd ps = 10
  ·exact hear_prep10 w hc hv hm hk hkm hn hme e10
  by_cases e0 : voteE h dd ps = 0
  ·cases rd : readyE h.ready dd with
   | true => exact hear_prepR w hc hv hm hk hkm hn hme e0 rd
   | false => exact hear_prepN w hc hv hm hk hkm hn hme e0 rd
  ·exact hear_prepF w hc hv hm hk hkm hn hme e10 e0
 by_cases h4 : kd = 4
 ·subst h4
  cases rd : readyE h.ready dd with
  | true => exact hear_com4R w hc hv hm hk hkm hn hme rd (by rw [(note2 hmd rd).2]; simp)
  | false =>
   by_cases hin : dd ∈ h.done
   ·exact hear_com4D w hc hv hm hk hkm hn hme rd hin
   ·exact hear_com4N w hc hv hm hk hkm hn hme rd hin
 by_cases h5 : kd = 5
 ·subst h5
  cases rd : readyE h.ready dd with
  | true => exact hear_abo5R w hc hv hm hk hkm hn hme rd
  | false => exact hear_abo5N w hc hv hm hk hkm hn hme rd
 ·exact hear_oth w hc hv hm hk hkm hn hme h1 h4 h5
def fc (c : CM) (W0 w : World) (X : List (Option Nat)) : CM := fun a => if a.block < W0.heap.size then c a else fr W0 w X a
theorem fc_in {c : CM} {W0 w : World} {X : List (Option Nat)} (h : Sub c W0.cell?) : Sub c (fc c W0 w X) := fun a v e => by
 unfold fc
 rw [if_pos (World.block_lt_of_cell? W0 a (h _ _ e))]; exact e
theorem fc_new {c : CM} {W0 w : World} {X : List (Option Nat)} {a : Addr} (h : W0.heap.size ≤ a.block) (hx : some a.block ∉ X) : fc c W0 w X a = w.cell? a := by
 unfold fc
 rw [if_neg (by omega), fr_new h hx]
theorem fc_step {c : CM} {W0 w w' : World} {X X' : List (Option Nat)} (h : ∀ k, k < w.heap.size → W0.heap.size ≤ k → some k ∉ X → w'.heap[k]? = w.heap[k]? ∧ some k ∉ X') : Sub (fc c W0 w X) (fc c W0 w' X') := fun a v e => by
 unfold fc at e ⊢
 split at e
 ·rw [if_pos ‹_›]; exact e
 ·rw [if_neg ‹_›]; exact fr_step h a v e
theorem fc_grow {c : CM} {W0 w w' : World} {X : List (Option Nat)} (h : Grow w w') : Sub (fc c W0 w X) (fc c W0 w' X) := fc_step fun k hk _ hx => ⟨h.block k hk, hx⟩
theorem fc_app {c : CM} {W0 w w' : World} {v v' : Value} (hg : w.grownBy w' v.ownBlock) (hb : v'.ownBlock = v.ownBlock ∨ ∃ g, v'.ownBlock = some g ∧ w.heap.size ≤ g) : Sub (fc c W0 w [v.ownBlock]) (fc c W0 w' [v'.ownBlock]) :=
 fc_step fun k hk _ hx => by
  simp only [List.mem_singleton] at hx
  refine ⟨hg.block k hk hx, ?_⟩
  simp only [List.mem_singleton]
  intro e
  rcases hb with hb | ⟨g, hb, hge⟩
  ·exact hx (e.trans hb)
  ·have := Option.some.inj (e.trans hb)
   omega
theorem fc_box {c : CM} {W0 w w' : World} {B : Nat} {X : List (Option Nat)} (hg : w.grownBy w' (some B)) (hB : B < W0.heap.size) : Sub (fc c W0 w X) (fc c W0 w' X) :=
 fc_step fun k hk h0 hx => ⟨hg.block k hk (fun e => by have := Option.some.inj e; omega), hx⟩
theorem fc_end {c : CM} {w W0 W w' : World} {B : Nat} {X : List (Option Nat)} (hc : Sub c w.cell?) (h0 : Grow w W0) (hg : W.grownBy w' (some B)) (hB : B < W0.heap.size) : Sub (fc c W0 W X) (ov c w w') := fun a v e => by
 have e2 := fc_box hg hB a v e
 have hs := h0.size
 unfold fc at e2
 unfold ov
 split at e2
 ·rw [if_pos (World.block_lt_of_cell? w a (hc _ _ e2))]; exact e2
 ·rw [if_neg (by omega)]; exact fr_sub _ _ _ _ _ e2
theorem hgo_fresh (m : Ms) : ∀ (l : List Opn) (s : HGo), (s.known = false → s.recs = [] ∧ s.says = []) → (l.foldl (hgoStep m) s).known = false → (l.foldl (hgoStep m) s).recs = [] ∧ (l.foldl (hgoStep m) s).says = []
 | [], s, h => h
 | o :: l, s, h => by
  rw [List.foldl_cons]
  refine hgo_fresh m l _ fun hk => ?_
  unfold hgoStep at hk ⊢
  split at hk
  ·cases hk
  ·rename_i hn
   rw [if_neg hn]
   exact h hk
theorem hgo_few (m : Ms) : ∀ (l : List Opn) (s : HGo), s.recs.length ≤ 1 → (l.foldl (hgoStep m) s).recs.length ≤ 1
 | [], s, h => h
 | o :: l, s, h => by
  rw [List.foldl_cons]
  refine hgo_few m l _ ?_
  unfold hgoStep
  split
  ·show (hearO o m).2.1.length ≤ 1
   unfold hearO
   split
   ·split <;> simp
   ·split
    ·simp
    ·split
     ·split <;> simp
     ·split <;> simp
  ·exact h
theorem hgo_past {m : Ms} {s : HGo} {o : Opn} (h : ¬ (o.deed = m.deed ∧ s.known = false)) : hgoStep m s o = { s with opn := s.opn ++ [o] } := by unfold hgoStep; rw [if_neg h]
theorem hgo_at {m : Ms} {s : HGo} {o : Opn} (h1 : o.deed = m.deed) (h2 : s.known = false) : hgoStep m s o = ⟨s.opn ++ (hearO o m).1, (hearO o m).2.1, (hearO o m).2.2, true⟩ := by unfold hgoStep; rw [if_pos ⟨h1, h2⟩]
def isNew (o : Opn) (m : Ms) : Prop := m.house ∈ housesE o.parts ∧ m.house ∉ o.heard
instance (o : Opn) (m : Ms) : Decidable (isNew o m) := by unfold isNew; infer_instance
def allHeard (o : Opn) : Bool := decide (o.heard.length + 1 = (housesE o.parts).length)
theorem hearO_yesAll {o : Opn} {m : Ms} (h : m.kind = 2 ∧ o.dec = false ∧ isNew o m) (ha : allHeard o = true) : hearO o m = ([⟨o.deed, o.parts, true, []⟩], [⟨5, o.deed, o.parts⟩], asksE ⟨o.deed, o.parts, true, []⟩) := by
 unfold hearO
 rw [if_pos ⟨h.1, h.2.1, h.2.2.1, h.2.2.2⟩, if_pos (of_decide_eq_true ha)]
theorem hearO_yes {o : Opn} {m : Ms} (h : m.kind = 2 ∧ o.dec = false ∧ isNew o m) (ha : allHeard o = false) : hearO o m = ([⟨o.deed, o.parts, false, o.heard ++ [m.house]⟩], [], []) := by
 unfold hearO
 rw [if_pos ⟨h.1, h.2.1, h.2.2.1, h.2.2.2⟩, if_neg (of_decide_eq_false ha)]
 obtain ⟨-, h2, -⟩ := h
 cases o; cases h2; rfl
theorem hearO_no {o : Opn} {m : Ms} (h1 : ¬ (m.kind = 2 ∧ o.dec = false ∧ isNew o m)) (h : m.kind = 3 ∧ o.dec = false) : hearO o m = ([], [], abortsE o.deed o.parts) := by
 unfold hearO
 rw [if_neg (fun x => h1 ⟨x.1, x.2.1, x.2.2.1, x.2.2.2⟩), if_pos h]
theorem hearO_ackAll {o : Opn} {m : Ms} (h1 : ¬ (m.kind = 2 ∧ o.dec = false ∧ isNew o m)) (h2 : ¬ (m.kind = 3 ∧ o.dec = false)) (h : m.kind = 6 ∧ o.dec = true ∧ isNew o m) (ha : allHeard o = true) : hearO o m = ([], [⟨6, o.deed, []⟩], []) := by
 unfold hearO
 rw [if_neg (fun x => h1 ⟨x.1, x.2.1, x.2.2.1, x.2.2.2⟩), if_neg h2, if_pos ⟨h.1, h.2.1, h.2.2.1, h.2.2.2⟩, if_pos (of_decide_eq_true ha)]
theorem hearO_ack {o : Opn} {m : Ms} (h1 : ¬ (m.kind = 2 ∧ o.dec = false ∧ isNew o m)) (h2 : ¬ (m.kind = 3 ∧ o.dec = false)) (h : m.kind = 6 ∧ o.dec = true ∧ isNew o m) (ha : allHeard o = false) : hearO o m = ([⟨o.deed, o.parts, true, o.heard ++ [m.house]⟩], [], []) := by
 unfold hearO
 rw [if_neg (fun x => h1 ⟨x.1, x.2.1, x.2.2.1, x.2.2.2⟩), if_neg h2, if_pos ⟨h.1, h.2.1, h.2.2.1, h.2.2.2⟩, if_neg (of_decide_eq_false ha)]
 obtain ⟨-, h3, -⟩ := h
 cases o; cases h3; rfl
theorem hearO_ask {o : Opn} {m : Ms} (h1 : ¬ (m.kind = 2 ∧ o.dec = false ∧ isNew o m)) (h2 : ¬ (m.kind = 3 ∧ o.dec = false)) (h3 : ¬ (m.kind = 6 ∧ o.dec = true ∧ isNew o m)) (h : m.kind = 7 ∧ o.dec = true) : hearO o m = ([o], [], [⟨4, m.deed, m.house, []⟩]) := by
 unfold hearO
 rw [if_neg (fun x => h1 ⟨x.1, x.2.1, x.2.2.1, x.2.2.2⟩), if_neg h2, if_neg (fun x => h3 ⟨x.1, x.2.1, x.2.2.1, x.2.2.2⟩), if_pos h]
theorem hearO_else {o : Opn} {m : Ms} (h1 : ¬ (m.kind = 2 ∧ o.dec = false ∧ isNew o m)) (h2 : ¬ (m.kind = 3 ∧ o.dec = false)) (h3 : ¬ (m.kind = 6 ∧ o.dec = true ∧ isNew o m)) (h : ¬ (m.kind = 7 ∧ o.dec = true)) : hearO o m = ([o], [], []) := by
 unfold hearO
 rw [if_neg (fun x => h1 ⟨x.1, x.2.1, x.2.2.1, x.2.2.2⟩), if_neg h2, if_neg (fun x => h3 ⟨x.1, x.2.1, x.2.2.1, x.2.2.2⟩), if_neg h]
structure QBox (c : CM) (w wz wr : World) (h : Hd) (s : HGo) (vl vo vs : Value) : Prop where
 row : wr.heap[w.heap.size + 3]? = some (.cells #[vl, .int .i64 h.boot, .int .i64 h.next, vo] 57 (0, 0))
 log : Sl Ty.rc (fc c wz wr [vo.ownBlock]) vl (h.log ++ s.recs)
 opn : OwnC Ty.opn (fc c wz wr [vo.ownBlock]) wr (w.heap.size + 4) 136 vo s.opn
 says : Sl Ty.ms (fc c wz wr [vo.ownBlock]) vs s.says
 old : ∀ k, k < 3 → wr.heap[w.heap.size + k]? = wz.heap[w.heap.size + k]?
 grow : Grow w wr
 zsize : wz.heap.size = w.heap.size + 4
theorem QBox.size {c : CM} {w wz wr : World} {h : Hd} {s : HGo} {vl vo vs : Value} (b : QBox c w wz wr h s vl vo vs) : w.heap.size + 4 ≤ wr.heap.size := by
 have := (Array.getElem?_eq_some_iff.1 b.row).1
 omega
theorem QBox.later {c : CM} {w wz wr W : World} {h : Hd} {s : HGo} {vl vo vs : Value} (b : QBox c w wz wr h s vl vo vs) (hg : Grow wr W) : QBox c w wz W h s vl vo vs where
 row := row_grow b.row hg
 log := b.log.mono (fc_grow hg)
 opn := (b.opn.mono (fc_grow hg)).grow hg
 says := b.says.mono (fc_grow hg)
 old := fun k hk => by rw [hg.block _ (by have := b.size; omega)]; exact b.old k hk
 grow := b.grow.trans hg
 zsize := b.zsize
theorem QBox.setLog {c : CM} {w wz wr W : World} {h : Hd} {so : List Opn} {sr : List Rc} {ss : List Ms} {sk : Bool} {vl vo vs vl' : Value} (b : QBox c w wz wr h ⟨so, sr, ss, sk⟩ vl vo vs) (recs : List Rc) (hg : wr.grownBy W (some (w.heap.size + 3)))
  (r : W.heap[w.heap.size + 3]? = some (.cells #[vl', .int .i64 h.boot, .int .i64 h.next, vo] 57 (0, 0))) (hl : Sl Ty.rc (fc c wz wr [vo.ownBlock]) vl' (h.log ++ recs)) : QBox c w wz W h ⟨so, recs, ss, sk⟩ vl' vo vs where
 row := r
 log := hl.mono (fc_box hg (by have := b.zsize; omega))
 opn := (b.opn.mono (fc_box hg (by have := b.zsize; omega))).kept hg (own_apart b.opn (by omega))
 says := b.says.mono (fc_box hg (by have := b.zsize; omega))
 old := fun k hk => by rw [hg.block _ (by have := b.size; omega) (fun e => by have := Option.some.inj e; omega)]; exact b.old k hk
 grow := b.grow.grown hg (fun q e => by have := Option.some.inj e; omega)
 zsize := b.zsize
theorem QBox.app {c : CM} {w wz wr wl w9 W : World} {h : Hd} {so : List Opn} {sr : List Rc} {ss : List Ms} {sk : Bool} {vl vo vs v9 : Value} (b : QBox c w wz wr h ⟨so, sr, ss, sk⟩ vl vo vs) (o : Opn) (hgl : Grow wr wl) (hg9 : wl.grownBy w9 vo.ownBlock)
  (hb9 : v9.ownBlock = vo.ownBlock ∨ ∃ g, v9.ownBlock = some g ∧ wl.heap.size ≤ g) (ho9 : OwnC Ty.opn (fc c wz wr [vo.ownBlock]) w9 (w.heap.size + 4) 136 v9 (so ++ [o])) (hg : w9.grownBy W (some (w.heap.size + 3)))
  (r : W.heap[w.heap.size + 3]? = some (.cells #[vl, .int .i64 h.boot, .int .i64 h.next, v9] 57 (0, 0))) : QBox c w wz W h ⟨so ++ [o], sr, ss, sk⟩ vl v9 vs := by
 have hsz := b.size
 have hz := b.zsize
 have hm : Sub (fc c wz wr [vo.ownBlock]) (fc c wz W [v9.ownBlock]) :=
  ((fc_grow hgl).trans (fc_app hg9 hb9)).trans (fc_box hg (by omega))
 have hvo : ∀ q, vo.ownBlock = some q → w.heap.size + 4 ≤ q := fun q e => (b.opn.lt q e).1
 refine ⟨r, b.log.mono hm, (ho9.mono hm).kept hg (own_apart ho9 (by omega)), b.says.mono hm, fun k hk => ?_, ?_, hz⟩
 ·rw [hg.block _ (by have := hg9.size; have := hgl.size; omega) (fun e => by have := Option.some.inj e; omega), hg9.block _ (by have := hgl.size; omega) (fun e => by have := hvo _ e.symm; omega), hgl.block _ (by omega)]
  exact b.old k hk
 ·exact ((b.grow.trans hgl).grown hg9 (fun q e => by have := hvo q e; omega)).grown hg (fun q e => by have := Option.some.inj e; omega)
theorem QBox.setSays {c : CM} {w wz W : World} {h : Hd} {so : List Opn} {sr : List Rc} {ss ss' : List Ms} {sk : Bool} {vl vo vs vs' : Value} (b : QBox c w wz W h ⟨so, sr, ss, sk⟩ vl vo vs) (hs : Sl Ty.ms (fc c wz W [vo.ownBlock]) vs' ss') : QBox c w wz W h ⟨so, sr, ss', true⟩ vl vo vs' :=
 ⟨b.row, b.log, b.opn, hs, b.old, b.grow, b.zsize⟩
theorem QBox.zle {c : CM} {w wz W : World} {h : Hd} {s : HGo} {vl vo vs : Value} (b : QBox c w wz W h s vl vo vs) : wz.heap.size ≤ W.heap.size := by have := b.zsize; have := b.size; omega
theorem QBox.nx {c : CM} {w wz W : World} {h : Hd} {s : HGo} {vl vo vs : Value} (b : QBox c w wz W h s vl vo vs) : ∀ k, W.heap.size ≤ k → some k ∉ [vo.ownBlock] := fun k hk => by
 simp only [List.mem_singleton]
 intro e
 have := (b.opn.lt k e.symm).2
 omega
theorem QBox.newSl {α : Type} {T : Ty α} (h0 : 0 < T.size) {c d : CM} {w wz W W4 : World} {h : Hd} {s : HGo} {vl vo vs v : Value} {e : Nat} {l : List α} (b : QBox c w wz W h s vl vo vs) (hd : Sub d (fc c wz W4 [vo.ownBlock])) (h4 : OwnC T d W4 W.heap.size e v l) : Sl T (fc c wz W4 [vo.ownBlock]) v l :=
 h4.slc h0 hd fun a ha => fc_new (by have := b.zle; omega) (b.nx _ ha)
theorem QBox.frSub {c : CM} {w wz W W4 : World} {h : Hd} {s : HGo} {vl vo vs : Value} {Y : List (Option Nat)} (b : QBox c w wz W h s vl vo vs) : Sub (fr W W4 Y) (fc c wz W4 [vo.ownBlock]) := fun a v e => by
 unfold fr at e
 split at e
 ·cases e
 ·rename_i hn
  have h1 : ¬ a.block < W.heap.size := fun hx => hn (.inl hx)
  rw [fc_new (by have := b.zle; omega) (b.nx _ (by omega))]
  exact e
theorem info_ints : (Try.prog.info? 27).map (·.size) = some 1 := by kernel_rfl
theorem info_bool : (Try.prog.info? 4).map (·.size) = some 1 := by kernel_rfl
theorem info_rcs : (Try.prog.info? 22).map (·.size) = some 1 := by kernel_rfl
set_option maxRecDepth 100000 in
set_option maxHeartbeats 8000000 in
theorem ref_headHear {c : CM} {v vm : Value} {h : Hd} {m : Ms} (w : World) (hc : Sub c w.cell?) (hv : Of Ty.hd c v h) (hm : Of Ty.ms c vm m) (hk : HdOk h) :
  Calls Try.prog 113 #[v, vm] w fun e w' => ∃ v1 v2, e = .returned (.tuple #[v1, v2]) ∧ Of Ty.hd (ov c w w') v1 (hHearH h m) ∧ Sl Ty.ms (ov c w w') v2 (hHearM h m) ∧ Grow w w' := by
 obtain ⟨al, cl, ar, cr, rfl⟩ := hv.hd_form
 have HMI : Hid (I64 m.kind ∧ I64 m.deed ∧ I64 m.house) := Lib.hid (by obtain ⟨cs, he, vp, rfl, i0, i1, i2, -⟩ := hm; exact ⟨i0, i1, i2⟩)
 obtain ⟨ap, cp, rfl⟩ := hm.ms_form
 have HLG := Lib.hid (Of.hd_log hv).1
 have HIB : Hid (I64 h.boot ∧ I64 h.next) := Lib.hid (by obtain ⟨cs, he, _, _, rfl, _, h1, h2, _⟩ := hv; exact ⟨h1, h2⟩)
 obtain ⟨ar', cr', he, h1, h2, -, hel⟩ := (Of.hd_log hv).2
 obtain ⟨rfl, rfl⟩ : ar = ar' ∧ cr = cr' := by simpa using he
 unfold maxLen at h2
 have HOP := Lib.hid hk.parts
 have HHE := Lib.hid hk.heard
 have h12 := hk.opn
 have HLL := Lib.hid hk.log
 have HC := Lib.hid hc
 clear hk he hv hm hc
 obtain ⟨wa, hwa⟩ : ∃ y : World, y = w.alloc (.cells #[.slice al h.log.length cl, .int .i64 h.boot, .int .i64 h.next, .slice ar h.opn.length cr] 57) := ⟨_, rfl⟩
 obtain ⟨wb, hwb⟩ : ∃ y : World, y = wa.alloc (.cells #[.int .i64 m.kind, .int .i64 m.deed, .int .i64 m.house, .slice ap m.parts.length cp] 39) := ⟨_, rfl⟩
 obtain ⟨wq, hwq⟩ : ∃ y : World, y = wb.alloc (.cells #[.slice none 0 0, .int .i64 0, .int .i64 0, .slice none 0 0] 57) := ⟨_, rfl⟩
 obtain ⟨wz, hwz⟩ : ∃ y : World, y = wq.alloc (.cells #[.slice al h.log.length cl, .int .i64 h.boot, .int .i64 h.next, .slice none 0 0] 57) := ⟨_, rfl⟩
 have hsa : wa.heap.size = w.heap.size + 1 := by rw [hwa]; simp
 have hsb : wb.heap.size = w.heap.size + 2 := by rw [hwb]; simp [hsa]
 have hsq : wq.heap.size = w.heap.size + 3 := by rw [hwq]; simp [hsb]
 have RQ : Hid (wq.heap[w.heap.size]? = some (.cells #[.slice al h.log.length cl, .int .i64 h.boot, .int .i64 h.next, .slice ar h.opn.length cr] 57 (0, 0))) := Lib.hid (by rw [hwq, hwb, hwa]; exact heap_later (heap_later (row_new _ _) _) _)
 have R1 : Hid (wz.heap[w.heap.size]? = some (.cells #[.slice al h.log.length cl, .int .i64 h.boot, .int .i64 h.next, .slice ar h.opn.length cr] 57 (0, 0))) := Lib.hid (by rw [hwz]; exact heap_later RQ.out _)
 have R2 : Hid (wz.heap[w.heap.size + 1]? = some (.cells #[.int .i64 m.kind, .int .i64 m.deed, .int .i64 m.house, .slice ap m.parts.length cp] 39 (0, 0))) := Lib.hid (by rw [hwz, hwq, hwb, ← hsa]; exact heap_later (heap_later (row_new _ _) _) _)
 have R3 : Hid (wz.heap[w.heap.size + 2]? = some (.cells #[.slice none 0 0, .int .i64 0, .int .i64 0, .slice none 0 0] 57 (0, 0))) := Lib.hid (by rw [hwz, hwq, ← hsb]; exact heap_later (row_new _ _) _)
 have R4 : Hid (wz.heap[w.heap.size + 3]? = some (.cells #[.slice al h.log.length cl, .int .i64 h.boot, .int .i64 h.next, .slice none 0 0] 57 (0, 0))) := Lib.hid (by rw [hwz, ← hsq]; exact row_new _ _)
 have G1 : Hid (Grow w wz) := Lib.hid (by rw [hwz, hwq, hwb, hwa]; exact ((((Grow.refl w).alloc _).alloc _).alloc _).alloc _)
 have HZ : Hid (wz.heap.size = w.heap.size + 4) := Lib.hid (by rw [hwz]; simp [hsq])
 have HWZ := Lib.hid hwz
 have HSQ := Lib.hid hsq
 clear hwz hsq
 go_enter Try.func113, Try.ntmps113
 go_upto_region 1 with fail
 rw [← hwa]
 try rw [hsa]
 rw [← hwb]
 try rw [hsb]
 rw [← hwq]
 clear hwa hwb hwq hsa hsb
 obtain ⟨c0, c1, c2, c3⟩ := cells4 RQ.out
 have z0 : w.heap.size < wq.heap.size := (Array.getElem?_eq_some_iff.1 RQ.out).1
 go_upto_region 2 with fail
 rw [← HWZ.out]
 try rw [HSQ.out]
 clear HWZ HSQ c0 c1 c2 c3 z0 RQ
 obtain ⟨c0, c1, c2, c3⟩ := cells4 R1.out
 have z0 : w.heap.size < wz.heap.size := (Array.getElem?_eq_some_iff.1 R1.out).1
 go_wp2
 clear c0 c1 c2 c3 z0
 go_loopw [7, 8, 24] (fun s7 s8 i wr => ∃ (k : Nat) (vl vo : Value), k ≤ h.opn.length ∧ i = .int .i64 k ∧ s8 = .bool (hgo m (h.opn.take k)).known ∧ QBox c w wz wr h (hgo m (h.opn.take k)) vl vo s7) (fun _ _ i _ => h.opn.length - (intOf i).toNat)
 case atStart => exact ⟨0, _, _, by omega, rfl, rfl, ⟨R4.out, by simpa [hgo] using HLG.out.mono (fc_in (HC.out.trans G1.out.sub)), OwnC.nil _ _ _ _ _, Sl.nil _ _, fun _ _ => rfl, G1.out, HZ.out⟩⟩
 case round =>
  obtain ⟨k, vl, vo, hk', rfl, h8, hbx⟩ := hrel
  by_cases hlt : k < h.opn.length
  ·have HNX := Lib.hid (hgo_next m hlt)
   have HFR : Hid ((hgo m (h.opn.take k)).known = false → (hgo m (h.opn.take k)).recs = [] ∧ (hgo m (h.opn.take k)).says = []) := Lib.hid (hgo_fresh m (h.opn.take k) ⟨[], [], [], false⟩ (fun _ => ⟨rfl, rfl⟩))
   have HSL : Hid ((hgo m (h.opn.take k)).opn.length ≤ 12) := Lib.hid (by have h9 := hgo_len m (h.opn.take k) ⟨[], [], [], false⟩; rw [List.length_take] at h9; unfold hgo; simp at h9; omega)
   obtain ⟨b, o, vp, vh, rfl, c0, c1, c2, c3, i0, hP, hH⟩ := Opns.at_ hel k hlt
   obtain ⟨ap2, cp2, rfl, -⟩ := id hP
   obtain ⟨ah, ch, rfl, -⟩ := id hH
   have HEL := Lib.hid (And.intro i0 (And.intro hP hH))
   have HPL := Lib.hid (HOP.out _ (List.getElem_mem hlt))
   have HHL := Lib.hid (HHE.out _ (List.getElem_mem hlt))
   replace c0 := hbx.grow.sub _ _ (HC.out _ _ c0)
   replace c1 := hbx.grow.sub _ _ (HC.out _ _ c1)
   replace c2 := hbx.grow.sub _ _ (HC.out _ _ c2)
   replace c3 := hbx.grow.sub _ _ (HC.out _ _ c3)
   clear hel hP hH i0
   generalize h.opn[k] = q at *
   generalize hgo m (h.opn.take k) = s at *
   obtain ⟨so, sr, ss, sk⟩ := s
   have h8' : _ = Value.bool sk := h8
   subst h8'
   have hopn := hbx.opn
   have hsays := hbx.says
   have hlog := hbx.log
   dsimp only at hopn hsays hlog
   obtain ⟨ao, co, rfl⟩ := hopn.form
   obtain ⟨av, cv, rfl, -⟩ := id hsays
   obtain ⟨alx, clx, rfl, -⟩ := id hlog
   clear h8 hopn hsays hlog
   generalize (h.log ++ sr).length = nl at *
   have HFR2 : Hid (sk = false → sr = [] ∧ ss = []) := Lib.hid HFR.out
   have HSL2 : Hid (so.length ≤ 12) := Lib.hid HSL.out
   clear HFR HSL
   have HSL := Lib.hid HSL2.out
   clear HSL2
   obtain ⟨wo, hwo⟩ : ∃ y : World, y = wr.alloc (.cells #[.int .i64 q.deed, .slice ap2 q.parts.length cp2, .bool q.dec, .slice ah q.heard.length ch] 136) := ⟨_, rfl⟩
   have GO : Hid (Grow wr wo) := Lib.hid (by rw [hwo]; exact (Grow.refl _).alloc _)
   have HBO := Lib.hid (hbx.later GO.out)
   have HBR := Lib.hid hbx
   obtain ⟨BO, hBO⟩ : ∃ y, y = wr.heap.size := ⟨_, rfl⟩
   have RO : Hid (wo.heap[BO]? = some (.cells #[.int .i64 q.deed, .slice ap2 q.parts.length cp2, .bool q.dec, .slice ah q.heard.length ch] 136 (0, 0))) := Lib.hid (by rw [hwo, hBO]; exact row_new _ _)
   have HBB : Hid (BO = wr.heap.size) := Lib.hid hBO
   go_upto_region 7 with fail
   rw [← hwo, ← hBO]
   clear hwo hBO c0 c1 c2 c3 hbx
   obtain ⟨e0, e1, e2, e3⟩ := cells4 RO.out
   have zO : BO < wo.heap.size := (Array.getElem?_eq_some_iff.1 RO.out).1
   have RA9 := Lib.hid ((HBO.out.old 0 (by omega)).trans R1.out)
   have RB9 := Lib.hid ((HBO.out.old 1 (by omega)).trans R2.out)
   obtain ⟨y0, y1, y2, y3⟩ := cells4 RA9.out
   obtain ⟨d0, d1, d2, d3⟩ := cells4 RB9.out
   obtain ⟨x0, x1, x2, x3⟩ := cells4 HBO.out.row
   have zz := HBO.out.size
   have zA : w.heap.size < wo.heap.size := by omega
   have zB : w.heap.size + 1 < wo.heap.size := by omega
   have zX : w.heap.size + 3 < wo.heap.size := by omega
   by_cases hd : q.deed = m.deed
   ·have hdb : (q.deed != m.deed) = false := by simp [hd]
    cases sk with
    | true =>
     have HST : Hid (hgoStep m ⟨so, sr, ss, true⟩ q = ⟨so ++ [q], sr, ss, true⟩) := Lib.hid (hgo_past (fun h => by have := h.2; simp at this))
     clear hd
     go_wp2_with (first | (at_builtin; refine wpList_appc (c := fc c wz wo [(Value.slice ao so.length co).ownBlock]) (base := w.heap.size + 4) (l := so) (m := [q]) ei_opn rfl one_Topn (by decide) rfl (.tmp 37) (.tmp 39) rfl rfl ?own rfl (Src.of_new (T := Ty.opn) (x := q) (cs := #[.int .i64 q.deed, .slice ap2 q.parts.length cp2, .bool q.dec, .slice ah q.heard.length ch]) ?d0 _ _ ?d1) ?d2 ?d3 ?_))
     case own => exact OwnC.grow HBO.out.opn ((Grow.refl _).alloc _)
     case d0 => exact ⟨_, _, rfl, HEL.out.1, HEL.out.2.1.mono (fc_in (HC.out.trans G1.out.sub)), HEL.out.2.2.mono (fc_in (HC.out.trans G1.out.sub))⟩
     case d1 => first | rfl | simp
     case d2 => have := HSL.out; simp; omega
     case d3 => have := HBO.out.size; simp; omega
     intro a9 c9 w9 ho9 hg9 hb9
     have R9 := Lib.hid (row_by (row_grow HBO.out.row ((Grow.refl _).alloc (.cells #[.int .i64 q.deed, .slice ap2 q.parts.length cp2, .bool q.dec, .slice ah q.heard.length ch] 136))) hg9 (by intro e; have := (HBO.out.opn.lt _ e.symm).1; omega))
     have HO9 := Lib.hid ho9
     have HG9 := Lib.hid hg9
     have HB9 := Lib.hid hb9
     clear ho9 hg9 hb9
     go_wp2_with (first | (refine wpList_store_cell rfl (.tmp 41) (.tmp 40) (v := .slice a9 (so.length + 1) c9) (new := #[.slice alx nl clx, .int .i64 h.boot, .int .i64 h.next, .slice a9 (so.length + 1) c9]) rfl rfl (by rfl) (by rfl) R9.out info_opns (by simp) (by rfl) (by rfl) ?_))
     intro w10 r10 g10
     have HBN := Lib.hid (QBox.app HBO.out q ((Grow.refl _).alloc (.cells #[.int .i64 q.deed, .slice ap2 q.parts.length cp2, .bool q.dec, .slice ah q.heard.length ch] 136)) HG9.out (HB9.out.imp_right fun ⟨g, e, hge⟩ => ⟨g, e, by simpa using hge⟩) HO9.out g10 r10)
     clear r10 g10
     go_wp2
     go_roundw
     case rel => exact ⟨k + 1, _, _, by omega, by go_num, by rw [HNX.out, HST.out], by rw [HNX.out, HST.out]; exact HBN.out⟩
     case measure => simp [intOf]; omega
    | false =>
     obtain ⟨e1r, e1s⟩ := HFR2.out rfl
     subst e1r
     subst e1s
     have HDD := Lib.hid hd
     have HAT := Lib.hid (hgo_at (s := ⟨so, [], [], false⟩) hd rfl)
     clear hd HFR2
     have HHO := Lib.hid (fun (W : World) (hW : Grow w W) => ref_houses (v := .slice ap2 q.parts.length cp2) (l := q.parts) W (HEL.out.2.1.mono (HC.out.trans hW.sub)) (by have := HPL.out; omega))
     have HIN := Lib.hid (fun (n : Int) (W : World) (hW : Grow w W) => ref_in (v := .slice ah q.heard.length ch) (l := q.heard) (n := n) W (HEL.out.2.2.mono (HC.out.trans hW.sub)))
     have HHN := Lib.hid (houses_short q.parts)
     go_upto_region 10 with fail
     clear e0 e1 e2 e3 zO
     clear y0 y1 y2 y3 d0 d1 d2 d3 x0 x1 x2 x3 zz zA zB zX RA9 RB9
     have HS : Hid (∀ W, Grow wo W → W.cell? ⟨BO, 1, none⟩ = some (.slice ap2 q.parts.length cp2) ∧ W.cell? ⟨BO, 3, none⟩ = some (.slice ah q.heard.length ch) ∧ W.cell? ⟨w.heap.size + 1, 2, none⟩ = some (.int .i64 m.house)) := fun W hW => by
      obtain ⟨-, k1, -, k3⟩ := cells4 (row_grow RO.out hW)
      obtain ⟨-, -, j2, -⟩ := cells4 (row_grow ((HBO.out.old 1 (by omega)).trans R2.out) hW)
      exact ⟨k1, k3, j2⟩
     obtain ⟨tn, htn⟩ : ∃ b : Bool, b = decide (isNew q m) := ⟨_, rfl⟩
     have HTN := Lib.hid htn
     clear htn
     go_cut [11, 158, 159, 160, 161, 162, 163, 164, 165, 166, 167, 168, 169, 170, 171, 172] from 42 (fun s11 s158 s159 s160 s161 s162 s163 s164 s165 s166 s167 s168 s169 s170 s171 s172 wc => s11 = .bool tn ∧ (s158 = undef ∧ s159 = undef ∧ s160 = undef ∧ s161 = undef ∧ s162 = undef ∧ s163 = undef ∧ s164 = undef ∧ s165 = undef ∧ s166 = undef ∧ s167 = undef ∧ s168 = undef ∧ s169 = undef ∧ s170 = undef ∧ s171 = undef ∧ s172 = undef) ∧ Grow wo wc)
     case first =>
      by_cases h1 : m.house ∈ housesE q.parts
      ·have HH1 := Lib.hid h1
       clear h1
       refine but_start (fun w' => w'.cell? ⟨BO, 1, none⟩ = some (.slice ap2 q.parts.length cp2) ∧ w'.cell? ⟨BO, 3, none⟩ = some (.slice ah q.heard.length ch) ∧ w'.cell? ⟨w.heap.size + 1, 2, none⟩ = some (.int .i64 m.house)) 14 (by kernel_rfl) ?_
       obtain ⟨wd, hWd⟩ : ∃ x : World, x = wo.drew := ⟨_, rfl⟩
       rw [← hWd]
       have GD : Grow wo wd := by rw [hWd]; exact (Grow.refl _).drew
       have zD : wo.heap.size = wd.heap.size := by rw [hWd]; rfl
       have ZD := Lib.hid zD
       clear hWd zD
       refine bLm [0] 18 (by kernel_rfl) (fun _ _ _ _ _ h => h) (HS.out _ GD) ?_
       repeat (refine tNm (v := ?_) rfl (by rfl) ?_ ?_; rotate_left; (· (intro w' hSw; (try dsimp only at hSw); obtain ⟨hs0, hs1, hs2⟩ := hSw; go_simp <;> with_reducible rfl)); try simp only [Act.put, lzA, lzC, lzD, lzE, lzF])
       refine tEm ?_
       refine bLm [1, 3, 4] 18 (by kernel_rfl) (fun _ _ _ _ _ h => h) (HS.out _ GD) ?_
       repeat (refine tNm (v := ?_) rfl (by rfl) ?_ ?_; rotate_left; (· (intro w' hSw; (try dsimp only at hSw); obtain ⟨hs0, hs1, hs2⟩ := hSw; go_simp <;> with_reducible rfl)); try simp only [Act.put, lzA, lzB, lzC, lzD, lzE, lzF])
       refine tEm ?_
       refine bO 2 (by kernel_rfl) rfl ?_
       intro K HK
       try simp only [lzA, lzB, lzC]
       go_simp
       go_at_call 82
       refine (HHO.out _ (HBO.out.grow.trans GD)).mono ?_
       rintro e2x w2 ⟨v2, rfl, ho2, hb2⟩
       obtain ⟨a2, c2, rfl⟩ := owns_form ho2
       have HI2 := Lib.hid (ints_of ho2 (houses_ok q.parts))
       have G2 := Lib.hid (Grow.trans GD hb2)
       clear ho2 hb2
       refine HK.out _ _ ⟨fun _ => HS.out _ G2.out, ?_⟩
       clear HK K
       try simp only [Act.put, lzA, lzB, lzC, lzD, lzE, lzF]
       refine bO 5 (by kernel_rfl) rfl ?_
       intro K HK
       try simp only [lzA, lzB, lzC]
       go_simp
       go_at_call 120
       refine (ref_in (n := m.house) _ HI2.out).mono ?_
       rintro e5 w5 ⟨rfl, hb5⟩
       rw [decide_eq_true HH1.out]
       have G5 := Lib.hid (Grow.trans G2.out hb5)
       clear hb5
       refine HK.out _ _ ⟨fun _ => HS.out _ G5.out, ?_⟩
       clear HK K
       try simp only [Act.put, lzA, lzB, lzC, lzD, lzE, lzF]
       refine bO 6 (by kernel_rfl) rfl ?_
       intro K HK
       try simp only [lzA, lzB, lzC]
       go_simp
       refine HK.out _ _ ⟨fun _ => HS.out _ G5.out, ?_⟩
       clear HK K
       try simp only [Act.put, lzA, lzB, lzC, lzD, lzE, lzF]
       refine bLm [7, 8, 9, 10] 18 (by kernel_rfl) (fun _ _ _ _ _ h => h) (HS.out _ G5.out) ?_
       repeat (refine tNm (v := ?_) rfl (by rfl) ?_ ?_; rotate_left; (· (intro w' hSw; (try dsimp only at hSw); obtain ⟨hs0, hs1, hs2⟩ := hSw; go_simp <;> with_reducible rfl)); try simp only [Act.put, lzA, lzB, lzC, lzD, lzE, lzF])
       refine tEm ?_
       refine bO 11 (by kernel_rfl) rfl ?_
       intro K HK
       refine wanted_yes (by rfl) ?_
       try simp only [lzA, lzB, lzC]
       go_simp
       go_at_call 120
       refine (HIN.out m.house _ (HBO.out.grow.trans G5.out)).mono ?_
       rintro e6 w6 ⟨rfl, hb6⟩
       have G6 := Lib.hid (Grow.trans G5.out hb6)
       clear hb6
       refine HK.out _ _ ⟨fun _ => HS.out _ G6.out, ?_⟩
       clear HK K
       try simp only [Act.put, lzA, lzB, lzC, lzD, lzE, lzF]
       refine bO 12 (by kernel_rfl) rfl ?_
       intro K HK
       refine wanted_yes (by rfl) ?_
       try simp only [lzA, lzB, lzC]
       go_simp
       refine HK.out _ _ ⟨fun _ => HS.out _ G6.out, ?_⟩
       clear HK K
       try simp only [Act.put, lzA, lzB, lzC, lzD, lzE, lzF]
       refine bO 13 (by kernel_rfl) rfl ?_
       intro K HK
       try simp only [lzA, lzB, lzC]
       go_simp
       refine HK.out _ _ ⟨fun _ => HS.out _ G6.out, ?_⟩
       clear HK K
       try simp only [Act.put, lzA, lzB, lzC, lzD, lzE, lzF]
       refine bO 14 (by kernel_rfl) rfl ?_
       intro K HK
       try simp only [lzA, lzB, lzC]
       go_simp
       refine HK.out _ _ ⟨fun h => absurd rfl h, ?_⟩
       clear HK K
       try simp only [Act.put, lzA, lzB, lzC, lzD, lzE, lzF]
       refine but_done (by kernel_rfl) ?_
       go_wp2
       go_meet
       case rel => exact ⟨by have h1 := HH1.out; rw [HTN.out]; simp [isNew, h1], ⟨rfl, rfl, rfl, rfl, rfl, rfl, rfl, rfl, rfl, rfl, rfl, rfl, rfl, rfl, rfl⟩, G6.out⟩
      ·have HH1 := Lib.hid h1
       clear h1
       refine but_start (fun w' => w'.cell? ⟨BO, 1, none⟩ = some (.slice ap2 q.parts.length cp2) ∧ w'.cell? ⟨BO, 3, none⟩ = some (.slice ah q.heard.length ch) ∧ w'.cell? ⟨w.heap.size + 1, 2, none⟩ = some (.int .i64 m.house)) 14 (by kernel_rfl) ?_
       obtain ⟨wd, hWd⟩ : ∃ x : World, x = wo.drew := ⟨_, rfl⟩
       rw [← hWd]
       have GD : Grow wo wd := by rw [hWd]; exact (Grow.refl _).drew
       have zD : wo.heap.size = wd.heap.size := by rw [hWd]; rfl
       have ZD := Lib.hid zD
       clear hWd zD
       refine bLm [0] 18 (by kernel_rfl) (fun _ _ _ _ _ h => h) (HS.out _ GD) ?_
       repeat (refine tNm (v := ?_) rfl (by rfl) ?_ ?_; rotate_left; (· (intro w' hSw; (try dsimp only at hSw); obtain ⟨hs0, hs1, hs2⟩ := hSw; go_simp <;> with_reducible rfl)); try simp only [Act.put, lzA, lzC, lzD, lzE, lzF])
       refine tEm ?_
       refine bLm [1, 3, 4] 18 (by kernel_rfl) (fun _ _ _ _ _ h => h) (HS.out _ GD) ?_
       repeat (refine tNm (v := ?_) rfl (by rfl) ?_ ?_; rotate_left; (· (intro w' hSw; (try dsimp only at hSw); obtain ⟨hs0, hs1, hs2⟩ := hSw; go_simp <;> with_reducible rfl)); try simp only [Act.put, lzA, lzB, lzC, lzD, lzE, lzF])
       refine tEm ?_
       refine bO 2 (by kernel_rfl) rfl ?_
       intro K HK
       try simp only [lzA, lzB, lzC]
       go_simp
       go_at_call 82
       refine (HHO.out _ (HBO.out.grow.trans GD)).mono ?_
       rintro e2x w2 ⟨v2, rfl, ho2, hb2⟩
       obtain ⟨a2, c2, rfl⟩ := owns_form ho2
       have HI2 := Lib.hid (ints_of ho2 (houses_ok q.parts))
       have G2 := Lib.hid (Grow.trans GD hb2)
       clear ho2 hb2
       refine HK.out _ _ ⟨fun _ => HS.out _ G2.out, ?_⟩
       clear HK K
       try simp only [Act.put, lzA, lzB, lzC, lzD, lzE, lzF]
       refine bO 5 (by kernel_rfl) rfl ?_
       intro K HK
       try simp only [lzA, lzB, lzC]
       go_simp
       go_at_call 120
       refine (ref_in (n := m.house) _ HI2.out).mono ?_
       rintro e5 w5 ⟨rfl, hb5⟩
       rw [decide_eq_false HH1.out]
       have G5 := Lib.hid (Grow.trans G2.out hb5)
       clear hb5
       refine HK.out _ _ ⟨fun _ => HS.out _ G5.out, ?_⟩
       clear HK K
       try simp only [Act.put, lzA, lzB, lzC, lzD, lzE, lzF]
       refine bO 6 (by kernel_rfl) rfl ?_
       intro K HK
       try simp only [lzA, lzB, lzC]
       go_simp
       refine HK.out _ _ ⟨fun _ => HS.out _ G5.out, ?_⟩
       clear HK K
       try simp only [Act.put, lzA, lzB, lzC, lzD, lzE, lzF]
       refine but_take (i := 7) (v := undef) 18 rfl (by kernel_rfl) (by kernel_rfl) (by kernel_rfl) (by kernel_rfl) (by kernel_rfl) (fun _ _ _ h => h) (HS.out _ G5.out) (Or.inr ⟨by rfl, rfl⟩) ?_
       try simp only [Act.put, lzA, lzB, lzC, lzD, lzE, lzF]
       refine but_take (i := 8) (v := undef) 18 rfl (by kernel_rfl) (by kernel_rfl) (by kernel_rfl) (by kernel_rfl) (by kernel_rfl) (fun _ _ _ h => h) (HS.out _ G5.out) (Or.inr ⟨by rfl, rfl⟩) ?_
       try simp only [Act.put, lzA, lzB, lzC, lzD, lzE, lzF]
       refine but_take (i := 9) (v := undef) 18 rfl (by kernel_rfl) (by kernel_rfl) (by kernel_rfl) (by kernel_rfl) (by kernel_rfl) (fun _ _ _ h => h) (HS.out _ G5.out) (Or.inr ⟨by rfl, rfl⟩) ?_
       try simp only [Act.put, lzA, lzB, lzC, lzD, lzE, lzF]
       refine but_take (i := 10) (v := undef) 18 rfl (by kernel_rfl) (by kernel_rfl) (by kernel_rfl) (by kernel_rfl) (by kernel_rfl) (fun _ _ _ h => h) (HS.out _ G5.out) (Or.inr ⟨by rfl, rfl⟩) ?_
       try simp only [Act.put, lzA, lzB, lzC, lzD, lzE, lzF]
       refine but_take (i := 11) (v := undef) 18 rfl (by kernel_rfl) (by kernel_rfl) (by kernel_rfl) (by kernel_rfl) (by kernel_rfl) (fun _ _ _ h => h) (HS.out _ G5.out) (Or.inr ⟨by rfl, rfl⟩) ?_
       try simp only [Act.put, lzA, lzB, lzC, lzD, lzE, lzF]
       refine but_take (i := 12) (v := undef) 18 rfl (by kernel_rfl) (by kernel_rfl) (by kernel_rfl) (by kernel_rfl) (by kernel_rfl) (fun _ _ _ h => h) (HS.out _ G5.out) (Or.inr ⟨by rfl, rfl⟩) ?_
       try simp only [Act.put, lzA, lzB, lzC, lzD, lzE, lzF]
       refine bO 13 (by kernel_rfl) rfl ?_
       intro K HK
       try simp only [lzA, lzB, lzC]
       go_simp
       refine HK.out _ _ ⟨fun _ => HS.out _ G5.out, ?_⟩
       clear HK K
       try simp only [Act.put, lzA, lzB, lzC, lzD, lzE, lzF]
       refine bO 14 (by kernel_rfl) rfl ?_
       intro K HK
       try simp only [lzA, lzB, lzC]
       go_simp
       refine HK.out _ _ ⟨fun h => absurd rfl h, ?_⟩
       clear HK K
       try simp only [Act.put, lzA, lzB, lzC, lzD, lzE, lzF]
       refine but_done (by kernel_rfl) ?_
       go_wp2
       go_meet
       case rel => exact ⟨by have h1 := HH1.out; rw [HTN.out]; simp [isNew, h1], ⟨rfl, rfl, rfl, rfl, rfl, rfl, rfl, rfl, rfl, rfl, rfl, rfl, rfl, rfl, rfl⟩, G5.out⟩
     case rest =>
     obtain ⟨rfl, ⟨rfl, rfl, rfl, rfl, rfl, rfl, rfl, rfl, rfl, rfl, rfl, rfl, rfl, rfl, rfl⟩, hgc⟩ := hcut
     obtain ⟨w11, rfl⟩ : ∃ y : World, y = wc := ⟨_, rfl⟩
     have GC_w11 := Lib.hid hgc
     clear hgc
     have HB11 := Lib.hid (HBO.out.later GC_w11.out)
     have RO11 := Lib.hid (row_grow RO.out GC_w11.out)
     clear HS
     have HSRC := Lib.hid (fun (W : World) (hW : Grow w11 W) => Src.of_sl_c (T := Ty.int) (by decide) (HC.out.trans (HB11.out.grow.trans hW).sub) HEL.out.2.2)
     have HS : Hid (∀ W, Grow w11 W → W.cell? ⟨BO, 3, none⟩ = some (.slice ah q.heard.length ch) ∧ W.cell? ⟨w.heap.size + 1, 2, none⟩ = some (.int .i64 m.house)) := fun W hW => by
      obtain ⟨-, -, -, k3⟩ := cells4 (row_grow RO11.out hW)
      obtain ⟨-, -, j2, -⟩ := cells4 (row_grow ((HB11.out.old 1 (by omega)).trans R2.out) hW)
      exact ⟨k3, j2⟩
     go_upto_region 11 with fail
     go_cut [12, 158, 159, 160, 161, 162, 163, 164, 165, 166, 167, 168, 169, 170, 171, 172] from 56 (fun s12 s158 s159 s160 s161 s162 s163 s164 s165 s166 s167 s168 s169 s170 s171 s172 wc => (∃ a12 c12, s12 = .slice a12 (q.heard.length + 1) c12 ∧ OwnC Ty.int c wc w11.heap.size 3 (.slice a12 (q.heard.length + 1) c12) (q.heard ++ [m.house])) ∧ (s158 = undef ∧ s159 = undef ∧ s160 = undef ∧ s161 = undef ∧ s162 = undef ∧ s163 = undef ∧ s164 = undef ∧ s165 = undef ∧ s166 = undef ∧ s167 = undef ∧ s168 = undef ∧ s169 = undef ∧ s170 = undef ∧ s171 = undef ∧ s172 = undef) ∧ Grow w11 wc)
     case first =>
      refine but_start (fun w' => w'.cell? ⟨BO, 3, none⟩ = some (.slice ah q.heard.length ch) ∧ w'.cell? ⟨w.heap.size + 1, 2, none⟩ = some (.int .i64 m.house)) 8 (by kernel_rfl) ?_
      obtain ⟨wd, hWd⟩ : ∃ x : World, x = w11.drew := ⟨_, rfl⟩
      rw [← hWd]
      have GD : Grow w11 wd := by rw [hWd]; exact (Grow.refl _).drew
      have zD : w11.heap.size = wd.heap.size := by rw [hWd]; rfl
      have ZD := Lib.hid zD
      clear hWd zD
      refine bLm [1, 2, 4, 5] 12 (by kernel_rfl) (fun _ _ _ _ _ h => h) (HS.out _ GD) ?_
      repeat (refine tNm (v := ?_) rfl (by rfl) ?_ ?_; rotate_left; (· (intro w' hSw; (try dsimp only at hSw); obtain ⟨hs0, hs1⟩ := hSw; go_simp <;> with_reducible rfl)); try simp only [Act.put, lzA, lzB, lzC, lzD, lzE, lzF])
      refine tEm ?_
      refine bP 0 6 (by kernel_rfl) rfl rfl ?_ ?_
      ·intro K HK
       try simp only [lzA, lzC]
       go_simp
       refine HK.out _ _ ⟨fun _ => HS.out _ (GD.alloc _), ?_⟩
       clear HK K
       try simp only [Act.put, lzA, lzB, lzC, lzD, lzE, lzF]
       refine bP 3 6 (by kernel_rfl) rfl rfl ?_ ?_
       ·intro K HK
        refine wanted_go rfl ?_
        try simp only [lzA, lzB, lzC]
        refine wp_appc (l := []) (m := q.heard) (v := .slice (some ⟨wd.heap.size, 0, none⟩) 0 0) ei_int rfl one_Tint (by decide) (.tmp 56) (.tmp 58) rfl rfl ((OwnC.made0 Ty.int c _ w11.heap.size _ (by have := ZD.out; (try simp); omega) (by simp))) rfl (HSRC.out _ (GD.alloc _)) (by have := HHL.out; simp; omega) (GD.alloc _).size ?_
        intro a3 c3 q3 ho3 hg3 hb3
        try simp only [List.length_nil, Nat.zero_add, List.nil_append] at ho3
        try simp only [List.length_nil, Nat.zero_add] at hb3
        try simp only [List.length_nil, Nat.zero_add]
        have G3 := grow_by (w0 := w11) (GD.alloc _) hg3 (own_at (by have := ZD.out; (try simp); omega))
        have B3 := Lib.hid (own_new (B := w11.heap.size) (GD.alloc _).size hb3 (own_at (by have := ZD.out; (try simp); omega)))
        have HO3 := Lib.hid ho3
        have HG3 := Lib.hid hg3
        clear ho3 hg3 hb3
        refine HK.out _ _ ⟨fun _ => HS.out _ G3, ?_⟩
        clear HK K
        try simp only [Act.put, lzD, lzE, lzF]
        refine bO 6 (by kernel_rfl) rfl ?_
        intro K HK
        try simp only [lzA, lzB, lzC]
        go_simp
        refine HK.out _ _ ⟨fun _ => HS.out _ (G3.alloc _), ?_⟩
        clear HK K
        try simp only [Act.put, lzA, lzB, lzC, lzD, lzE, lzF]
        refine bO 7 (by kernel_rfl) rfl ?_
        intro K HK
        refine wanted_go rfl ?_
        try simp only [lzA, lzB, lzC]
        refine wp_appc (l := q.heard) (m := [m.house]) (v := .slice a3 (q.heard.length) c3) ei_int rfl one_Tint (by decide) (.tmp 59) (.tmp 62) rfl rfl ((HO3.out).grow ((Grow.refl _).alloc _)) rfl ((Src.of_new (T := Ty.int) (x := m.house) (c := c) (cs := #[.int .i64 m.house]) (show Ty.int.R c _ m.house from ⟨rfl, HMI.out.2.2⟩) _ _ (by simp))) (by have := HHL.out; simp; omega) (G3.alloc _).size ?_
        intro a7 c7 q7 ho7 hg7 hb7
        try simp only [List.length_nil, List.length_cons, Nat.zero_add] at ho7
        try simp only [List.length_nil, List.length_cons, Nat.zero_add] at hb7
        try simp only [List.length_nil, List.length_cons, Nat.zero_add]
        have G7 := grow_by (w0 := w11) (G3.alloc _) hg7 B3.out
        have B7 := Lib.hid (own_new (B := w11.heap.size) (G3.alloc _).size hb7 B3.out)
        have HO7 := Lib.hid ho7
        have HG7 := Lib.hid hg7
        clear ho7 hg7 hb7
        refine HK.out _ _ ⟨fun _ => HS.out _ G7, ?_⟩
        clear HK K
        try simp only [Act.put, lzD, lzE, lzF]
        refine bO 8 (by kernel_rfl) rfl ?_
        intro K HK
        try simp only [lzA, lzB, lzC]
        go_simp
        refine HK.out _ _ ⟨fun h => absurd rfl h, ?_⟩
        clear HK K
        try simp only [Act.put, lzA, lzB, lzC, lzD, lzE, lzF]
        refine but_done (by kernel_rfl) ?_
        go_wp2
        go_meet
        case rel => exact ⟨⟨_, _, rfl, HO7.out⟩, ⟨rfl, rfl, rfl, rfl, rfl, rfl, rfl, rfl, rfl, rfl, rfl, rfl, rfl, rfl, rfl⟩, G7⟩
       ·intro K HK
        try simp only [lzA, lzB, lzC]
        go_simp
        refine HK.out _ _ ⟨fun _ => HS.out _ ((GD.alloc _).alloc _), ?_⟩
        clear HK K
        try simp only [Act.put, lzA, lzB, lzC, lzD, lzE, lzF]
        refine bO 3 (by kernel_rfl) rfl ?_
        intro K HK
        refine wanted_go rfl ?_
        try simp only [lzA, lzB, lzC]
        refine wp_appc (l := []) (m := q.heard) (v := .slice (some ⟨wd.heap.size, 0, none⟩) 0 0) ei_int rfl one_Tint (by decide) (.tmp 56) (.tmp 58) rfl rfl (((OwnC.made0 Ty.int c _ w11.heap.size _ (by have := ZD.out; (try simp); omega) (by simp))).grow ((Grow.refl _).alloc _)) rfl (HSRC.out _ ((GD.alloc _).alloc _)) (by have := HHL.out; simp; omega) ((GD.alloc _).alloc _).size ?_
        intro a3 c3 q3 ho3 hg3 hb3
        try simp only [List.length_nil, Nat.zero_add, List.nil_append] at ho3
        try simp only [List.length_nil, Nat.zero_add] at hb3
        try simp only [List.length_nil, Nat.zero_add]
        have G3 := grow_by (w0 := w11) ((GD.alloc _).alloc _) hg3 (own_at (by have := ZD.out; (try simp); omega))
        have B3 := Lib.hid (own_new (B := w11.heap.size) ((GD.alloc _).alloc _).size hb3 (own_at (by have := ZD.out; (try simp); omega)))
        have HO3 := Lib.hid ho3
        have HG3 := Lib.hid hg3
        clear ho3 hg3 hb3
        refine HK.out _ _ ⟨fun _ => HS.out _ G3, ?_⟩
        clear HK K
        try simp only [Act.put, lzD, lzE, lzF]
        refine bO 7 (by kernel_rfl) rfl ?_
        intro K HK
        refine wanted_go rfl ?_
        try simp only [lzA, lzB, lzC]
        refine wp_appc (l := q.heard) (m := [m.house]) (v := .slice a3 (q.heard.length) c3) ei_int rfl one_Tint (by decide) (.tmp 59) (.tmp 62) rfl rfl (HO3.out) rfl (((Src.of_new (T := Ty.int) (x := m.house) (c := c) (cs := #[.int .i64 m.house]) (show Ty.int.R c _ m.house from ⟨rfl, HMI.out.2.2⟩) _ _ (by simp))).kept HG3.out (by simp [Value.ownBlock])) (by have := HHL.out; simp; omega) G3.size ?_
        intro a7 c7 q7 ho7 hg7 hb7
        try simp only [List.length_nil, List.length_cons, Nat.zero_add] at ho7
        try simp only [List.length_nil, List.length_cons, Nat.zero_add] at hb7
        try simp only [List.length_nil, List.length_cons, Nat.zero_add]
        have G7 := grow_by (w0 := w11) G3 hg7 B3.out
        have B7 := Lib.hid (own_new (B := w11.heap.size) G3.size hb7 B3.out)
        have HO7 := Lib.hid ho7
        have HG7 := Lib.hid hg7
        clear ho7 hg7 hb7
        refine HK.out _ _ ⟨fun _ => HS.out _ G7, ?_⟩
        clear HK K
        try simp only [Act.put, lzD, lzE, lzF]
        refine bO 8 (by kernel_rfl) rfl ?_
        intro K HK
        try simp only [lzA, lzB, lzC]
        go_simp
        refine HK.out _ _ ⟨fun h => absurd rfl h, ?_⟩
        clear HK K
        try simp only [Act.put, lzA, lzB, lzC, lzD, lzE, lzF]
        refine but_done (by kernel_rfl) ?_
        go_wp2
        go_meet
        case rel => exact ⟨⟨_, _, rfl, HO7.out⟩, ⟨rfl, rfl, rfl, rfl, rfl, rfl, rfl, rfl, rfl, rfl, rfl, rfl, rfl, rfl, rfl⟩, G7⟩
      ·intro K HK
       try simp only [lzA, lzB, lzC]
       go_simp
       refine HK.out _ _ ⟨fun _ => HS.out _ (GD.alloc _), ?_⟩
       clear HK K
       try simp only [Act.put, lzA, lzB, lzC, lzD, lzE, lzF]
       refine bO 0 (by kernel_rfl) rfl ?_
       intro K HK
       try simp only [lzA, lzC]
       go_simp
       refine HK.out _ _ ⟨fun _ => HS.out _ ((GD.alloc _).alloc _), ?_⟩
       clear HK K
       try simp only [Act.put, lzA, lzB, lzC, lzD, lzE, lzF]
       refine bO 3 (by kernel_rfl) rfl ?_
       intro K HK
       refine wanted_go rfl ?_
       try simp only [lzA, lzB, lzC]
       refine wp_appc (l := []) (m := q.heard) (v := .slice (some ⟨wd.heap.size + 1, 0, none⟩) 0 0) ei_int rfl one_Tint (by decide) (.tmp 56) (.tmp 58) rfl rfl ((OwnC.made0 Ty.int c _ w11.heap.size _ (by have := ZD.out; (try simp); omega) (by simp))) rfl (HSRC.out _ ((GD.alloc _).alloc _)) (by have := HHL.out; simp; omega) ((GD.alloc _).alloc _).size ?_
       intro a3 c3 q3 ho3 hg3 hb3
       try simp only [List.length_nil, Nat.zero_add, List.nil_append] at ho3
       try simp only [List.length_nil, Nat.zero_add] at hb3
       try simp only [List.length_nil, Nat.zero_add]
       have G3 := grow_by (w0 := w11) ((GD.alloc _).alloc _) hg3 (own_at (by have := ZD.out; (try simp); omega))
       have B3 := Lib.hid (own_new (B := w11.heap.size) ((GD.alloc _).alloc _).size hb3 (own_at (by have := ZD.out; (try simp); omega)))
       have HO3 := Lib.hid ho3
       have HG3 := Lib.hid hg3
       clear ho3 hg3 hb3
       refine HK.out _ _ ⟨fun _ => HS.out _ G3, ?_⟩
       clear HK K
       try simp only [Act.put, lzD, lzE, lzF]
       refine bO 7 (by kernel_rfl) rfl ?_
       intro K HK
       refine wanted_go rfl ?_
       try simp only [lzA, lzB, lzC]
       refine wp_appc (l := q.heard) (m := [m.house]) (v := .slice a3 (q.heard.length) c3) ei_int rfl one_Tint (by decide) (.tmp 59) (.tmp 62) rfl rfl (HO3.out) rfl ((((Src.of_new (T := Ty.int) (x := m.house) (c := c) (cs := #[.int .i64 m.house]) (show Ty.int.R c _ m.house from ⟨rfl, HMI.out.2.2⟩) _ _ (by simp))).grow ((Grow.refl _).alloc _)).kept HG3.out (by simp [Value.ownBlock])) (by have := HHL.out; simp; omega) G3.size ?_
       intro a7 c7 q7 ho7 hg7 hb7
       try simp only [List.length_nil, List.length_cons, Nat.zero_add] at ho7
       try simp only [List.length_nil, List.length_cons, Nat.zero_add] at hb7
       try simp only [List.length_nil, List.length_cons, Nat.zero_add]
       have G7 := grow_by (w0 := w11) G3 hg7 B3.out
       have B7 := Lib.hid (own_new (B := w11.heap.size) G3.size hb7 B3.out)
       have HO7 := Lib.hid ho7
       have HG7 := Lib.hid hg7
       clear ho7 hg7 hb7
       refine HK.out _ _ ⟨fun _ => HS.out _ G7, ?_⟩
       clear HK K
       try simp only [Act.put, lzD, lzE, lzF]
       refine bO 8 (by kernel_rfl) rfl ?_
       intro K HK
       try simp only [lzA, lzB, lzC]
       go_simp
       refine HK.out _ _ ⟨fun h => absurd rfl h, ?_⟩
       clear HK K
       try simp only [Act.put, lzA, lzB, lzC, lzD, lzE, lzF]
       refine but_done (by kernel_rfl) ?_
       go_wp2
       go_meet
       case rel => exact ⟨⟨_, _, rfl, HO7.out⟩, ⟨rfl, rfl, rfl, rfl, rfl, rfl, rfl, rfl, rfl, rfl, rfl, rfl, rfl, rfl, rfl⟩, G7⟩
     case rest =>
     obtain ⟨⟨a12, c12, rfl, ho12⟩, ⟨rfl, rfl, rfl, rfl, rfl, rfl, rfl, rfl, rfl, rfl, rfl, rfl, rfl, rfl, rfl⟩, hgc⟩ := hcut
     obtain ⟨w12, rfl⟩ : ∃ y : World, y = wc := ⟨_, rfl⟩
     have GC_w12 := Lib.hid hgc
     clear hgc
     have HO12 := Lib.hid ho12
     clear ho12 HS
     have HB12 := Lib.hid (HB11.out.later GC_w12.out)
     have RO12 := Lib.hid (row_grow RO11.out GC_w12.out)
     obtain ⟨ta, hta⟩ : ∃ b : Bool, b = allHeard q := ⟨_, rfl⟩
     have HTA := Lib.hid hta
     clear hta
     go_upto_region 12 with fail
     obtain ⟨e0, e1, e2, e3⟩ := cells4 RO12.out
     have zO : BO < w12.heap.size := (Array.getElem?_eq_some_iff.1 RO12.out).1
     go_cut [13, 158, 159, 160, 161, 162, 163, 164, 165, 166, 167, 168, 169, 170, 171, 172] from 64 (fun s13 s158 s159 s160 s161 s162 s163 s164 s165 s166 s167 s168 s169 s170 s171 s172 wc => s13 = .bool ta ∧ (s158 = undef ∧ s159 = undef ∧ s160 = undef ∧ s161 = undef ∧ s162 = undef ∧ s163 = undef ∧ s164 = undef ∧ s165 = undef ∧ s166 = undef ∧ s167 = undef ∧ s168 = undef ∧ s169 = undef ∧ s170 = undef ∧ s171 = undef ∧ s172 = undef) ∧ Grow w12 wc)
     case first =>
      go_wp2_with fail
      refine (HHO.out _ HB12.out.grow).mono ?_
      rintro e2x w2 ⟨v2, rfl, ho2, hb2⟩
      obtain ⟨a2, c2, rfl⟩ := owns_form ho2
      clear ho2
      go_wp2
      go_meet
      case rel => exact ⟨by rw [HTA.out]; unfold allHeard; congr 1; first | rfl | (rw [Bool.eq_iff_iff]; simp; omega), ⟨rfl, rfl, rfl, rfl, rfl, rfl, rfl, rfl, rfl, rfl, rfl, rfl, rfl, rfl, rfl⟩, hb2⟩
     case rest =>
     obtain ⟨rfl, ⟨rfl, rfl, rfl, rfl, rfl, rfl, rfl, rfl, rfl, rfl, rfl, rfl, rfl, rfl, rfl⟩, hgc⟩ := hcut
     obtain ⟨w13, rfl⟩ : ∃ y : World, y = wc := ⟨_, rfl⟩
     have GC_w13 := Lib.hid hgc
     clear hgc
     have HB13 := Lib.hid (HB12.out.later GC_w13.out)
     have RO13 := Lib.hid (row_grow RO12.out GC_w13.out)
     have HO13 := Lib.hid (HO12.out.grow GC_w13.out)
     try clear e0 e1 e2 e3 zO
     obtain ⟨t71, ht71⟩ : ∃ b : Bool, b = decide (m.kind = 2 ∧ q.dec = false ∧ isNew q m) := ⟨_, rfl⟩
     have HT71 := Lib.hid ht71
     clear ht71
     go_upto_region 13 with fail
     obtain ⟨e0, e1, e2, e3⟩ := cells4 RO13.out
     have zO : BO < w13.heap.size := (Array.getElem?_eq_some_iff.1 RO13.out).1
     have RA9 := Lib.hid ((HB13.out.old 0 (by omega)).trans R1.out)
     have RB9 := Lib.hid ((HB13.out.old 1 (by omega)).trans R2.out)
     obtain ⟨y0, y1, y2, y3⟩ := cells4 RA9.out
     obtain ⟨d0, d1, d2, d3⟩ := cells4 RB9.out
     obtain ⟨x0, x1, x2, x3⟩ := cells4 HB13.out.row
     have zz := HB13.out.size
     have zA : w.heap.size < w13.heap.size := by omega
     have zB : w.heap.size + 1 < w13.heap.size := by omega
     have zX : w.heap.size + 3 < w13.heap.size := by omega
     go_cut [71, 158, 159, 160, 161, 162, 163, 164, 165, 166, 167, 168, 169, 170, 171, 172] from 72 (fun s71 s158 s159 s160 s161 s162 s163 s164 s165 s166 s167 s168 s169 s170 s171 s172 wc => s71 = .bool t71 ∧ (s158 = undef ∧ s159 = undef ∧ s160 = undef ∧ s161 = undef ∧ s162 = undef ∧ s163 = undef ∧ s164 = undef ∧ s165 = undef ∧ s166 = undef ∧ s167 = undef ∧ s168 = undef ∧ s169 = undef ∧ s170 = undef ∧ s171 = undef ∧ s172 = undef) ∧ w13 = wc)
     case first =>
      by_cases hk : m.kind = 2
      ·have hkb : (m.kind == 2) = true := by simp [hk]
       have HK := Lib.hid hk
       clear hk
       obtain ⟨db, hdq⟩ : ∃ b, b = q.dec := ⟨_, rfl⟩
       rw [← hdq] at e2
       have HDC := Lib.hid hdq
       clear hdq
       cases db with
       | true =>
        go_wp2
        go_meet
        case rel => exact ⟨by have h1 := HK.out; have h2 := HDC.out.symm; rw [HT71.out]; (try rw [HTN.out]); simp [h1, h2], ⟨rfl, rfl, rfl, rfl, rfl, rfl, rfl, rfl, rfl, rfl, rfl, rfl, rfl, rfl, rfl⟩, rfl⟩
       | false =>
        go_wp2
        go_meet
        case rel => exact ⟨by have h1 := HK.out; have h2 := HDC.out.symm; rw [HT71.out]; (try rw [HTN.out]); simp [h1, h2], ⟨rfl, rfl, rfl, rfl, rfl, rfl, rfl, rfl, rfl, rfl, rfl, rfl, rfl, rfl, rfl⟩, rfl⟩
      ·have hkb : (m.kind == 2) = false := by simp [hk]
       have HK := Lib.hid hk
       clear hk
       go_wp2
       go_meet
       case rel => exact ⟨by have h1 := HK.out; rw [HT71.out]; simp [h1], ⟨rfl, rfl, rfl, rfl, rfl, rfl, rfl, rfl, rfl, rfl, rfl, rfl, rfl, rfl, rfl⟩, rfl⟩
     case rest =>
     obtain ⟨rfl, ⟨rfl, rfl, rfl, rfl, rfl, rfl, rfl, rfl, rfl, rfl, rfl, rfl, rfl, rfl, rfl⟩, rfl⟩ := hcut
     clear e0 e1 e2 e3 zO y0 y1 y2 y3 d0 d1 d2 d3 x0 x1 x2 x3 zz zA zB zX RA9 RB9
     cases t71 with
     | true =>
      skip
      as_aux_lemma =>
       have HA := Lib.hid (of_decide_eq_true HT71.out.symm)
       have hdc := HA.out.2.1
       rw [hdc] at RO13
       clear hdc
       go_wp2_with (first | (refine wpList_store_cell rfl (.tmp 84) (.tmp 83) (v := .slice a12 (q.heard.length + 1) c12) (new := #[.int .i64 q.deed, .slice ap2 q.parts.length cp2, .bool false, .slice a12 (q.heard.length + 1) c12]) rfl rfl (by rfl) (by rfl) RO13.out info_ints (by simp) (by rfl) (by rfl) ?_))
       intro w14 r14 g14
       have RO14 := Lib.hid r14
       have G14 : Hid (Grow wr w14) := Lib.hid ((((GO.out.trans GC_w11.out).trans GC_w12.out).trans GC_w13.out).grown g14 (fun q9 e9 => by have := Option.some.inj e9; have := HBB.out; omega))
       have HB14 := Lib.hid (HBR.out.later G14.out)
       have HO14 := Lib.hid (HO13.out.kept g14 (own_apart HO13.out (by have := (Array.getElem?_eq_some_iff.1 RO11.out).1; omega)))
       clear r14 g14
       cases ta with
       | true =>
        have HLF := Lib.hid HTA.out.symm
        have HST : Hid (hgoStep m ⟨so, [], [], false⟩ q = ⟨so ++ [⟨q.deed, q.parts, true, []⟩], [⟨5, q.deed, q.parts⟩], asksE ⟨q.deed, q.parts, true, []⟩, true⟩) := Lib.hid (by rw [HAT.out, hearO_yesAll HA.out HLF.out]; try simp)
        go_wp2_with (first | (refine wpList_store_cell rfl (.tmp 86) (.const (.bool true)) (v := .bool true) (new := #[.int .i64 q.deed, .slice ap2 q.parts.length cp2, .bool true, .slice a12 (q.heard.length + 1) c12]) rfl rfl (by rfl) (by rfl) RO14.out info_bool (by simp) (by rfl) (by rfl) ?_))
        intro w15 r15 g15
        have RO15 := Lib.hid r15
        have G15 : Hid (Grow wr w15) := Lib.hid (G14.out.grown g15 (fun q9 e9 => by have := Option.some.inj e9; have := HBB.out; omega))
        clear r15 g15
        go_wp2_with (first | (refine wpList_store_cell rfl (.tmp 87) (.const (.slice none 0 0)) (v := .slice none 0 0) (new := #[.int .i64 q.deed, .slice ap2 q.parts.length cp2, .bool true, .slice none 0 0]) rfl rfl (by rfl) (by rfl) RO15.out info_ints (by simp) (by rfl) (by rfl) ?_))
        intro w16 r16 g16
        have RO16 := Lib.hid r16
        have G16 : Hid (Grow wr w16) := Lib.hid (G15.out.grown g16 (fun q9 e9 => by have := Option.some.inj e9; have := HBB.out; omega))
        clear r16 g16
        have HB16 := Lib.hid (HBR.out.later G16.out)
        have HLSR := Lib.hid (fun (W : World) (hW : Grow w16 W) => Src.of_sl_c (T := Ty.rc) (by decide) (HC.out.trans (HB16.out.grow.trans hW).sub) HLG.out)
        have HS : Hid (∀ W, Grow w16 W → W.cell? ⟨w.heap.size, 0, none⟩ = some (.slice al h.log.length cl) ∧ W.cell? ⟨BO, 0, none⟩ = some (.int .i64 q.deed) ∧ W.cell? ⟨BO, 1, none⟩ = some (.slice ap2 q.parts.length cp2)) := fun W hW => by
         obtain ⟨k0, k1, -, -⟩ := cells4 (row_grow RO16.out hW)
         obtain ⟨j0, -, -, -⟩ := cells4 (row_grow ((HB16.out.old 0 (by omega)).trans R1.out) hW)
         exact ⟨j0, k0, k1⟩
        go_upto_region 17 with fail
        refine but_start (fun w' => w'.cell? ⟨w.heap.size, 0, none⟩ = some (.slice al h.log.length cl) ∧ w'.cell? ⟨BO, 0, none⟩ = some (.int .i64 q.deed) ∧ w'.cell? ⟨BO, 1, none⟩ = some (.slice ap2 q.parts.length cp2)) 12 (by kernel_rfl) ?_
        obtain ⟨wd, hWd⟩ : ∃ x : World, x = w16.drew := ⟨_, rfl⟩
        rw [← hWd]
        have GD : Grow w16 wd := by rw [hWd]; exact (Grow.refl _).drew
        have zD : w16.heap.size = wd.heap.size := by rw [hWd]; rfl
        have ZD := Lib.hid zD
        clear hWd zD
        refine bLm [1, 2, 4, 5, 6, 7, 8] 16 (by kernel_rfl) (fun _ _ _ _ _ h => h) (HS.out _ GD) ?_
        repeat (refine tNm (v := ?_) rfl (by rfl) ?_ ?_; rotate_left; (· (intro w' hSw; (try dsimp only at hSw); obtain ⟨hs0, hs1, hs2⟩ := hSw; go_simp <;> with_reducible rfl)); try simp only [Act.put, lzA, lzB, lzC, lzD, lzE, lzF])
        refine tEm ?_
        refine bP 0 9 (by kernel_rfl) rfl rfl ?_ ?_
        ·intro K HK
         try simp only [lzA, lzC]
         go_simp
         refine HK.out _ _ ⟨fun _ => HS.out _ (GD.alloc _), ?_⟩
         clear HK K
         try simp only [Act.put, lzA, lzB, lzC, lzD, lzE, lzF]
         refine bP 3 9 (by kernel_rfl) rfl rfl ?_ ?_
         ·intro K HK
          refine wanted_go rfl ?_
          try simp only [lzA, lzB, lzC]
          refine wp_appc (l := []) (m := h.log) (v := .slice (some ⟨wd.heap.size, 0, none⟩) 0 0) ei_rc rfl one_Trc (by decide) (.tmp 88) (.tmp 90) rfl rfl ((OwnC.made0 Ty.rc c _ w16.heap.size _ (by have := ZD.out; (try simp); omega) (by simp))) rfl (HLSR.out _ (GD.alloc _)) (by have := HLL.out; simp; omega) (GD.alloc _).size ?_
          intro a3 c3 q3 ho3 hg3 hb3
          try simp only [List.length_nil, Nat.zero_add, List.nil_append] at ho3
          try simp only [List.length_nil, Nat.zero_add] at hb3
          try simp only [List.length_nil, Nat.zero_add]
          have G3 := grow_by (w0 := w16) (GD.alloc _) hg3 (own_at (by have := ZD.out; (try simp); omega))
          have B3 := Lib.hid (own_new (B := w16.heap.size) (GD.alloc _).size hb3 (own_at (by have := ZD.out; (try simp); omega)))
          have HO3 := Lib.hid ho3
          have HG3 := Lib.hid hg3
          clear ho3 hg3 hb3
          refine HK.out _ _ ⟨fun _ => HS.out _ G3, ?_⟩
          clear HK K
          try simp only [Act.put, lzD, lzE, lzF]
          refine bO 9 (by kernel_rfl) rfl ?_
          intro K HK
          try simp only [lzA, lzB, lzC]
          go_simp
          refine HK.out _ _ ⟨fun _ => HS.out _ (G3.alloc _), ?_⟩
          clear HK K
          try simp only [Act.put, lzA, lzB, lzC, lzD, lzE, lzF]
          refine bO 10 (by kernel_rfl) rfl ?_
          intro K HK
          refine wanted_go rfl ?_
          try simp only [lzA, lzB, lzC]
          refine wp_appc (l := h.log) (m := [⟨5, q.deed, q.parts⟩]) (v := .slice a3 (h.log.length) c3) ei_rc rfl one_Trc (by decide) (.tmp 91) (.tmp 97) rfl rfl ((HO3.out).grow ((Grow.refl _).alloc _)) rfl ((Src.of_new (T := Ty.rc) (x := ⟨5, q.deed, q.parts⟩) (c := c) (cs := #[.int .i64 5, .int .i64 q.deed, .slice ap2 q.parts.length cp2]) (show Ty.rc.R c _ (⟨5, q.deed, q.parts⟩ : Rc) from ⟨_, rfl, (show I64 5 from by unfold I64; decide), HEL.out.1, HEL.out.2.1⟩) _ _ (by simp))) (by have := HLL.out; simp; omega) (G3.alloc _).size ?_
          intro a10 c10 q10 ho10 hg10 hb10
          try simp only [List.length_nil, List.length_cons, Nat.zero_add] at ho10
          try simp only [List.length_nil, List.length_cons, Nat.zero_add] at hb10
          try simp only [List.length_nil, List.length_cons, Nat.zero_add]
          have G10 := grow_by (w0 := w16) (G3.alloc _) hg10 B3.out
          have B10 := Lib.hid (own_new (B := w16.heap.size) (G3.alloc _).size hb10 B3.out)
          have HO10 := Lib.hid ho10
          have HG10 := Lib.hid hg10
          clear ho10 hg10 hb10
          refine HK.out _ _ ⟨fun _ => HS.out _ G10, ?_⟩
          clear HK K
          try simp only [Act.put, lzD, lzE, lzF]
          refine bO 11 (by kernel_rfl) rfl ?_
          intro K HK
          try simp only [lzA, lzB, lzC]
          go_simp
          refine HK.out _ _ ⟨fun _ => HS.out _ G10, ?_⟩
          clear HK K
          try simp only [Act.put, lzA, lzB, lzC, lzD, lzE, lzF]
          refine bO 12 (by kernel_rfl) rfl ?_
          intro K HK
          refine wanted_go rfl ?_
          try simp only [lzA, lzB, lzC]
          refine wp_store_cell (.tmp 99) (.tmp 98) (v := .slice a10 (h.log.length + 1) c10) (new := #[.slice a10 (h.log.length + 1) c10, .int .i64 h.boot, .int .i64 h.next, .slice ao so.length co]) rfl rfl (by rfl) (by rfl) (row_grow HB16.out.row G10) info_rcs (by simp) (by rfl) (by rfl) ?_
          intro w17 r17 g17
          have HBL := Lib.hid (QBox.setLog (HB16.out.later G10) [⟨5, q.deed, q.parts⟩] g17 r17 (by
           have h9 := HB16.out.newSl (by decide) (fc_in (HC.out.trans G1.out.sub)) HO10.out
           simpa using h9))
          have RO17 := Lib.hid (row_by (row_grow RO16.out G10) g17 (by intro e; have := Option.some.inj e; have := HBB.out; have := HBR.out.size; omega))
          clear r17 g17
          refine HK.out _ _ ⟨fun h => absurd rfl h, ?_⟩
          clear HK K
          try simp only [Act.put]
          refine but_done (by kernel_rfl) ?_
          have HAS := Lib.hid (fun (W : World) (hW : Grow w W) => ref_asks (v := .agg #[.int .i64 q.deed, .slice ap2 q.parts.length cp2, .bool true, .slice none 0 0]) (o := ⟨q.deed, q.parts, true, []⟩) W ⟨_, rfl, _, _, rfl, HEL.out.1, HEL.out.2.1.mono (HC.out.trans hW.sub), Sl.nil _ _⟩ (by show q.parts.length * 24 ≤ _; have := HPL.out; omega))
          obtain ⟨e0, e1, e2, e3⟩ := cells4 RO17.out
          have zO : BO < w17.heap.size := (Array.getElem?_eq_some_iff.1 RO17.out).1
          go_wp2_with fail
          refine (HAS.out _ HBL.out.grow).mono ?_
          rintro e18 w18 ⟨v18, rfl, ho18, hb18⟩
          obtain ⟨a18, c18, rfl⟩ := ho18.form
          have RO18 := Lib.hid (row_grow RO17.out hb18)
          have HB18 := Lib.hid ((HBL.out.later hb18).setSays (HBL.out.newSl (by decide) HBL.out.frSub ho18))
          clear ho18 hb18 e0 e1 e2 e3 zO
          obtain ⟨e0, e1, e2, e3⟩ := cells4 RO18.out
          have zO : BO < w18.heap.size := (Array.getElem?_eq_some_iff.1 RO18.out).1
          have RA9 := Lib.hid ((HB18.out.old 0 (by omega)).trans R1.out)
          have RB9 := Lib.hid ((HB18.out.old 1 (by omega)).trans R2.out)
          obtain ⟨y0, y1, y2, y3⟩ := cells4 RA9.out
          obtain ⟨d0, d1, d2, d3⟩ := cells4 RB9.out
          obtain ⟨x0, x1, x2, x3⟩ := cells4 HB18.out.row
          have zz := HB18.out.size
          have zA : w.heap.size < w18.heap.size := by omega
          have zB : w.heap.size + 1 < w18.heap.size := by omega
          have zX : w.heap.size + 3 < w18.heap.size := by omega
          go_wp2_with (first | (at_builtin; refine wpList_appc (c := fc c wz w18 [(Value.slice ao so.length co).ownBlock]) (base := w.heap.size + 4) (l := so) (m := [⟨q.deed, q.parts, true, []⟩]) ei_opn rfl one_Topn (by decide) rfl (.tmp 152) (.tmp 154) rfl rfl ?own rfl (Src.of_new (T := Ty.opn) (x := ⟨q.deed, q.parts, true, []⟩) (cs := #[.int .i64 q.deed, .slice ap2 q.parts.length cp2, .bool true, .slice none 0 0]) ?d0 _ _ ?d1) ?d2 ?d3 ?_))
          case own => exact OwnC.grow HB18.out.opn ((Grow.refl _).alloc _)
          case d0 => exact ⟨_, _, rfl, HEL.out.1, HEL.out.2.1.mono (fc_in (HC.out.trans G1.out.sub)), Sl.nil _ _⟩
          case d1 => first | rfl | simp
          case d2 => have := HSL.out; simp; omega
          case d3 => have := HB18.out.size; simp; omega
          intro a9 c9 w9 ho9 hg9 hb9
          have R9 := Lib.hid (row_by (row_grow HB18.out.row ((Grow.refl _).alloc (.cells #[.int .i64 q.deed, .slice ap2 q.parts.length cp2, .bool true, .slice none 0 0] 136))) hg9 (by intro e; have := (HB18.out.opn.lt _ e.symm).1; omega))
          have HO9 := Lib.hid ho9
          have HG9 := Lib.hid hg9
          have HB9 := Lib.hid hb9
          clear ho9 hg9 hb9
          go_wp2_with (first | (refine wpList_store_cell rfl (.tmp 156) (.tmp 155) (v := .slice a9 (so.length + 1) c9) (new := #[.slice a10 (h.log.length + 1) c10, .int .i64 h.boot, .int .i64 h.next, .slice a9 (so.length + 1) c9]) rfl rfl (by rfl) (by rfl) R9.out info_opns (by simp) (by rfl) (by rfl) ?_))
          intro w10 r10 g10
          have HBN := Lib.hid (QBox.app HB18.out ⟨q.deed, q.parts, true, []⟩ ((Grow.refl _).alloc (.cells #[.int .i64 q.deed, .slice ap2 q.parts.length cp2, .bool true, .slice none 0 0] 136)) HG9.out (HB9.out.imp_right fun ⟨g, e, hge⟩ => ⟨g, e, by simpa using hge⟩) HO9.out g10 r10)
          clear r10 g10
          go_wp2
          go_roundw
          case rel => exact ⟨k + 1, _, _, by omega, by go_num, by rw [HNX.out, HST.out], by rw [HNX.out, HST.out]; exact HBN.out⟩
          case measure => simp [intOf]; omega
         ·intro K HK
          try simp only [lzA, lzB, lzC]
          go_simp
          refine HK.out _ _ ⟨fun _ => HS.out _ ((GD.alloc _).alloc _), ?_⟩
          clear HK K
          try simp only [Act.put, lzA, lzB, lzC, lzD, lzE, lzF]
          refine bO 3 (by kernel_rfl) rfl ?_
          intro K HK
          refine wanted_go rfl ?_
          try simp only [lzA, lzB, lzC]
          refine wp_appc (l := []) (m := h.log) (v := .slice (some ⟨wd.heap.size, 0, none⟩) 0 0) ei_rc rfl one_Trc (by decide) (.tmp 88) (.tmp 90) rfl rfl (((OwnC.made0 Ty.rc c _ w16.heap.size _ (by have := ZD.out; (try simp); omega) (by simp))).grow ((Grow.refl _).alloc _)) rfl (HLSR.out _ ((GD.alloc _).alloc _)) (by have := HLL.out; simp; omega) ((GD.alloc _).alloc _).size ?_
          intro a3 c3 q3 ho3 hg3 hb3
          try simp only [List.length_nil, Nat.zero_add, List.nil_append] at ho3
          try simp only [List.length_nil, Nat.zero_add] at hb3
          try simp only [List.length_nil, Nat.zero_add]
          have G3 := grow_by (w0 := w16) ((GD.alloc _).alloc _) hg3 (own_at (by have := ZD.out; (try simp); omega))
          have B3 := Lib.hid (own_new (B := w16.heap.size) ((GD.alloc _).alloc _).size hb3 (own_at (by have := ZD.out; (try simp); omega)))
          have HO3 := Lib.hid ho3
          have HG3 := Lib.hid hg3
          clear ho3 hg3 hb3
          refine HK.out _ _ ⟨fun _ => HS.out _ G3, ?_⟩
          clear HK K
          try simp only [Act.put, lzD, lzE, lzF]
          refine bO 10 (by kernel_rfl) rfl ?_
          intro K HK
          refine wanted_go rfl ?_
          try simp only [lzA, lzB, lzC]
          refine wp_appc (l := h.log) (m := [⟨5, q.deed, q.parts⟩]) (v := .slice a3 (h.log.length) c3) ei_rc rfl one_Trc (by decide) (.tmp 91) (.tmp 97) rfl rfl (HO3.out) rfl (((Src.of_new (T := Ty.rc) (x := ⟨5, q.deed, q.parts⟩) (c := c) (cs := #[.int .i64 5, .int .i64 q.deed, .slice ap2 q.parts.length cp2]) (show Ty.rc.R c _ (⟨5, q.deed, q.parts⟩ : Rc) from ⟨_, rfl, (show I64 5 from by unfold I64; decide), HEL.out.1, HEL.out.2.1⟩) _ _ (by simp))).kept HG3.out (by simp [Value.ownBlock])) (by have := HLL.out; simp; omega) G3.size ?_
          intro a10 c10 q10 ho10 hg10 hb10
          try simp only [List.length_nil, List.length_cons, Nat.zero_add] at ho10
          try simp only [List.length_nil, List.length_cons, Nat.zero_add] at hb10
          try simp only [List.length_nil, List.length_cons, Nat.zero_add]
          have G10 := grow_by (w0 := w16) G3 hg10 B3.out
          have B10 := Lib.hid (own_new (B := w16.heap.size) G3.size hb10 B3.out)
          have HO10 := Lib.hid ho10
          have HG10 := Lib.hid hg10
          clear ho10 hg10 hb10
          refine HK.out _ _ ⟨fun _ => HS.out _ G10, ?_⟩
          clear HK K
          try simp only [Act.put, lzD, lzE, lzF]
          refine bO 11 (by kernel_rfl) rfl ?_
          intro K HK
          try simp only [lzA, lzB, lzC]
          go_simp
          refine HK.out _ _ ⟨fun _ => HS.out _ G10, ?_⟩
          clear HK K
          try simp only [Act.put, lzA, lzB, lzC, lzD, lzE, lzF]
          refine bO 12 (by kernel_rfl) rfl ?_
          intro K HK
          refine wanted_go rfl ?_
          try simp only [lzA, lzB, lzC]
          refine wp_store_cell (.tmp 99) (.tmp 98) (v := .slice a10 (h.log.length + 1) c10) (new := #[.slice a10 (h.log.length + 1) c10, .int .i64 h.boot, .int .i64 h.next, .slice ao so.length co]) rfl rfl (by rfl) (by rfl) (row_grow HB16.out.row G10) info_rcs (by simp) (by rfl) (by rfl) ?_
          intro w17 r17 g17
          have HBL := Lib.hid (QBox.setLog (HB16.out.later G10) [⟨5, q.deed, q.parts⟩] g17 r17 (by
           have h9 := HB16.out.newSl (by decide) (fc_in (HC.out.trans G1.out.sub)) HO10.out
           simpa using h9))
          have RO17 := Lib.hid (row_by (row_grow RO16.out G10) g17 (by intro e; have := Option.some.inj e; have := HBB.out; have := HBR.out.size; omega))
          clear r17 g17
          refine HK.out _ _ ⟨fun h => absurd rfl h, ?_⟩
          clear HK K
          try simp only [Act.put]
          refine but_done (by kernel_rfl) ?_
          have HAS := Lib.hid (fun (W : World) (hW : Grow w W) => ref_asks (v := .agg #[.int .i64 q.deed, .slice ap2 q.parts.length cp2, .bool true, .slice none 0 0]) (o := ⟨q.deed, q.parts, true, []⟩) W ⟨_, rfl, _, _, rfl, HEL.out.1, HEL.out.2.1.mono (HC.out.trans hW.sub), Sl.nil _ _⟩ (by show q.parts.length * 24 ≤ _; have := HPL.out; omega))
          obtain ⟨e0, e1, e2, e3⟩ := cells4 RO17.out
          have zO : BO < w17.heap.size := (Array.getElem?_eq_some_iff.1 RO17.out).1
          go_wp2_with fail
          refine (HAS.out _ HBL.out.grow).mono ?_
          rintro e18 w18 ⟨v18, rfl, ho18, hb18⟩
          obtain ⟨a18, c18, rfl⟩ := ho18.form
          have RO18 := Lib.hid (row_grow RO17.out hb18)
          have HB18 := Lib.hid ((HBL.out.later hb18).setSays (HBL.out.newSl (by decide) HBL.out.frSub ho18))
          clear ho18 hb18 e0 e1 e2 e3 zO
          obtain ⟨e0, e1, e2, e3⟩ := cells4 RO18.out
          have zO : BO < w18.heap.size := (Array.getElem?_eq_some_iff.1 RO18.out).1
          have RA9 := Lib.hid ((HB18.out.old 0 (by omega)).trans R1.out)
          have RB9 := Lib.hid ((HB18.out.old 1 (by omega)).trans R2.out)
          obtain ⟨y0, y1, y2, y3⟩ := cells4 RA9.out
          obtain ⟨d0, d1, d2, d3⟩ := cells4 RB9.out
          obtain ⟨x0, x1, x2, x3⟩ := cells4 HB18.out.row
          have zz := HB18.out.size
          have zA : w.heap.size < w18.heap.size := by omega
          have zB : w.heap.size + 1 < w18.heap.size := by omega
          have zX : w.heap.size + 3 < w18.heap.size := by omega
          go_wp2_with (first | (at_builtin; refine wpList_appc (c := fc c wz w18 [(Value.slice ao so.length co).ownBlock]) (base := w.heap.size + 4) (l := so) (m := [⟨q.deed, q.parts, true, []⟩]) ei_opn rfl one_Topn (by decide) rfl (.tmp 152) (.tmp 154) rfl rfl ?own rfl (Src.of_new (T := Ty.opn) (x := ⟨q.deed, q.parts, true, []⟩) (cs := #[.int .i64 q.deed, .slice ap2 q.parts.length cp2, .bool true, .slice none 0 0]) ?d0 _ _ ?d1) ?d2 ?d3 ?_))
          case own => exact OwnC.grow HB18.out.opn ((Grow.refl _).alloc _)
          case d0 => exact ⟨_, _, rfl, HEL.out.1, HEL.out.2.1.mono (fc_in (HC.out.trans G1.out.sub)), Sl.nil _ _⟩
          case d1 => first | rfl | simp
          case d2 => have := HSL.out; simp; omega
          case d3 => have := HB18.out.size; simp; omega
          intro a9 c9 w9 ho9 hg9 hb9
          have R9 := Lib.hid (row_by (row_grow HB18.out.row ((Grow.refl _).alloc (.cells #[.int .i64 q.deed, .slice ap2 q.parts.length cp2, .bool true, .slice none 0 0] 136))) hg9 (by intro e; have := (HB18.out.opn.lt _ e.symm).1; omega))
          have HO9 := Lib.hid ho9
          have HG9 := Lib.hid hg9
          have HB9 := Lib.hid hb9
          clear ho9 hg9 hb9
          go_wp2_with (first | (refine wpList_store_cell rfl (.tmp 156) (.tmp 155) (v := .slice a9 (so.length + 1) c9) (new := #[.slice a10 (h.log.length + 1) c10, .int .i64 h.boot, .int .i64 h.next, .slice a9 (so.length + 1) c9]) rfl rfl (by rfl) (by rfl) R9.out info_opns (by simp) (by rfl) (by rfl) ?_))
          intro w10 r10 g10
          have HBN := Lib.hid (QBox.app HB18.out ⟨q.deed, q.parts, true, []⟩ ((Grow.refl _).alloc (.cells #[.int .i64 q.deed, .slice ap2 q.parts.length cp2, .bool true, .slice none 0 0] 136)) HG9.out (HB9.out.imp_right fun ⟨g, e, hge⟩ => ⟨g, e, by simpa using hge⟩) HO9.out g10 r10)
          clear r10 g10
          go_wp2
          go_roundw
          case rel => exact ⟨k + 1, _, _, by omega, by go_num, by rw [HNX.out, HST.out], by rw [HNX.out, HST.out]; exact HBN.out⟩
          case measure => simp [intOf]; omega
        ·intro K HK
         try simp only [lzA, lzB, lzC]
         go_simp
         refine HK.out _ _ ⟨fun _ => HS.out _ (GD.alloc _), ?_⟩
         clear HK K
         try simp only [Act.put, lzA, lzB, lzC, lzD, lzE, lzF]
         refine bO 0 (by kernel_rfl) rfl ?_
         intro K HK
         try simp only [lzA, lzC]
         go_simp
         refine HK.out _ _ ⟨fun _ => HS.out _ ((GD.alloc _).alloc _), ?_⟩
         clear HK K
         try simp only [Act.put, lzA, lzB, lzC, lzD, lzE, lzF]
         refine bO 3 (by kernel_rfl) rfl ?_
         intro K HK
         refine wanted_go rfl ?_
         try simp only [lzA, lzB, lzC]
         refine wp_appc (l := []) (m := h.log) (v := .slice (some ⟨wd.heap.size + 1, 0, none⟩) 0 0) ei_rc rfl one_Trc (by decide) (.tmp 88) (.tmp 90) rfl rfl ((OwnC.made0 Ty.rc c _ w16.heap.size _ (by have := ZD.out; (try simp); omega) (by simp))) rfl (HLSR.out _ ((GD.alloc _).alloc _)) (by have := HLL.out; simp; omega) ((GD.alloc _).alloc _).size ?_
         intro a3 c3 q3 ho3 hg3 hb3
         try simp only [List.length_nil, Nat.zero_add, List.nil_append] at ho3
         try simp only [List.length_nil, Nat.zero_add] at hb3
         try simp only [List.length_nil, Nat.zero_add]
         have G3 := grow_by (w0 := w16) ((GD.alloc _).alloc _) hg3 (own_at (by have := ZD.out; (try simp); omega))
         have B3 := Lib.hid (own_new (B := w16.heap.size) ((GD.alloc _).alloc _).size hb3 (own_at (by have := ZD.out; (try simp); omega)))
         have HO3 := Lib.hid ho3
         have HG3 := Lib.hid hg3
         clear ho3 hg3 hb3
         refine HK.out _ _ ⟨fun _ => HS.out _ G3, ?_⟩
         clear HK K
         try simp only [Act.put, lzD, lzE, lzF]
         refine bO 10 (by kernel_rfl) rfl ?_
         intro K HK
         refine wanted_go rfl ?_
         try simp only [lzA, lzB, lzC]
         refine wp_appc (l := h.log) (m := [⟨5, q.deed, q.parts⟩]) (v := .slice a3 (h.log.length) c3) ei_rc rfl one_Trc (by decide) (.tmp 91) (.tmp 97) rfl rfl (HO3.out) rfl ((((Src.of_new (T := Ty.rc) (x := ⟨5, q.deed, q.parts⟩) (c := c) (cs := #[.int .i64 5, .int .i64 q.deed, .slice ap2 q.parts.length cp2]) (show Ty.rc.R c _ (⟨5, q.deed, q.parts⟩ : Rc) from ⟨_, rfl, (show I64 5 from by unfold I64; decide), HEL.out.1, HEL.out.2.1⟩) _ _ (by simp))).grow ((Grow.refl _).alloc _)).kept HG3.out (by simp [Value.ownBlock])) (by have := HLL.out; simp; omega) G3.size ?_
         intro a10 c10 q10 ho10 hg10 hb10
         try simp only [List.length_nil, List.length_cons, Nat.zero_add] at ho10
         try simp only [List.length_nil, List.length_cons, Nat.zero_add] at hb10
         try simp only [List.length_nil, List.length_cons, Nat.zero_add]
         have G10 := grow_by (w0 := w16) G3 hg10 B3.out
         have B10 := Lib.hid (own_new (B := w16.heap.size) G3.size hb10 B3.out)
         have HO10 := Lib.hid ho10
         have HG10 := Lib.hid hg10
         clear ho10 hg10 hb10
         refine HK.out _ _ ⟨fun _ => HS.out _ G10, ?_⟩
         clear HK K
         try simp only [Act.put, lzD, lzE, lzF]
         refine bO 11 (by kernel_rfl) rfl ?_
         intro K HK
         try simp only [lzA, lzB, lzC]
         go_simp
         refine HK.out _ _ ⟨fun _ => HS.out _ G10, ?_⟩
         clear HK K
         try simp only [Act.put, lzA, lzB, lzC, lzD, lzE, lzF]
         refine bO 12 (by kernel_rfl) rfl ?_
         intro K HK
         refine wanted_go rfl ?_
         try simp only [lzA, lzB, lzC]
         refine wp_store_cell (.tmp 99) (.tmp 98) (v := .slice a10 (h.log.length + 1) c10) (new := #[.slice a10 (h.log.length + 1) c10, .int .i64 h.boot, .int .i64 h.next, .slice ao so.length co]) rfl rfl (by rfl) (by rfl) (row_grow HB16.out.row G10) info_rcs (by simp) (by rfl) (by rfl) ?_
         intro w17 r17 g17
         have HBL := Lib.hid (QBox.setLog (HB16.out.later G10) [⟨5, q.deed, q.parts⟩] g17 r17 (by
          have h9 := HB16.out.newSl (by decide) (fc_in (HC.out.trans G1.out.sub)) HO10.out
          simpa using h9))
         have RO17 := Lib.hid (row_by (row_grow RO16.out G10) g17 (by intro e; have := Option.some.inj e; have := HBB.out; have := HBR.out.size; omega))
         clear r17 g17
         refine HK.out _ _ ⟨fun h => absurd rfl h, ?_⟩
         clear HK K
         try simp only [Act.put]
         refine but_done (by kernel_rfl) ?_
         have HAS := Lib.hid (fun (W : World) (hW : Grow w W) => ref_asks (v := .agg #[.int .i64 q.deed, .slice ap2 q.parts.length cp2, .bool true, .slice none 0 0]) (o := ⟨q.deed, q.parts, true, []⟩) W ⟨_, rfl, _, _, rfl, HEL.out.1, HEL.out.2.1.mono (HC.out.trans hW.sub), Sl.nil _ _⟩ (by show q.parts.length * 24 ≤ _; have := HPL.out; omega))
         obtain ⟨e0, e1, e2, e3⟩ := cells4 RO17.out
         have zO : BO < w17.heap.size := (Array.getElem?_eq_some_iff.1 RO17.out).1
         go_wp2_with fail
         refine (HAS.out _ HBL.out.grow).mono ?_
         rintro e18 w18 ⟨v18, rfl, ho18, hb18⟩
         obtain ⟨a18, c18, rfl⟩ := ho18.form
         have RO18 := Lib.hid (row_grow RO17.out hb18)
         have HB18 := Lib.hid ((HBL.out.later hb18).setSays (HBL.out.newSl (by decide) HBL.out.frSub ho18))
         clear ho18 hb18 e0 e1 e2 e3 zO
         obtain ⟨e0, e1, e2, e3⟩ := cells4 RO18.out
         have zO : BO < w18.heap.size := (Array.getElem?_eq_some_iff.1 RO18.out).1
         have RA9 := Lib.hid ((HB18.out.old 0 (by omega)).trans R1.out)
         have RB9 := Lib.hid ((HB18.out.old 1 (by omega)).trans R2.out)
         obtain ⟨y0, y1, y2, y3⟩ := cells4 RA9.out
         obtain ⟨d0, d1, d2, d3⟩ := cells4 RB9.out
         obtain ⟨x0, x1, x2, x3⟩ := cells4 HB18.out.row
         have zz := HB18.out.size
         have zA : w.heap.size < w18.heap.size := by omega
         have zB : w.heap.size + 1 < w18.heap.size := by omega
         have zX : w.heap.size + 3 < w18.heap.size := by omega
         go_wp2_with (first | (at_builtin; refine wpList_appc (c := fc c wz w18 [(Value.slice ao so.length co).ownBlock]) (base := w.heap.size + 4) (l := so) (m := [⟨q.deed, q.parts, true, []⟩]) ei_opn rfl one_Topn (by decide) rfl (.tmp 152) (.tmp 154) rfl rfl ?own rfl (Src.of_new (T := Ty.opn) (x := ⟨q.deed, q.parts, true, []⟩) (cs := #[.int .i64 q.deed, .slice ap2 q.parts.length cp2, .bool true, .slice none 0 0]) ?d0 _ _ ?d1) ?d2 ?d3 ?_))
         case own => exact OwnC.grow HB18.out.opn ((Grow.refl _).alloc _)
         case d0 => exact ⟨_, _, rfl, HEL.out.1, HEL.out.2.1.mono (fc_in (HC.out.trans G1.out.sub)), Sl.nil _ _⟩
         case d1 => first | rfl | simp
         case d2 => have := HSL.out; simp; omega
         case d3 => have := HB18.out.size; simp; omega
         intro a9 c9 w9 ho9 hg9 hb9
         have R9 := Lib.hid (row_by (row_grow HB18.out.row ((Grow.refl _).alloc (.cells #[.int .i64 q.deed, .slice ap2 q.parts.length cp2, .bool true, .slice none 0 0] 136))) hg9 (by intro e; have := (HB18.out.opn.lt _ e.symm).1; omega))
         have HO9 := Lib.hid ho9
         have HG9 := Lib.hid hg9
         have HB9 := Lib.hid hb9
         clear ho9 hg9 hb9
         go_wp2_with (first | (refine wpList_store_cell rfl (.tmp 156) (.tmp 155) (v := .slice a9 (so.length + 1) c9) (new := #[.slice a10 (h.log.length + 1) c10, .int .i64 h.boot, .int .i64 h.next, .slice a9 (so.length + 1) c9]) rfl rfl (by rfl) (by rfl) R9.out info_opns (by simp) (by rfl) (by rfl) ?_))
         intro w10 r10 g10
         have HBN := Lib.hid (QBox.app HB18.out ⟨q.deed, q.parts, true, []⟩ ((Grow.refl _).alloc (.cells #[.int .i64 q.deed, .slice ap2 q.parts.length cp2, .bool true, .slice none 0 0] 136)) HG9.out (HB9.out.imp_right fun ⟨g, e, hge⟩ => ⟨g, e, by simpa using hge⟩) HO9.out g10 r10)
         clear r10 g10
         go_wp2
         go_roundw
         case rel => exact ⟨k + 1, _, _, by omega, by go_num, by rw [HNX.out, HST.out], by rw [HNX.out, HST.out]; exact HBN.out⟩
         case measure => simp [intOf]; omega
       | false =>
        have HLF := Lib.hid HTA.out.symm
        have HST : Hid (hgoStep m ⟨so, [], [], false⟩ q = ⟨so ++ [⟨q.deed, q.parts, false, q.heard ++ [m.house]⟩], [], [], true⟩) := Lib.hid (by rw [HAT.out, hearO_yes HA.out HLF.out]; try simp)
        obtain ⟨e0, e1, e2, e3⟩ := cells4 RO14.out
        have zO : BO < w14.heap.size := (Array.getElem?_eq_some_iff.1 RO14.out).1
        have RA9 := Lib.hid ((HB14.out.old 0 (by omega)).trans R1.out)
        have RB9 := Lib.hid ((HB14.out.old 1 (by omega)).trans R2.out)
        obtain ⟨y0, y1, y2, y3⟩ := cells4 RA9.out
        obtain ⟨d0, d1, d2, d3⟩ := cells4 RB9.out
        obtain ⟨x0, x1, x2, x3⟩ := cells4 HB14.out.row
        have zz := HB14.out.size
        have zA : w.heap.size < w14.heap.size := by omega
        have zB : w.heap.size + 1 < w14.heap.size := by omega
        have zX : w.heap.size + 3 < w14.heap.size := by omega
        have HB14t : Hid (QBox c w wz w14 h ⟨so, [], [], true⟩ _ _ _) := Lib.hid (HB14.out.setSays HB14.out.says)
        go_wp2_with (first | (at_builtin; refine wpList_appc (c := fc c wz w14 [(Value.slice ao so.length co).ownBlock]) (base := w.heap.size + 4) (l := so) (m := [⟨q.deed, q.parts, false, q.heard ++ [m.house]⟩]) ei_opn rfl one_Topn (by decide) rfl (.tmp 152) (.tmp 154) rfl rfl ?own rfl (Src.of_new (T := Ty.opn) (x := ⟨q.deed, q.parts, false, q.heard ++ [m.house]⟩) (cs := #[.int .i64 q.deed, .slice ap2 q.parts.length cp2, .bool false, .slice a12 (q.heard.length + 1) c12]) ?d0 _ _ ?d1) ?d2 ?d3 ?_))
        case own => exact OwnC.grow HB14t.out.opn ((Grow.refl _).alloc _)
        case d0 => exact ⟨_, _, rfl, HEL.out.1, HEL.out.2.1.mono (fc_in (HC.out.trans G1.out.sub)), HB11.out.newSl (by decide) (fc_in (HC.out.trans G1.out.sub)) HO14.out⟩
        case d1 => first | rfl | simp
        case d2 => have := HSL.out; simp; omega
        case d3 => have := HB14t.out.size; simp; omega
        intro a9 c9 w9 ho9 hg9 hb9
        have R9 := Lib.hid (row_by (row_grow HB14t.out.row ((Grow.refl _).alloc (.cells #[.int .i64 q.deed, .slice ap2 q.parts.length cp2, .bool false, .slice a12 (q.heard.length + 1) c12] 136))) hg9 (by intro e; have := (HB14t.out.opn.lt _ e.symm).1; omega))
        have HO9 := Lib.hid ho9
        have HG9 := Lib.hid hg9
        have HB9 := Lib.hid hb9
        clear ho9 hg9 hb9
        go_wp2_with (first | (refine wpList_store_cell rfl (.tmp 156) (.tmp 155) (v := .slice a9 (so.length + 1) c9) (new := #[.slice alx nl clx, .int .i64 h.boot, .int .i64 h.next, .slice a9 (so.length + 1) c9]) rfl rfl (by rfl) (by rfl) R9.out info_opns (by simp) (by rfl) (by rfl) ?_))
        intro w10 r10 g10
        have HBN := Lib.hid (QBox.app HB14t.out ⟨q.deed, q.parts, false, q.heard ++ [m.house]⟩ ((Grow.refl _).alloc (.cells #[.int .i64 q.deed, .slice ap2 q.parts.length cp2, .bool false, .slice a12 (q.heard.length + 1) c12] 136)) HG9.out (HB9.out.imp_right fun ⟨g, e, hge⟩ => ⟨g, e, by simpa using hge⟩) HO9.out g10 r10)
        clear r10 g10
        go_wp2
        go_roundw
        case rel => exact ⟨k + 1, _, _, by omega, by go_num, by rw [HNX.out, HST.out], by rw [HNX.out, HST.out]; exact HBN.out⟩
        case measure => simp [intOf]; omega
     | false =>
      have HA := Lib.hid (of_decide_eq_false HT71.out.symm)
      obtain ⟨t102, ht102⟩ : ∃ b : Bool, b = decide (m.kind = 3 ∧ q.dec = false) := ⟨_, rfl⟩
      have HT102 := Lib.hid ht102
      clear ht102
      go_upto_region 19 with fail
      obtain ⟨e0, e1, e2, e3⟩ := cells4 RO13.out
      have zO : BO < w13.heap.size := (Array.getElem?_eq_some_iff.1 RO13.out).1
      have RA9 := Lib.hid ((HB13.out.old 0 (by omega)).trans R1.out)
      have RB9 := Lib.hid ((HB13.out.old 1 (by omega)).trans R2.out)
      obtain ⟨y0, y1, y2, y3⟩ := cells4 RA9.out
      obtain ⟨d0, d1, d2, d3⟩ := cells4 RB9.out
      obtain ⟨x0, x1, x2, x3⟩ := cells4 HB13.out.row
      have zz := HB13.out.size
      have zA : w.heap.size < w13.heap.size := by omega
      have zB : w.heap.size + 1 < w13.heap.size := by omega
      have zX : w.heap.size + 3 < w13.heap.size := by omega
      go_cut [102, 158, 159, 160, 161, 162, 163, 164, 165, 166, 167, 168, 169, 170, 171, 172] from 103 (fun s102 s158 s159 s160 s161 s162 s163 s164 s165 s166 s167 s168 s169 s170 s171 s172 wc => s102 = .bool t102 ∧ (s158 = undef ∧ s159 = undef ∧ s160 = undef ∧ s161 = undef ∧ s162 = undef ∧ s163 = undef ∧ s164 = undef ∧ s165 = undef ∧ s166 = undef ∧ s167 = undef ∧ s168 = undef ∧ s169 = undef ∧ s170 = undef ∧ s171 = undef ∧ s172 = undef) ∧ w13 = wc)
      case first =>
       by_cases hk : m.kind = 3
       ·have hkb : (m.kind == 3) = true := by simp [hk]
        have HK := Lib.hid hk
        clear hk
        obtain ⟨db, hdq⟩ : ∃ b, b = q.dec := ⟨_, rfl⟩
        rw [← hdq] at e2
        have HDC := Lib.hid hdq
        clear hdq
        cases db with
        | true =>
         go_wp2
         go_meet
         case rel => exact ⟨by have h1 := HK.out; have h2 := HDC.out.symm; rw [HT102.out]; (try rw [HTN.out]); simp [h1, h2], ⟨rfl, rfl, rfl, rfl, rfl, rfl, rfl, rfl, rfl, rfl, rfl, rfl, rfl, rfl, rfl⟩, rfl⟩
        | false =>
         go_wp2
         go_meet
         case rel => exact ⟨by have h1 := HK.out; have h2 := HDC.out.symm; rw [HT102.out]; (try rw [HTN.out]); simp [h1, h2], ⟨rfl, rfl, rfl, rfl, rfl, rfl, rfl, rfl, rfl, rfl, rfl, rfl, rfl, rfl, rfl⟩, rfl⟩
       ·have hkb : (m.kind == 3) = false := by simp [hk]
        have HK := Lib.hid hk
        clear hk
        go_wp2
        go_meet
        case rel => exact ⟨by have h1 := HK.out; rw [HT102.out]; simp [h1], ⟨rfl, rfl, rfl, rfl, rfl, rfl, rfl, rfl, rfl, rfl, rfl, rfl, rfl, rfl, rfl⟩, rfl⟩
      case rest =>
      obtain ⟨rfl, ⟨rfl, rfl, rfl, rfl, rfl, rfl, rfl, rfl, rfl, rfl, rfl, rfl, rfl, rfl, rfl⟩, rfl⟩ := hcut
      clear e0 e1 e2 e3 zO y0 y1 y2 y3 d0 d1 d2 d3 x0 x1 x2 x3 zz zA zB zX RA9 RB9
      cases t102 with
      | true =>
       skip
       have HBH := Lib.hid (of_decide_eq_true HT102.out.symm)
       have HST : Hid (hgoStep m ⟨so, [], [], false⟩ q = ⟨so, [], abortsE q.deed q.parts, true⟩) := Lib.hid (by rw [HAT.out, hearO_no HA.out HBH.out]; try simp)
       have HAB := Lib.hid (fun (W : World) (hW : Grow w W) => ref_aborts (v := .agg #[.int .i64 q.deed, .slice ap2 q.parts.length cp2, .bool q.dec, .slice ah q.heard.length ch]) (o := q) W ⟨_, rfl, _, _, rfl, HEL.out.1, HEL.out.2.1.mono (HC.out.trans hW.sub), HEL.out.2.2.mono (HC.out.trans hW.sub)⟩ (by have := HPL.out; omega))
       obtain ⟨e0, e1, e2, e3⟩ := cells4 RO13.out
       have zO : BO < w13.heap.size := (Array.getElem?_eq_some_iff.1 RO13.out).1
       go_wp2_with fail
       refine (HAB.out _ HB13.out.grow).mono ?_
       rintro e18 w18 ⟨v18, rfl, ho18, hb18⟩
       obtain ⟨a18, c18, rfl⟩ := ho18.form
       have HBN : Hid (QBox c w wz w18 h ⟨so, [], abortsE q.deed q.parts, true⟩ _ _ _) := Lib.hid ((HB13.out.later hb18).setSays (HB13.out.newSl (by decide) (fun _ _ e9 => by cases e9) ho18))
       clear ho18 hb18 e0 e1 e2 e3 zO
       go_wp2
       go_roundw
       case rel => exact ⟨k + 1, _, _, by omega, by go_num, by rw [HNX.out, HST.out], by rw [HNX.out, HST.out]; exact HBN.out⟩
       case measure => simp [intOf]; omega
      | false =>
       have HB := Lib.hid (of_decide_eq_false HT102.out.symm)
       obtain ⟨t113, ht113⟩ : ∃ b : Bool, b = decide (m.kind = 6 ∧ q.dec = true ∧ isNew q m) := ⟨_, rfl⟩
       have HT113 := Lib.hid ht113
       clear ht113
       go_upto_region 21 with fail
       obtain ⟨e0, e1, e2, e3⟩ := cells4 RO13.out
       have zO : BO < w13.heap.size := (Array.getElem?_eq_some_iff.1 RO13.out).1
       have RA9 := Lib.hid ((HB13.out.old 0 (by omega)).trans R1.out)
       have RB9 := Lib.hid ((HB13.out.old 1 (by omega)).trans R2.out)
       obtain ⟨y0, y1, y2, y3⟩ := cells4 RA9.out
       obtain ⟨d0, d1, d2, d3⟩ := cells4 RB9.out
       obtain ⟨x0, x1, x2, x3⟩ := cells4 HB13.out.row
       have zz := HB13.out.size
       have zA : w.heap.size < w13.heap.size := by omega
       have zB : w.heap.size + 1 < w13.heap.size := by omega
       have zX : w.heap.size + 3 < w13.heap.size := by omega
       go_cut [113, 158, 159, 160, 161, 162, 163, 164, 165, 166, 167, 168, 169, 170, 171, 172] from 114 (fun s113 s158 s159 s160 s161 s162 s163 s164 s165 s166 s167 s168 s169 s170 s171 s172 wc => s113 = .bool t113 ∧ (s158 = undef ∧ s159 = undef ∧ s160 = undef ∧ s161 = undef ∧ s162 = undef ∧ s163 = undef ∧ s164 = undef ∧ s165 = undef ∧ s166 = undef ∧ s167 = undef ∧ s168 = undef ∧ s169 = undef ∧ s170 = undef ∧ s171 = undef ∧ s172 = undef) ∧ w13 = wc)
       case first =>
        by_cases hk : m.kind = 6
        ·have hkb : (m.kind == 6) = true := by simp [hk]
         have HK := Lib.hid hk
         clear hk
         obtain ⟨db, hdq⟩ : ∃ b, b = q.dec := ⟨_, rfl⟩
         rw [← hdq] at e2
         have HDC := Lib.hid hdq
         clear hdq
         cases db with
         | true =>
          go_wp2
          go_meet
          case rel => exact ⟨by have h1 := HK.out; have h2 := HDC.out.symm; rw [HT113.out]; (try rw [HTN.out]); simp [h1, h2], ⟨rfl, rfl, rfl, rfl, rfl, rfl, rfl, rfl, rfl, rfl, rfl, rfl, rfl, rfl, rfl⟩, rfl⟩
         | false =>
          go_wp2
          go_meet
          case rel => exact ⟨by have h1 := HK.out; have h2 := HDC.out.symm; rw [HT113.out]; (try rw [HTN.out]); simp [h1, h2], ⟨rfl, rfl, rfl, rfl, rfl, rfl, rfl, rfl, rfl, rfl, rfl, rfl, rfl, rfl, rfl⟩, rfl⟩
        ·have hkb : (m.kind == 6) = false := by simp [hk]
         have HK := Lib.hid hk
         clear hk
         go_wp2
         go_meet
         case rel => exact ⟨by have h1 := HK.out; rw [HT113.out]; simp [h1], ⟨rfl, rfl, rfl, rfl, rfl, rfl, rfl, rfl, rfl, rfl, rfl, rfl, rfl, rfl, rfl⟩, rfl⟩
       case rest =>
       obtain ⟨rfl, ⟨rfl, rfl, rfl, rfl, rfl, rfl, rfl, rfl, rfl, rfl, rfl, rfl, rfl, rfl, rfl⟩, rfl⟩ := hcut
       clear e0 e1 e2 e3 zO y0 y1 y2 y3 d0 d1 d2 d3 x0 x1 x2 x3 zz zA zB zX RA9 RB9
       cases t113 with
       | true =>
        skip
        as_aux_lemma =>
         have HCC := Lib.hid (of_decide_eq_true HT113.out.symm)
         have hdc := HCC.out.2.1
         rw [hdc] at RO13
         clear hdc
         go_wp2_with (first | (refine wpList_store_cell rfl (.tmp 125) (.tmp 124) (v := .slice a12 (q.heard.length + 1) c12) (new := #[.int .i64 q.deed, .slice ap2 q.parts.length cp2, .bool true, .slice a12 (q.heard.length + 1) c12]) rfl rfl (by rfl) (by rfl) RO13.out info_ints (by simp) (by rfl) (by rfl) ?_))
         intro w14 r14 g14
         have RO14 := Lib.hid r14
         have G14 : Hid (Grow wr w14) := Lib.hid ((((GO.out.trans GC_w11.out).trans GC_w12.out).trans GC_w13.out).grown g14 (fun q9 e9 => by have := Option.some.inj e9; have := HBB.out; omega))
         have HB14 := Lib.hid (HBR.out.later G14.out)
         have HO14 := Lib.hid (HO13.out.kept g14 (own_apart HO13.out (by have := (Array.getElem?_eq_some_iff.1 RO11.out).1; omega)))
         clear r14 g14
         cases ta with
         | true =>
          have HLF := Lib.hid HTA.out.symm
          have HST : Hid (hgoStep m ⟨so, [], [], false⟩ q = ⟨so, [⟨6, q.deed, []⟩], [], true⟩) := Lib.hid (by rw [HAT.out, hearO_ackAll HA.out HB.out HCC.out HLF.out]; try simp)
          have HLSR := Lib.hid (fun (W : World) (hW : Grow w14 W) => Src.of_sl_c (T := Ty.rc) (by decide) (HC.out.trans (HB14.out.grow.trans hW).sub) HLG.out)
          have HS : Hid (∀ W, Grow w14 W → W.cell? ⟨w.heap.size, 0, none⟩ = some (.slice al h.log.length cl) ∧ W.cell? ⟨BO, 0, none⟩ = some (.int .i64 q.deed)) := fun W hW => by
           obtain ⟨k0, k1, -, -⟩ := cells4 (row_grow RO14.out hW)
           obtain ⟨j0, -, -, -⟩ := cells4 (row_grow ((HB14.out.old 0 (by omega)).trans R1.out) hW)
           exact ⟨j0, k0⟩
          go_upto_region 24 with fail
          refine but_start (fun w' => w'.cell? ⟨w.heap.size, 0, none⟩ = some (.slice al h.log.length cl) ∧ w'.cell? ⟨BO, 0, none⟩ = some (.int .i64 q.deed)) 10 (by kernel_rfl) ?_
          obtain ⟨wd, hWd⟩ : ∃ x : World, x = w14.drew := ⟨_, rfl⟩
          rw [← hWd]
          have GD : Grow w14 wd := by rw [hWd]; exact (Grow.refl _).drew
          have zD : w14.heap.size = wd.heap.size := by rw [hWd]; rfl
          have ZD := Lib.hid zD
          clear hWd zD
          refine bLm [1, 2, 4, 5, 6] 16 (by kernel_rfl) (fun _ _ _ _ _ h => h) (HS.out _ GD) ?_
          repeat (refine tNm (v := ?_) rfl (by rfl) ?_ ?_; rotate_left; (· (intro w' hSw; (try dsimp only at hSw); obtain ⟨hs0, hs1⟩ := hSw; go_simp <;> with_reducible rfl)); try simp only [Act.put, lzA, lzB, lzC, lzD, lzE, lzF])
          refine tEm ?_
          refine bP 0 7 (by kernel_rfl) rfl rfl ?_ ?_
          ·intro K HK
           try simp only [lzA, lzC]
           go_simp
           refine HK.out _ _ ⟨fun _ => HS.out _ (GD.alloc _), ?_⟩
           clear HK K
           try simp only [Act.put, lzA, lzB, lzC, lzD, lzE, lzF]
           refine bP 3 7 (by kernel_rfl) rfl rfl ?_ ?_
           ·intro K HK
            refine wanted_go rfl ?_
            try simp only [lzA, lzB, lzC]
            refine wp_appc (l := []) (m := h.log) (v := .slice (some ⟨wd.heap.size, 0, none⟩) 0 0) ei_rc rfl one_Trc (by decide) (.tmp 127) (.tmp 129) rfl rfl ((OwnC.made0 Ty.rc c _ w14.heap.size _ (by have := ZD.out; (try simp); omega) (by simp))) rfl (HLSR.out _ (GD.alloc _)) (by have := HLL.out; simp; omega) (GD.alloc _).size ?_
            intro a3 c3 q3 ho3 hg3 hb3
            try simp only [List.length_nil, Nat.zero_add, List.nil_append] at ho3
            try simp only [List.length_nil, Nat.zero_add] at hb3
            try simp only [List.length_nil, Nat.zero_add]
            have G3 := grow_by (w0 := w14) (GD.alloc _) hg3 (own_at (by have := ZD.out; (try simp); omega))
            have B3 := Lib.hid (own_new (B := w14.heap.size) (GD.alloc _).size hb3 (own_at (by have := ZD.out; (try simp); omega)))
            have HO3 := Lib.hid ho3
            have HG3 := Lib.hid hg3
            clear ho3 hg3 hb3
            refine HK.out _ _ ⟨fun _ => HS.out _ G3, ?_⟩
            clear HK K
            try simp only [Act.put, lzD, lzE, lzF]
            refine bO 7 (by kernel_rfl) rfl ?_
            intro K HK
            try simp only [lzA, lzB, lzC]
            go_simp
            refine HK.out _ _ ⟨fun _ => HS.out _ (G3.alloc _), ?_⟩
            clear HK K
            try simp only [Act.put, lzA, lzB, lzC, lzD, lzE, lzF]
            refine bO 8 (by kernel_rfl) rfl ?_
            intro K HK
            refine wanted_go rfl ?_
            try simp only [lzA, lzB, lzC]
            refine wp_appc (l := h.log) (m := [⟨6, q.deed, []⟩]) (v := .slice a3 (h.log.length) c3) ei_rc rfl one_Trc (by decide) (.tmp 130) (.tmp 134) rfl rfl ((HO3.out).grow ((Grow.refl _).alloc _)) rfl ((Src.of_new (T := Ty.rc) (x := ⟨6, q.deed, []⟩) (c := c) (cs := #[.int .i64 6, .int .i64 q.deed, .slice none 0 0]) (show Ty.rc.R c _ (⟨6, q.deed, []⟩ : Rc) from ⟨_, rfl, (show I64 6 from by unfold I64; decide), HEL.out.1, Sl.nil _ _⟩) _ _ (by simp))) (by have := HLL.out; simp; omega) (G3.alloc _).size ?_
            intro a8 c8 q8 ho8 hg8 hb8
            try simp only [List.length_nil, List.length_cons, Nat.zero_add] at ho8
            try simp only [List.length_nil, List.length_cons, Nat.zero_add] at hb8
            try simp only [List.length_nil, List.length_cons, Nat.zero_add]
            have G8 := grow_by (w0 := w14) (G3.alloc _) hg8 B3.out
            have B8 := Lib.hid (own_new (B := w14.heap.size) (G3.alloc _).size hb8 B3.out)
            have HO8 := Lib.hid ho8
            have HG8 := Lib.hid hg8
            clear ho8 hg8 hb8
            refine HK.out _ _ ⟨fun _ => HS.out _ G8, ?_⟩
            clear HK K
            try simp only [Act.put, lzD, lzE, lzF]
            refine bO 9 (by kernel_rfl) rfl ?_
            intro K HK
            try simp only [lzA, lzB, lzC]
            go_simp
            refine HK.out _ _ ⟨fun _ => HS.out _ G8, ?_⟩
            clear HK K
            try simp only [Act.put, lzA, lzB, lzC, lzD, lzE, lzF]
            refine bO 10 (by kernel_rfl) rfl ?_
            intro K HK
            refine wanted_go rfl ?_
            try simp only [lzA, lzB, lzC]
            refine wp_store_cell (.tmp 136) (.tmp 135) (v := .slice a8 (h.log.length + 1) c8) (new := #[.slice a8 (h.log.length + 1) c8, .int .i64 h.boot, .int .i64 h.next, .slice ao so.length co]) rfl rfl (by rfl) (by rfl) (row_grow HB14.out.row G8) info_rcs (by simp) (by rfl) (by rfl) ?_
            intro w17 r17 g17
            have HBL := Lib.hid (QBox.setLog (HB14.out.later G8) [⟨6, q.deed, []⟩] g17 r17 (by
             have h9 := HB14.out.newSl (by decide) (fc_in (HC.out.trans G1.out.sub)) HO8.out
             simpa using h9))
            have RO17 := Lib.hid (row_by (row_grow RO14.out G8) g17 (by intro e; have := Option.some.inj e; have := HBB.out; have := HBR.out.size; omega))
            clear r17 g17
            refine HK.out _ _ ⟨fun h => absurd rfl h, ?_⟩
            clear HK K
            try simp only [Act.put]
            refine but_done (by kernel_rfl) ?_
            have HBN : Hid (QBox c w wz w17 h ⟨so, [⟨6, q.deed, []⟩], [], true⟩ _ _ _) := Lib.hid (HBL.out.setSays HBL.out.says)
            go_wp2
            go_roundw
            case rel => exact ⟨k + 1, _, _, by omega, by go_num, by rw [HNX.out, HST.out], by rw [HNX.out, HST.out]; exact HBN.out⟩
            case measure => simp [intOf]; omega
           ·intro K HK
            try simp only [lzA, lzB, lzC]
            go_simp
            refine HK.out _ _ ⟨fun _ => HS.out _ ((GD.alloc _).alloc _), ?_⟩
            clear HK K
            try simp only [Act.put, lzA, lzB, lzC, lzD, lzE, lzF]
            refine bO 3 (by kernel_rfl) rfl ?_
            intro K HK
            refine wanted_go rfl ?_
            try simp only [lzA, lzB, lzC]
            refine wp_appc (l := []) (m := h.log) (v := .slice (some ⟨wd.heap.size, 0, none⟩) 0 0) ei_rc rfl one_Trc (by decide) (.tmp 127) (.tmp 129) rfl rfl (((OwnC.made0 Ty.rc c _ w14.heap.size _ (by have := ZD.out; (try simp); omega) (by simp))).grow ((Grow.refl _).alloc _)) rfl (HLSR.out _ ((GD.alloc _).alloc _)) (by have := HLL.out; simp; omega) ((GD.alloc _).alloc _).size ?_
            intro a3 c3 q3 ho3 hg3 hb3
            try simp only [List.length_nil, Nat.zero_add, List.nil_append] at ho3
            try simp only [List.length_nil, Nat.zero_add] at hb3
            try simp only [List.length_nil, Nat.zero_add]
            have G3 := grow_by (w0 := w14) ((GD.alloc _).alloc _) hg3 (own_at (by have := ZD.out; (try simp); omega))
            have B3 := Lib.hid (own_new (B := w14.heap.size) ((GD.alloc _).alloc _).size hb3 (own_at (by have := ZD.out; (try simp); omega)))
            have HO3 := Lib.hid ho3
            have HG3 := Lib.hid hg3
            clear ho3 hg3 hb3
            refine HK.out _ _ ⟨fun _ => HS.out _ G3, ?_⟩
            clear HK K
            try simp only [Act.put, lzD, lzE, lzF]
            refine bO 8 (by kernel_rfl) rfl ?_
            intro K HK
            refine wanted_go rfl ?_
            try simp only [lzA, lzB, lzC]
            refine wp_appc (l := h.log) (m := [⟨6, q.deed, []⟩]) (v := .slice a3 (h.log.length) c3) ei_rc rfl one_Trc (by decide) (.tmp 130) (.tmp 134) rfl rfl (HO3.out) rfl (((Src.of_new (T := Ty.rc) (x := ⟨6, q.deed, []⟩) (c := c) (cs := #[.int .i64 6, .int .i64 q.deed, .slice none 0 0]) (show Ty.rc.R c _ (⟨6, q.deed, []⟩ : Rc) from ⟨_, rfl, (show I64 6 from by unfold I64; decide), HEL.out.1, Sl.nil _ _⟩) _ _ (by simp))).kept HG3.out (by simp [Value.ownBlock])) (by have := HLL.out; simp; omega) G3.size ?_
            intro a8 c8 q8 ho8 hg8 hb8
            try simp only [List.length_nil, List.length_cons, Nat.zero_add] at ho8
            try simp only [List.length_nil, List.length_cons, Nat.zero_add] at hb8
            try simp only [List.length_nil, List.length_cons, Nat.zero_add]
            have G8 := grow_by (w0 := w14) G3 hg8 B3.out
            have B8 := Lib.hid (own_new (B := w14.heap.size) G3.size hb8 B3.out)
            have HO8 := Lib.hid ho8
            have HG8 := Lib.hid hg8
            clear ho8 hg8 hb8
            refine HK.out _ _ ⟨fun _ => HS.out _ G8, ?_⟩
            clear HK K
            try simp only [Act.put, lzD, lzE, lzF]
            refine bO 9 (by kernel_rfl) rfl ?_
            intro K HK
            try simp only [lzA, lzB, lzC]
            go_simp
            refine HK.out _ _ ⟨fun _ => HS.out _ G8, ?_⟩
            clear HK K
            try simp only [Act.put, lzA, lzB, lzC, lzD, lzE, lzF]
            refine bO 10 (by kernel_rfl) rfl ?_
            intro K HK
            refine wanted_go rfl ?_
            try simp only [lzA, lzB, lzC]
            refine wp_store_cell (.tmp 136) (.tmp 135) (v := .slice a8 (h.log.length + 1) c8) (new := #[.slice a8 (h.log.length + 1) c8, .int .i64 h.boot, .int .i64 h.next, .slice ao so.length co]) rfl rfl (by rfl) (by rfl) (row_grow HB14.out.row G8) info_rcs (by simp) (by rfl) (by rfl) ?_
            intro w17 r17 g17
            have HBL := Lib.hid (QBox.setLog (HB14.out.later G8) [⟨6, q.deed, []⟩] g17 r17 (by
             have h9 := HB14.out.newSl (by decide) (fc_in (HC.out.trans G1.out.sub)) HO8.out
             simpa using h9))
            have RO17 := Lib.hid (row_by (row_grow RO14.out G8) g17 (by intro e; have := Option.some.inj e; have := HBB.out; have := HBR.out.size; omega))
            clear r17 g17
            refine HK.out _ _ ⟨fun h => absurd rfl h, ?_⟩
            clear HK K
            try simp only [Act.put]
            refine but_done (by kernel_rfl) ?_
            have HBN : Hid (QBox c w wz w17 h ⟨so, [⟨6, q.deed, []⟩], [], true⟩ _ _ _) := Lib.hid (HBL.out.setSays HBL.out.says)
            go_wp2
            go_roundw
            case rel => exact ⟨k + 1, _, _, by omega, by go_num, by rw [HNX.out, HST.out], by rw [HNX.out, HST.out]; exact HBN.out⟩
            case measure => simp [intOf]; omega
          ·intro K HK
           try simp only [lzA, lzB, lzC]
           go_simp
           refine HK.out _ _ ⟨fun _ => HS.out _ (GD.alloc _), ?_⟩
           clear HK K
           try simp only [Act.put, lzA, lzB, lzC, lzD, lzE, lzF]
           refine bO 0 (by kernel_rfl) rfl ?_
           intro K HK
           try simp only [lzA, lzC]
           go_simp
           refine HK.out _ _ ⟨fun _ => HS.out _ ((GD.alloc _).alloc _), ?_⟩
           clear HK K
           try simp only [Act.put, lzA, lzB, lzC, lzD, lzE, lzF]
           refine bO 3 (by kernel_rfl) rfl ?_
           intro K HK
           refine wanted_go rfl ?_
           try simp only [lzA, lzB, lzC]
           refine wp_appc (l := []) (m := h.log) (v := .slice (some ⟨wd.heap.size + 1, 0, none⟩) 0 0) ei_rc rfl one_Trc (by decide) (.tmp 127) (.tmp 129) rfl rfl ((OwnC.made0 Ty.rc c _ w14.heap.size _ (by have := ZD.out; (try simp); omega) (by simp))) rfl (HLSR.out _ ((GD.alloc _).alloc _)) (by have := HLL.out; simp; omega) ((GD.alloc _).alloc _).size ?_
           intro a3 c3 q3 ho3 hg3 hb3
           try simp only [List.length_nil, Nat.zero_add, List.nil_append] at ho3
           try simp only [List.length_nil, Nat.zero_add] at hb3
           try simp only [List.length_nil, Nat.zero_add]
           have G3 := grow_by (w0 := w14) ((GD.alloc _).alloc _) hg3 (own_at (by have := ZD.out; (try simp); omega))
           have B3 := Lib.hid (own_new (B := w14.heap.size) ((GD.alloc _).alloc _).size hb3 (own_at (by have := ZD.out; (try simp); omega)))
           have HO3 := Lib.hid ho3
           have HG3 := Lib.hid hg3
           clear ho3 hg3 hb3
           refine HK.out _ _ ⟨fun _ => HS.out _ G3, ?_⟩
           clear HK K
           try simp only [Act.put, lzD, lzE, lzF]
           refine bO 8 (by kernel_rfl) rfl ?_
           intro K HK
           refine wanted_go rfl ?_
           try simp only [lzA, lzB, lzC]
           refine wp_appc (l := h.log) (m := [⟨6, q.deed, []⟩]) (v := .slice a3 (h.log.length) c3) ei_rc rfl one_Trc (by decide) (.tmp 130) (.tmp 134) rfl rfl (HO3.out) rfl ((((Src.of_new (T := Ty.rc) (x := ⟨6, q.deed, []⟩) (c := c) (cs := #[.int .i64 6, .int .i64 q.deed, .slice none 0 0]) (show Ty.rc.R c _ (⟨6, q.deed, []⟩ : Rc) from ⟨_, rfl, (show I64 6 from by unfold I64; decide), HEL.out.1, Sl.nil _ _⟩) _ _ (by simp))).grow ((Grow.refl _).alloc _)).kept HG3.out (by simp [Value.ownBlock])) (by have := HLL.out; simp; omega) G3.size ?_
           intro a8 c8 q8 ho8 hg8 hb8
           try simp only [List.length_nil, List.length_cons, Nat.zero_add] at ho8
           try simp only [List.length_nil, List.length_cons, Nat.zero_add] at hb8
           try simp only [List.length_nil, List.length_cons, Nat.zero_add]
           have G8 := grow_by (w0 := w14) G3 hg8 B3.out
           have B8 := Lib.hid (own_new (B := w14.heap.size) G3.size hb8 B3.out)
           have HO8 := Lib.hid ho8
           have HG8 := Lib.hid hg8
           clear ho8 hg8 hb8
           refine HK.out _ _ ⟨fun _ => HS.out _ G8, ?_⟩
           clear HK K
           try simp only [Act.put, lzD, lzE, lzF]
           refine bO 9 (by kernel_rfl) rfl ?_
           intro K HK
           try simp only [lzA, lzB, lzC]
           go_simp
           refine HK.out _ _ ⟨fun _ => HS.out _ G8, ?_⟩
           clear HK K
           try simp only [Act.put, lzA, lzB, lzC, lzD, lzE, lzF]
           refine bO 10 (by kernel_rfl) rfl ?_
           intro K HK
           refine wanted_go rfl ?_
           try simp only [lzA, lzB, lzC]
           refine wp_store_cell (.tmp 136) (.tmp 135) (v := .slice a8 (h.log.length + 1) c8) (new := #[.slice a8 (h.log.length + 1) c8, .int .i64 h.boot, .int .i64 h.next, .slice ao so.length co]) rfl rfl (by rfl) (by rfl) (row_grow HB14.out.row G8) info_rcs (by simp) (by rfl) (by rfl) ?_
           intro w17 r17 g17
           have HBL := Lib.hid (QBox.setLog (HB14.out.later G8) [⟨6, q.deed, []⟩] g17 r17 (by
            have h9 := HB14.out.newSl (by decide) (fc_in (HC.out.trans G1.out.sub)) HO8.out
            simpa using h9))
           have RO17 := Lib.hid (row_by (row_grow RO14.out G8) g17 (by intro e; have := Option.some.inj e; have := HBB.out; have := HBR.out.size; omega))
           clear r17 g17
           refine HK.out _ _ ⟨fun h => absurd rfl h, ?_⟩
           clear HK K
           try simp only [Act.put]
           refine but_done (by kernel_rfl) ?_
           have HBN : Hid (QBox c w wz w17 h ⟨so, [⟨6, q.deed, []⟩], [], true⟩ _ _ _) := Lib.hid (HBL.out.setSays HBL.out.says)
           go_wp2
           go_roundw
           case rel => exact ⟨k + 1, _, _, by omega, by go_num, by rw [HNX.out, HST.out], by rw [HNX.out, HST.out]; exact HBN.out⟩
           case measure => simp [intOf]; omega
         | false =>
          have HLF := Lib.hid HTA.out.symm
          have HST : Hid (hgoStep m ⟨so, [], [], false⟩ q = ⟨so ++ [⟨q.deed, q.parts, true, q.heard ++ [m.house]⟩], [], [], true⟩) := Lib.hid (by rw [HAT.out, hearO_ack HA.out HB.out HCC.out HLF.out]; try simp)
          obtain ⟨e0, e1, e2, e3⟩ := cells4 RO14.out
          have zO : BO < w14.heap.size := (Array.getElem?_eq_some_iff.1 RO14.out).1
          have RA9 := Lib.hid ((HB14.out.old 0 (by omega)).trans R1.out)
          have RB9 := Lib.hid ((HB14.out.old 1 (by omega)).trans R2.out)
          obtain ⟨y0, y1, y2, y3⟩ := cells4 RA9.out
          obtain ⟨d0, d1, d2, d3⟩ := cells4 RB9.out
          obtain ⟨x0, x1, x2, x3⟩ := cells4 HB14.out.row
          have zz := HB14.out.size
          have zA : w.heap.size < w14.heap.size := by omega
          have zB : w.heap.size + 1 < w14.heap.size := by omega
          have zX : w.heap.size + 3 < w14.heap.size := by omega
          have HB14t : Hid (QBox c w wz w14 h ⟨so, [], [], true⟩ _ _ _) := Lib.hid (HB14.out.setSays HB14.out.says)
          go_wp2_with (first | (at_builtin; refine wpList_appc (c := fc c wz w14 [(Value.slice ao so.length co).ownBlock]) (base := w.heap.size + 4) (l := so) (m := [⟨q.deed, q.parts, true, q.heard ++ [m.house]⟩]) ei_opn rfl one_Topn (by decide) rfl (.tmp 152) (.tmp 154) rfl rfl ?own rfl (Src.of_new (T := Ty.opn) (x := ⟨q.deed, q.parts, true, q.heard ++ [m.house]⟩) (cs := #[.int .i64 q.deed, .slice ap2 q.parts.length cp2, .bool true, .slice a12 (q.heard.length + 1) c12]) ?d0 _ _ ?d1) ?d2 ?d3 ?_))
          case own => exact OwnC.grow HB14t.out.opn ((Grow.refl _).alloc _)
          case d0 => exact ⟨_, _, rfl, HEL.out.1, HEL.out.2.1.mono (fc_in (HC.out.trans G1.out.sub)), HB11.out.newSl (by decide) (fc_in (HC.out.trans G1.out.sub)) HO14.out⟩
          case d1 => first | rfl | simp
          case d2 => have := HSL.out; simp; omega
          case d3 => have := HB14t.out.size; simp; omega
          intro a9 c9 w9 ho9 hg9 hb9
          have R9 := Lib.hid (row_by (row_grow HB14t.out.row ((Grow.refl _).alloc (.cells #[.int .i64 q.deed, .slice ap2 q.parts.length cp2, .bool true, .slice a12 (q.heard.length + 1) c12] 136))) hg9 (by intro e; have := (HB14t.out.opn.lt _ e.symm).1; omega))
          have HO9 := Lib.hid ho9
          have HG9 := Lib.hid hg9
          have HB9 := Lib.hid hb9
          clear ho9 hg9 hb9
          go_wp2_with (first | (refine wpList_store_cell rfl (.tmp 156) (.tmp 155) (v := .slice a9 (so.length + 1) c9) (new := #[.slice alx nl clx, .int .i64 h.boot, .int .i64 h.next, .slice a9 (so.length + 1) c9]) rfl rfl (by rfl) (by rfl) R9.out info_opns (by simp) (by rfl) (by rfl) ?_))
          intro w10 r10 g10
          have HBN := Lib.hid (QBox.app HB14t.out ⟨q.deed, q.parts, true, q.heard ++ [m.house]⟩ ((Grow.refl _).alloc (.cells #[.int .i64 q.deed, .slice ap2 q.parts.length cp2, .bool true, .slice a12 (q.heard.length + 1) c12] 136)) HG9.out (HB9.out.imp_right fun ⟨g, e, hge⟩ => ⟨g, e, by simpa using hge⟩) HO9.out g10 r10)
          clear r10 g10
          go_wp2
          go_roundw
          case rel => exact ⟨k + 1, _, _, by omega, by go_num, by rw [HNX.out, HST.out], by rw [HNX.out, HST.out]; exact HBN.out⟩
          case measure => simp [intOf]; omega
       | false =>
        have HCC := Lib.hid (of_decide_eq_false HT113.out.symm)
        obtain ⟨t137, ht137⟩ : ∃ b : Bool, b = decide (m.kind = 7 ∧ q.dec = true) := ⟨_, rfl⟩
        have HT137 := Lib.hid ht137
        clear ht137
        go_upto_region 25 with fail
        obtain ⟨e0, e1, e2, e3⟩ := cells4 RO13.out
        have zO : BO < w13.heap.size := (Array.getElem?_eq_some_iff.1 RO13.out).1
        have RA9 := Lib.hid ((HB13.out.old 0 (by omega)).trans R1.out)
        have RB9 := Lib.hid ((HB13.out.old 1 (by omega)).trans R2.out)
        obtain ⟨y0, y1, y2, y3⟩ := cells4 RA9.out
        obtain ⟨d0, d1, d2, d3⟩ := cells4 RB9.out
        obtain ⟨x0, x1, x2, x3⟩ := cells4 HB13.out.row
        have zz := HB13.out.size
        have zA : w.heap.size < w13.heap.size := by omega
        have zB : w.heap.size + 1 < w13.heap.size := by omega
        have zX : w.heap.size + 3 < w13.heap.size := by omega
        go_cut [137, 158, 159, 160, 161, 162, 163, 164, 165, 166, 167, 168, 169, 170, 171, 172] from 138 (fun s137 s158 s159 s160 s161 s162 s163 s164 s165 s166 s167 s168 s169 s170 s171 s172 wc => s137 = .bool t137 ∧ (s158 = undef ∧ s159 = undef ∧ s160 = undef ∧ s161 = undef ∧ s162 = undef ∧ s163 = undef ∧ s164 = undef ∧ s165 = undef ∧ s166 = undef ∧ s167 = undef ∧ s168 = undef ∧ s169 = undef ∧ s170 = undef ∧ s171 = undef ∧ s172 = undef) ∧ w13 = wc)
        case first =>
         by_cases hk : m.kind = 7
         ·have hkb : (m.kind == 7) = true := by simp [hk]
          have HK := Lib.hid hk
          clear hk
          obtain ⟨db, hdq⟩ : ∃ b, b = q.dec := ⟨_, rfl⟩
          rw [← hdq] at e2
          have HDC := Lib.hid hdq
          clear hdq
          cases db with
          | true =>
           go_wp2
           go_meet
           case rel => exact ⟨by have h1 := HK.out; have h2 := HDC.out.symm; rw [HT137.out]; (try rw [HTN.out]); simp [h1, h2], ⟨rfl, rfl, rfl, rfl, rfl, rfl, rfl, rfl, rfl, rfl, rfl, rfl, rfl, rfl, rfl⟩, rfl⟩
          | false =>
           go_wp2
           go_meet
           case rel => exact ⟨by have h1 := HK.out; have h2 := HDC.out.symm; rw [HT137.out]; (try rw [HTN.out]); simp [h1, h2], ⟨rfl, rfl, rfl, rfl, rfl, rfl, rfl, rfl, rfl, rfl, rfl, rfl, rfl, rfl, rfl⟩, rfl⟩
         ·have hkb : (m.kind == 7) = false := by simp [hk]
          have HK := Lib.hid hk
          clear hk
          go_wp2
          go_meet
          case rel => exact ⟨by have h1 := HK.out; rw [HT137.out]; simp [h1], ⟨rfl, rfl, rfl, rfl, rfl, rfl, rfl, rfl, rfl, rfl, rfl, rfl, rfl, rfl, rfl⟩, rfl⟩
        case rest =>
        obtain ⟨rfl, ⟨rfl, rfl, rfl, rfl, rfl, rfl, rfl, rfl, rfl, rfl, rfl, rfl, rfl, rfl, rfl⟩, rfl⟩ := hcut
        clear e0 e1 e2 e3 zO y0 y1 y2 y3 d0 d1 d2 d3 x0 x1 x2 x3 zz zA zB zX RA9 RB9
        cases t137 with
        | true =>
         skip
         have HD4 := Lib.hid (of_decide_eq_true HT137.out.symm)
         have HST : Hid (hgoStep m ⟨so, [], [], false⟩ q = ⟨so ++ [q], [], [⟨4, m.deed, m.house, []⟩], true⟩) := Lib.hid (by rw [HAT.out, hearO_ask HA.out HB.out HCC.out HD4.out]; try simp)
         obtain ⟨e0, e1, e2, e3⟩ := cells4 RO13.out
         have zO : BO < w13.heap.size := (Array.getElem?_eq_some_iff.1 RO13.out).1
         have RA9 := Lib.hid ((HB13.out.old 0 (by omega)).trans R1.out)
         have RB9 := Lib.hid ((HB13.out.old 1 (by omega)).trans R2.out)
         obtain ⟨y0, y1, y2, y3⟩ := cells4 RA9.out
         obtain ⟨d0, d1, d2, d3⟩ := cells4 RB9.out
         obtain ⟨x0, x1, x2, x3⟩ := cells4 HB13.out.row
         have zz := HB13.out.size
         have zA : w.heap.size < w13.heap.size := by omega
         have zB : w.heap.size + 1 < w13.heap.size := by omega
         have zX : w.heap.size + 3 < w13.heap.size := by omega
         obtain ⟨w18, hw18⟩ : ∃ y : World, y = w13.alloc (.cells #[.int .i64 4, .int .i64 m.deed, .int .i64 m.house, .slice none 0 0] 39) := ⟨_, rfl⟩
         have G18 : Hid (Grow w13 w18) := Lib.hid (by rw [hw18]; exact (Grow.refl _).alloc _)
         have HB18 : Hid (QBox c w wz w18 h ⟨so, [], [⟨4, m.deed, m.house, []⟩], true⟩ _ _ (.slice (some ⟨w13.heap.size, 0, none⟩) 1 1)) := Lib.hid ((HB13.out.later G18.out).setSays (HB13.out.newSl (T := Ty.ms) (d := fun _ => none) (by decide) (fun _ _ e9 => by cases e9) (by
          rw [hw18]
          exact OwnC.lit (T := Ty.ms) (c := fun _ => none) w13 [[.int .i64 4, .int .i64 m.deed, .int .i64 m.house, .slice none 0 0]] rfl rfl (Nat.le_refl _) (by simp [maxLen]) rfl ⟨⟨_, rfl, (show I64 4 from by unfold I64; decide), HMI.out.2.1, HMI.out.2.2, Sl.nil _ _⟩, trivial⟩)))
         go_upto_region 27 with fail
         rw [← hw18]
         clear hw18
         have RO18 := Lib.hid (row_grow RO13.out G18.out)
         clear e0 e1 e2 e3 zO y0 y1 y2 y3 d0 d1 d2 d3 x0 x1 x2 x3 zz zA zB zX RA9 RB9
         obtain ⟨e0, e1, e2, e3⟩ := cells4 RO18.out
         have zO : BO < w18.heap.size := (Array.getElem?_eq_some_iff.1 RO18.out).1
         have RA9 := Lib.hid ((HB18.out.old 0 (by omega)).trans R1.out)
         have RB9 := Lib.hid ((HB18.out.old 1 (by omega)).trans R2.out)
         obtain ⟨y0, y1, y2, y3⟩ := cells4 RA9.out
         obtain ⟨d0, d1, d2, d3⟩ := cells4 RB9.out
         obtain ⟨x0, x1, x2, x3⟩ := cells4 HB18.out.row
         have zz := HB18.out.size
         have zA : w.heap.size < w18.heap.size := by omega
         have zB : w.heap.size + 1 < w18.heap.size := by omega
         have zX : w.heap.size + 3 < w18.heap.size := by omega
         go_wp2_with (first | (at_builtin; refine wpList_appc (c := fc c wz w18 [(Value.slice ao so.length co).ownBlock]) (base := w.heap.size + 4) (l := so) (m := [q]) ei_opn rfl one_Topn (by decide) rfl (.tmp 152) (.tmp 154) rfl rfl ?own rfl (Src.of_new (T := Ty.opn) (x := q) (cs := #[.int .i64 q.deed, .slice ap2 q.parts.length cp2, .bool q.dec, .slice ah q.heard.length ch]) ?d0 _ _ ?d1) ?d2 ?d3 ?_))
         case own => exact OwnC.grow HB18.out.opn ((Grow.refl _).alloc _)
         case d0 => exact ⟨_, _, rfl, HEL.out.1, HEL.out.2.1.mono (fc_in (HC.out.trans G1.out.sub)), HEL.out.2.2.mono (fc_in (HC.out.trans G1.out.sub))⟩
         case d1 => first | rfl | simp
         case d2 => have := HSL.out; simp; omega
         case d3 => have := HB18.out.size; simp; omega
         intro a9 c9 w9 ho9 hg9 hb9
         have R9 := Lib.hid (row_by (row_grow HB18.out.row ((Grow.refl _).alloc (.cells #[.int .i64 q.deed, .slice ap2 q.parts.length cp2, .bool q.dec, .slice ah q.heard.length ch] 136))) hg9 (by intro e; have := (HB18.out.opn.lt _ e.symm).1; omega))
         have HO9 := Lib.hid ho9
         have HG9 := Lib.hid hg9
         have HB9 := Lib.hid hb9
         clear ho9 hg9 hb9
         go_wp2_with (first | (refine wpList_store_cell rfl (.tmp 156) (.tmp 155) (v := .slice a9 (so.length + 1) c9) (new := #[.slice alx nl clx, .int .i64 h.boot, .int .i64 h.next, .slice a9 (so.length + 1) c9]) rfl rfl (by rfl) (by rfl) R9.out info_opns (by simp) (by rfl) (by rfl) ?_))
         intro w10 r10 g10
         have HBN := Lib.hid (QBox.app HB18.out q ((Grow.refl _).alloc (.cells #[.int .i64 q.deed, .slice ap2 q.parts.length cp2, .bool q.dec, .slice ah q.heard.length ch] 136)) HG9.out (HB9.out.imp_right fun ⟨g, e, hge⟩ => ⟨g, e, by simpa using hge⟩) HO9.out g10 r10)
         clear r10 g10
         go_wp2
         go_roundw
         case rel => exact ⟨k + 1, _, _, by omega, by go_num, by rw [HNX.out, HST.out], by rw [HNX.out, HST.out]; exact HBN.out⟩
         case measure => simp [intOf]; omega
        | false =>
         skip
         have HD4 := Lib.hid (of_decide_eq_false HT137.out.symm)
         have HST : Hid (hgoStep m ⟨so, [], [], false⟩ q = ⟨so ++ [q], [], [], true⟩) := Lib.hid (by rw [HAT.out, hearO_else HA.out HB.out HCC.out HD4.out]; try simp)
         obtain ⟨e0, e1, e2, e3⟩ := cells4 RO13.out
         have zO : BO < w13.heap.size := (Array.getElem?_eq_some_iff.1 RO13.out).1
         have RA9 := Lib.hid ((HB13.out.old 0 (by omega)).trans R1.out)
         have RB9 := Lib.hid ((HB13.out.old 1 (by omega)).trans R2.out)
         obtain ⟨y0, y1, y2, y3⟩ := cells4 RA9.out
         obtain ⟨d0, d1, d2, d3⟩ := cells4 RB9.out
         obtain ⟨x0, x1, x2, x3⟩ := cells4 HB13.out.row
         have zz := HB13.out.size
         have zA : w.heap.size < w13.heap.size := by omega
         have zB : w.heap.size + 1 < w13.heap.size := by omega
         have zX : w.heap.size + 3 < w13.heap.size := by omega
         have HB14t : Hid (QBox c w wz w13 h ⟨so, [], [], true⟩ _ _ _) := Lib.hid (HB13.out.setSays HB13.out.says)
         go_wp2_with (first | (at_builtin; refine wpList_appc (c := fc c wz w13 [(Value.slice ao so.length co).ownBlock]) (base := w.heap.size + 4) (l := so) (m := [q]) ei_opn rfl one_Topn (by decide) rfl (.tmp 152) (.tmp 154) rfl rfl ?own rfl (Src.of_new (T := Ty.opn) (x := q) (cs := #[.int .i64 q.deed, .slice ap2 q.parts.length cp2, .bool q.dec, .slice ah q.heard.length ch]) ?d0 _ _ ?d1) ?d2 ?d3 ?_))
         case own => exact OwnC.grow HB14t.out.opn ((Grow.refl _).alloc _)
         case d0 => exact ⟨_, _, rfl, HEL.out.1, HEL.out.2.1.mono (fc_in (HC.out.trans G1.out.sub)), HEL.out.2.2.mono (fc_in (HC.out.trans G1.out.sub))⟩
         case d1 => first | rfl | simp
         case d2 => have := HSL.out; simp; omega
         case d3 => have := HB14t.out.size; simp; omega
         intro a9 c9 w9 ho9 hg9 hb9
         have R9 := Lib.hid (row_by (row_grow HB14t.out.row ((Grow.refl _).alloc (.cells #[.int .i64 q.deed, .slice ap2 q.parts.length cp2, .bool q.dec, .slice ah q.heard.length ch] 136))) hg9 (by intro e; have := (HB14t.out.opn.lt _ e.symm).1; omega))
         have HO9 := Lib.hid ho9
         have HG9 := Lib.hid hg9
         have HB9 := Lib.hid hb9
         clear ho9 hg9 hb9
         go_wp2_with (first | (refine wpList_store_cell rfl (.tmp 156) (.tmp 155) (v := .slice a9 (so.length + 1) c9) (new := #[.slice alx nl clx, .int .i64 h.boot, .int .i64 h.next, .slice a9 (so.length + 1) c9]) rfl rfl (by rfl) (by rfl) R9.out info_opns (by simp) (by rfl) (by rfl) ?_))
         intro w10 r10 g10
         have HBN := Lib.hid (QBox.app HB14t.out q ((Grow.refl _).alloc (.cells #[.int .i64 q.deed, .slice ap2 q.parts.length cp2, .bool q.dec, .slice ah q.heard.length ch] 136)) HG9.out (HB9.out.imp_right fun ⟨g, e, hge⟩ => ⟨g, e, by simpa using hge⟩) HO9.out g10 r10)
         clear r10 g10
         go_wp2
         go_roundw
         case rel => exact ⟨k + 1, _, _, by omega, by go_num, by rw [HNX.out, HST.out], by rw [HNX.out, HST.out]; exact HBN.out⟩
         case measure => simp [intOf]; omega
   ·have hdb : (q.deed != m.deed) = true := by simp [hd]
    have HST : Hid (hgoStep m ⟨so, sr, ss, sk⟩ q = ⟨so ++ [q], sr, ss, sk⟩) := Lib.hid (hgo_past (fun h => hd h.1))
    clear hd
    go_wp2_with (first | (at_builtin; refine wpList_appc (c := fc c wz wo [(Value.slice ao so.length co).ownBlock]) (base := w.heap.size + 4) (l := so) (m := [q]) ei_opn rfl one_Topn (by decide) rfl (.tmp 37) (.tmp 39) rfl rfl ?own rfl (Src.of_new (T := Ty.opn) (x := q) (cs := #[.int .i64 q.deed, .slice ap2 q.parts.length cp2, .bool q.dec, .slice ah q.heard.length ch]) ?d0 _ _ ?d1) ?d2 ?d3 ?_))
    case own => exact OwnC.grow HBO.out.opn ((Grow.refl _).alloc _)
    case d0 => exact ⟨_, _, rfl, HEL.out.1, HEL.out.2.1.mono (fc_in (HC.out.trans G1.out.sub)), HEL.out.2.2.mono (fc_in (HC.out.trans G1.out.sub))⟩
    case d1 => first | rfl | simp
    case d2 => have := HSL.out; simp; omega
    case d3 => have := HBO.out.size; simp; omega
    intro a9 c9 w9 ho9 hg9 hb9
    have R9 := Lib.hid (row_by (row_grow HBO.out.row ((Grow.refl _).alloc (.cells #[.int .i64 q.deed, .slice ap2 q.parts.length cp2, .bool q.dec, .slice ah q.heard.length ch] 136))) hg9 (by intro e; have := (HBO.out.opn.lt _ e.symm).1; omega))
    have HO9 := Lib.hid ho9
    have HG9 := Lib.hid hg9
    have HB9 := Lib.hid hb9
    clear ho9 hg9 hb9
    go_wp2_with (first | (refine wpList_store_cell rfl (.tmp 41) (.tmp 40) (v := .slice a9 (so.length + 1) c9) (new := #[.slice alx nl clx, .int .i64 h.boot, .int .i64 h.next, .slice a9 (so.length + 1) c9]) rfl rfl (by rfl) (by rfl) R9.out info_opns (by simp) (by rfl) (by rfl) ?_))
    intro w10 r10 g10
    have HBN := Lib.hid (QBox.app HBO.out q ((Grow.refl _).alloc (.cells #[.int .i64 q.deed, .slice ap2 q.parts.length cp2, .bool q.dec, .slice ah q.heard.length ch] 136)) HG9.out (HB9.out.imp_right fun ⟨g, e, hge⟩ => ⟨g, e, by simpa using hge⟩) HO9.out g10 r10)
    clear r10 g10
    go_wp2
    go_roundw
    case rel => exact ⟨k + 1, _, _, by omega, by go_num, by rw [HNX.out, HST.out], by rw [HNX.out, HST.out]; exact HBN.out⟩
    case measure => simp [intOf]; omega
  ·have HAL := Lib.hid (hgo_hear h m)
   rw [List.take_of_length_le (by omega)] at h8 hbx
   have HFEW : Hid ((hgo m h.opn).recs.length ≤ 1) := Lib.hid (hgo_few m h.opn ⟨[], [], [], false⟩ (by simp))
   clear hel
   generalize hgo m h.opn = s at *
   obtain ⟨so, sr, ss, sk⟩ := s
   have h8' : _ = Value.bool sk := h8
   subst h8'
   have hopn := hbx.opn
   have hsays := hbx.says
   have hlog := hbx.log
   dsimp only at hopn hsays hlog
   obtain ⟨ao, co, rfl⟩ := hopn.form
   obtain ⟨av, cv, rfl, -⟩ := id hsays
   obtain ⟨alx, clx, rfl, -⟩ := id hlog
   clear h8 hopn hsays hlog
   generalize (h.log ++ sr).length = nl at *
   have HBO := Lib.hid hbx
   clear hbx
   have RA9 := Lib.hid ((HBO.out.old 0 (by omega)).trans R1.out)
   have RB9 := Lib.hid ((HBO.out.old 1 (by omega)).trans R2.out)
   obtain ⟨y0, y1, y2, y3⟩ := cells4 RA9.out
   obtain ⟨d0, d1, d2, d3⟩ := cells4 RB9.out
   obtain ⟨x0, x1, x2, x3⟩ := cells4 HBO.out.row
   have zz := HBO.out.size
   have zA : w.heap.size < wr.heap.size := by omega
   have zB : w.heap.size + 1 < wr.heap.size := by omega
   have zX : w.heap.size + 3 < wr.heap.size := by omega
   cases sk with
   | true =>
    have HM : Hid (hHearM h m = ss) := Lib.hid (by rw [HAL.out.2, if_neg (by simp)])
    have RC9 := Lib.hid ((HBO.out.old 2 (by omega)).trans R3.out)
    go_wp2_with (first | (refine wpList_store_row rfl (.tmp 4) (.tmp 171) rfl rfl rfl RC9.out info_hd rfl rfl ?_))
    intro w7 r7 g7
    obtain ⟨p0, p1, p2, p3⟩ := cells4 r7
    clear y0 y1 y2 y3 d0 d1 d2 d3 x0 x1 x2 x3 zz zA zB zX RA9 RB9
    go_wp2
    refine bodyPost_ret (v := .tuple #[.agg #[.slice alx nl clx, .int .i64 h.boot, .int .i64 h.next, .slice ao so.length co], .slice av ss.length cv]) (by simp [results, Try.results113, go_sem, p0, p1, p2, p3]) rfl ?_
    have hz := HZ.out
    have hsub : Sub (fc c wz wr [(Value.slice ao so.length co).ownBlock]) (ov c w w7) := fc_end HC.out G1.out g7 (by omega)
    rw [HAL.out.1, HM.out]
    refine ⟨_, _, rfl, ⟨_, rfl, _, _, rfl, HBO.out.log.mono hsub, HIB.out.1, HIB.out.2, ((HBO.out.opn.kept g7 (own_apart HBO.out.opn (by omega))).slc (by decide) hsub fun a9 ha9 => ov_new (by omega))⟩, HBO.out.says.mono hsub, HBO.out.grow.grown g7 (fun q9 hq9 => by have := Option.some.inj hq9; omega)⟩
   | false =>
    by_cases hk : m.kind = 7
    ·have hkb : (m.kind == 7) = true := by simp [hk]
     have HM : Hid (hHearM h m = [⟨5, m.deed, m.house, []⟩]) := Lib.hid (by rw [HAL.out.2, if_pos ⟨rfl, hk⟩])
     clear hk
     obtain ⟨w18, hw18⟩ : ∃ y : World, y = wr.alloc (.cells #[.int .i64 5, .int .i64 m.deed, .int .i64 m.house, .slice none 0 0] 39) := ⟨_, rfl⟩
     have G18 : Hid (Grow wr w18) := Lib.hid (by rw [hw18]; exact (Grow.refl _).alloc _)
     have HB18 : Hid (QBox c w wz w18 h ⟨so, sr, [⟨5, m.deed, m.house, []⟩], true⟩ _ _ (.slice (some ⟨wr.heap.size, 0, none⟩) 1 1)) := Lib.hid ((HBO.out.later G18.out).setSays (HBO.out.newSl (T := Ty.ms) (d := fun _ => none) (by decide) (fun _ _ e9 => by cases e9) (by
      rw [hw18]
      exact OwnC.lit (T := Ty.ms) (c := fun _ => none) wr [[.int .i64 5, .int .i64 m.deed, .int .i64 m.house, .slice none 0 0]] rfl rfl (Nat.le_refl _) (by simp [maxLen]) rfl ⟨⟨_, rfl, (show I64 5 from by unfold I64; decide), HMI.out.2.1, HMI.out.2.2, Sl.nil _ _⟩, trivial⟩)))
     go_upto_region 31 with fail
     rw [← hw18]
     clear hw18
     clear y0 y1 y2 y3 d0 d1 d2 d3 x0 x1 x2 x3 zz zA zB zX RA9 RB9
     have RA9 := Lib.hid ((HB18.out.old 0 (by omega)).trans R1.out)
     have RB9 := Lib.hid ((HB18.out.old 1 (by omega)).trans R2.out)
     obtain ⟨y0, y1, y2, y3⟩ := cells4 RA9.out
     obtain ⟨d0, d1, d2, d3⟩ := cells4 RB9.out
     obtain ⟨x0, x1, x2, x3⟩ := cells4 HB18.out.row
     have zz := HB18.out.size
     have zA : w.heap.size < w18.heap.size := by omega
     have zB : w.heap.size + 1 < w18.heap.size := by omega
     have zX : w.heap.size + 3 < w18.heap.size := by omega
     have RC9 := Lib.hid ((HB18.out.old 2 (by omega)).trans R3.out)
     go_wp2_with (first | (refine wpList_store_row rfl (.tmp 4) (.tmp 171) rfl rfl rfl RC9.out info_hd rfl rfl ?_))
     intro w7 r7 g7
     obtain ⟨p0, p1, p2, p3⟩ := cells4 r7
     clear y0 y1 y2 y3 d0 d1 d2 d3 x0 x1 x2 x3 zz zA zB zX RA9 RB9
     go_wp2
     refine bodyPost_ret (v := .tuple #[.agg #[.slice alx nl clx, .int .i64 h.boot, .int .i64 h.next, .slice ao so.length co], .slice (some ⟨wr.heap.size, 0, none⟩) 1 1]) (by simp [results, Try.results113, go_sem, p0, p1, p2, p3]) rfl ?_
     have hz := HZ.out
     have hsub : Sub (fc c wz w18 [(Value.slice ao so.length co).ownBlock]) (ov c w w7) := fc_end HC.out G1.out g7 (by omega)
     rw [HAL.out.1, HM.out]
     refine ⟨_, _, rfl, ⟨_, rfl, _, _, rfl, HB18.out.log.mono hsub, HIB.out.1, HIB.out.2, ((HB18.out.opn.kept g7 (own_apart HB18.out.opn (by omega))).slc (by decide) hsub fun a9 ha9 => ov_new (by omega))⟩, HB18.out.says.mono hsub, HB18.out.grow.grown g7 (fun q9 hq9 => by have := Option.some.inj hq9; omega)⟩
    ·have hkb : (m.kind == 7) = false := by simp [hk]
     have HM : Hid (hHearM h m = ss) := Lib.hid (by rw [HAL.out.2, if_neg (fun x => hk x.2)])
     clear hk
     have RC9 := Lib.hid ((HBO.out.old 2 (by omega)).trans R3.out)
     go_wp2_with (first | (refine wpList_store_row rfl (.tmp 4) (.tmp 171) rfl rfl rfl RC9.out info_hd rfl rfl ?_))
     intro w7 r7 g7
     obtain ⟨p0, p1, p2, p3⟩ := cells4 r7
     clear y0 y1 y2 y3 d0 d1 d2 d3 x0 x1 x2 x3 zz zA zB zX RA9 RB9
     go_wp2
     refine bodyPost_ret (v := .tuple #[.agg #[.slice alx nl clx, .int .i64 h.boot, .int .i64 h.next, .slice ao so.length co], .slice av ss.length cv]) (by simp [results, Try.results113, go_sem, p0, p1, p2, p3]) rfl ?_
     have hz := HZ.out
     have hsub : Sub (fc c wz wr [(Value.slice ao so.length co).ownBlock]) (ov c w w7) := fc_end HC.out G1.out g7 (by omega)
     rw [HAL.out.1, HM.out]
     refine ⟨_, _, rfl, ⟨_, rfl, _, _, rfl, HBO.out.log.mono hsub, HIB.out.1, HIB.out.2, ((HBO.out.opn.kept g7 (own_apart HBO.out.opn (by omega))).slc (by decide) hsub fun a9 ha9 => ov_new (by omega))⟩, HBO.out.says.mono hsub, HBO.out.grow.grown g7 (fun q9 hq9 => by have := Option.some.inj hq9; omega)⟩
end Go.Proofs.Ytgbhpghgohggcaa
