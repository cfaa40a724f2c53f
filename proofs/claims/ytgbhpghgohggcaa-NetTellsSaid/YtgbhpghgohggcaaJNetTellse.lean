/- The parts that NetTells is proved of, joined: E4, Q2, Q3, Q4, Q5, Q6, Q7, U0, Q8, Q9, Q10, U1, U2, U3, Z75, Z8. No condition beside those that each theorem names. -/
import Derived.Test.YtgbhpghgohggcaaJNetTellsd
/- Walks: SameHead of the document's answer. -/
namespace Go.Proofs.Ytgbhpghgohggcaa
open Go.RowKit
theorem Of.hd_form {c : CM} {v : Value} {h : Hd} (hv : Of Ty.hd c v h) : ∃ al cl ar cr, v = .agg #[.slice al h.log.length cl, .int .i64 h.boot, .int .i64 h.next, .slice ar h.opn.length cr] := by
  obtain ⟨cs, rfl, vl, vo, rfl, hl, -, -, ho⟩ := hv
  obtain ⟨al, cl, rfl, -⟩ := id hl
  obtain ⟨ao, co, rfl, -⟩ := id ho
  exact ⟨_, _, _, _, rfl⟩
theorem Of.hd_log {c : CM} {al ar : Option Addr} {nl cl nr cr : Nat} {b n : Value} {h : Hd} (hv : Of Ty.hd c (.agg #[.slice al nl cl, b, n, .slice ar nr cr]) h) : Sl Ty.rc c (.slice al nl cl) h.log ∧ Sl Ty.opn c (.slice ar nr cr) h.opn := by
  obtain ⟨cs, he, vl, vo, rfl, hl, -, -, ho⟩ := hv
  simp at he
  obtain ⟨rfl, -, -, rfl⟩ := he
  exact ⟨hl, ho⟩
set_option maxRecDepth 100000 in
set_option maxHeartbeats 8000000 in
theorem ref_sameHead {v v' : Value} {h h' : Hd} (w : World) (hv : Of Ty.hd w.cell? v h) (hv' : Of Ty.hd w.cell? v' h') :
    Calls Try.prog 41 #[v, v'] w fun e w' => e = .returned (.bool (decide (h = h'))) ∧ Grow w w' := by
  obtain ⟨al, cl, ar, cr, rfl⟩ := hv.hd_form
  obtain ⟨al2, cl2, ar2, cr2, rfl⟩ := hv'.hd_form
  have k := Of.hd_log hv
  have k' := Of.hd_log hv'
  have HSL := Lib.hid (fun (W : World) (hW : Grow w W) => ref_sameLog W (k.1.mono hW.sub) (k'.1.mono hW.sub))
  have HG0 : Hid (Grow w ((w.alloc (.cells #[.slice al h.log.length cl, .int .i64 h.boot, .int .i64 h.next, .slice ar h.opn.length cr] 57)).alloc (.cells #[.slice al2 h'.log.length cl2, .int .i64 h'.boot, .int .i64 h'.next, .slice ar2 h'.opn.length cr2] 57))) := Lib.hid (((Grow.refl w).alloc _).alloc _)
  have HR2 : Hid (((w.alloc (.cells #[.slice al h.log.length cl, .int .i64 h.boot, .int .i64 h.next, .slice ar h.opn.length cr] 57)).alloc (.cells #[.slice al2 h'.log.length cl2, .int .i64 h'.boot, .int .i64 h'.next, .slice ar2 h'.opn.length cr2] 57)).heap[w.heap.size]? = some (.cells #[.slice al h.log.length cl, .int .i64 h.boot, .int .i64 h.next, .slice ar h.opn.length cr] 57 (0, 0))) := Lib.hid (heap_later (row_new _ _) _)
  have HR3 : Hid (((w.alloc (.cells #[.slice al h.log.length cl, .int .i64 h.boot, .int .i64 h.next, .slice ar h.opn.length cr] 57)).alloc (.cells #[.slice al2 h'.log.length cl2, .int .i64 h'.boot, .int .i64 h'.next, .slice ar2 h'.opn.length cr2] 57)).heap[w.heap.size + 1]? = some (.cells #[.slice al2 h'.log.length cl2, .int .i64 h'.boot, .int .i64 h'.next, .slice ar2 h'.opn.length cr2] 57 (0, 0))) := Lib.hid (by simpa using row_new (w.alloc (.cells #[.slice al h.log.length cl, .int .i64 h.boot, .int .i64 h.next, .slice ar h.opn.length cr] 57)) _)
  obtain ⟨ar', cr', he, h1, h2, -, hel⟩ := k.2
  obtain ⟨rfl, rfl⟩ : ar = ar' ∧ cr = cr' := by simpa using he
  obtain ⟨ar3, cr3, he', h1', h2', -, hel'⟩ := k'.2
  obtain ⟨rfl, rfl⟩ : ar2 = ar3 ∧ cr2 = cr3 := by simpa using he'
  unfold maxLen at h2 h2'
  clear hv hv' k k' he he'
  by_cases hl : h.log = h'.log
  · skip
    by_cases hb : h.boot = h'.boot
    · skip
      by_cases hn : h.next = h'.next
      · skip
        by_cases ho : h.opn.length = h'.opn.length
        · skip
          have DL := Lib.hid (decide_eq_true hl)
          have b1 : (h.boot != h'.boot) = false := by simp [hb]
          have b2 : (h.next != h'.next) = false := by simp [hn]
          have b3 : ((h.opn.length : Int) != h'.opn.length) = false := by simp [ho]
          have HEQ : Hid (h.opn = h'.opn → h = h') := fun e => by cases h; cases h'; simp_all
          have HLN := Lib.hid ho
          clear hl hb hn ho
          go_enter Try.func41, Try.ntmps41
          go_wp2_with fail
          refine (HSL.out _ HG0.out).mono ?_
          rw [DL.out]
          rintro e w1 ⟨rfl, hbw1⟩
          (obtain ⟨cw1, fw1⟩ := bcell hbw1; have zw10 : w.heap.size < w1.heap.size := (by have := hbw1.size; (try simp at this); omega); have zw11 : w.heap.size + 1 < w1.heap.size := (by have := hbw1.size; (try simp at this); omega); have Gw1 := Lib.hid hbw1; clear hbw1)
          have HGL : Hid (Grow w w1) := Lib.hid (HG0.out.trans Gw1.out)
          obtain ⟨k0, k1, k2, k3⟩ := cells4 (row_grow HR2.out Gw1.out)
          obtain ⟨m0, m1, m2, m3⟩ := cells4 (row_grow HR3.out Gw1.out)
          have HM3 := Lib.hid m3
          clear cw1 fw1
          go_wp2
          clear k0 k1 k2 k3 m0 m1 m2 m3
          go_loopw [40] (fun i wr => ∃ k : Nat, k ≤ h.opn.length ∧ i = .int .i64 k ∧ Grow w1 wr ∧ ∀ j, j < k → h.opn[j]? = h'.opn[j]?) (fun i _ => h.opn.length - (intOf i).toNat)
          case atStart => exact ⟨0, by omega, rfl, Grow.refl _, fun j h => by omega⟩
          case round =>
            obtain ⟨k, hk', rfl, hb, hE⟩ := hrel
            by_cases hlt : k < h.opn.length
            · skip
              have hlt' : k < h'.opn.length := by have := HLN.out; omega
              have H1 := Lib.hid (same_next hlt hlt' hE)
              have H2 : Hid (¬ h.opn[k] = h'.opn[k] → decide (h = h') = false) := fun h2 => by
                rw [decide_eq_false_iff_not]; intro e; apply h2; simp [e]
              clear hE
              obtain ⟨b, o, vp, vh, rfl, c0, c1, c2, c3, -, hp, hh⟩ := Opns.at_ hel k hlt
              obtain ⟨b', o', vq, vg, rfl, d0, d1, d2, d3, -, hq, hg⟩ := Opns.at_ hel' k hlt'
              obtain ⟨ap, cp, rfl, -⟩ := id hp
              obtain ⟨ah, ch, rfl, -⟩ := id hh
              obtain ⟨aq, cq, rfl, -⟩ := id hq
              obtain ⟨ag, cg, rfl, -⟩ := id hg
              have HSP := Lib.hid (fun (W : World) (hW : Grow wr W) => ref_sameParts W (hp.mono (HGL.out.trans (hb.trans hW)).sub) (hq.mono (HGL.out.trans (hb.trans hW)).sub))
              have HSI := Lib.hid (fun (W : World) (hW : Grow wr W) => ref_sameInts W (hh.mono (HGL.out.trans (hb.trans hW)).sub) (hg.mono (HGL.out.trans (hb.trans hW)).sub))
              replace c0 := (HGL.out.trans hb).sub _ _ c0
              replace c1 := (HGL.out.trans hb).sub _ _ c1
              replace c2 := (HGL.out.trans hb).sub _ _ c2
              replace c3 := (HGL.out.trans hb).sub _ _ c3
              replace d0 := (HGL.out.trans hb).sub _ _ d0
              replace d1 := (HGL.out.trans hb).sub _ _ d1
              replace d2 := (HGL.out.trans hb).sub _ _ d2
              replace d3 := (HGL.out.trans hb).sub _ _ d3
              have m3 := hb.sub _ _ HM3.out
              have z1 : w.heap.size + 1 < wr.heap.size := World.block_lt_of_cell? wr _ m3
              have z2 : b' < wr.heap.size := World.block_lt_of_cell? wr _ d0
              clear hel hel' hp hh hq hg
              generalize h.opn[k] = p at *
              generalize h'.opn[k] = q at *
              generalize hpd : p.dec = bp at *
              generalize hqd : q.dec = bq at *
              by_cases hdeed : p.deed = q.deed
              · skip
                by_cases hdec : bp = bq
                · skip
                  subst hdec
                  by_cases hparts : p.parts = q.parts
                  · skip
                    by_cases hheard : p.heard = q.heard
                    · skip
                      have hpe : p = q := by cases p; cases q; simp_all
                      have H3 := Lib.hid (H1.out hpe)
                      have n1 : (p.deed != q.deed) = false := by simp [hdeed]
                      have DP := Lib.hid (decide_eq_true hparts)
                      have DI := Lib.hid (decide_eq_true hheard)
                      clear hpe hpd hqd hdeed hparts hheard H1 H2
                      go_wp2_with fail
                      refine (HSP.out _ (((Grow.refl wr).alloc (.cells #[.int .i64 p.deed, .slice ap p.parts.length cp, .bool bp, .slice ah p.heard.length ch] 136)).alloc (.cells #[.int .i64 q.deed, .slice aq q.parts.length cq, .bool bp, .slice ag q.heard.length cg] 136))).mono ?_
                      rw [DP.out]
                      rintro e w2 ⟨rfl, hbw2⟩
                      (obtain ⟨cw2, fw2⟩ := bcell hbw2; have zw20 : wr.heap.size < w2.heap.size := (by have := hbw2.size; (try simp at this); omega); have zw21 : wr.heap.size + 1 < w2.heap.size := (by have := hbw2.size; (try simp at this); omega); have Gw2 := Lib.hid hbw2; clear hbw2)
                      go_wp2_with fail
                      refine (HSI.out _ ((((Grow.refl wr).alloc (.cells #[.int .i64 p.deed, .slice ap p.parts.length cp, .bool bp, .slice ah p.heard.length ch] 136)).alloc (.cells #[.int .i64 q.deed, .slice aq q.parts.length cq, .bool bp, .slice ag q.heard.length cg] 136)).trans Gw2.out)).mono ?_
                      rw [DI.out]
                      rintro e w3 ⟨rfl, hbw3⟩
                      (obtain ⟨cw3, fw3⟩ := bcell hbw3; have zw30 : wr.heap.size < w3.heap.size := (by have := hbw3.size; (try simp at this); omega); have zw31 : wr.heap.size + 1 < w3.heap.size := (by have := hbw3.size; (try simp at this); omega); have Gw3 := Lib.hid hbw3; clear hbw3)
                      go_wp2
                      go_roundw
                      case rel => exact ⟨k + 1, by omega, by go_num, hb.trans (((((Grow.refl wr).alloc (.cells #[.int .i64 p.deed, .slice ap p.parts.length cp, .bool bp, .slice ah p.heard.length ch] 136)).alloc (.cells #[.int .i64 q.deed, .slice aq q.parts.length cq, .bool bp, .slice ag q.heard.length cg] 136)).trans Gw2.out).trans Gw3.out), H3.out⟩
                      case measure => simp [intOf]; omega
                    · skip
                      have H3 := Lib.hid (H2.out (fun e => hheard (by rw [e])))
                      have n1 : (p.deed != q.deed) = false := by simp [hdeed]
                      have DP := Lib.hid (decide_eq_true hparts)
                      have DI := Lib.hid (decide_eq_false hheard)
                      clear hpd hqd hdeed hparts hheard H1 H2
                      go_wp2_with fail
                      refine (HSP.out _ (((Grow.refl wr).alloc (.cells #[.int .i64 p.deed, .slice ap p.parts.length cp, .bool bp, .slice ah p.heard.length ch] 136)).alloc (.cells #[.int .i64 q.deed, .slice aq q.parts.length cq, .bool bp, .slice ag q.heard.length cg] 136))).mono ?_
                      rw [DP.out]
                      rintro e w2 ⟨rfl, hbw2⟩
                      (obtain ⟨cw2, fw2⟩ := bcell hbw2; have zw20 : wr.heap.size < w2.heap.size := (by have := hbw2.size; (try simp at this); omega); have zw21 : wr.heap.size + 1 < w2.heap.size := (by have := hbw2.size; (try simp at this); omega); have Gw2 := Lib.hid hbw2; clear hbw2)
                      go_wp2_with fail
                      refine (HSI.out _ ((((Grow.refl wr).alloc (.cells #[.int .i64 p.deed, .slice ap p.parts.length cp, .bool bp, .slice ah p.heard.length ch] 136)).alloc (.cells #[.int .i64 q.deed, .slice aq q.parts.length cq, .bool bp, .slice ag q.heard.length cg] 136)).trans Gw2.out)).mono ?_
                      rw [DI.out]
                      rintro e w3 ⟨rfl, hbw3⟩
                      (obtain ⟨cw3, fw3⟩ := bcell hbw3; have zw30 : wr.heap.size < w3.heap.size := (by have := hbw3.size; (try simp at this); omega); have zw31 : wr.heap.size + 1 < w3.heap.size := (by have := hbw3.size; (try simp at this); omega); have Gw3 := Lib.hid hbw3; clear hbw3)
                      go_wp2
                      go_ret
                      exact ⟨ret_bool H3.out.symm, HGL.out.trans (hb.trans (((((Grow.refl wr).alloc (.cells #[.int .i64 p.deed, .slice ap p.parts.length cp, .bool bp, .slice ah p.heard.length ch] 136)).alloc (.cells #[.int .i64 q.deed, .slice aq q.parts.length cq, .bool bp, .slice ag q.heard.length cg] 136)).trans Gw2.out).trans Gw3.out))⟩
                  · skip
                    have H3 := Lib.hid (H2.out (fun e => hparts (by rw [e])))
                    have n1 : (p.deed != q.deed) = false := by simp [hdeed]
                    have DP := Lib.hid (decide_eq_false hparts)
                    clear hpd hqd hdeed hparts H1 H2
                    go_wp2_with fail
                    refine (HSP.out _ (((Grow.refl wr).alloc (.cells #[.int .i64 p.deed, .slice ap p.parts.length cp, .bool bp, .slice ah p.heard.length ch] 136)).alloc (.cells #[.int .i64 q.deed, .slice aq q.parts.length cq, .bool bp, .slice ag q.heard.length cg] 136))).mono ?_
                    rw [DP.out]
                    rintro e w2 ⟨rfl, hbw2⟩
                    (obtain ⟨cw2, fw2⟩ := bcell hbw2; have zw20 : wr.heap.size < w2.heap.size := (by have := hbw2.size; (try simp at this); omega); have zw21 : wr.heap.size + 1 < w2.heap.size := (by have := hbw2.size; (try simp at this); omega); have Gw2 := Lib.hid hbw2; clear hbw2)
                    go_wp2
                    go_ret
                    exact ⟨ret_bool H3.out.symm, HGL.out.trans (hb.trans ((((Grow.refl wr).alloc (.cells #[.int .i64 p.deed, .slice ap p.parts.length cp, .bool bp, .slice ah p.heard.length ch] 136)).alloc (.cells #[.int .i64 q.deed, .slice aq q.parts.length cq, .bool bp, .slice ag q.heard.length cg] 136)).trans Gw2.out))⟩
                · skip
                  have H3 := Lib.hid (H2.out (fun e => hdec (by rw [← hpd, ← hqd, e])))
                  have n1 : (p.deed != q.deed) = false := by simp [hdeed]
                  have h2b : (bp = true ∧ bq = false) ∨ (bp = false ∧ bq = true) := by cases bp <;> cases bq <;> simp_all
                  clear hpd hqd hdeed hdec H1 H2
                  rcases h2b with ⟨rfl, rfl⟩ | ⟨rfl, rfl⟩
                  all_goals
                    go_wp2
                    go_ret
                    exact ⟨ret_bool H3.out.symm, HGL.out.trans (by repeat (first | with_reducible assumption | with_reducible exact Grow.refl _ | with_reducible apply Grow.drewN | with_reducible apply Grow.drew | with_reducible apply Grow.alloc | (refine Grow.setCell ?_ (by simp; done) _)))⟩
              · skip
                have H3 := Lib.hid (H2.out (fun e => hdeed (by rw [e])))
                have n1 : (p.deed != q.deed) = true := by simp [hdeed]
                clear hpd hqd hdeed H1 H2
                go_wp2
                go_ret
                exact ⟨ret_bool H3.out.symm, HGL.out.trans (by repeat (first | with_reducible assumption | with_reducible exact Grow.refl _ | with_reducible apply Grow.drewN | with_reducible apply Grow.drew | with_reducible apply Grow.alloc | (refine Grow.setCell ?_ (by simp; done) _)))⟩
            · skip
              have H9 := Lib.hid (same_all HLN.out (by omega) hE)
              clear hel hel' hE
              go_wp2
              go_ret
              refine ⟨ret_bool ?_, HGL.out.trans hb⟩
              rw [eq_comm, decide_eq_true_eq]
              exact HEQ.out H9.out
        · skip
          have HE : Hid (decide (h = h') = false) := by show _ = _; rw [decide_eq_false_iff_not]; rintro rfl; exact ho rfl
          have DL := Lib.hid (decide_eq_true hl)
          have b1 : (h.boot != h'.boot) = false := by simp [hb]
          have b2 : (h.next != h'.next) = false := by simp [hn]
          have b3 : ((h.opn.length : Int) != h'.opn.length) = true := by simp; omega
          clear hl hb hn ho hel hel'
          go_enter Try.func41, Try.ntmps41
          go_wp2_with fail
          refine (HSL.out _ HG0.out).mono ?_
          rw [DL.out]
          rintro e w1 ⟨rfl, hbw1⟩
          (obtain ⟨cw1, fw1⟩ := bcell hbw1; have zw10 : w.heap.size < w1.heap.size := (by have := hbw1.size; (try simp at this); omega); have zw11 : w.heap.size + 1 < w1.heap.size := (by have := hbw1.size; (try simp at this); omega); have Gw1 := Lib.hid hbw1; clear hbw1)
          go_wp2
          go_ret
          exact ⟨ret_bool HE.out.symm, HG0.out.trans Gw1.out⟩
      · skip
        have HE : Hid (decide (h = h') = false) := by show _ = _; rw [decide_eq_false_iff_not]; rintro rfl; exact hn rfl
        have DL := Lib.hid (decide_eq_true hl)
        have b1 : (h.boot != h'.boot) = false := by simp [hb]
        have b2 : (h.next != h'.next) = true := by simp [hn]
        clear hl hb hn hel hel'
        go_enter Try.func41, Try.ntmps41
        go_wp2_with fail
        refine (HSL.out _ HG0.out).mono ?_
        rw [DL.out]
        rintro e w1 ⟨rfl, hbw1⟩
        (obtain ⟨cw1, fw1⟩ := bcell hbw1; have zw10 : w.heap.size < w1.heap.size := (by have := hbw1.size; (try simp at this); omega); have zw11 : w.heap.size + 1 < w1.heap.size := (by have := hbw1.size; (try simp at this); omega); have Gw1 := Lib.hid hbw1; clear hbw1)
        go_wp2
        go_ret
        exact ⟨ret_bool HE.out.symm, HG0.out.trans Gw1.out⟩
    · skip
      have HE : Hid (decide (h = h') = false) := by show _ = _; rw [decide_eq_false_iff_not]; rintro rfl; exact hb rfl
      have DL := Lib.hid (decide_eq_true hl)
      have b1 : (h.boot != h'.boot) = true := by simp [hb]
      clear hl hb hel hel'
      go_enter Try.func41, Try.ntmps41
      go_wp2_with fail
      refine (HSL.out _ HG0.out).mono ?_
      rw [DL.out]
      rintro e w1 ⟨rfl, hbw1⟩
      (obtain ⟨cw1, fw1⟩ := bcell hbw1; have zw10 : w.heap.size < w1.heap.size := (by have := hbw1.size; (try simp at this); omega); have zw11 : w.heap.size + 1 < w1.heap.size := (by have := hbw1.size; (try simp at this); omega); have Gw1 := Lib.hid hbw1; clear hbw1)
      go_wp2
      go_ret
      exact ⟨ret_bool HE.out.symm, HG0.out.trans Gw1.out⟩
  · skip
    have HE : Hid (decide (h = h') = false) := by show _ = _; rw [decide_eq_false_iff_not]; rintro rfl; exact hl rfl
    have DL := Lib.hid (decide_eq_false hl)
    clear hl hel hel'
    go_enter Try.func41, Try.ntmps41
    go_wp2_with fail
    refine (HSL.out _ HG0.out).mono ?_
    rw [DL.out]
    rintro e w1 ⟨rfl, hbw1⟩
    (obtain ⟨cw1, fw1⟩ := bcell hbw1; have zw10 : w.heap.size < w1.heap.size := (by have := hbw1.size; (try simp at this); omega); have zw11 : w.heap.size + 1 < w1.heap.size := (by have := hbw1.size; (try simp at this); omega); have Gw1 := Lib.hid hbw1; clear hbw1)
    go_wp2
    go_ret
    exact ⟨ret_bool HE.out.symm, HG0.out.trans Gw1.out⟩
end Go.Proofs.Ytgbhpghgohggcaa

/- Plain: what holds of a house of a world, and that it goes on to hold. -/
namespace Go.Proofs.Ytgbhpghgohggcaa
open Go.RowKit
/-- sums of one house behind what it did -/
def sumsOf (k : Int) (D : List Rd) (done : List Int) : Sm :=
  done.foldl (fun s d => match D.find? (isD d) with | some r => doP s (ofL r.parts k) | none => s) ⟨0, 0, 0, 0⟩
/-- numbers are unlike; each has its right parts -/
structure RegOk (G : Reg) (n : Int) : Prop where
  nd : (G.map (·.1)).Nodup
  ok : ∀ x ∈ G, 0 ≤ x.1 ∧ wrongE x.2 n = 0
/-- what is decided was begun -/
structure DecOk (G : Reg) (D : List Rd) : Prop where
  reg : ∀ r ∈ D, (r.deed, r.parts) ∈ G
  nd : (D.map (·.deed)).Nodup
structure HI (G : Reg) (D : List Rd) (k : Int) (h : Hs) : Prop where
  calm : Calm h
  reg : ∀ r ∈ h.ready, ∃ P, (r.deed, P) ∈ G ∧ r.parts = ofL P k ∧ r.parts ≠ []
  fits : ∀ r ∈ h.ready, fitsE h.sums.get r.parts = 0
  right : rightS h.sums = true
  done : ∀ d ∈ h.done, ∃ r ∈ D, r.deed = d ∧ ofL r.parts k ≠ []
  nodup : h.done.Nodup
  apart : ∀ r ∈ h.ready, r.deed ∉ h.done
  sums : h.sums = sumsOf k D h.done
  add : ∀ q : Int, 0 ≤ q → q < 4 → h.sums.get q = tot k q (D.filter fun r => decide (r.deed ∈ h.done))
  log : ∀ r ∈ h.log, okRec r = true
theorem reg_same {G : Reg} (h : (G.map (·.1)).Nodup) : ∀ {d : Int} {P Q : List Pt}, (d, P) ∈ G → (d, Q) ∈ G → P = Q := by
  induction G with
  | nil => intro d P Q h; simp at h
  | cons x G ih =>
    intro d P Q h1 h2
    rw [List.map_cons, List.nodup_cons] at h
    rcases List.mem_cons.1 h1 with e1 | h1 <;> rcases List.mem_cons.1 h2 with e2 | h2
    · rw [← e1] at e2; exact (Prod.mk.inj e2).2.symm
    · exact absurd (List.mem_map.2 ⟨_, h2, by rw [← e1]⟩) h.1
    · exact absurd (List.mem_map.2 ⟨_, h1, by rw [← e2]⟩) h.1
    · exact ih h.2 h1 h2
theorem find_dec {D : List Rd} (h : (D.map (·.deed)).Nodup) {r : Rd} (hr : r ∈ D) : D.find? (isD r.deed) = some r := by
  induction D with
  | nil => simp at hr
  | cons x D ih =>
    rw [List.map_cons, List.nodup_cons] at h
    rcases List.mem_cons.1 hr with rfl | hr
    · rw [List.find?_cons_of_pos (by simp [isD])]
    · rw [List.find?_cons_of_neg (by simp [isD]; exact fun e => h.1 (List.mem_map.2 ⟨r, hr, e.symm⟩))]
      exact ih h.2 hr
theorem tot_done {k q : Int} {r : Rd} : ∀ {D : List Rd} {done : List Int}, (D.map (·.deed)).Nodup → r ∈ D → r.deed ∉ done →
    tot k q (D.filter fun x => decide (x.deed ∈ done ++ [r.deed])) = tot k q (D.filter fun x => decide (x.deed ∈ done)) + amt k q r.parts
  | [], done, _, h, _ => by simp at h
  | x :: D, done, hn, h, hd => by
    rw [List.map_cons, List.nodup_cons] at hn
    rcases List.mem_cons.1 h with rfl | h
    · have e : (D.filter fun x => decide (x.deed ∈ done ++ [r.deed])) = D.filter fun x => decide (x.deed ∈ done) := by
        refine List.filter_congr fun y hy => ?_
        have hne : y.deed ≠ r.deed := fun e => hn.1 (List.mem_map.2 ⟨y, hy, e⟩)
        simp [hne]
      rw [List.filter_cons_of_pos (by simp), List.filter_cons_of_neg (by simpa using hd), tot, e]; omega
    · have ih := tot_done (k := k) (q := q) hn.2 h hd
      have hne : x.deed ≠ r.deed := fun e => hn.1 (List.mem_map.2 ⟨r, h, e.symm⟩)
      by_cases hx : x.deed ∈ done
      · rw [List.filter_cons_of_pos (by simp [hx]), List.filter_cons_of_pos (by simp [hx]), tot, tot, ih]; omega
      · rw [List.filter_cons_of_neg (by simp [hx, hne]), List.filter_cons_of_neg (by simp [hx]), ih]
theorem mem_erase {l : List Rd} {d : Int} (hn : (l.map (·.deed)).Nodup) {r : Rd} (h : r ∈ l.eraseP (isD d)) : r ∈ l ∧ r.deed ≠ d := by
  refine ⟨List.eraseP_sublist.subset h, fun e => ?_⟩
  have := ready_erase (d := d) hn
  unfold readyE at this
  rw [List.any_eq_false] at this
  exact this r h (by simp [isD, e])
theorem note_sums {h : Hs} (hm : Made h) (r : Rc) : (noteE h r).sums = (refStep h r).sums := by rw [note_step hm]
/-- a house behind a message that a world has -/
theorem HI.hear {G : Reg} {D : List Rd} {k : Int} {h : Hs} {n : Int} (hi : HI G D k h) (hg : RegOk G n) (hd : DecOk G D) {m : Ms} (hm : RightM m) (hk : m.house = k)
    (h1 : m.kind = 1 → ∃ P, (m.deed, P) ∈ G ∧ m.parts = ofL P k ∧ m.parts ≠ []) (h4 : m.kind = 4 → ∃ r ∈ D, r.deed = m.deed ∧ ofL r.parts k ≠ []) : HI G D k (hearH h m) := by
  have hc := calm_hear hi.calm hm
  obtain ⟨kind, d, house, ps⟩ := m
  simp only at hk
  subst hk
  have hmade := hi.calm.made
  by_cases k1 : kind = 1
  · subst k1
    by_cases hv : voteE h d ps = 0 ∧ readyE h.ready d = false
    · have e : hearH h ⟨1, d, house, ps⟩ = noteE h ⟨1, d, ps⟩ := by unfold hearH; rw [if_pos rfl, if_pos hv]
      rw [e] at hc ⊢
      obtain ⟨P, hP, hps, hne⟩ := h1 rfl
      simp only at hP hps hne
      have hnd : d ∉ h.done := by
        intro hx
        have := hv.1
        unfold voteE at this
        rw [if_pos hx] at this
        cases this
      have hfit : fitsE h.sums.get ps = 0 := by
        have := hv.1
        unfold voteE at this
        rw [if_neg hnd, if_neg (by simp [hv.2])] at this
        split at this
        · cases this
        · exact this
      obtain ⟨e1, e2⟩ := note1 hmade ps hv.2
      have e3 : (noteE h ⟨1, d, ps⟩).sums = h.sums := by rw [note_sums hmade, step_sums, find_unready hv.2]
      refine ⟨hc, ?_, ?_, by rw [e3]; exact hi.right, by rw [e2]; exact hi.done, by rw [e2]; exact hi.nodup, ?_, by rw [e3, e2]; exact hi.sums, by rw [e3, e2]; exact hi.add, ?_⟩
      · rw [e1]
        intro r hr
        rcases List.mem_append.1 hr with hr | hr
        · exact hi.reg r hr
        · obtain rfl := List.mem_singleton.1 hr
          exact ⟨P, hP, hps, hne⟩
      · rw [e1, e3]
        intro r hr
        rcases List.mem_append.1 hr with hr | hr
        · exact hi.fits r hr
        · obtain rfl := List.mem_singleton.1 hr
          exact hfit
      · rw [e1, e2]
        intro r hr
        rcases List.mem_append.1 hr with hr | hr
        · exact hi.apart r hr
        · obtain rfl := List.mem_singleton.1 hr
          exact hnd
      · rw [note_log]
        intro r hr
        rcases List.mem_append.1 hr with hr | hr
        · exact hi.log r hr
        · obtain rfl := List.mem_singleton.1 hr
          have hp := hm.parts rfl
          have hdd := hm.deed
          simp only at hp hdd
          unfold okRec
          rw [decide_eq_true_eq]
          exact ⟨hdd.1, fun _ => hp.1, fun _ => hne⟩
    · rw [show hearH h ⟨1, d, house, ps⟩ = h by unfold hearH; rw [if_pos rfl, if_neg hv]]
      exact hi
  have hdd := hm.deed
  simp only at hdd
  have hlog : ∀ kd : Int, kd ≠ 1 → ∀ r ∈ (noteE h ⟨kd, d, []⟩).log, okRec r = true := by
    intro kd hkd
    rw [note_log]
    intro r hr
    rcases List.mem_append.1 hr with hr | hr
    · exact hi.log r hr
    · obtain rfl := List.mem_singleton.1 hr
      unfold okRec
      rw [decide_eq_true_eq]
      exact ⟨hdd.1, fun h => absurd rfl h, fun h => absurd h hkd⟩
  by_cases k4 : kind = 4
  · subst k4
    by_cases hr : readyE h.ready d = true
    · have e : hearH h ⟨4, d, house, ps⟩ = noteE h ⟨2, d, []⟩ := by unfold hearH; simp [hr]
      rw [e] at hc ⊢
      obtain ⟨e1, e2⟩ := note2 hmade hr
      obtain ⟨x, hx⟩ := find_ready hr
      have hxm := List.mem_of_find?_eq_some hx
      have hxd : x.deed = d := find_isD hx
      obtain ⟨P, hP, hxp, hxne⟩ := hi.reg x hxm
      obtain ⟨r, hrD, hrd, hrne⟩ := h4 rfl
      simp only at hrd
      have hrG := hd.reg r hrD
      rw [hrd, ← hxd] at hrG
      obtain rfl : P = r.parts := reg_same hg.nd hP hrG
      have hw := (hg.ok _ hP).2
      simp only at hw
      have e3 : (noteE h ⟨2, d, []⟩).sums = doP h.sums (ofL r.parts house) := by
        rw [note_sums hmade, step_sums, hx]
        simp [hxp]
      have hfit := hi.fits x hxm
      rw [hxp] at hfit
      have hget := (fits_sum hw hi.right house).1 hfit
      have hsum : ∀ q : Int, 0 ≤ q → q < 4 → (doP h.sums (ofL r.parts house)).get q = h.sums.get q + amt house q r.parts := fun q a b => doP_sum hw hi.right house a b
      have hnd : d ∉ h.done := by rw [← hxd]; exact hi.apart x hxm
      refine ⟨hc, ?_, ?_, ?_, ?_, ?_, ?_, ?_, ?_, hlog 2 (by decide)⟩
      · rw [e1]
        exact fun y hy => hi.reg y (mem_erase hi.calm.fine.nodup hy).1
      · rw [e1, e3]
        intro y hy
        obtain ⟨hy1, hy2⟩ := mem_erase hi.calm.fine.nodup hy
        rw [← hi.fits y hy1]
        obtain ⟨Q, hQ, hyp, -⟩ := hi.reg y hy1
        have hwQ := (hg.ok _ hQ).2
        simp only at hwQ
        refine fits_congr fun p hp => ?_
        rw [hyp] at hp
        have hpk := ofL_ok hwQ house p hp
        rw [hsum p.k hpk.1 hpk.2]
        have hz : has house p.k r.parts = false := by
          cases hh : has house p.k r.parts with
          | false => rfl
          | true =>
            have k1 := who_deed hi.calm.apart x hxm (by rw [hxp]; exact has_keys hh)
            have k2 := who_deed (key := p.k) hi.calm.apart y hy1 (by rw [hyp]; exact List.mem_map.2 ⟨p, hp, rfl⟩)
            exact absurd (by rw [← k2, k1, hxd]) hy2
        rw [amt_none hz]; omega
      · rw [e3]
        exact rightS_get.2 fun q a b => by rw [hsum q a b]; exact hget q a b
      · rw [e2]
        intro y hy
        rcases List.mem_append.1 hy with hy | hy
        · exact hi.done y hy
        · obtain rfl := List.mem_singleton.1 hy
          exact ⟨r, hrD, hrd, hrne⟩
      · rw [e2, List.nodup_append]
        refine ⟨hi.nodup, by simp, fun a ha b hb e => ?_⟩
        rw [e, List.mem_singleton.1 hb] at ha
        exact hnd ha
      · rw [e1, e2]
        intro y hy
        obtain ⟨hy1, hy2⟩ := mem_erase hi.calm.fine.nodup hy
        simp only [List.mem_append, List.mem_singleton, not_or]
        exact ⟨hi.apart y hy1, hy2⟩
      · rw [e3, e2]
        unfold sumsOf
        rw [List.foldl_append]
        show _ = (match D.find? (isD d) with | some r => doP (sumsOf house D h.done) (ofL r.parts house) | none => _)
        rw [← hrd, find_dec hd.nd hrD]
        simp only
        rw [← hi.sums]
      · intro q a b
        rw [e3, e2, hsum q a b, hi.add q a b]
        have := tot_done (k := house) (q := q) hd.nd hrD (done := h.done) (by rw [hrd]; exact hnd)
        rw [hrd] at this
        rw [this]
    · rw [show hearH h ⟨4, d, house, ps⟩ = h by unfold hearH; simp [hr]]
      exact hi
  by_cases k5 : kind = 5
  · subst k5
    by_cases hr : readyE h.ready d = true
    · have e : hearH h ⟨5, d, house, ps⟩ = noteE h ⟨3, d, []⟩ := by unfold hearH; simp [hr]
      rw [e] at hc ⊢
      obtain ⟨e1, e2⟩ := note3 hmade hr
      obtain ⟨x, hx⟩ := find_ready hr
      have e3 : (noteE h ⟨3, d, []⟩).sums = h.sums := by rw [note_sums hmade, step_sums, hx]; simp
      have hsub : ∀ y ∈ h.ready.eraseP (isD d), y ∈ h.ready := fun y hy => List.eraseP_sublist.subset hy
      exact ⟨hc, by rw [e1]; exact fun y hy => hi.reg y (hsub y hy), by rw [e1, e3]; exact fun y hy => hi.fits y (hsub y hy), by rw [e3]; exact hi.right, by rw [e2]; exact hi.done, by rw [e2]; exact hi.nodup,
        by rw [e1, e2]; exact fun y hy => hi.apart y (hsub y hy), by rw [e3, e2]; exact hi.sums, by rw [e3, e2]; exact hi.add, hlog 3 (by decide)⟩
    · rw [show hearH h ⟨5, d, house, ps⟩ = h by unfold hearH; simp [hr]]
      exact hi
  · rw [show hearH h ⟨kind, d, house, ps⟩ = h by unfold hearH; simp [k1, k4, k5]]
    exact hi
/-- what more is begun or decided leaves a house as it is -/
theorem HI.more {G G' : Reg} {D : List Rd} {k : Int} {h : Hs} (hi : HI G D k h) (hG : ∀ x ∈ G, x ∈ G') : HI G' D k h :=
  ⟨hi.calm, fun r hr => by obtain ⟨P, a, b⟩ := hi.reg r hr; exact ⟨P, hG _ a, b⟩, hi.fits, hi.right, hi.done, hi.nodup, hi.apart, hi.sums, hi.add, hi.log⟩
theorem sumsOf_more {k : Int} {D : List Rd} {r : Rd} : ∀ {done : List Int} (s : Sm), (∀ d ∈ done, ∃ r ∈ D, r.deed = d) →
    done.foldl (fun s d => match (D ++ [r]).find? (isD d) with | some r => doP s (ofL r.parts k) | none => s) s = done.foldl (fun s d => match D.find? (isD d) with | some r => doP s (ofL r.parts k) | none => s) s
  | [], s, _ => rfl
  | d :: done, s, h => by
    obtain ⟨x, hx, hd⟩ := h d List.mem_cons_self
    have : (D.find? (isD d)).isSome = true := by rw [List.find?_isSome]; exact ⟨x, hx, by simp [isD, hd]⟩
    obtain ⟨y, hy⟩ := Option.isSome_iff_exists.1 this
    rw [List.foldl_cons, List.foldl_cons, List.find?_append, hy]
    exact sumsOf_more _ fun e he => h e (List.mem_cons_of_mem _ he)
theorem HI.dec {G : Reg} {D : List Rd} {k : Int} {h : Hs} {r : Rd} (hi : HI G D k h) (hr : r.deed ∉ h.done) : HI G (D ++ [r]) k h := by
  refine ⟨hi.calm, hi.reg, hi.fits, hi.right, fun d hd => ?_, hi.nodup, hi.apart, ?_, fun q a b => ?_, hi.log⟩
  · obtain ⟨x, hx, e⟩ := hi.done d hd
    exact ⟨x, List.mem_append_left _ hx, e⟩
  · unfold sumsOf
    rw [sumsOf_more _ fun d hd => by obtain ⟨x, hx, e, -⟩ := hi.done d hd; exact ⟨x, hx, e⟩]
    exact hi.sums
  · rw [List.filter_append, List.filter_cons_of_neg (by simpa using hr), List.filter_nil, List.append_nil]
    exact hi.add q a b
theorem HI.zero (G : Reg) (D : List Rd) (k : Int) : HI G D k hs0 := by
  refine ⟨calm_zero, by intro r hr; simp [hs0, houseR] at hr, by intro r hr; simp [hs0, houseR] at hr, by decide, by intro r hr; simp [hs0, houseR] at hr, by simp [hs0, houseR], by intro r hr; simp [hs0, houseR] at hr, rfl, ?_, by intro r hr; simp [hs0, houseR] at hr⟩
  intro q a b
  have : (D.filter fun r => decide (r.deed ∈ hs0.done)) = [] := by
    rw [List.filter_eq_nil_iff]; intro x _; simp [hs0, houseR]
  rw [this]
  have hq : q = 0 ∨ q = 1 ∨ q = 2 ∨ q = 3 := by omega
  rcases hq with rfl | rfl | rfl | rfl <;> rfl
end Go.Proofs.Ytgbhpghgohggcaa

/- Plain: what holds of a world's head and houses together, and of messages that are on their way. -/
namespace Go.Proofs.Ytgbhpghgohggcaa
open Go.RowKit
/-- a house is ready for a deed -/
def rdy (hs : List Hs) (k d : Int) : Prop := ∃ h, hs[k.toNat]? = some h ∧ readyE h.ready d = true
/-- a house did a deed -/
def dne (hs : List Hs) (k d : Int) : Prop := ∃ h, hs[k.toNat]? = some h ∧ d ∈ h.done
structure Core (n : Nat) (G : Reg) (hd : Hd) (hs : List Hs) : Prop where
  len : hs.length = n
  n3 : 1 ≤ n ∧ n ≤ 3
  reg : RegOk G n
  old : ∀ x ∈ G, x.1 < 64 * hd.boot + hd.next
  boot : 1 ≤ hd.boot ∧ hd.boot ≤ 20
  next : 0 ≤ hd.next ∧ hd.next ≤ 64
  lboot : (headR hd.log).boot = hd.boot
  lopn : ∀ d P, (∃ o ∈ (headR hd.log).opn, o.deed = d ∧ o.parts = P) ↔ ∃ o ∈ hd.opn, o.deed = d ∧ o.parts = P ∧ o.dec = true
  lnd : ((headR hd.log).opn.map (·.deed)).Nodup
  ldec : ∀ o ∈ (headR hd.log).opn, o.dec = true ∧ o.heard = []
  ond : (hd.opn.map (·.deed)).Nodup
  oreg : ∀ o ∈ hd.opn, (o.deed, o.parts) ∈ G
  olen : hd.opn.length ≤ 12
  odec : ∀ o ∈ hd.opn, (o.dec = true ↔ ∃ r ∈ decidedR hd.log, r.deed = o.deed)
  onew : ∀ o ∈ hd.opn, o.heard.Nodup ∧ (∀ k ∈ o.heard, k ∈ housesE o.parts) ∧ o.heard.length < (housesE o.parts).length
  ordy : ∀ o ∈ hd.opn, o.dec = false → ∀ k ∈ o.heard, rdy hs k o.deed
  odne : ∀ o ∈ hd.opn, o.dec = true → ∀ k ∈ o.heard, dne hs k o.deed
  dec : DecOk G (decidedR hd.log)
  held : ∀ r ∈ decidedR hd.log, ∀ k ∈ housesE r.parts, rdy hs k r.deed ∨ dne hs k r.deed
  ends : ∀ r ∈ decidedR hd.log, (∀ o ∈ hd.opn, o.deed ≠ r.deed) → ∀ k ∈ housesE r.parts, dne hs k r.deed
  house : ∀ (k : Nat) h, hs[k]? = some h → HI G (decidedR hd.log) k h
  ord : (decidedR hd.log).Pairwise fun r1 r2 => ∀ k q, has k q r1.parts = true → has k q r2.parts = true → dne hs k r1.deed
  pre : ∀ A B, decidedR hd.log = A ++ B → ∀ k q, 0 ≤ tot k q A ∧ tot k q A ≤ 1048576
/-- a message that is on its way -/
structure MOk (n : Nat) (G : Reg) (hd : Hd) (hs : List Hs) (m : Ms) : Prop where
  right : RightM m
  here : m.house < n
  reg : ∃ P, (m.deed, P) ∈ G ∧ m.house ∈ housesE P ∧ (m.kind = 1 → m.parts = ofL P m.house)
  yes : m.kind = 2 → ∀ o ∈ hd.opn, o.deed = m.deed → o.dec = false → rdy hs m.house m.deed
  commit : m.kind = 4 → ∃ r ∈ decidedR hd.log, r.deed = m.deed
  abort : m.kind = 5 → ((∀ r ∈ decidedR hd.log, r.deed ≠ m.deed) ∧ ∀ o ∈ hd.opn, o.deed ≠ m.deed) ∨ dne hs m.house m.deed
  ack : m.kind = 6 → dne hs m.house m.deed
theorem set_get {hs : List Hs} {k : Int} {h h' : Hs} (hk : hs[k.toNat]? = some h) (j : Int) : (hs.set k.toNat h')[j.toNat]? = if j.toNat = k.toNat then some h' else hs[j.toNat]? := by
  have hl := (List.getElem?_eq_some_iff.1 hk).1
  by_cases e : j.toNat = k.toNat
  · rw [if_pos e, e, List.getElem?_set_self hl]
  · rw [if_neg e, List.getElem?_set_ne (fun e' => e e'.symm)]
theorem rdy_set {hs : List Hs} {k : Int} {h h' : Hs} (hk : hs[k.toNat]? = some h) {j d : Int} (hr : rdy hs j d) (hh : j.toNat = k.toNat → readyE h.ready d = true → readyE h'.ready d = true) : rdy (hs.set k.toNat h') j d := by
  obtain ⟨x, hx, hd⟩ := hr
  unfold rdy
  rw [set_get hk]
  by_cases e : j.toNat = k.toNat
  · rw [if_pos e]
    rw [e, hk] at hx
    obtain rfl := Option.some.inj hx
    exact ⟨_, rfl, hh e hd⟩
  · rw [if_neg e]; exact ⟨x, hx, hd⟩
theorem dne_set {hs : List Hs} {k : Int} {h h' : Hs} (hk : hs[k.toNat]? = some h) (hh : ∀ d ∈ h.done, d ∈ h'.done) {j d : Int} (hr : dne hs j d) : dne (hs.set k.toNat h') j d := by
  obtain ⟨x, hx, hd⟩ := hr
  unfold dne
  rw [set_get hk]
  by_cases e : j.toNat = k.toNat
  · rw [if_pos e]
    rw [e, hk] at hx
    obtain rfl := Option.some.inj hx
    exact ⟨_, rfl, hh _ hd⟩
  · rw [if_neg e]; exact ⟨x, hx, hd⟩
theorem Core.house' {n : Nat} {G : Reg} {hd : Hd} {hs : List Hs} (c : Core n G hd hs) {k : Int} {h : Hs} (h0 : 0 ≤ k) (hk : hs[k.toNat]? = some h) : HI G (decidedR hd.log) k h := by
  have := c.house k.toNat h hk
  rwa [show ((k.toNat : Nat) : Int) = k by omega] at this
/-- a house that is ready for a deed did not do it, and has its parts -/
theorem Core.ready_parts {n : Nat} {G : Reg} {hd : Hd} {hs : List Hs} (c : Core n G hd hs) {k d : Int} (h0 : 0 ≤ k) (h : rdy hs k d) {P : List Pt} (hP : (d, P) ∈ G) :
    ∃ h, hs[k.toNat]? = some h ∧ HI G (decidedR hd.log) k h ∧ (⟨d, ofL P k⟩ : Rd) ∈ h.ready ∧ d ∉ h.done := by
  obtain ⟨x, hx, hr⟩ := h
  have hi := c.house' h0 hx
  obtain ⟨y, hy⟩ := find_ready hr
  have hym := List.mem_of_find?_eq_some hy
  have hyd : y.deed = d := find_isD hy
  obtain ⟨Q, hQ, hp, -⟩ := hi.reg y hym
  rw [hyd] at hQ
  obtain rfl := reg_same c.reg.nd hQ hP
  refine ⟨x, hx, hi, ?_, by rw [← hyd]; exact hi.apart y hym⟩
  rw [← hyd, ← hp]; exact hym
theorem Core.not_both {n : Nat} {G : Reg} {hd : Hd} {hs : List Hs} (c : Core n G hd hs) {k d : Int} (h0 : 0 ≤ k) (h : rdy hs k d) : ¬ dne hs k d := by
  rintro ⟨y, hy, hyd⟩
  obtain ⟨x, hx, hr⟩ := h
  rw [hx] at hy
  obtain rfl := Option.some.inj hy
  have hi := c.house' h0 hx
  obtain ⟨z, hz⟩ := find_ready hr
  have := hi.apart z (List.mem_of_find?_eq_some hz)
  rw [find_isD hz] at this
  exact this hyd
theorem Core.done_dec {n : Nat} {G : Reg} {hd : Hd} {hs : List Hs} (c : Core n G hd hs) {k d : Int} (h0 : 0 ≤ k) (h : dne hs k d) : ∃ r ∈ decidedR hd.log, r.deed = d := by
  obtain ⟨x, hx, hr⟩ := h
  obtain ⟨r, a, b, -⟩ := (c.house' h0 hx).done d hr
  exact ⟨r, a, b⟩
/-- a house hears a message -/
theorem Core.hear {n : Nat} {G : Reg} {hd : Hd} {hs : List Hs} (c : Core n G hd hs) {m : Ms} (hm : MOk n G hd hs m) {h : Hs} (hk : hs[m.house.toNat]? = some h) :
    Core n G hd (hs.set m.house.toNat (hearH h m)) ∧ (∀ x, MOk n G hd hs x → MOk n G hd (hs.set m.house.toNat (hearH h m)) x) ∧ ∀ x ∈ hearM h m.house m, MOk n G hd (hs.set m.house.toNat (hearH h m)) x := by
  have hk0 := hm.right.house.1
  have hi := c.house' hk0 hk
  obtain ⟨P, hP, hPk, hPp⟩ := hm.reg
  have hPne := (houses_mem.1 hPk).2
  have hmade := hi.calm.made
  have hi' : HI G (decidedR hd.log) m.house (hearH h m) := by
    refine hi.hear c.reg c.dec hm.right rfl (fun h1 => ⟨P, hP, hPp h1, by rw [hPp h1]; exact hPne⟩) fun h4 => ?_
    obtain ⟨r, hr, hrd⟩ := hm.commit h4
    have := c.dec.reg r hr
    rw [hrd] at this
    obtain rfl := reg_same c.reg.nd this hP
    exact ⟨r, hr, hrd, hPne⟩
  have hfine := hi.calm.fine
  -- what was done stays done
  have hdone : ∀ d ∈ h.done, d ∈ (hearH h m).done := by
    intro d hd'
    unfold hearH
    split
    · split
      · rename_i hv
        rw [(note1 hmade _ hv.2).2]; exact hd'
      · exact hd'
    · split
      · split
        · rename_i hr
          rw [(note2 hmade hr).2]; exact List.mem_append_left _ hd'
        · exact hd'
      · split
        · split
          · rename_i hr
            rw [(note3 hmade hr).2]; exact hd'
          · exact hd'
        · exact hd'
  -- who was ready is ready, or did it, or was told not to
  have hready : ∀ d, readyE h.ready d = true → readyE (hearH h m).ready d = true ∨ (d = m.deed ∧ m.kind = 4 ∧ d ∈ (hearH h m).done) ∨ (d = m.deed ∧ m.kind = 5) := by
    intro d hr
    unfold hearH
    split
    · split
      · rename_i hv
        left
        rw [(note1 hmade _ hv.2).1]
        unfold readyE at hr ⊢
        rw [List.any_append, hr]; rfl
      · exact .inl hr
    · split
      · rename_i h4
        split
        · rename_i hr2
          by_cases e : m.deed = d
          · right; left
            refine ⟨e.symm, h4, ?_⟩
            rw [(note2 hmade hr2).2, ← e]; simp
          · left
            rw [(note2 hmade hr2).1]; exact ready_other hr e
        · exact .inl hr
      · split
        · rename_i h5
          split
          · rename_i hr2
            by_cases e : m.deed = d
            · exact .inr (.inr ⟨e.symm, h5⟩)
            · left
              rw [(note3 hmade hr2).1]; exact ready_other hr e
          · exact .inl hr
        · exact .inl hr
  have hyes : m.kind = 1 → voteE h m.deed m.parts = 0 → readyE (hearH h m).ready m.deed = true := by
    intro h1 hv
    unfold hearH
    rw [if_pos h1]
    split
    · rename_i hv2
      rw [(note1 hmade _ hv2.2).1]
      simp [readyE, isD]
    · rename_i hv2
      cases hr : readyE h.ready m.deed with
      | true => rfl
      | false => exact absurd ⟨hv, hr⟩ hv2
  obtain ⟨h', hh'⟩ : ∃ x, x = hearH h m := ⟨_, rfl⟩
  rw [← hh'] at hi' hdone hready hyes ⊢
  have D1 : ∀ {j d : Int}, dne hs j d → dne (hs.set m.house.toNat h') j d := fun hx => dne_set hk hdone hx
  -- a deed that is open and not decided
  have hund : ∀ o ∈ hd.opn, o.dec = false → m.kind = 4 → o.deed ≠ m.deed := by
    intro o ho hod h4 e
    obtain ⟨r, hr, hrd⟩ := hm.commit h4
    have := (c.odec o ho).2 ⟨r, hr, by rw [hrd, e]⟩
    rw [hod] at this; cases this
  have hab : m.kind = 5 → readyE h.ready m.deed = true → (∀ r ∈ decidedR hd.log, r.deed ≠ m.deed) ∧ ∀ o ∈ hd.opn, o.deed ≠ m.deed := by
    intro h5 hr
    rcases hm.abort h5 with hx | hx
    · exact hx
    · exact absurd hx (c.not_both hk0 ⟨h, hk, hr⟩)
  have R1 : ∀ {j d : Int}, rdy hs j d → (∃ r ∈ decidedR hd.log, r.deed = d) → 0 ≤ j → rdy (hs.set m.house.toNat h') j d ∨ dne (hs.set m.house.toNat h') j d := by
    intro j d hr hdD hj
    by_cases e : j.toNat = m.house.toNat
    · obtain rfl : j = m.house := by omega
      obtain ⟨x, hx, hxr⟩ := hr
      rw [hk] at hx
      obtain rfl := Option.some.inj hx
      rcases hready d hxr with h1 | ⟨h1, h2, h3⟩ | ⟨h1, h2⟩
      · exact .inl (rdy_set hk ⟨h, hk, hxr⟩ fun _ _ => h1)
      · right
        refine ⟨h', ?_, h3⟩
        rw [set_get hk, if_pos rfl]
      · subst h1
        obtain ⟨r, hrD, hrd⟩ := hdD
        exact absurd hrd ((hab h2 hxr).1 r hrD)
    · exact .inl (rdy_set hk hr fun e' => absurd e' e)
  have R2 : ∀ {j d : Int}, rdy hs j d → (∃ o ∈ hd.opn, o.deed = d ∧ o.dec = false) → rdy (hs.set m.house.toNat h') j d := by
    intro j d hr ⟨o, ho, hod, hoc⟩
    refine rdy_set hk hr fun _ hxr => ?_
    rcases hready d hxr with h1 | ⟨h1, h2, -⟩ | ⟨h1, h2⟩
    · exact h1
    · exact absurd (hod.trans h1) (hund o ho hoc h2)
    · subst h1
      exact absurd hod ((hab h2 hxr).2 o ho)
  have hc' : Core n G hd (hs.set m.house.toNat h') := {
    len := by rw [List.length_set]; exact c.len
    n3 := c.n3
    reg := c.reg
    old := c.old
    boot := c.boot
    next := c.next
    lboot := c.lboot
    lopn := c.lopn
    lnd := c.lnd
    ldec := c.ldec
    ond := c.ond
    oreg := c.oreg
    olen := c.olen
    odec := c.odec
    onew := c.onew
    ordy := fun o ho hoc k hk' => R2 (c.ordy o ho hoc k hk') ⟨o, ho, rfl, hoc⟩
    odne := fun o ho hoc k hk' => D1 (c.odne o ho hoc k hk')
    dec := c.dec
    held := fun r hr k hk' => by
      rcases c.held r hr k hk' with hx | hx
      · exact R1 hx ⟨r, hr, rfl⟩ (by have := (houses_mem.1 hk').1; omega)
      · exact .inr (D1 hx)
    ends := fun r hr ho k hk' => D1 (c.ends r hr ho k hk')
    house := fun k x hx => by
      by_cases e : k = m.house.toNat
      · subst e
        rw [List.getElem?_set_self (List.getElem?_eq_some_iff.1 hk).1] at hx
        obtain rfl := Option.some.inj hx
        rwa [show ((m.house.toNat : Nat) : Int) = m.house by omega]
      · rw [List.getElem?_set_ne (fun e' => e e'.symm)] at hx
        exact c.house k x hx
    ord := c.ord.imp fun hx k q h1 h2 => D1 (hx k q h1 h2)
    pre := c.pre }
  have hM : ∀ x, MOk n G hd hs x → MOk n G hd (hs.set m.house.toNat h') x := fun x hx => {
    right := hx.right
    here := hx.here
    reg := hx.reg
    yes := fun h2 o ho hod hoc => R2 (hx.yes h2 o ho hod hoc) ⟨o, ho, hod, hoc⟩
    commit := hx.commit
    abort := fun h5 => by
      rcases hx.abort h5 with hy | hy
      · exact .inl hy
      · exact .inr (D1 hy)
    ack := fun h6 => D1 (hx.ack h6) }
  refine ⟨hc', hM, ?_⟩
  have hget : (hs.set m.house.toNat h')[m.house.toNat]? = some h' := by rw [set_get hk, if_pos rfl]
  have hR : ∀ kd : Int, 1 < kd → kd ≤ 7 → RightM ⟨kd, m.deed, m.house, []⟩ := fun kd a b => ⟨⟨by show 1 ≤ kd; omega, b⟩, hm.right.deed, hm.right.house, fun _ => rfl, fun e => absurd (show kd = 1 from e) (by omega)⟩
  intro x hx
  unfold hearM at hx
  split at hx
  · rename_i h1
    split at hx
    · simp at hx
    · split at hx
      · rename_i hv
        obtain rfl := List.mem_singleton.1 hx
        exact ⟨hR 2 (by omega) (by omega), hm.here, ⟨P, hP, hPk, (fun e => by cases e)⟩, fun _ _ _ _ _ => ⟨h', hget, hyes h1 hv⟩, (fun e => by cases e), (fun e => by cases e), (fun e => by cases e)⟩
      · obtain rfl := List.mem_singleton.1 hx
        exact ⟨hR 3 (by omega) (by omega), hm.here, ⟨P, hP, hPk, (fun e => by cases e)⟩, (fun e => by cases e), (fun e => by cases e), (fun e => by cases e), (fun e => by cases e)⟩
  · split at hx
    · rw [← hh'] at hx
      split at hx
      · rename_i hd6
        obtain rfl := List.mem_singleton.1 hx
        exact ⟨hR 6 (by omega) (by omega), hm.here, ⟨P, hP, hPk, (fun e => by cases e)⟩, (fun e => by cases e), (fun e => by cases e), (fun e => by cases e), fun _ => ⟨h', hget, hd6⟩⟩
      · simp at hx
    · simp at hx
end Go.Proofs.Ytgbhpghgohggcaa

/- Plain: the head behind a message, and what holds then. -/
namespace Go.Proofs.Ytgbhpghgohggcaa
open Go.RowKit
theorem hearL_none {m : Ms} : ∀ {l : List Opn}, hearL m l = none → ∀ o ∈ l, o.deed ≠ m.deed
  | [], _ => by simp
  | o :: l, h => by
    unfold hearL at h
    split at h
    · cases h
    · rename_i hne
      intro x hx
      rcases List.mem_cons.1 hx with rfl | hx
      · exact hne
      · exact hearL_none (by simpa using h) x hx
theorem hearL_some {m : Ms} : ∀ {l : List Opn} {x : List Opn × List Rc × List Ms}, hearL m l = some x → ∃ A o B, l = A ++ o :: B ∧ (∀ y ∈ A, y.deed ≠ m.deed) ∧ o.deed = m.deed ∧ x = (A ++ (hearO o m).1 ++ B, (hearO o m).2)
  | [], x, h => by cases h
  | o :: l, x, h => by
    unfold hearL at h
    split at h
    · rename_i he
      obtain rfl := Option.some.inj h
      exact ⟨[], o, l, rfl, by simp, he, rfl⟩
    · rename_i hne
      cases hl : hearL m l with
      | none => rw [hl] at h; cases h
      | some y =>
        rw [hl] at h
        obtain ⟨A, p, B, e1, e2, e3, e4⟩ := hearL_some hl
        refine ⟨o :: A, p, B, by rw [e1]; rfl, ?_, e3, ?_⟩
        · intro z hz
          rcases List.mem_cons.1 hz with rfl | hz
          · exact hne
          · exact e2 z hz
        · simp only [Option.map_some, Option.some.injEq] at h
          rw [← h, e4]
          simp
/-- so many unlike ones of as many: all of them -/
theorem all_in : ∀ {a b : List Int}, a.Nodup → (∀ k ∈ a, k ∈ b) → b.length ≤ a.length → ∀ k ∈ b, k ∈ a
  | [], b, _, _, hl => by
    obtain rfl : b = [] := List.eq_nil_of_length_eq_zero (by simpa using hl)
    intro k hk; simp at hk
  | x :: a, b, hn, hs, hl => by
    rw [List.nodup_cons] at hn
    have hx := hs x List.mem_cons_self
    have ih := all_in (a := a) (b := b.erase x) hn.2 (fun k hk => (List.mem_erase_of_ne (fun e => hn.1 (by rw [← e]; exact hk))).2 (hs k (List.mem_cons_of_mem _ hk))) (by rw [List.length_erase_of_mem hx]; simp at hl; omega)
    intro k hk
    by_cases e : k = x
    · rw [e]; exact List.mem_cons_self
    · exact List.mem_cons_of_mem _ (ih k ((List.mem_erase_of_ne e).2 hk))
theorem len_le : ∀ {a b : List Int}, a.Nodup → (∀ k ∈ a, k ∈ b) → a.length ≤ b.length
  | [], _, _, _ => Nat.zero_le _
  | x :: a, b, hn, hs => by
    rw [List.nodup_cons] at hn
    have hx := hs x List.mem_cons_self
    have ih := len_le (a := a) (b := b.erase x) hn.2 fun k hk => (List.mem_erase_of_ne (fun e => hn.1 (by rw [← e]; exact hk))).2 (hs k (List.mem_cons_of_mem _ hk))
    rw [List.length_erase_of_mem hx] at ih
    have := List.length_pos_of_mem hx
    simp only [List.length_cons]
    omega
theorem open_deed {A B : List Opn} {o x : Opn} (hn : ((A ++ o :: B).map (·.deed)).Nodup) (hx : x ∈ A ++ B) : x.deed ≠ o.deed := by
  rw [List.map_append, List.map_cons, List.nodup_append] at hn
  obtain ⟨-, h2, h3⟩ := hn
  rw [List.nodup_cons] at h2
  rcases List.mem_append.1 hx with hx | hx
  · intro e
    exact h3 _ (List.mem_map.2 ⟨x, hx, rfl⟩) _ (by rw [e]; exact List.mem_cons_self) rfl
  · intro e
    exact h2.1 (List.mem_map.2 ⟨x, hx, e⟩)
theorem wrongGo_zero {h : Int} : ∀ {l : List Pt} {had : List (Int × Int)}, (∀ p ∈ l, badPt p h = false) → (∀ p ∈ l, (p.h, p.k) ∉ had) → (l.map fun p => (p.h, p.k)).Nodup → wrongGo h had l = 0
  | [], _, _, _, _ => rfl
  | p :: l, had, h1, h2, h3 => by
    rw [List.map_cons, List.nodup_cons] at h3
    unfold wrongGo
    rw [if_neg (by simp [h1 p List.mem_cons_self]), if_neg (h2 p List.mem_cons_self)]
    refine wrongGo_zero (fun q hq => h1 q (List.mem_cons_of_mem _ hq)) (fun q hq hm => ?_) h3.2
    rcases List.mem_cons.1 hm with e | hm
    · exact h3.1 (List.mem_map.2 ⟨q, hq, e⟩)
    · exact h2 q (List.mem_cons_of_mem _ hq) hm
theorem wrong_iff {l : List Pt} {h : Int} : wrongE l h = 0 ↔ 0 < l.length ∧ l.length ≤ 4 ∧ (∀ p ∈ l, 0 ≤ p.h ∧ p.h < h ∧ 0 ≤ p.k ∧ p.k < 4 ∧ p.n ≤ 1048576 ∧ -1048576 ≤ p.n) ∧ (l.map fun p => (p.h, p.k)).Nodup := by
  refine ⟨wrong_ok, fun ⟨h1, h2, h3, h4⟩ => ?_⟩
  unfold wrongE
  rw [if_neg (by omega)]
  refine wrongGo_zero (fun p hp => ?_) (by simp) h4
  unfold badPt
  rw [decide_eq_false_iff_not]
  have := h3 p hp
  omega
theorem wrong_ofL {P : List Pt} {n k : Int} (hw : wrongE P n = 0) (hn : n ≤ 3) (hne : ofL P k ≠ []) : wrongE (ofL P k) 3 = 0 ∧ ∀ p ∈ ofL P k, p.h = k := by
  obtain ⟨h1, h2, h3, h4⟩ := wrong_ok hw
  have hs : (ofL P k).Sublist P := List.filter_sublist
  refine ⟨wrong_iff.2 ⟨List.length_pos_iff.2 hne, Nat.le_trans hs.length_le h2, fun p hp => ?_, h4.sublist (hs.map _)⟩, fun p hp => ?_⟩
  · have := h3 p (hs.subset hp)
    omega
  · unfold ofL at hp
    simpa using (List.mem_filter.1 hp).2
theorem mem_swap {A B : List Opn} {o o' : Opn} {p : Opn → Prop} (h : p o' ↔ p o) : (∃ x ∈ A ++ [o'] ++ B, p x) ↔ ∃ x ∈ A ++ o :: B, p x := by
  constructor
  · rintro ⟨x, hx, hp⟩
    simp only [List.mem_append, List.mem_singleton] at hx
    rcases hx with (hx | rfl) | hx
    · exact ⟨x, by simp [hx], hp⟩
    · exact ⟨o, by simp, h.1 hp⟩
    · exact ⟨x, by simp [hx], hp⟩
  · rintro ⟨x, hx, hp⟩
    simp only [List.mem_append, List.mem_cons] at hx
    rcases hx with hx | rfl | hx
    · exact ⟨x, by simp [hx], hp⟩
    · exact ⟨o', by simp, h.2 hp⟩
    · exact ⟨x, by simp [hx], hp⟩
theorem all_swap {A B : List Opn} {o o' : Opn} {p : Opn → Prop} (h : ∀ x ∈ A ++ o :: B, p x) (h' : p o') : ∀ x ∈ A ++ [o'] ++ B, p x := by
  intro x hx
  simp only [List.mem_append, List.mem_singleton] at hx
  rcases hx with (hx | rfl) | hx
  · exact h x (by simp [hx])
  · exact h'
  · exact h x (by simp [hx])
/-- a message behind the head's own change -/
theorem MOk.head {n : Nat} {G G' : Reg} {hd hd' : Hd} {hs : List Hs} {m : Ms} (h : MOk n G hd hs m) (hG : ∀ x ∈ G, x ∈ G') (hD : ∀ r ∈ decidedR hd.log, r ∈ decidedR hd'.log)
    (hy : ∀ o' ∈ hd'.opn, o'.dec = false → o'.deed = m.deed → ∃ o ∈ hd.opn, o.deed = o'.deed ∧ o.dec = false)
    (ha : (∀ r ∈ decidedR hd.log, r.deed ≠ m.deed) → (∀ o ∈ hd.opn, o.deed ≠ m.deed) → (∀ r ∈ decidedR hd'.log, r.deed ≠ m.deed) ∧ ∀ o ∈ hd'.opn, o.deed ≠ m.deed) : MOk n G' hd' hs m where
  right := h.right
  here := h.here
  reg := by obtain ⟨P, a, b⟩ := h.reg; exact ⟨P, hG _ a, b⟩
  yes := fun h2 o' ho hod hoc => by
    obtain ⟨o, a, b, c⟩ := hy o' ho hoc hod
    exact h.yes h2 o a (b.trans hod) c
  commit := fun h4 => by obtain ⟨r, a, b⟩ := h.commit h4; exact ⟨r, hD r a, b⟩
  abort := fun h5 => by
    rcases h.abort h5 with hx | hx
    · exact .inl (ha hx.1 hx.2)
    · exact .inr hx
  ack := h.ack
end Go.Proofs.Ytgbhpghgohggcaa

/- Plain: the head's own changes, one by one. -/
namespace Go.Proofs.Ytgbhpghgohggcaa
open Go.RowKit
variable {n : Nat} {G : Reg} {hd : Hd} {hs : List Hs}
/-- one more house was heard -/
theorem Core.heard (c : Core n G hd hs) {A B : List Opn} {o : Opn} (e : hd.opn = A ++ o :: B) {k : Int} (hk : k ∈ housesE o.parts) (hn : k ∉ o.heard) (hl : o.heard.length + 1 ≠ (housesE o.parts).length)
    (h1 : o.dec = false → rdy hs k o.deed) (h2 : o.dec = true → dne hs k o.deed) : Core n G { hd with opn := A ++ [{ o with heard := o.heard ++ [k] }] ++ B } hs := by
  have ho : o ∈ hd.opn := by rw [e]; simp
  have hw := c.onew o ho
  exact {
    len := c.len, n3 := c.n3, reg := c.reg, old := c.old, boot := c.boot, next := c.next, lboot := c.lboot, lnd := c.lnd, ldec := c.ldec, dec := c.dec, held := c.held, house := c.house, ord := c.ord, pre := c.pre
    lopn := fun d P => by rw [c.lopn d P, e]; exact (mem_swap (o := o) (o' := { o with heard := o.heard ++ [k] }) (p := fun x => x.deed = d ∧ x.parts = P ∧ x.dec = true) Iff.rfl).symm
    ond := by have := c.ond; rw [e] at this; simpa using this
    oreg := by have := c.oreg; rw [e] at this; exact all_swap this (c.oreg o ho)
    olen := by have := c.olen; rw [e] at this; simpa using this
    odec := by have := c.odec; rw [e] at this; exact all_swap this (c.odec o ho)
    onew := by
      have := c.onew; rw [e] at this
      refine all_swap this ⟨?_, ?_, ?_⟩
      · rw [List.nodup_append]
        refine ⟨hw.1, by simp, fun a ha b hb e => ?_⟩
        obtain rfl := List.mem_singleton.1 hb
        exact hn (e ▸ ha)
      · intro j hj
        rcases List.mem_append.1 hj with hj | hj
        · exact hw.2.1 j hj
        · obtain rfl := List.mem_singleton.1 hj; exact hk
      · have := hw.2.2
        rw [List.length_append, List.length_singleton]
        show _ < (housesE o.parts).length
        omega
    ordy := by
      have := c.ordy; rw [e] at this
      refine all_swap this fun hd j hj => ?_
      rcases List.mem_append.1 hj with hj | hj
      · exact c.ordy o ho hd j hj
      · obtain rfl := List.mem_singleton.1 hj; exact h1 hd
    odne := by
      have := c.odne; rw [e] at this
      refine all_swap this fun hd j hj => ?_
      rcases List.mem_append.1 hj with hj | hj
      · exact c.odne o ho hd j hj
      · obtain rfl := List.mem_singleton.1 hj; exact h2 hd
    ends := fun r hr hno j hj => by
      refine c.ends r hr ?_ j hj
      rw [e]
      intro x hx
      simp only [List.mem_append, List.mem_cons] at hx
      rcases hx with hx | rfl | hx
      · exact hno x (by simp [hx])
      · exact hno { x with heard := x.heard ++ [k] } (by simp)
      · exact hno x (by simp [hx]) }
theorem MOk.heard {m : Ms} (h : MOk n G hd hs m) {A B : List Opn} {o : Opn} (e : hd.opn = A ++ o :: B) (k : Int) : MOk n G { hd with opn := A ++ [{ o with heard := o.heard ++ [k] }] ++ B } hs m := by
  refine h.head (fun _ h => h) (fun _ h => h) (fun o' ho hoc hod => ?_) fun h1 h2 => ⟨h1, ?_⟩
  · simp only [List.mem_append, List.mem_singleton] at ho
    rcases ho with (ho | rfl) | ho
    · exact ⟨o', by rw [e]; simp [ho], rfl, hoc⟩
    · exact ⟨o, by rw [e]; simp, rfl, hoc⟩
    · exact ⟨o', by rw [e]; simp [ho], rfl, hoc⟩
  · rw [e] at h2
    exact all_swap h2 (h2 o (by simp))
/-- open deeds that are not decided are given up -/
theorem Core.drop (c : Core n G hd hs) {l : List Opn} (hs' : l.Sublist hd.opn) (hu : ∀ o ∈ hd.opn, o ∉ l → o.dec = false) : Core n G { hd with opn := l } hs where
  len := c.len
  n3 := c.n3
  reg := c.reg
  old := c.old
  boot := c.boot
  next := c.next
  lboot := c.lboot
  lnd := c.lnd
  ldec := c.ldec
  dec := c.dec
  held := c.held
  house := c.house
  ord := c.ord
  pre := c.pre
  lopn := fun d P => by
    rw [c.lopn d P]
    constructor
    · rintro ⟨o, ho, h1, h2, h3⟩
      refine ⟨o, ?_, h1, h2, h3⟩
      by_cases hl : o ∈ l
      · exact hl
      · rw [hu o ho hl] at h3; cases h3
    · rintro ⟨o, ho, h1⟩
      exact ⟨o, hs'.subset ho, h1⟩
  ond := c.ond.sublist (hs'.map _)
  oreg := fun o ho => c.oreg o (hs'.subset ho)
  olen := Nat.le_trans hs'.length_le c.olen
  odec := fun o ho => c.odec o (hs'.subset ho)
  onew := fun o ho => c.onew o (hs'.subset ho)
  ordy := fun o ho => c.ordy o (hs'.subset ho)
  odne := fun o ho => c.odne o (hs'.subset ho)
  ends := fun r hr hno => by
    refine c.ends r hr fun o ho e => ?_
    have h1 := (c.odec o ho).2 ⟨r, hr, e.symm⟩
    by_cases hl : o ∈ l
    · exact hno o hl e
    · rw [hu o ho hl] at h1; cases h1
theorem MOk.drop {m : Ms} (h : MOk n G hd hs m) {l : List Opn} (hs' : l.Sublist hd.opn) : MOk n G { hd with opn := l } hs m :=
  h.head (fun _ h => h) (fun _ h => h) (fun o' ho hoc _ => ⟨o', hs'.subset ho, rfl, hoc⟩) fun h1 h2 => ⟨h1, fun o ho => h2 o (hs'.subset ho)⟩
/-- an open deed ends: all of its houses have done it -/
theorem Core.end' (c : Core n G hd hs) {A B : List Opn} {o : Opn} (e : hd.opn = A ++ o :: B) (hd1 : o.dec = true) (hall : ∀ k ∈ housesE o.parts, dne hs k o.deed) : Core n G { hd with opn := A ++ B, log := hd.log ++ [⟨6, o.deed, []⟩] } hs := by
  have ho : o ∈ hd.opn := by rw [e]; simp
  have hsub : (A ++ B).Sublist hd.opn := by rw [e]; exact (List.Sublist.refl A).append (List.sublist_cons_self o B)
  have hon := c.ond
  rw [e] at hon
  have hD : decidedR (hd.log ++ [⟨6, o.deed, []⟩]) = decidedR hd.log := by rw [dec_snoc]; rfl
  have hL : (headR (hd.log ++ [⟨6, o.deed, []⟩])).opn = (headR hd.log).opn.filter fun x => !(x.deed == o.deed) := by rw [head_snoc]; rfl
  have hb : (headR (hd.log ++ [⟨6, o.deed, []⟩])).boot = (headR hd.log).boot := by rw [head_snoc]; rfl
  exact {
    len := c.len, n3 := c.n3, reg := c.reg, old := c.old, boot := c.boot, next := c.next
    lboot := by show (headR (hd.log ++ _)).boot = _; rw [hb]; exact c.lboot
    lnd := by show ((headR (hd.log ++ _)).opn.map _).Nodup; rw [hL]; exact c.lnd.sublist (List.filter_sublist.map _)
    ldec := fun x hx => by
      have hx : x ∈ (headR (hd.log ++ [⟨6, o.deed, []⟩])).opn := hx
      rw [hL] at hx
      exact c.ldec x (List.mem_filter.1 hx).1
    dec := by show DecOk G (decidedR (hd.log ++ _)); rw [hD]; exact c.dec
    held := by show ∀ r ∈ decidedR (hd.log ++ _), _; rw [hD]; exact c.held
    house := by show ∀ (k : Nat) h, _ → HI G (decidedR (hd.log ++ _)) k h; rw [hD]; exact c.house
    ord := by show (decidedR (hd.log ++ _)).Pairwise _; rw [hD]; exact c.ord
    pre := by show ∀ A B, decidedR (hd.log ++ _) = A ++ B → _; rw [hD]; exact c.pre
    lopn := fun d P => by
      show (∃ x ∈ (headR (hd.log ++ _)).opn, _) ↔ _
      rw [hL]
      constructor
      · rintro ⟨x, hx, h1, h2⟩
        obtain ⟨hx1, hx2⟩ := List.mem_filter.1 hx
        obtain ⟨y, hy, h3, h4, h5⟩ := (c.lopn d P).1 ⟨x, hx1, h1, h2⟩
        refine ⟨y, ?_, h3, h4, h5⟩
        rw [e] at hy
        simp only [List.mem_append, List.mem_cons] at hy ⊢
        rcases hy with hy | rfl | hy
        · exact .inl hy
        · rw [h1, h3] at hx2; simp at hx2
        · exact .inr hy
      · rintro ⟨y, hy, h3, h4, h5⟩
        obtain ⟨x, hx, h1, h2⟩ := (c.lopn d P).2 ⟨y, hsub.subset hy, h3, h4, h5⟩
        refine ⟨x, List.mem_filter.2 ⟨hx, ?_⟩, h1, h2⟩
        have := open_deed hon hy
        rw [h1, ← h3]; simpa using this
    ond := c.ond.sublist (hsub.map _)
    oreg := fun o ho => c.oreg o (hsub.subset ho)
    olen := Nat.le_trans hsub.length_le c.olen
    odec := fun x hx => by show x.dec = true ↔ ∃ r ∈ decidedR (hd.log ++ _), _; rw [hD]; exact c.odec x (hsub.subset hx)
    onew := fun o ho => c.onew o (hsub.subset ho)
    ordy := fun o ho => c.ordy o (hsub.subset ho)
    odne := fun o ho => c.odne o (hsub.subset ho)
    ends := fun r hr hno j hj => by
      have hr : r ∈ decidedR (hd.log ++ [⟨6, o.deed, []⟩]) := hr
      rw [hD] at hr
      by_cases hro : r.deed = o.deed
      · have h1 := c.dec.reg r hr
        rw [hro] at h1 ⊢
        rw [reg_same c.reg.nd h1 (c.oreg o ho)] at hj
        exact hall j hj
      · refine c.ends r hr ?_ j hj
        rw [e]
        intro x hx
        simp only [List.mem_append, List.mem_cons] at hx
        rcases hx with hx | rfl | hx
        · exact hno x (by simp [hx])
        · exact fun e => hro e.symm
        · exact hno x (by simp [hx]) }
theorem MOk.end' {m : Ms} (h : MOk n G hd hs m) {A B : List Opn} {o : Opn} (e : hd.opn = A ++ o :: B) : MOk n G { hd with opn := A ++ B, log := hd.log ++ [⟨6, o.deed, []⟩] } hs m := by
  have hsub : (A ++ B).Sublist hd.opn := by rw [e]; exact (List.Sublist.refl A).append (List.sublist_cons_self o B)
  have hD : decidedR (hd.log ++ [⟨6, o.deed, []⟩]) = decidedR hd.log := by rw [dec_snoc]; rfl
  refine h.head (fun _ h => h) (fun r hr => ?_) (fun o' ho hoc _ => ⟨o', hsub.subset ho, rfl, hoc⟩) fun h1 h2 => ⟨?_, fun o ho => h2 o (hsub.subset ho)⟩
  · show r ∈ decidedR (hd.log ++ _)
    rw [hD]; exact hr
  · show ∀ r ∈ decidedR (hd.log ++ _), _
    rw [hD]; exact h1
theorem pre_snoc {D A B : List Rd} {r : Rd} (h : D ++ [r] = A ++ B) : (∃ B', D = A ++ B') ∨ A = D ++ [r] := by
  rcases List.eq_nil_or_concat B with rfl | ⟨B', x, rfl⟩
  · right; simpa using h.symm
  · left
    rw [List.concat_eq_append, ← List.append_assoc] at h
    exact ⟨B', (List.append_inj' h rfl).1⟩
/-- an open deed is decided: all of its houses are ready -/
theorem Core.commit (c : Core n G hd hs) {A B : List Opn} {o : Opn} (e : hd.opn = A ++ o :: B) (hu : o.dec = false) (hall : ∀ k ∈ housesE o.parts, rdy hs k o.deed) :
    Core n G { hd with opn := A ++ [{ o with dec := true, heard := [] }] ++ B, log := hd.log ++ [⟨5, o.deed, o.parts⟩] } hs := by
  have ho : o ∈ hd.opn := by rw [e]; simp
  have hoG := c.oreg o ho
  have hw : wrongE o.parts n = 0 := (c.reg.ok _ hoG).2
  have hn3 : (n : Int) ≤ 3 := by have := c.n3; omega
  have hon := c.ond
  rw [e] at hon
  have hD : decidedR (hd.log ++ [⟨5, o.deed, o.parts⟩]) = decidedR hd.log ++ [⟨o.deed, o.parts⟩] := by rw [dec_snoc]; rfl
  have hL : (headR (hd.log ++ [⟨5, o.deed, o.parts⟩])).opn = (headR hd.log).opn ++ [⟨o.deed, o.parts, true, []⟩] := by rw [head_snoc]; rfl
  have hb : (headR (hd.log ++ [⟨5, o.deed, o.parts⟩])).boot = (headR hd.log).boot := by rw [head_snoc]; rfl
  have hnD : ∀ r ∈ decidedR hd.log, r.deed ≠ o.deed := by
    intro r hr he
    have := (c.odec o ho).2 ⟨r, hr, he⟩
    rw [hu] at this; cases this
  have hAB : ∀ x ∈ A ++ B, x ∈ hd.opn ∧ x.deed ≠ o.deed := fun x hx => ⟨by rw [e]; simp only [List.mem_append, List.mem_cons] at hx ⊢; rcases hx with hx | hx <;> simp [hx], open_deed hon hx⟩
  have hin : ∀ x, x ∈ A ++ [{ o with dec := true, heard := [] }] ++ B → x = { o with dec := true, heard := [] } ∨ x ∈ A ++ B := by
    intro x hx
    simp only [List.mem_append, List.mem_singleton] at hx ⊢
    rcases hx with (hx | hx) | hx
    · exact .inr (.inl hx)
    · exact .inl hx
    · exact .inr (.inr hx)
  have hin' : ∀ x, x ∈ A ++ B → x ∈ A ++ [{ o with dec := true, heard := [] }] ++ B := by
    intro x hx
    simp only [List.mem_append] at hx ⊢
    rcases hx with hx | hx
    · exact .inl (.inl hx)
    · exact .inr hx
  have hout : ∀ x ∈ hd.opn, x = o ∨ x ∈ A ++ B := by
    intro x hx
    rw [e] at hx
    simp only [List.mem_append, List.mem_cons] at hx ⊢
    rcases hx with hx | hx | hx
    · exact .inr (.inl hx)
    · exact .inl hx
    · exact .inr (.inr hx)
  -- who had a key of it ahead of it is done
  have hord : ∀ r ∈ decidedR hd.log, ∀ k q, has k q r.parts = true → has k q o.parts = true → dne hs k r.deed := by
    intro r hr k q h1 h2
    have hrG := c.dec.reg r hr
    have hk1 := (has_houses (c.reg.ok _ hrG).2 hn3 h1).1
    have hk2 := (has_houses hw hn3 h2).1
    have hk0 : 0 ≤ k := (houses_lt hw hk2).1
    rcases c.held r hr k hk1 with hx | hx
    · obtain ⟨h, a1, a2, a3, -⟩ := c.ready_parts hk0 hx hrG
      obtain ⟨h', b1, b2, b3, -⟩ := c.ready_parts hk0 (hall k hk2) hoG
      rw [a1] at b1
      obtain rfl := Option.some.inj b1
      have e1 := who_deed a2.calm.apart _ a3 (has_keys h1)
      have e2 := who_deed a2.calm.apart _ b3 (has_keys h2)
      simp only at e1 e2
      exact absurd (by rw [← e1, e2]) (hnD r hr)
    · exact hx
  exact {
    len := c.len, n3 := c.n3, reg := c.reg, old := c.old, boot := c.boot, next := c.next
    lboot := by show (headR (hd.log ++ _)).boot = _; rw [hb]; exact c.lboot
    lnd := by
      show ((headR (hd.log ++ _)).opn.map _).Nodup
      rw [hL, List.map_append, List.nodup_append]
      refine ⟨c.lnd, by simp, fun a ha b hb' he => ?_⟩
      obtain ⟨x, hx, rfl⟩ := List.mem_map.1 ha
      simp only [List.map_cons, List.map_nil, List.mem_singleton] at hb'
      obtain ⟨y, hy, h1, -, h3⟩ := (c.lopn x.deed x.parts).1 ⟨x, hx, rfl, rfl⟩
      rcases hout y hy with rfl | hy
      · rw [hu] at h3; cases h3
      · exact (hAB y hy).2 (by rw [h1, he, hb'])
    ldec := fun x hx => by
      have hx : x ∈ (headR (hd.log ++ [⟨5, o.deed, o.parts⟩])).opn := hx
      rw [hL] at hx
      rcases List.mem_append.1 hx with hx | hx
      · exact c.ldec x hx
      · obtain rfl := List.mem_singleton.1 hx; exact ⟨rfl, rfl⟩
    lopn := fun d P => by
      show (∃ x ∈ (headR (hd.log ++ _)).opn, _) ↔ _
      rw [hL]
      constructor
      · rintro ⟨x, hx, h1, h2⟩
        rcases List.mem_append.1 hx with hx | hx
        · obtain ⟨y, hy, h3, h4, h5⟩ := (c.lopn d P).1 ⟨x, hx, h1, h2⟩
          rcases hout y hy with rfl | hy
          · rw [hu] at h5; cases h5
          · exact ⟨y, hin' y hy, h3, h4, h5⟩
        · obtain rfl := List.mem_singleton.1 hx
          exact ⟨{ o with dec := true, heard := [] }, by simp, h1, h2, rfl⟩
      · rintro ⟨y, hy, h3, h4, h5⟩
        rcases hin y hy with rfl | hy
        · exact ⟨⟨o.deed, o.parts, true, []⟩, by simp, h3, h4⟩
        · obtain ⟨x, hx, h1⟩ := (c.lopn d P).2 ⟨y, (hAB y hy).1, h3, h4, h5⟩
          exact ⟨x, List.mem_append_left _ hx, h1⟩
    ond := by simpa using hon
    oreg := fun x hx => by
      rcases hin x hx with rfl | hx
      · exact hoG
      · exact c.oreg x (hAB x hx).1
    olen := by have := c.olen; rw [e] at this; simpa using this
    odec := fun x hx => by
      show x.dec = true ↔ ∃ r ∈ decidedR (hd.log ++ _), _
      rw [hD]
      rcases hin x hx with rfl | hx
      · exact ⟨fun _ => ⟨⟨o.deed, o.parts⟩, by simp, rfl⟩, fun _ => rfl⟩
      · obtain ⟨h1, h2⟩ := hAB x hx
        rw [c.odec x h1]
        constructor
        · rintro ⟨r, hr, he⟩; exact ⟨r, List.mem_append_left _ hr, he⟩
        · rintro ⟨r, hr, he⟩
          rcases List.mem_append.1 hr with hr | hr
          · exact ⟨r, hr, he⟩
          · obtain rfl := List.mem_singleton.1 hr; exact absurd he.symm h2
    onew := fun x hx => by
      rcases hin x hx with rfl | hx
      · exact ⟨List.nodup_nil, by simp, houses_some hw hn3⟩
      · exact c.onew x (hAB x hx).1
    ordy := fun x hx hxd => by
      rcases hin x hx with rfl | hx
      · cases hxd
      · exact c.ordy x (hAB x hx).1 hxd
    odne := fun x hx hxd => by
      rcases hin x hx with rfl | hx
      · intro k hk; simp at hk
      · exact c.odne x (hAB x hx).1 hxd
    dec := by
      show DecOk G (decidedR (hd.log ++ _))
      rw [hD]
      refine ⟨fun r hr => ?_, ?_⟩
      · rcases List.mem_append.1 hr with hr | hr
        · exact c.dec.reg r hr
        · obtain rfl := List.mem_singleton.1 hr; exact hoG
      · rw [List.map_append, List.nodup_append]
        refine ⟨c.dec.nd, by simp, fun a ha b hb' he => ?_⟩
        obtain ⟨r, hr, rfl⟩ := List.mem_map.1 ha
        simp only [List.map_cons, List.map_nil, List.mem_singleton] at hb'
        exact hnD r hr (he.trans hb')
    held := by
      show ∀ r ∈ decidedR (hd.log ++ _), _
      rw [hD]
      intro r hr k hk
      rcases List.mem_append.1 hr with hr | hr
      · exact c.held r hr k hk
      · obtain rfl := List.mem_singleton.1 hr; exact .inl (hall k hk)
    ends := by
      show ∀ r ∈ decidedR (hd.log ++ _), _
      rw [hD]
      intro r hr hno
      rcases List.mem_append.1 hr with hr | hr
      · refine c.ends r hr fun x hx => ?_
        rcases hout x hx with hx | hx
        · rw [hx]; exact fun e => hnD r hr e.symm
        · exact hno x (hin' x hx)
      · obtain rfl := List.mem_singleton.1 hr
        exact absurd rfl (hno { o with dec := true, heard := [] } (by simp))
    house := by
      show ∀ (k : Nat) h, _ → HI G (decidedR (hd.log ++ _)) k h
      rw [hD]
      intro k h hk
      refine (c.house k h hk).dec fun hx => ?_
      obtain ⟨r, a, b⟩ := c.done_dec (k := (k : Int)) (by omega) ⟨h, by simpa using hk, hx⟩
      exact hnD r a b
    ord := by
      show (decidedR (hd.log ++ _)).Pairwise _
      rw [hD, List.pairwise_append]
      refine ⟨c.ord, List.pairwise_singleton _ _, fun a ha b hb' k q h1 h2 => ?_⟩
      obtain rfl := List.mem_singleton.1 hb'
      exact hord a ha k q h1 h2
    pre := by
      show ∀ A B, decidedR (hd.log ++ _) = A ++ B → _
      rw [hD]
      intro A' B' he k q
      rcases pre_snoc he with ⟨B2, h1⟩ | h1
      · exact c.pre A' B2 h1 k q
      · rw [h1, tot_app, tot, tot]
        have h2 := c.pre (decidedR hd.log) [] (by simp) k q
        show 0 ≤ tot k q (decidedR hd.log) + (amt k q o.parts + 0) ∧ tot k q (decidedR hd.log) + (amt k q o.parts + 0) ≤ 1048576
        cases hh : has k q o.parts with
        | false => rw [amt_none hh]; omega
        | true =>
          obtain ⟨hk, q0, q1⟩ := has_houses hw hn3 hh
          have hk0 : 0 ≤ k := (houses_lt hw hk).1
          obtain ⟨h, b1, b2, b3, -⟩ := c.ready_parts hk0 (hall k hk) hoG
          have hf := (fits_sum hw b2.right k).1 (b2.fits _ b3) q q0 q1
          have ha := b2.add q q0 q1
          rw [tot_filter] at ha
          · rw [ha] at hf; omega
          · intro r hr hp
            cases h3 : has k q r.parts with
            | false => exact amt_none h3
            | true =>
              obtain ⟨h', c1, c2⟩ := hord r hr k q h3 hh
              rw [b1] at c1
              obtain rfl := Option.some.inj c1
              simp [c2] at hp }
theorem MOk.commit' {m : Ms} (h : MOk n G hd hs m) (_ : Core n G hd hs) {A B : List Opn} {o : Opn} (e : hd.opn = A ++ o :: B) :
    MOk n G { hd with opn := A ++ [{ o with dec := true, heard := [] }] ++ B, log := hd.log ++ [⟨5, o.deed, o.parts⟩] } hs m := by
  have ho : o ∈ hd.opn := by rw [e]; simp
  have hD : decidedR (hd.log ++ [⟨5, o.deed, o.parts⟩]) = decidedR hd.log ++ [⟨o.deed, o.parts⟩] := by rw [dec_snoc]; rfl
  refine h.head (fun _ h => h) (fun r hr => ?_) (fun o' ho' hoc _ => ?_) fun h1 h2 => ⟨?_, ?_⟩
  · show r ∈ decidedR (hd.log ++ _)
    rw [hD]; exact List.mem_append_left _ hr
  · simp only [List.mem_append, List.mem_singleton] at ho'
    rcases ho' with (ho' | rfl) | ho'
    · exact ⟨o', by rw [e]; simp [ho'], rfl, hoc⟩
    · cases hoc
    · exact ⟨o', by rw [e]; simp [ho'], rfl, hoc⟩
  · show ∀ r ∈ decidedR (hd.log ++ _), _
    rw [hD]
    intro r hr
    rcases List.mem_append.1 hr with hr | hr
    · exact h1 r hr
    · obtain rfl := List.mem_singleton.1 hr; exact h2 o ho
  · rw [e] at h2
    exact all_swap h2 (h2 o (by simp))
end Go.Proofs.Ytgbhpghgohggcaa

/- Plain: a deed begins; the head falls, hears, gives up; what it says. -/
namespace Go.Proofs.Ytgbhpghgohggcaa
open Go.RowKit
variable {n : Nat} {G : Reg} {hd : Hd} {hs : List Hs}
theorem Core.deed (c : Core n G hd hs) {d : Int} {P : List Pt} (h : (d, P) ∈ G) : 0 ≤ d ∧ d ≤ 1343 := by
  have h1 := (c.reg.ok _ h).1
  have h2 := c.old _ h
  have h3 := c.boot
  have h4 := c.next
  simp only at h1 h2
  omega
theorem Core.n3' (c : Core n G hd hs) : (n : Int) ≤ 3 := by have := c.n3; omega
/-- a message without parts, to or from a house of a deed that was begun -/
theorem Core.plain (c : Core n G hd hs) {d : Int} {P : List Pt} (h : (d, P) ∈ G) {k : Int} (hk : k ∈ housesE P) {kd : Int} (h1 : 1 < kd) (h7 : kd ≤ 7) : RightM ⟨kd, d, k, []⟩ := by
  have hd' := c.deed h
  have hk3 := houses_lt (c.reg.ok _ h).2 hk
  have := c.n3'
  exact ⟨⟨by show 1 ≤ kd; omega, h7⟩, hd', ⟨hk3.1, by show k ≤ 2; omega⟩, fun _ => rfl, fun e => absurd (show kd = 1 from e) (by omega)⟩
theorem Core.here (c : Core n G hd hs) {d : Int} {P : List Pt} (h : (d, P) ∈ G) {k : Int} (hk : k ∈ housesE P) : k < n := (houses_lt (c.reg.ok _ h).2 hk).2
/-- what is asked for an open deed -/
theorem asks_ok (c : Core n G hd hs) {o : Opn} (ho : o ∈ hd.opn) : ∀ x ∈ asksE o, MOk n G hd hs x := by
  intro x hx
  unfold asksE at hx
  obtain ⟨k, hk, rfl⟩ := List.mem_map.1 hx
  have hk := (List.mem_filter.1 hk).1
  have hG := c.oreg o ho
  have hw : wrongE o.parts n = 0 := (c.reg.ok _ hG).2
  unfold commitM
  split
  · rename_i hdec
    exact ⟨c.plain hG hk (by omega) (by omega), c.here hG hk, ⟨o.parts, hG, hk, (fun e => by cases e)⟩, (fun e => by cases e), fun _ => (c.odec o ho).1 hdec, (fun e => by cases e), (fun e => by cases e)⟩
  · have hne := (houses_mem.1 hk).2
    have hp := wrong_ofL hw c.n3' hne
    have hd' := c.deed hG
    have hk3 := houses_lt hw hk
    have hn := c.n3'
    exact ⟨⟨⟨by show (1 : Int) ≤ 1; omega, by show (1 : Int) ≤ 7; omega⟩, hd', ⟨hk3.1, by show k ≤ 2; omega⟩, fun e => absurd rfl e, fun _ => hp⟩, c.here hG hk, ⟨o.parts, hG, hk, fun _ => rfl⟩, (fun e => by cases e), (fun e => by cases e), (fun e => by cases e), (fun e => by cases e)⟩
/-- what is said of a deed that is not done -/
theorem aborts_ok (c : Core n G hd hs) {d : Int} {P : List Pt} (hG : (d, P) ∈ G) (h1 : ∀ r ∈ decidedR hd.log, r.deed ≠ d) (h2 : ∀ o ∈ hd.opn, o.deed ≠ d) : ∀ x ∈ abortsE d P, MOk n G hd hs x := by
  intro x hx
  unfold abortsE at hx
  obtain ⟨k, hk, rfl⟩ := List.mem_map.1 hx
  exact ⟨c.plain hG hk (by omega) (by omega), c.here hG hk, ⟨P, hG, hk, (fun e => by cases e)⟩, (fun e => by cases e), (fun e => by cases e), fun _ => .inl ⟨h1, h2⟩, (fun e => by cases e)⟩
/-- a deed is begun -/
theorem Core.begin (c : Core n G hd hs) {P : List Pt} (hw : wrongE P n = 0) (hf : fullE hd = false) :
    Core n ((64 * hd.boot + hd.next, P) :: G) (beginH hd P) hs ∧ (∀ m, MOk n G hd hs m → MOk n ((64 * hd.boot + hd.next, P) :: G) (beginH hd P) hs m) ∧ ∀ m ∈ beginM hd P, MOk n ((64 * hd.boot + hd.next, P) :: G) (beginH hd P) hs m := by
  have hfull : hd.opn.length ≤ 11 ∧ hd.next ≤ 63 := by
    unfold fullE at hf
    rw [decide_eq_false_iff_not] at hf
    omega
  have e : beginH hd P = { hd with opn := hd.opn ++ [newO hd P], next := hd.next + 1 } := by unfold beginH; rw [if_neg (by rw [hf]; simp)]
  have hb := c.boot
  have hn := c.next
  have hnew : ∀ x ∈ G, x.1 ≠ 64 * hd.boot + hd.next := fun x hx he => by have := c.old x hx; omega
  have hD : ∀ r ∈ decidedR hd.log, r.deed ≠ 64 * hd.boot + hd.next := fun r hr => hnew _ (c.dec.reg r hr)
  have hO : ∀ o ∈ hd.opn, o.deed ≠ 64 * hd.boot + hd.next := fun o ho => hnew _ (c.oreg o ho)
  have hin : ∀ o, o ∈ hd.opn ++ [newO hd P] → o ∈ hd.opn ∨ o = newO hd P := fun o ho => by simpa using ho
  have hlog : (beginH hd P).log = hd.log := by rw [e]
  have hc : Core n ((64 * hd.boot + hd.next, P) :: G) (beginH hd P) hs := by
    rw [e]
    exact {
      len := c.len, n3 := c.n3, lboot := c.lboot, lnd := c.lnd, ldec := c.ldec, boot := c.boot
      reg := ⟨by
        rw [List.map_cons, List.nodup_cons]
        exact ⟨fun h => by obtain ⟨x, hx, he⟩ := List.mem_map.1 h; exact hnew x hx he, c.reg.nd⟩, fun x hx => by
        rcases List.mem_cons.1 hx with rfl | hx
        · exact ⟨by show 0 ≤ 64 * hd.boot + hd.next; omega, hw⟩
        · exact c.reg.ok x hx⟩
      old := fun x hx => by
        rcases List.mem_cons.1 hx with rfl | hx
        · show 64 * hd.boot + hd.next < 64 * hd.boot + (hd.next + 1); omega
        · have := c.old x hx
          show x.1 < 64 * hd.boot + (hd.next + 1); omega
      next := ⟨by show 0 ≤ hd.next + 1; omega, by show hd.next + 1 ≤ 64; omega⟩
      lopn := fun d Q => by
        rw [c.lopn d Q]
        constructor
        · rintro ⟨o, ho, h⟩; exact ⟨o, List.mem_append_left _ ho, h⟩
        · rintro ⟨o, ho, h1, h2, h3⟩
          rcases hin o ho with ho | rfl
          · exact ⟨o, ho, h1, h2, h3⟩
          · cases h3
      ond := by
        rw [List.map_append, List.nodup_append]
        refine ⟨c.ond, by simp, fun a ha b hb' he => ?_⟩
        obtain ⟨o, ho, rfl⟩ := List.mem_map.1 ha
        simp only [List.map_cons, List.map_nil, List.mem_singleton] at hb'
        exact hO o ho (he.trans hb')
      oreg := fun o ho => by
        rcases hin o ho with ho | rfl
        · exact List.mem_cons_of_mem _ (c.oreg o ho)
        · exact List.mem_cons_self
      olen := by rw [List.length_append]; simp; omega
      odec := fun o ho => by
        rcases hin o ho with ho | rfl
        · exact c.odec o ho
        · constructor
          · intro h; cases h
          · rintro ⟨r, hr, he⟩; exact absurd he (hD r hr)
      onew := fun o ho => by
        rcases hin o ho with ho | rfl
        · exact c.onew o ho
        · exact ⟨List.nodup_nil, (fun k hk => by cases hk), houses_some hw c.n3'⟩
      ordy := fun o ho hd' k hk => by
        rcases hin o ho with ho | rfl
        · exact c.ordy o ho hd' k hk
        · cases hk
      odne := fun o ho hd' k hk => by
        rcases hin o ho with ho | rfl
        · exact c.odne o ho hd' k hk
        · cases hk
      dec := ⟨fun r hr => List.mem_cons_of_mem _ (c.dec.reg r hr), c.dec.nd⟩
      held := c.held
      ends := fun r hr hno => c.ends r hr fun o ho => hno o (List.mem_append_left _ ho)
      house := fun k h hk => (c.house k h hk).more fun x hx => List.mem_cons_of_mem _ hx
      ord := c.ord
      pre := c.pre }
  refine ⟨hc, fun m hm => ?_, ?_⟩
  · have hmd : m.deed ≠ 64 * hd.boot + hd.next := by
      obtain ⟨Q, hQ, -⟩ := hm.reg
      exact hnew _ hQ
    refine hm.head (fun x hx => List.mem_cons_of_mem _ hx) (fun r hr => by rw [hlog]; exact hr) (fun o' ho' hoc hod => ?_) fun h1 h2 => ⟨by rw [hlog]; exact h1, fun o ho => ?_⟩
    · rw [e] at ho'
      rcases hin o' ho' with ho' | rfl
      · exact ⟨o', ho', rfl, hoc⟩
      · exact absurd hod.symm hmd
    · rw [e] at ho
      rcases hin o ho with ho | rfl
      · exact h2 o ho
      · exact fun h => hmd h.symm
  · unfold beginM
    rw [if_neg (by rw [hf]; simp)]
    exact asks_ok hc (by rw [e]; simp)
/-- the head falls, and starts anew -/
theorem Core.fall (c : Core n G hd hs) (hb : ¬ 19 < hd.boot) : Core n G (fallH hd) hs ∧ ∀ m, MOk n G hd hs m → MOk n G (fallH hd) hs m := by
  have hb2 := c.boot
  have hn := c.next
  have e : fallH hd = { log := hd.log ++ [⟨4, 0, []⟩], boot := wrap64 ((headR hd.log).boot + 1), next := 0, opn := (headR hd.log).opn } := by
    unfold fallH
    rw [if_neg hb, head_snoc]
    have := headR_next hd.log
    unfold headStep
    simp [this.1]
  have hw : wrap64 ((headR hd.log).boot + 1) = hd.boot + 1 := by rw [c.lboot]; unfold wrap64; omega
  rw [hw] at e
  have hD : decidedR (hd.log ++ [⟨4, 0, []⟩]) = decidedR hd.log := by rw [dec_snoc]; rfl
  have hL : (headR (hd.log ++ [⟨4, 0, []⟩])).opn = (headR hd.log).opn := by rw [head_snoc]; rfl
  have hB : (headR (hd.log ++ [⟨4, 0, []⟩])).boot = hd.boot + 1 := by rw [head_snoc, ← hw]; rfl
  have back : ∀ o ∈ (headR hd.log).opn, ∃ o' ∈ hd.opn, o'.deed = o.deed ∧ o'.parts = o.parts ∧ o'.dec = true := fun o ho => (c.lopn o.deed o.parts).1 ⟨o, ho, rfl, rfl⟩
  have hc : Core n G (fallH hd) hs := by
    rw [e]
    exact {
      len := c.len, n3 := c.n3, reg := c.reg
      old := fun x hx => by have := c.old x hx; show x.1 < 64 * (hd.boot + 1) + 0; omega
      boot := ⟨by show 1 ≤ hd.boot + 1; omega, by show hd.boot + 1 ≤ 20; omega⟩
      next := ⟨Int.le_refl _, by show (0 : Int) ≤ 64; omega⟩
      lboot := hB
      lopn := fun d P => by
        show (∃ o ∈ (headR (hd.log ++ _)).opn, _) ↔ ∃ o ∈ (headR hd.log).opn, _
        rw [hL]
        constructor
        · rintro ⟨o, ho, h1, h2⟩; exact ⟨o, ho, h1, h2, (c.ldec o ho).1⟩
        · rintro ⟨o, ho, h1, h2, -⟩; exact ⟨o, ho, h1, h2⟩
      lnd := by show ((headR (hd.log ++ _)).opn.map _).Nodup; rw [hL]; exact c.lnd
      ldec := fun o ho => by
        have ho : o ∈ (headR (hd.log ++ [⟨4, 0, []⟩])).opn := ho
        rw [hL] at ho
        exact c.ldec o ho
      ond := c.lnd
      oreg := fun o ho => by
        obtain ⟨o', h1, h2, h3, -⟩ := back o ho
        rw [← h2, ← h3]; exact c.oreg o' h1
      olen := by
        have h1 : ((headR hd.log).opn.map (·.deed)).length ≤ (hd.opn.map (·.deed)).length := len_le c.lnd fun d hd' => by
          obtain ⟨o, ho, rfl⟩ := List.mem_map.1 hd'
          obtain ⟨o', h1, h2, -⟩ := back o ho
          exact List.mem_map.2 ⟨o', h1, h2⟩
        simp only [List.length_map] at h1
        exact Nat.le_trans h1 c.olen
      odec := fun o ho => by
        show o.dec = true ↔ ∃ r ∈ decidedR (hd.log ++ _), _
        rw [hD]
        obtain ⟨o', h1, h2, -, h4⟩ := back o ho
        rw [← h2]
        exact ⟨fun _ => (c.odec o' h1).1 h4, fun _ => (c.ldec o ho).1⟩
      onew := fun o ho => by
        obtain ⟨o', h1, h2, h3, -⟩ := back o ho
        rw [(c.ldec o ho).2, ← h3]
        exact ⟨List.nodup_nil, (fun k hk => by cases hk), houses_some (c.reg.ok _ (c.oreg o' h1)).2 c.n3'⟩
      ordy := fun o ho hd' => by rw [(c.ldec o ho).1] at hd'; cases hd'
      odne := fun o ho _ k hk => by rw [(c.ldec o ho).2] at hk; cases hk
      dec := by show DecOk G (decidedR (hd.log ++ _)); rw [hD]; exact c.dec
      held := by show ∀ r ∈ decidedR (hd.log ++ _), _; rw [hD]; exact c.held
      ends := fun r hr hno => by
        have hr : r ∈ decidedR (hd.log ++ [⟨4, 0, []⟩]) := hr
        rw [hD] at hr
        refine c.ends r hr fun o ho he => ?_
        have h1 := (c.odec o ho).2 ⟨r, hr, he.symm⟩
        obtain ⟨o2, h2, h3, -⟩ := (c.lopn o.deed o.parts).2 ⟨o, ho, rfl, rfl, h1⟩
        exact hno o2 h2 (h3.trans he)
      house := by show ∀ (k : Nat) h, _ → HI G (decidedR (hd.log ++ _)) k h; rw [hD]; exact c.house
      ord := by show (decidedR (hd.log ++ _)).Pairwise _; rw [hD]; exact c.ord
      pre := by show ∀ A B, decidedR (hd.log ++ _) = A ++ B → _; rw [hD]; exact c.pre }
  refine ⟨hc, fun m hm => ?_⟩
  have hlog : (fallH hd).log = hd.log ++ [⟨4, 0, []⟩] := by rw [e]
  have hopn : (fallH hd).opn = (headR hd.log).opn := by rw [e]
  refine hm.head (fun _ h => h) (fun r hr => by rw [hlog, hD]; exact hr) (fun o' ho' hoc _ => ?_) fun h1 h2 => ⟨by rw [hlog, hD]; exact h1, fun o ho => ?_⟩
  · rw [hopn] at ho'
    rw [(c.ldec o' ho').1] at hoc; cases hoc
  · rw [hopn] at ho
    obtain ⟨o', h3, h4, -⟩ := back o ho
    rw [← h4]; exact h2 o' h3
/-- the head gives up what is not decided -/
theorem Core.quit (c : Core n G hd hs) : Core n G (quitH hd) hs ∧ (∀ m, MOk n G hd hs m → MOk n G (quitH hd) hs m) ∧ ∀ m ∈ quitM hd, MOk n G (quitH hd) hs m := by
  have hs' : (hd.opn.filter fun o => o.dec).Sublist hd.opn := List.filter_sublist
  have hc : Core n G (quitH hd) hs := c.drop hs' fun o ho hn => by
    cases hd' : o.dec with
    | false => rfl
    | true => exact absurd (List.mem_filter.2 ⟨ho, hd'⟩) hn
  refine ⟨hc, fun m hm => hm.drop hs', fun m hm => ?_⟩
  unfold quitM at hm
  obtain ⟨o, ho, hm⟩ := List.mem_flatMap.1 hm
  obtain ⟨h1, h2⟩ := List.mem_filter.1 ho
  have hu : o.dec = false := by simpa using h2
  refine aborts_ok hc (c.oreg o h1) (fun r hr he => ?_) (fun o' ho' he => ?_) m hm
  · have := (c.odec o h1).2 ⟨r, hr, he⟩
    rw [hu] at this; cases this
  · obtain ⟨h3, h4⟩ := List.mem_filter.1 ho'
    have h5 := (c.odec o' h3).1 h4
    rw [he] at h5
    have := (c.odec o h1).2 h5
    rw [hu] at this; cases this
/-- the head hears a message -/
theorem Core.hHear (c : Core n G hd hs) {m : Ms} (hm : MOk n G hd hs m) : Core n G (hHearH hd m) hs ∧ (∀ x, MOk n G hd hs x → MOk n G (hHearH hd m) hs x) ∧ ∀ x ∈ hHearM hd m, MOk n G (hHearH hd m) hs x := by
  obtain ⟨P, hP, hk, -⟩ := hm.reg
  unfold hHearH hHearM
  cases hl : hearL m hd.opn with
  | none =>
    refine ⟨c, fun _ h => h, fun x hx => ?_⟩
    simp only at hx
    split at hx
    · obtain rfl := List.mem_singleton.1 hx
      refine ⟨c.plain hP hk (by omega) (by omega), c.here hP hk, ⟨P, hP, hk, (fun e => by cases e)⟩, (fun e => by cases e), (fun e => by cases e), fun _ => ?_, (fun e => by cases e)⟩
      have hno := hearL_none hl
      by_cases hD : ∃ r ∈ decidedR hd.log, r.deed = m.deed
      · obtain ⟨r, hr, he⟩ := hD
        right
        have h1 := c.dec.reg r hr
        rw [he] at h1
        have h2 := c.ends r hr (fun o ho => by rw [he]; exact hno o ho) m.house (by rw [reg_same c.reg.nd h1 hP]; exact hk)
        rw [he] at h2
        exact h2
      · exact .inl ⟨fun r hr he => hD ⟨r, hr, he⟩, hno⟩
    · simp at hx
  | some y =>
    obtain ⟨A, o, B, e, hA, hod, rfl⟩ := hearL_some hl
    simp only
    have ho : o ∈ hd.opn := by rw [e]; simp
    have hoG := c.oreg o ho
    rw [hod] at hoG
    obtain rfl := reg_same c.reg.nd hP hoG
    have hw : wrongE o.parts n = 0 := (c.reg.ok _ hoG).2
    have hnew := c.onew o ho
    have hlast : o.heard.length + 1 = (housesE o.parts).length → m.house ∉ o.heard → ∀ k ∈ housesE o.parts, k ∈ o.heard ++ [m.house] := fun hl hn => by
      refine all_in ?_ ?_ (by simp; omega)
      · rw [List.nodup_append]
        refine ⟨hnew.1, by simp, fun a ha b hb he => ?_⟩
        rw [he, List.mem_singleton.1 hb] at ha
        exact hn ha
      · intro k hk'
        rcases List.mem_append.1 hk' with hk' | hk'
        · exact hnew.2.1 k hk'
        · rw [List.mem_singleton.1 hk']; exact hk
    have hsame : ({ hd with opn := A ++ [o] ++ B, log := hd.log ++ [] } : Hd) = hd := by
      cases hd
      simp only at e ⊢
      simp [e]
    unfold hearO
    split
    · rename_i h2
      obtain ⟨k2, hu, hin, hn⟩ := h2
      have hr : rdy hs m.house o.deed := by rw [hod]; exact hm.yes k2 o ho hod hu
      split
      · rename_i hl1
        have hall : ∀ k ∈ housesE o.parts, rdy hs k o.deed := fun k hk' => by
          rcases List.mem_append.1 (hlast hl1 hn k hk') with h | h
          · exact c.ordy o ho hu k h
          · rw [List.mem_singleton.1 h]; exact hr
        have hc := c.commit e hu hall
        exact ⟨hc, fun x hx => hx.commit' c e, asks_ok hc (by simp)⟩
      · rename_i hl1
        simp only [List.append_nil]
        have hc := c.heard e hin hn hl1 (fun _ => hr) (fun h => by rw [hu] at h; cases h)
        exact ⟨hc, fun x hx => hx.heard e _, fun x hx => by cases hx⟩
    split
    · rename_i h3
      obtain ⟨k3, hu⟩ := h3
      simp only [List.append_nil]
      have hsub : (A ++ B).Sublist hd.opn := by rw [e]; exact (List.Sublist.refl A).append (List.sublist_cons_self o B)
      have hon := c.ond
      rw [e] at hon
      have hc := c.drop hsub fun x hx hn => by
        rw [e] at hx
        simp only [List.mem_append, List.mem_cons] at hx hn
        rcases hx with hx | rfl | hx
        · exact absurd (.inl hx) hn
        · exact hu
        · exact absurd (.inr hx) hn
      refine ⟨hc, fun x hx => hx.drop hsub, aborts_ok hc (by rw [hod]; exact hoG) (fun r hr he => ?_) fun o' ho' => open_deed hon ho'⟩
      have := (c.odec o ho).2 ⟨r, hr, he⟩
      rw [hu] at this; cases this
    split
    · rename_i h6
      obtain ⟨k6, hu, hin, hn⟩ := h6
      have hr : dne hs m.house o.deed := by rw [hod]; exact hm.ack k6
      split
      · rename_i hl1
        have hall : ∀ k ∈ housesE o.parts, dne hs k o.deed := fun k hk' => by
          rcases List.mem_append.1 (hlast hl1 hn k hk') with h | h
          · exact c.odne o ho hu k h
          · rw [List.mem_singleton.1 h]; exact hr
        simp only [List.append_nil]
        exact ⟨c.end' e hu hall, fun x hx => hx.end' e, fun x hx => by cases hx⟩
      · rename_i hl1
        simp only [List.append_nil]
        exact ⟨c.heard e hin hn hl1 (fun h => by rw [hu] at h; cases h) (fun _ => hr), fun x hx => hx.heard e _, fun x hx => by cases hx⟩
    split
    · rename_i h7
      obtain ⟨k7, hu⟩ := h7
      rw [hsame]
      refine ⟨c, fun _ h => h, fun x hx => ?_⟩
      obtain rfl := List.mem_singleton.1 hx
      have h1 := (c.odec o ho).1 hu
      rw [hod] at h1
      exact ⟨c.plain hP hk (by omega) (by omega), c.here hP hk, ⟨o.parts, hP, hk, (fun e => by cases e)⟩, (fun e => by cases e), fun _ => h1, (fun e => by cases e), (fun e => by cases e)⟩
    · rw [hsame]
      exact ⟨c, fun _ h => h, fun x hx => by cases hx⟩
end Go.Proofs.Ytgbhpghgohggcaa

/- Plain: what holds of every world that steps come to. -/
namespace Go.Proofs.Ytgbhpghgohggcaa
open Go.RowKit
structure WI (n : Nat) (G : Reg) (w : AW) : Prop where
  core : Core n G w.head w.houses
  net : ∀ m ∈ w.net, MOk n G w.head w.houses m
  len : w.net.length ≤ 24
theorem send_mem {net ms : List Ms} {x : Ms} (h : x ∈ sendA net ms) : x ∈ net ∨ x ∈ ms := by
  unfold sendA at h
  rcases List.mem_append.1 h with h | h
  · exact .inl h
  · exact .inr (List.mem_of_mem_take h)
theorem send_len {net : List Ms} (ms : List Ms) (h : net.length ≤ 24) : (sendA net ms).length ≤ 24 := by
  unfold sendA
  rw [List.length_append, List.length_take]
  omega
theorem WI.mk' {n : Nat} {G : Reg} {hd : Hd} {hs : List Hs} {net ms : List Ms} (c : Core n G hd hs) (h1 : ∀ m ∈ net, MOk n G hd hs m) (h2 : ∀ m ∈ ms, MOk n G hd hs m) (hl : net.length ≤ 24) : WI n G ⟨hd, hs, sendA net ms⟩ :=
  ⟨c, fun m hm => by
    rcases send_mem hm with h | h
    · exact h1 m h
    · exact h2 m h, send_len ms hl⟩
theorem ticks_ok {n : Nat} {G : Reg} {hd : Hd} {hs : List Hs} (c : Core n G hd hs) {k : Nat} {h : Hs} (hk : hs[k]? = some h) : ∀ m ∈ hTickE h k, MOk n G hd hs m := by
  intro m hm
  unfold hTickE at hm
  obtain ⟨r, hr, rfl⟩ := List.mem_map.1 hm
  obtain ⟨P, hP, hp, hne⟩ := (c.house k h hk).reg r hr
  have hlt := (List.getElem?_eq_some_iff.1 hk).1
  have h3 := c.n3
  have hl := c.len
  have hin : (k : Int) ∈ housesE P := houses_mem.2 ⟨by omega, by rw [← hp]; exact hne⟩
  exact ⟨c.plain hP hin (by omega) (by omega), c.here hP hin, ⟨P, hP, hin, (fun e => by cases e)⟩, (fun e => by cases e), (fun e => by cases e), (fun e => by cases e), (fun e => by cases e)⟩
theorem tickE_ok {n : Nat} {G : Reg} {hd : Hd} {hs : List Hs} (c : Core n G hd hs) : ∀ m ∈ tickE hd, MOk n G hd hs m := by
  intro m hm
  unfold tickE at hm
  obtain ⟨o, ho, hm⟩ := List.mem_flatMap.1 hm
  exact asks_ok c ho m hm
theorem WI.come {n : Nat} {G : Reg} {w : AW} (i : WI n G w) {m : Ms} (hm : MOk n G w.head w.houses m) (hl : w.net.length ≤ 24) : WI n G (comeA w m) := by
  unfold comeA
  cases hk : w.houses[m.house.toNat]? with
  | none => exact i
  | some h =>
    simp only
    split
    · obtain ⟨c, h1, h2⟩ := i.core.hear hm hk
      exact WI.mk' c (fun x hx => h1 x (i.net x hx)) h2 hl
    · obtain ⟨c, h1, h2⟩ := i.core.hHear hm
      exact WI.mk' c (fun x hx => h1 x (i.net x hx)) h2 hl
theorem WI.tick {n : Nat} {G : Reg} {w : AW} (i : WI n G w) (k : Nat) : WI n G (tickA w k) := by
  unfold tickA
  split
  · exact WI.mk' i.core i.net (tickE_ok i.core) i.len
  · cases hk : w.houses[k]? with
    | none => exact i
    | some h => exact WI.mk' i.core i.net (ticks_ok i.core hk) i.len
theorem WI.drop {n : Nat} {G : Reg} {w : AW} (i : WI n G w) (k : Nat) : WI n G { w with net := w.net.eraseIdx k } :=
  ⟨i.core, fun m hm => i.net m (List.mem_of_mem_eraseIdx hm), Nat.le_trans (List.length_eraseIdx_le _ _) i.len⟩
theorem WI.there {n : Nat} {G : Reg} {w : AW} (i : WI n G w) {k : Int} (h : there w k = true) : MOk n G w.head w.houses (w.net.getD k.toNat ⟨0, 0, 0, []⟩) := by
  unfold Go.Proofs.Ytgbhpghgohggcaa.there at h
  rw [decide_eq_true_eq] at h
  have hl : k.toNat < w.net.length := by omega
  have : w.net.getD k.toNat ⟨0, 0, 0, []⟩ = w.net[k.toNat] := by rw [List.getD_eq_getElem?_getD, List.getElem?_eq_getElem hl]; rfl
  rw [this]
  exact i.net _ (List.getElem_mem _)
/-- a step keeps all of it -/
theorem WI.step' {n : Nat} {G : Reg} {w : AW} (i : WI n G w) (s : St) : ∃ G', WI n G' (doA w s) ∧ (G' = G ∨ (s.kind = 1 ∧ ∃ d, G' = (d, s.parts) :: G)) := by
  unfold doA
  split
  · rename_i k1
    split
    · rename_i hw
      rw [i.core.len] at hw
      cases hf : fullE w.head with
      | false =>
        obtain ⟨c, h1, h2⟩ := i.core.begin hw hf
        exact ⟨_, WI.mk' c (fun x hx => h1 x (i.net x hx)) h2 i.len, .inr ⟨k1, _, rfl⟩⟩
      | true =>
        refine ⟨G, ?_, .inl rfl⟩
        have e1 : beginH w.head s.parts = w.head := by unfold beginH; rw [if_pos hf]
        have e2 : beginM w.head s.parts = [] := by unfold beginM; rw [if_pos hf]
        rw [e1, e2]
        exact WI.mk' i.core i.net (by simp) i.len
    · exact ⟨G, i, .inl rfl⟩
  refine ⟨G, ?_, .inl rfl⟩
  split
  · split
    · rename_i ht
      have hm := i.there ht
      have i2 := i.drop s.n.toNat
      exact i2.come (m := w.net.getD s.n.toNat ⟨0, 0, 0, []⟩) hm i2.len
    · exact i
  split
  · split
    · exact i.drop _
    · exact i
  split
  · split
    · rename_i ht
      refine ⟨i.core, fun m hm => ?_, ?_⟩
      · rcases List.mem_append.1 hm with hm | hm
        · exact i.net m hm
        · rw [List.mem_singleton.1 hm]; exact i.there ht.1
      · rw [List.length_append]; have := ht.2; simp; omega
    · exact i
  split
  · split
    · by_cases hb : 19 < w.head.boot
      · have e : fallH w.head = w.head := by unfold fallH; rw [if_pos hb]
        rw [e]; exact i
      · obtain ⟨c, h1⟩ := i.core.fall hb
        exact ⟨c, fun m hm => h1 m (i.net m hm), i.len⟩
    · exact i
  split
  · split
    · exact i.tick _
    · exact i
  split
  · obtain ⟨c, h1, h2⟩ := i.core.quit
    exact WI.mk' c (fun x hx => h1 x (i.net x hx)) h2 i.len
  · exact i
theorem WI.step {n : Nat} {G : Reg} {w : AW} (i : WI n G w) (s : St) : ∃ G', WI n G' (doA w s) ∧ (∀ x ∈ G, x ∈ G') ∧ ∀ x ∈ G', x ∈ G ∨ (s.kind = 1 ∧ x.2 = s.parts) := by
  obtain ⟨G', i', rfl | ⟨h1, d, rfl⟩⟩ := i.step' s
  · exact ⟨_, i', fun _ h => h, fun _ h => .inl h⟩
  · refine ⟨_, i', fun x hx => List.mem_cons_of_mem _ hx, fun x hx => ?_⟩
    rcases List.mem_cons.1 hx with rfl | hx
    · exact .inr ⟨h1, rfl⟩
    · exact .inl hx
theorem WI.zero {n : Nat} (h : 1 ≤ n ∧ n ≤ 3) : WI n [] (newA n) := by
  refine ⟨?_, by intro m hm; simp [newA] at hm, by simp [newA]⟩
  have hb : (headR [⟨4, 0, []⟩]).boot = 1 := by kernel_rfl
  exact {
    len := by simp [newA]
    n3 := h
    reg := ⟨by simp, by simp⟩
    old := by simp
    boot := by show 1 ≤ (headR [⟨4, 0, []⟩]).boot ∧ (headR [⟨4, 0, []⟩]).boot ≤ 20; rw [hb]; omega
    next := by show 0 ≤ (0 : Int) ∧ (0 : Int) ≤ 64; omega
    lboot := rfl
    lopn := fun d P => by
      constructor
      · rintro ⟨o, ho, -⟩; cases ho
      · rintro ⟨o, ho, -⟩; cases ho
    lnd := List.nodup_nil
    ldec := fun o ho => by cases ho
    ond := List.nodup_nil
    oreg := fun o ho => by cases ho
    olen := Nat.zero_le _
    odec := fun o ho => by cases ho
    onew := fun o ho => by cases ho
    ordy := fun o ho => by cases ho
    odne := fun o ho => by cases ho
    dec := ⟨(fun r hr => by cases hr), List.nodup_nil⟩
    held := fun r hr => by cases hr
    ends := fun r hr => by cases hr
    house := fun k x hx => by
      have : x = hs0 := by
        simp only [newA] at hx
        rw [List.getElem?_replicate] at hx
        split at hx
        · exact (Option.some.inj hx).symm
        · cases hx
      rw [this]
      exact HI.zero _ _ _
    ord := List.Pairwise.nil
    pre := fun A B e k q => by
      have hA : A = [] := (List.append_eq_nil_iff.1 e.symm).1
      rw [hA]
      simp [tot] }
theorem WI.play {n : Nat} : ∀ (l : List St) {G : Reg} {w : AW}, WI n G w → ∃ G', WI n G' (playA w l) ∧ (∀ x ∈ G, x ∈ G') ∧ ∀ x ∈ G', x ∈ G ∨ ∃ s ∈ l, s.kind = 1 ∧ x.2 = s.parts
  | [], G, w, i => ⟨G, i, fun _ h => h, fun _ h => .inl h⟩
  | s :: l, G, w, i => by
    obtain ⟨G1, i1, a1, b1⟩ := i.step s
    obtain ⟨G2, i2, a2, b2⟩ := WI.play l i1
    refine ⟨G2, i2, fun x hx => a2 x (a1 x hx), fun x hx => ?_⟩
    rcases b2 x hx with h | ⟨t, ht, h⟩
    · rcases b1 x h with h | h
      · exact .inl h
      · exact .inr ⟨s, List.mem_cons_self, h⟩
    · exact .inr ⟨t, List.mem_cons_of_mem _ ht, h⟩
/-- whatever steps there were -/
theorem WI.of_play {n : Nat} (h : 1 ≤ n ∧ n ≤ 3) (l : List St) : ∃ G, WI n G (playA (newA n) l) ∧ ∀ x ∈ G, ∃ s ∈ l, s.kind = 1 ∧ x.2 = s.parts := by
  obtain ⟨G, i, -, b⟩ := WI.play l (WI.zero h)
  refine ⟨G, i, fun x hx => ?_⟩
  rcases b x hx with h | h
  · cases h
  · exact h
end Go.Proofs.Ytgbhpghgohggcaa

/- Worlds as values; how large a played world is; what a call gives reads in new memory. -/
namespace Go.Proofs.Ytgbhpghgohggcaa
open Go.RowKit
def Ty.wd : Ty AW where
  size := 6
  R := fun c cs x => ∃ vlog vopn vhs vnet : Value, cs = [vlog, .int .i64 x.head.boot, .int .i64 x.head.next, vopn, vhs, vnet] ∧ Sl Ty.rc c vlog x.head.log ∧ I64 x.head.boot ∧ I64 x.head.next ∧ Sl Ty.opn c vopn x.head.opn ∧ Sl Ty.hs c vhs x.houses ∧ Nts c vnet (x.net.map bytesM)
  len := by rintro c cs x ⟨_, _, _, _, rfl, _⟩; rfl
  mono := by rintro c c' cs x h ⟨a, b, d, e, rfl, h1, h2, h3, h4, h5, h6⟩; exact ⟨a, b, d, e, rfl, h1.mono h, h2, h3, h4.mono h, h5.mono h, h6.mono h⟩
theorem Of.wd_form {c : CM} {v : Value} {x : AW} (hv : Of Ty.wd c v x) : ∃ al cl ao co ah ch an cn, v = .agg #[.slice al x.head.log.length cl, .int .i64 x.head.boot, .int .i64 x.head.next, .slice ao x.head.opn.length co, .slice ah x.houses.length ch, .slice an x.net.length cn] := by
  obtain ⟨cs, rfl, vl, vo, vh, vn, rfl, hl, -, -, ho, hh, hn⟩ := hv
  obtain ⟨al, cl, rfl, -⟩ := id hl
  obtain ⟨ao, co, rfl, -⟩ := id ho
  obtain ⟨ah, ch, rfl, -⟩ := id hh
  obtain ⟨an, cn, rfl, -⟩ := id hn
  exact ⟨al, cl, ao, co, ah, ch, an, cn, by simp⟩
theorem Of.wd_parts {c : CM} {vl vo vh vn b n : Value} {x : AW} (hv : Of Ty.wd c (.agg #[vl, b, n, vo, vh, vn]) x) : Of Ty.hd c (.agg #[vl, b, n, vo]) x.head ∧ Sl Ty.hs c vh x.houses ∧ Nts c vn (x.net.map bytesM) := by
  obtain ⟨cs, he, vl', vo', vh', vn', rfl, hl, hb, hn, ho, hh, hnn⟩ := hv
  simp at he
  obtain ⟨rfl, rfl, rfl, rfl, rfl, rfl⟩ := he
  exact ⟨⟨_, rfl, _, _, rfl, hl, hb, hn, ho⟩, hh, hnn⟩
theorem Of.wd_mk {c : CM} {vl vo vh vn b n : Value} {hd : Hd} {hs : List Hs} {net : List Ms} (h1 : Of Ty.hd c (.agg #[vl, b, n, vo]) hd) (h2 : Sl Ty.hs c vh hs) (h3 : Nts c vn (net.map bytesM)) : Of Ty.wd c (.agg #[vl, b, n, vo, vh, vn]) ⟨hd, hs, net⟩ := by
  obtain ⟨cs, he, vl', vo', rfl, hl, hb, hn, ho⟩ := h1
  simp at he
  obtain ⟨rfl, rfl, rfl, rfl⟩ := he
  exact ⟨_, rfl, _, _, _, _, rfl, hl, hb, hn, ho, h2, h3⟩
theorem Of.opn_form {c : CM} {v : Value} {o : Opn} (hv : Of Ty.opn c v o) : ∃ ap cp ah ch, v = .agg #[.int .i64 o.deed, .slice ap o.parts.length cp, .bool o.dec, .slice ah o.heard.length ch] := by
  obtain ⟨cs, rfl, vp, vh, rfl, -, hp, hh⟩ := hv
  obtain ⟨ap, cp, rfl, -⟩ := id hp
  obtain ⟨ah, ch, rfl, -⟩ := id hh
  exact ⟨_, _, _, _, rfl⟩
theorem Of.opn_parts {c : CM} {d b vp vh : Value} {o : Opn} (hv : Of Ty.opn c (.agg #[d, vp, b, vh]) o) : I64 o.deed ∧ Sl Ty.pt c vp o.parts ∧ Sl Ty.int c vh o.heard := by
  obtain ⟨cs, he, vp', vh', rfl, hd, hp, hh⟩ := hv
  simp at he
  obtain ⟨-, rfl, -, rfl⟩ := he
  exact ⟨hd, hp, hh⟩
/-- what a call gave in new memory reads behind one that began ahead of it -/
theorem ov_fr {w wr w4 : World} {row : Option Nat} (hg : Grow w wr) (hr : ∀ k, row = some k → k < wr.heap.size) : Sub (ov (fun _ => none) wr w4) (fr w w4 [row]) := fun a v e => by
  have hs := hg.size
  unfold ov at e
  split at e
  · cases e
  · rw [fr_new (by omega) (by
      simp only [List.mem_singleton]
      intro e2
      have := hr _ e2.symm
      omega)]
    exact e
theorem ov_none_sub (w w' : World) : Sub (ov (fun _ => none) w w') w'.cell? := fun a v e => by
  unfold ov at e
  split at e
  · cases e
  · exact e
/-- an own row reads in new memory -/
theorem OwnC.ovn {α : Type} {T : Ty α} (h0 : 0 < T.size) {w w' : World} {e : Nat} {v : Value} {l : List α} (h : OwnC T (fr w w' [v.ownBlock]) w' w.heap.size e v l) : Sl T (ov (fun _ => none) w w') v l :=
  h.slc h0 (fr_ov _ _ _ _) fun _ ha => ov_new ha
/-- how large a world is that came of few steps -/
structure Few (k : Nat) (w : AW) : Prop where
  log : w.head.log.length ≤ k + 1
  logs : ∀ h ∈ w.houses, h.log.length ≤ k
end Go.Proofs.Ytgbhpghgohggcaa

/- Plain: all deeds at once, and what houses have when nothing is open. -/
namespace Go.Proofs.Ytgbhpghgohggcaa
open Go.RowKit
/-- sums of houses are what deeds put there -/
def SumsAre (n : Nat) (A : List Rd) (sums : List Sm) : Prop := sums.length = n ∧ ∀ (k : Nat) s, sums[k]? = some s → ∀ q : Int, 0 ≤ q → q < 4 → s.get q = tot k q A
theorem Core.all {n : Nat} {G : Reg} {hd : Hd} {hs : List Hs} (c : Core n G hd hs) : ∀ (B A : List Rd) (sums : List Sm), decidedR hd.log = A ++ B → SumsAre n A sums →
    (allE sums B).2 = B.map (fun _ => (0 : Int)) ∧ SumsAre n (decidedR hd.log) (allE sums B).1
  | [], A, sums, e, h => by
    rw [List.append_nil] at e
    rw [e]; exact ⟨rfl, h⟩
  | r :: B, A, sums, e, h => by
    have hr : r ∈ decidedR hd.log := by rw [e]; simp
    have hw : wrongE r.parts n = 0 := (c.reg.ok _ (c.dec.reg r hr)).2
    have hright : ∀ (k : Nat) s, sums[k]? = some s → rightS s = true := fun k s hs' => rightS_get.2 fun q a b => by
      rw [h.2 k s hs' q a b]
      exact c.pre A (r :: B) e k q
    have e2 : decidedR hd.log = (A ++ [r]) ++ B := by rw [e]; simp
    have hfit : ∀ (k : Nat) s, sums[k]? = some s → fitsE s.get (ofL r.parts ((0 + k : Nat) : Int)) = 0 := fun k s hs' => by
      rw [Nat.zero_add]
      refine (fits_sum hw (hright k s hs') k).2 fun q a b => ?_
      have := c.pre (A ++ [r]) B e2 k q
      rw [tot_app, tot, tot, ← h.2 k s hs' q a b] at this
      omega
    have hz := errGo_zero (k0 := 0) hfit
    have hda : doAllE sums r.parts = (putGo r.parts 0 sums, 0) := by unfold doAllE; rw [if_pos hz]
    have h2 : SumsAre n (A ++ [r]) (putGo r.parts 0 sums) := by
      refine ⟨by rw [putGo_len]; exact h.1, fun k s hs' q a b => ?_⟩
      rw [putGo_get] at hs'
      cases hk : sums[k]? with
      | none => rw [hk] at hs'; simp at hs'
      | some t =>
        rw [hk] at hs'
        simp only [Option.map_some, Option.some.injEq, Nat.zero_add] at hs'
        rw [← hs', doP_sum hw (hright k t hk) k a b, h.2 k t hk q a b, tot_app, tot, tot]
        omega
    obtain ⟨i1, i2⟩ := Core.all c B (A ++ [r]) _ e2 h2
    show (doAllE sums r.parts).2 :: (allE (doAllE sums r.parts).1 B).2 = 0 :: B.map (fun _ => (0 : Int)) ∧ SumsAre n _ (allE (doAllE sums r.parts).1 B).1
    rw [hda]
    exact ⟨by rw [i1], i2⟩
theorem zero_sums (n : Nat) : SumsAre n [] (List.replicate n ⟨0, 0, 0, 0⟩) := by
  refine ⟨by simp, fun k s hs' q a b => ?_⟩
  rw [List.getElem?_replicate] at hs'
  split at hs'
  · obtain rfl := Option.some.inj hs'
    have hq : q = 0 ∨ q = 1 ∨ q = 2 ∨ q = 3 := by omega
    rcases hq with rfl | rfl | rfl | rfl <;> rfl
  · cases hs'
/-- when all that is decided is done, houses have what it gives them, one by one, at once -/
theorem Core.even {n : Nat} {G : Reg} {hd : Hd} {hs : List Hs} (c : Core n G hd hs) (hall : ∀ r ∈ decidedR hd.log, ∀ k ∈ housesE r.parts, dne hs k r.deed) :
    allE (List.replicate n ⟨0, 0, 0, 0⟩) (decidedR hd.log) = (hs.map (·.sums), (decidedR hd.log).map fun _ => (0 : Int)) := by
  obtain ⟨h1, h2, h3⟩ := c.all (decidedR hd.log) [] _ rfl (zero_sums n)
  refine Prod.ext ?_ h1
  refine List.ext_getElem? fun k => ?_
  rw [List.getElem?_map]
  cases hk : (allE (List.replicate n ⟨0, 0, 0, 0⟩) (decidedR hd.log)).1[k]? with
  | none =>
    have : n ≤ k := by rw [← h2]; exact List.getElem?_eq_none_iff.1 hk
    rw [List.getElem?_eq_none (by rw [c.len]; exact this)]; rfl
  | some s =>
    have hlt : k < n := by rw [← h2]; exact (List.getElem?_eq_some_iff.1 hk).1
    have hl : k < hs.length := by rw [c.len]; exact hlt
    have hh : hs[k]? = some hs[k] := List.getElem?_eq_getElem hl
    rw [hh]
    simp only [Option.map_some, Option.some.injEq]
    refine Sm.ext_get fun q a b => ?_
    rw [h3 k s hk q a b, (c.house k _ hh).add q a b]
    symm
    refine tot_filter fun r hr hp => ?_
    cases hh2 : has k q r.parts with
    | false => exact amt_none hh2
    | true =>
      have hw : wrongE r.parts n = 0 := (c.reg.ok _ (c.dec.reg r hr)).2
      obtain ⟨x, hx, hd'⟩ := hall r hr k (has_houses hw c.n3' hh2).1
      have : x = hs[k] := by
        rw [show ((k : Int)).toNat = k from rfl, hh] at hx
        exact (Option.some.inj hx).symm
      rw [this] at hd'
      simp [hd'] at hp
/-- when nothing is open, all that is decided is done -/
theorem Core.settled {n : Nat} {G : Reg} {hd : Hd} {hs : List Hs} (c : Core n G hd hs) (ho : hd.opn = []) : ∀ r ∈ decidedR hd.log, ∀ k ∈ housesE r.parts, dne hs k r.deed :=
  fun r hr => c.ends r hr fun o h => by rw [ho] at h; cases h
end Go.Proofs.Ytgbhpghgohggcaa

/- Plain: all that is on its way comes, until nothing is. -/
namespace Go.Proofs.Ytgbhpghgohggcaa
open Go.RowKit
/-- how much a message may bring about -/
def wt (m : Ms) : Nat := if m.kind = 1 then 8 else if m.kind = 2 then 7 else if m.kind = 3 then 4 else if m.kind = 4 then 2 else if m.kind = 7 then 3 else 1
def wts : List Ms → Nat
  | [] => 0
  | m :: l => wt m + wts l
theorem wts_app : ∀ a b : List Ms, wts (a ++ b) = wts a + wts b
  | [], b => by simp [wts]
  | m :: a, b => by rw [List.cons_append, wts, wts, wts_app a b]; omega
theorem wts_take : ∀ (l : List Ms) (k : Nat), wts (l.take k) ≤ wts l
  | [], k => by simp [wts]
  | m :: l, 0 => by simp [wts]
  | m :: l, k + 1 => by rw [List.take_succ_cons, wts, wts]; have := wts_take l k; omega
theorem wts_send (net ms : List Ms) : wts (sendA net ms) ≤ wts net + wts ms := by
  unfold sendA
  rw [wts_app]
  have := wts_take ms (24 - net.length)
  omega
theorem wts_all {c : Nat} : ∀ {l : List Ms}, (∀ m ∈ l, wt m ≤ c) → wts l ≤ l.length * c
  | [], _ => by simp [wts]
  | m :: l, h => by
    have h1 := h m List.mem_cons_self
    have h2 := wts_all (l := l) fun x hx => h x (List.mem_cons_of_mem _ hx)
    rw [wts, List.length_cons, Nat.add_mul]
    omega
theorem wt_pos (m : Ms) : 1 ≤ wt m := by
  unfold wt
  split
  · omega
  split
  · omega
  split
  · omega
  split
  · omega
  split
  · omega
  · omega
theorem houses_len (P : List Pt) : (housesE P).length ≤ 3 := by
  unfold housesE
  exact Nat.le_trans (List.length_filter_le _ _) (by decide)
theorem hear_wt (h : Hs) (me : Int) (m : Ms) : wts (hearM h me m) < wt m := by
  unfold hearM
  split
  · rename_i h1
    have : wt m = 8 := by unfold wt; rw [if_pos h1]
    split
    · rw [this]; simp [wts]
    · split
      · rw [this]; simp [wts, sayE, wt]
      · rw [this]; simp [wts, sayE, wt]
  · split
    · rename_i h4
      have : wt m = 2 := by unfold wt; simp [h4]
      split
      · rw [this]; simp [wts, sayE, wt]
      · rw [this]; simp [wts]
    · have := wt_pos m
      simp only [wts]; omega
theorem hearO_wt (o : Opn) (m : Ms) : wts (hearO o m).2.2 < wt m := by
  have hp := wt_pos m
  unfold hearO
  split
  · rename_i h2
    have : wt m = 7 := by unfold wt; simp [h2.1]
    split
    · have h3 : wts (asksE { o with dec := true, heard := [] }) ≤ (asksE { o with dec := true, heard := [] }).length * 2 := wts_all fun x hx => by
        unfold asksE at hx
        obtain ⟨k, -, rfl⟩ := List.mem_map.1 hx
        simp [commitM, wt]
      have h4 : (asksE { o with dec := true, heard := [] }).length ≤ 3 := by
        unfold asksE
        rw [List.length_map]
        exact Nat.le_trans (List.length_filter_le _ _) (houses_len _)
      show wts (asksE _) < _
      omega
    · show wts [] < _
      simp only [wts]; omega
  split
  · rename_i h3
    have : wt m = 4 := by unfold wt; simp [h3.1]
    have h3 : wts (abortsE o.deed o.parts) ≤ (abortsE o.deed o.parts).length * 1 := wts_all fun x hx => by
      unfold abortsE at hx
      obtain ⟨k, -, rfl⟩ := List.mem_map.1 hx
      simp [wt]
    have h4 : (abortsE o.deed o.parts).length ≤ 3 := by
      unfold abortsE
      rw [List.length_map]
      exact houses_len _
    show wts (abortsE _ _) < _
    omega
  split
  · split
    · show wts [] < _
      simp only [wts]; omega
    · show wts [] < _
      simp only [wts]; omega
  split
  · rename_i h7
    have : wt m = 3 := by unfold wt; simp [h7.1]
    rw [this]
    simp [wts, wt]
  · show wts [] < _
    simp only [wts]; omega
theorem hHear_wt (h : Hd) (m : Ms) : wts (hHearM h m) < wt m := by
  have hp := wt_pos m
  unfold hHearM
  cases hl : hearL m h.opn with
  | none =>
    simp only
    split
    · rename_i h7
      have : wt m = 3 := by unfold wt; simp [h7]
      rw [this]
      simp [wts, wt]
    · simp only [wts]; omega
  | some x =>
    obtain ⟨A, o, B, -, -, -, rfl⟩ := hearL_some hl
    exact hearO_wt o m
theorem come_wt (w : AW) (m : Ms) : wts (comeA w m).net < wts w.net + wt m := by
  have hp := wt_pos m
  unfold comeA
  cases w.houses[m.house.toNat]? with
  | none => simp only; omega
  | some h =>
    simp only
    split
    · have h1 := wts_send w.net (hearM h m.house m)
      have h2 := hear_wt h m.house m
      show wts (sendA _ _) < _
      omega
    · have h1 := wts_send w.net (hHearM w.head m)
      have h2 := hHear_wt w.head m
      show wts (sendA _ _) < _
      omega
/-- so many messages come, the first one first -/
def drainN : Nat → AW → AW
  | 0, w => w
  | f + 1, w => match w.net with
    | [] => w
    | m :: l => drainN f (comeA { w with net := l } m)
def drainA (w : AW) : AW := drainN (wts w.net) w
theorem drain_step {w : AW} {m : Ms} {l : List Ms} (h : w.net = m :: l) : wts (comeA { w with net := l } m).net < wts w.net := by
  have := come_wt { w with net := l } m
  rw [h, wts]
  simp only at this
  omega
theorem drainN_more : ∀ (f g : Nat) (w : AW), wts w.net ≤ f → f ≤ g → drainN g w = drainN f w
  | 0, g, w, h, _ => by
    have : w.net = [] := by
      cases hn : w.net with
      | nil => rfl
      | cons m l => rw [hn, wts] at h; have := wt_pos m; omega
    cases g with
    | zero => rfl
    | succ g => unfold drainN; rw [this]
  | f + 1, 0, w, h, hg => by omega
  | f + 1, g + 1, w, h, hg => by
    cases hn : w.net with
    | nil => unfold drainN; rw [hn]
    | cons m l =>
      have := drain_step hn
      unfold drainN
      rw [hn]
      exact drainN_more f g _ (by omega) (by omega)
theorem drain_nil {w : AW} (h : w.net = []) : drainA w = w := by
  unfold drainA
  rw [h]; rfl
theorem drain_cons {w : AW} {m : Ms} {l : List Ms} (h : w.net = m :: l) : drainA w = drainA (comeA { w with net := l } m) := by
  have h1 := drain_step h
  unfold drainA
  have hp : ∃ k, wts w.net = k + 1 := ⟨wts w.net - 1, by omega⟩
  obtain ⟨k, hk⟩ := hp
  have e : drainN (k + 1) w = drainN k (comeA { w with net := l } m) := by
    show (match w.net with | [] => w | m :: l => drainN k (comeA { w with net := l } m)) = _
    rw [h]
  rw [hk, e]
  exact drainN_more _ _ _ (Nat.le_refl _) (by omega)
/-- what each coming keeps holds behind all of them, and nothing is on its way then -/
theorem drain_keeps {p : AW → Prop} (hstep : ∀ (w : AW) (m : Ms) (l : List Ms), p w → w.net = m :: l → p (comeA { w with net := l } m)) : ∀ (f : Nat) (w : AW), wts w.net ≤ f → p w → p (drainA w) ∧ (drainA w).net = []
  | f, w, hf, hp => by
    cases hn : w.net with
    | nil => rw [drain_nil hn]; exact ⟨hp, hn⟩
    | cons m l =>
      have h1 := drain_step hn
      rw [drain_cons hn]
      cases f with
      | zero => omega
      | succ f => exact drain_keeps hstep f _ (by omega) (hstep w m l hp hn)
theorem WI.come1 {n : Nat} {G : Reg} {w : AW} (i : WI n G w) {m : Ms} {l : List Ms} (h : w.net = m :: l) : WI n G (comeA { w with net := l } m) := by
  have hl := i.len
  rw [h] at hl
  simp at hl
  have i2 : WI n G { w with net := l } := ⟨i.core, fun x hx => i.net x (by rw [h]; exact List.mem_cons_of_mem _ hx), by show l.length ≤ 24; omega⟩
  exact i2.come (i.net m (by rw [h]; exact List.mem_cons_self)) i2.len
theorem WI.drain {n : Nat} {G : Reg} {w : AW} (i : WI n G w) : WI n G (drainA w) ∧ (drainA w).net = [] :=
  drain_keeps (p := fun w => WI n G w) (fun _ _ _ h e => h.come1 e) _ w (Nat.le_refl _) i
end Go.Proofs.Ytgbhpghgohggcaa

/- Plain: all ends at last: fair rounds. -/
namespace Go.Proofs.Ytgbhpghgohggcaa
open Go.RowKit
/-- what is still to come of open deeds -/
def pot : List Opn → Nat
  | [] => 0
  | o :: l => (if o.dec = true then 1 else 2) + pot l
theorem pot_app : ∀ a b : List Opn, pot (a ++ b) = pot a + pot b
  | [], b => by simp [pot]
  | o :: a, b => by rw [List.cons_append, pot, pot, pot_app a b]; omega
theorem pot_len : ∀ l : List Opn, pot l ≤ 2 * l.length ∧ l.length ≤ pot l
  | [] => by simp [pot]
  | o :: l => by
    have := pot_len l
    rw [pot, List.length_cons]
    split <;> omega
theorem pot_zero {l : List Opn} (h : pot l = 0) : l = [] := List.eq_nil_of_length_eq_zero (by have := (pot_len l).2; omega)
theorem hearO_cases (o : Opn) (m : Ms) : pot (hearO o m).1 < pot [o] ∨ ((hearO o m).1 = [o] ∧ (((o.dec = false ∧ (m.kind = 2 ∨ m.kind = 3)) ∨ (o.dec = true ∧ m.kind = 6)) → m.house ∈ housesE o.parts → m.house ∈ o.heard)) ∨
    (hearO o m).1 = [{ o with heard := o.heard ++ [m.house] }] := by
  unfold hearO
  split
  · rename_i h
    split
    · left; simp [pot, h.2.1]
    · right; right; rfl
  rename_i n2
  split
  · rename_i h
    left; simp [pot, h.2]
  rename_i n3
  split
  · rename_i h
    split
    · left; simp [pot, h.2.1]
    · right; right; rfl
  rename_i n6
  have key : ((o.dec = false ∧ (m.kind = 2 ∨ m.kind = 3)) ∨ (o.dec = true ∧ m.kind = 6)) → m.house ∈ housesE o.parts → m.house ∈ o.heard := by
    intro hk hh
    apply Decidable.byContradiction
    intro hn
    rcases hk with ⟨h1, h2 | h2⟩ | ⟨h1, h2⟩
    · exact n2 ⟨h2, h1, hh, hn⟩
    · exact n3 ⟨h2, h1⟩
    · exact n6 ⟨h2, h1, hh, hn⟩
  split
  · right; left; exact ⟨rfl, key⟩
  · right; left; exact ⟨rfl, key⟩
theorem hearO_pot (o : Opn) (m : Ms) : pot (hearO o m).1 ≤ pot [o] := by
  rcases hearO_cases o m with h | ⟨h, -⟩ | h
  · exact Nat.le_of_lt h
  · rw [h]; exact Nat.le_refl _
  · rw [h]; simp [pot]
theorem hHear_pot (h : Hd) (m : Ms) : pot (hHearH h m).opn ≤ pot h.opn := by
  unfold hHearH
  cases hl : hearL m h.opn with
  | none => exact Nat.le_refl _
  | some x =>
    obtain ⟨A, o, B, e, -, -, rfl⟩ := hearL_some hl
    have := hearO_pot o m
    rw [e]
    simp only [pot_app]
    have e2 : pot (o :: B) = pot [o] + pot B := pot_app [o] B
    omega
theorem come_pot (w : AW) (m : Ms) : pot (comeA w m).head.opn ≤ pot w.head.opn := by
  unfold comeA
  cases w.houses[m.house.toNat]? with
  | none => exact Nat.le_refl _
  | some h =>
    simp only
    split
    · exact Nat.le_refl _
    · exact hHear_pot _ _
theorem tick_head (w : AW) (k : Nat) : (tickA w k).head = w.head ∧ (tickA w k).houses = w.houses := by
  unfold tickA
  split
  · exact ⟨rfl, rfl⟩
  · cases w.houses[k]? with
    | none => exact ⟨rfl, rfl⟩
    | some h => exact ⟨rfl, rfl⟩
theorem drain_pot (w : AW) : pot (drainA w).head.opn ≤ pot w.head.opn :=
  (drain_keeps (p := fun x => pot x.head.opn ≤ pot w.head.opn) (fun x m l h _ => Nat.le_trans (come_pot { x with net := l } m) h) _ w (Nat.le_refl _) (Nat.le_refl _)).1
theorem fits_ne {S : Int → Int} : ∀ l : List Pt, fitsE S l ≠ 10
  | [] => by simp [fitsE]
  | p :: l => by
    rw [fitsE]
    split
    · omega
    split
    · omega
    · exact fits_ne l
theorem vote_ne {h : Hs} {d : Int} (hd : d ∉ h.done) (ps : List Pt) : voteE h d ps ≠ 10 := by
  unfold voteE
  rw [if_neg hd]
  split
  · omega
  split
  · omega
  · exact fits_ne _
/-- the message that brings on what an open deed waits for -/
def Tok (b : Bool) (d k : Int) (m : Ms) : Prop := m.deed = d ∧ m.house = k ∧ ((b = false ∧ (m.kind = 1 ∨ m.kind = 2 ∨ m.kind = 3)) ∨ (b = true ∧ (m.kind = 4 ∨ m.kind = 6)))
def Toks (w : AW) (p0 : Nat) (d : Int) (b : Bool) : Prop := pot w.head.opn ≤ p0 ∧
  (pot w.head.opn < p0 ∨ ∃ o ∈ w.head.opn, o.deed = d ∧ o.dec = b ∧ ∀ k ∈ housesE o.parts, k ∈ o.heard ∨ ∃ m ∈ w.net, Tok b d k m)
theorem send_old {net : List Ms} (ms : List Ms) {x : Ms} (h : x ∈ net) : x ∈ sendA net ms := by
  unfold sendA
  exact List.mem_append_left _ h
theorem send_one {net : List Ms} (x : Ms) (h : net.length < 24) : sendA net [x] = net ++ [x] := by
  unfold sendA
  rw [List.take_of_length_le (by simp; omega)]
theorem toks_come {n : Nat} {G : Reg} {w : AW} {m : Ms} {l : List Ms} {p0 : Nat} {d : Int} {b : Bool} (i : WI n G w) (h : Toks w p0 d b) (e : w.net = m :: l) : Toks (comeA { w with net := l } m) p0 d b := by
  have hl := i.len
  rw [e] at hl
  simp only [List.length_cons] at hl
  have hm := i.net m (by rw [e]; exact List.mem_cons_self)
  have hp := come_pot { w with net := l } m
  obtain ⟨hle, h⟩ := h
  refine ⟨Nat.le_trans hp hle, ?_⟩
  rcases h with h | ⟨o, ho, hod, hob, hk⟩
  · left; exact Nat.lt_of_le_of_lt hp h
  have hlen := i.core.len
  have h0 := hm.right.house.1
  have hlt : m.house.toNat < w.houses.length := by have := hm.here; omega
  obtain ⟨h, hh⟩ : ∃ h, w.houses[m.house.toNat]? = some h := ⟨_, List.getElem?_eq_getElem hlt⟩
  cases hf : forHouse m with
  | true =>
    have ew : comeA { w with net := l } m = ⟨w.head, w.houses.set m.house.toNat (hearH h m), sendA l (hearM h m.house m)⟩ := by
      unfold comeA
      simp only [hh, hf, if_true]
    rw [ew]
    right
    refine ⟨o, ho, hod, hob, fun k hk' => ?_⟩
    rcases hk k hk' with h1 | ⟨x, hx, ht⟩
    · exact .inl h1
    right
    rw [e] at hx
    rcases List.mem_cons.1 hx with hx | hx
    · obtain ⟨t1, t2, t3⟩ := ht
      rw [hx] at t1 t2 t3
      have hroom : ∀ y, hearM h m.house m = [y] → y ∈ sendA l (hearM h m.house m) := fun y hy => by
        rw [hy, send_one _ (by omega)]; simp
      have hi := i.core.house' h0 hh
      rcases t3 with ⟨hb, t3⟩ | ⟨hb, t3⟩
      · have k1 : m.kind = 1 := by
          unfold forHouse at hf
          rw [decide_eq_true_eq] at hf
          omega
        have hnd : m.deed ∉ h.done := fun hd' => by
          obtain ⟨r, hr, hrd⟩ := i.core.done_dec (k := m.house) h0 ⟨h, hh, hd'⟩
          have := (i.core.odec o ho).2 ⟨r, hr, by rw [hrd, t1, hod]⟩
          rw [hob, hb] at this
          cases this
        have hv := vote_ne hnd m.parts
        by_cases hz : voteE h m.deed m.parts = 0
        · have hy : hearM h m.house m = [⟨2, m.deed, m.house, []⟩] := by
            unfold hearM
            rw [if_pos k1, if_neg hv, if_pos hz]; rfl
          exact ⟨_, hroom _ hy, t1, t2, .inl ⟨hb, .inr (.inl rfl)⟩⟩
        · have hy : hearM h m.house m = [⟨3, m.deed, m.house, []⟩] := by
            unfold hearM
            rw [if_pos k1, if_neg hv, if_neg hz]; rfl
          exact ⟨_, hroom _ hy, t1, t2, .inl ⟨hb, .inr (.inr rfl)⟩⟩
      · have k4 : m.kind = 4 := by
          unfold forHouse at hf
          rw [decide_eq_true_eq] at hf
          omega
        obtain ⟨r, hr, hrd⟩ := (i.core.odec o ho).1 (by rw [hob, hb])
        have hreg := i.core.dec.reg r hr
        rw [hrd] at hreg
        have hpp := reg_same i.core.reg.nd hreg (i.core.oreg o ho)
        have hkept : Kept h m.deed := by
          rcases i.core.held r hr k (by rw [hpp]; exact hk') with ⟨y, hy, hyr⟩ | ⟨y, hy, hyr⟩
          · rw [← t2, hh] at hy
            obtain rfl := Option.some.inj hy
            left
            rw [t1, ← hod, ← hrd]; exact hyr
          · rw [← t2, hh] at hy
            obtain rfl := Option.some.inj hy
            right
            rw [t1, ← hod, ← hrd]; exact hyr
        have hy : hearM h m.house m = [⟨6, m.deed, m.house, []⟩] := by
          have hw := (word_law hi.calm.made hi.calm.fine (me := m.house) hm.right.deed.1 hkept m.house 0).2.1
          have em : m = ⟨4, m.deed, m.house, []⟩ := by
            have hnone := hm.right.none (by omega)
            obtain ⟨kind, deed, house, parts⟩ := m
            simp only at k4 hnone
            rw [k4, hnone]
          rw [← em] at hw
          exact hw
        exact ⟨_, hroom _ hy, t1, t2, .inr ⟨hb, .inr rfl⟩⟩
    · exact ⟨x, send_old _ hx, ht⟩
  | false =>
    have ew : comeA { w with net := l } m = ⟨hHearH w.head m, w.houses, sendA l (hHearM w.head m)⟩ := by
      unfold comeA
      simp only [hh, hf]
      rfl
    rw [ew] at hp ⊢
    have hnf : m.kind ≠ 1 ∧ m.kind ≠ 4 := by
      unfold forHouse at hf
      rw [decide_eq_false_iff_not] at hf
      omega
    have other : m.deed ≠ d → ∀ k, (k ∈ o.heard ∨ ∃ x ∈ w.net, Tok b d k x) → (k ∈ o.heard ∨ ∃ x ∈ sendA l (hHearM w.head m), Tok b d k x) := by
      intro hne k hx
      rcases hx with hx | ⟨x, hx, ht⟩
      · exact .inl hx
      · rw [e] at hx
        rcases List.mem_cons.1 hx with hx | hx
        · rw [hx] at ht; exact absurd ht.1 hne
        · exact .inr ⟨x, send_old _ hx, ht⟩
    cases hL : hearL m w.head.opn with
    | none =>
      right
      have e1 : hHearH w.head m = w.head := by unfold hHearH; rw [hL]
      rw [e1]
      have hne : m.deed ≠ d := fun h => hearL_none hL o ho (by rw [hod, h])
      exact ⟨o, ho, hod, hob, fun k hk' => other hne k (hk k hk')⟩
    | some y =>
      obtain ⟨A, o2, B, e1, e2, e3, rfl⟩ := hearL_some hL
      have eo : (hHearH w.head m).opn = A ++ (hearO o2 m).1 ++ B := by unfold hHearH; rw [hL]
      show pot (hHearH w.head m).opn < p0 ∨ ∃ o ∈ (hHearH w.head m).opn, _
      rw [eo]
      have hond := i.core.ond
      rw [e1] at hond
      by_cases hd : m.deed = d
      · have eoo : o = o2 := by
          rw [e1] at ho
          rcases List.mem_append.1 ho with h1 | h1
          · exact absurd (hod.trans (hd.symm.trans e3.symm)) (open_deed hond (List.mem_append_left _ h1))
          · rcases List.mem_cons.1 h1 with h1 | h1
            · exact h1
            · exact absurd (hod.trans (hd.symm.trans e3.symm)) (open_deed hond (List.mem_append_right _ h1))
        rw [← eoo] at e1 ⊢
        rcases hearO_cases o m with hc | ⟨hc, hi⟩ | hc
        · left
          rw [e1] at hle
          have e4 : pot (A ++ o :: B) = pot A + (pot [o] + pot B) := by rw [pot_app]; congr 1
          rw [pot_app, pot_app]
          omega
        · right
          rw [hc]
          refine ⟨o, by simp, hod, hob, fun k hk' => ?_⟩
          rcases hk k hk' with hx | ⟨x, hx, ht⟩
          · exact .inl hx
          rw [e] at hx
          rcases List.mem_cons.1 hx with hx | hx
          · rw [hx] at ht
            left
            obtain ⟨t1, t2, t3⟩ := ht
            rw [← t2] at hk' ⊢
            refine hi ?_ hk'
            rw [hob]
            rcases t3 with ⟨hb, t3⟩ | ⟨hb, t3⟩
            · exact .inl ⟨hb, by omega⟩
            · exact .inr ⟨hb, by omega⟩
          · exact .inr ⟨x, send_old _ hx, ht⟩
        · right
          rw [hc]
          refine ⟨_, List.mem_append_left _ (List.mem_append_right _ List.mem_cons_self), hod, hob, fun k hk' => ?_⟩
          rcases hk k hk' with hx | ⟨x, hx, ht⟩
          · exact .inl (List.mem_append_left _ hx)
          rw [e] at hx
          rcases List.mem_cons.1 hx with hx | hx
          · rw [hx] at ht
            left
            rw [← ht.2.1]; simp
          · exact .inr ⟨x, send_old _ hx, ht⟩
      · right
        refine ⟨o, ?_, hod, hob, fun k hk' => other hd k (hk k hk')⟩
        rw [e1] at ho
        rcases List.mem_append.1 ho with h1 | h1
        · exact List.mem_append_left _ (List.mem_append_left _ h1)
        · rcases List.mem_cons.1 h1 with h1 | h1
          · exact absurd (by rw [← e3, ← h1, hod]) hd
          · exact List.mem_append_right _ h1
/-- the head says again what it waits for: something goes on -/
theorem head_tick {n : Nat} {G : Reg} {w : AW} (i : WI n G w) (hnet : w.net = []) (hne : w.head.opn ≠ []) : pot (drainA (tickA w 3)).head.opn < pot w.head.opn := by
  cases ho : w.head.opn with
  | nil => exact absurd ho hne
  | cons o B =>
    have hth := tick_head w 3
    have ht : Toks (tickA w 3) (pot w.head.opn) o.deed o.dec := by
      refine ⟨by rw [hth.1]; exact Nat.le_refl _, .inr ⟨o, by rw [hth.1, ho]; exact List.mem_cons_self, rfl, rfl, fun k hk => ?_⟩⟩
      by_cases hh : k ∈ o.heard
      · exact .inl hh
      right
      refine ⟨commitM o k, ?_, ?_⟩
      · have e : (tickA w 3).net = sendA w.net (tickE w.head) := by unfold tickA; rw [if_pos rfl]
        rw [e, hnet]
        unfold sendA tickE
        rw [ho, List.nil_append, List.flatMap_cons, List.take_append]
        refine List.mem_append_left _ ?_
        have h4 : (asksE o).length ≤ 3 := by
          unfold asksE
          rw [List.length_map]
          exact Nat.le_trans (List.length_filter_le _ _) (houses_len _)
        rw [List.take_of_length_le (by simp; omega)]
        unfold asksE
        exact List.mem_map.2 ⟨k, List.mem_filter.2 ⟨hk, by simp [hh]⟩, rfl⟩
      · unfold commitM
        cases hd : o.dec with
        | true => exact ⟨rfl, rfl, .inr ⟨rfl, .inl rfl⟩⟩
        | false => exact ⟨rfl, rfl, .inl ⟨rfl, .inl rfl⟩⟩
    obtain ⟨⟨i2, t2⟩, hn⟩ := drain_keeps (p := fun x => WI n G x ∧ Toks x (pot w.head.opn) o.deed o.dec) (fun x m l h e => ⟨h.1.come1 e, toks_come h.1 h.2 e⟩) _ (tickA w 3) (Nat.le_refl _) ⟨i.tick 3, ht⟩
    rw [← ho]
    rcases t2.2 with h | ⟨o', ho', -, -, hk⟩
    · exact h
    · exfalso
      have h1 := (i2.core.onew o' ho').2.2
      have h2 := len_le (houses_nodup o'.parts) (b := o'.heard) fun k hk' => (hk k hk').resolve_right (by rw [hn]; simp)
      omega
/-- a house that says again what it waits for, where nothing is open -/
def NoRdy (w : AW) (j : Nat) : Prop := ∀ h, w.houses[j]? = some h → h.ready = []
def Asks (w : AW) (k : Nat) : Prop := w.head.opn = [] ∧ (∀ m ∈ w.net, m.kind = 5 ∨ m.kind = 7) ∧ ∀ h, w.houses[k]? = some h → ∀ r ∈ h.ready, ∃ m ∈ w.net, m.deed = r.deed ∧ m.house = k
theorem hear5 {h : Hs} (hm : Made h) (hf : Fine h.ready) {m : Ms} (h5 : m.kind = 5) : hearM h m.house m = [] ∧ ∀ r ∈ (hearH h m).ready, r ∈ h.ready ∧ r.deed ≠ m.deed := by
  constructor
  · unfold hearM
    rw [if_neg (by omega), if_neg (by omega)]
  · intro r hr
    unfold hearH at hr
    rw [if_neg (by omega), if_neg (by omega), if_pos h5] at hr
    split at hr
    · rename_i hrd
      rw [(note3 hm hrd).1] at hr
      exact mem_erase hf.nodup hr
    · rename_i hrd
      refine ⟨hr, fun e => hrd ?_⟩
      unfold readyE
      rw [List.any_eq_true]
      exact ⟨r, hr, by simp [isD, e]⟩
theorem asks_come {n : Nat} {G : Reg} {w : AW} {m : Ms} {l : List Ms} {k : Nat} (i : WI n G w) (h : Asks w k) (e : w.net = m :: l) :
    Asks (comeA { w with net := l } m) k ∧ ∀ j, NoRdy w j → NoRdy (comeA { w with net := l } m) j := by
  have hl := i.len
  rw [e] at hl
  simp only [List.length_cons] at hl
  have hmem : m ∈ w.net := by rw [e]; exact List.mem_cons_self
  have hm := i.net m hmem
  obtain ⟨ho, hk, ht⟩ := h
  have hlen := i.core.len
  have h0 := hm.right.house.1
  have hlt : m.house.toNat < w.houses.length := by have := hm.here; omega
  obtain ⟨h, hh⟩ : ∃ h, w.houses[m.house.toNat]? = some h := ⟨_, List.getElem?_eq_getElem hlt⟩
  have hi := i.core.house' h0 hh
  have hkl : ∀ x ∈ l, x.kind = 5 ∨ x.kind = 7 := fun x hx => hk x (by rw [e]; exact List.mem_cons_of_mem _ hx)
  rcases hk m hmem with h5 | h7
  · obtain ⟨g1, g2⟩ := hear5 hi.calm.made hi.calm.fine h5
    have ew : comeA { w with net := l } m = ⟨w.head, w.houses.set m.house.toNat (hearH h m), l⟩ := by
      unfold comeA
      have hf : forHouse m = true := by unfold forHouse; rw [decide_eq_true_eq]; omega
      simp only [hh, hf, if_true, g1]
      simp [sendA]
    rw [ew]
    refine ⟨⟨ho, hkl, fun x hx r hr => ?_⟩, fun j hj x hx => ?_⟩
    · by_cases ek : k = m.house.toNat
      · subst ek
        replace hx : (w.houses.set m.house.toNat (hearH h m))[m.house.toNat]? = some x := hx
        rw [List.getElem?_set_self hlt] at hx
        obtain rfl := Option.some.inj hx
        obtain ⟨a, b⟩ := g2 r hr
        obtain ⟨y, hy, y1, y2⟩ := ht h hh r a
        rw [e] at hy
        rcases List.mem_cons.1 hy with hy | hy
        · rw [hy] at y1; exact absurd y1.symm b
        · exact ⟨y, hy, y1, y2⟩
      · replace hx : (w.houses.set m.house.toNat (hearH h m))[k]? = some x := hx
        rw [List.getElem?_set_ne (fun e' => ek e'.symm)] at hx
        obtain ⟨y, hy, y1, y2⟩ := ht x hx r hr
        rw [e] at hy
        rcases List.mem_cons.1 hy with hy | hy
        · rw [hy] at y2; exact absurd (by omega) ek
        · exact ⟨y, hy, y1, y2⟩
    · by_cases ek : j = m.house.toNat
      · subst ek
        replace hx : (w.houses.set m.house.toNat (hearH h m))[m.house.toNat]? = some x := hx
        rw [List.getElem?_set_self hlt] at hx
        obtain rfl := Option.some.inj hx
        rw [List.eq_nil_iff_forall_not_mem]
        intro r hr
        have := (g2 r hr).1
        rw [hj h hh] at this
        simp at this
      · replace hx : (w.houses.set m.house.toNat (hearH h m))[j]? = some x := hx
        rw [List.getElem?_set_ne (fun e' => ek e'.symm)] at hx
        exact hj x hx
  · have hL : hearL m w.head.opn = none := by rw [ho]; rfl
    have ew : comeA { w with net := l } m = ⟨w.head, w.houses, l ++ [⟨5, m.deed, m.house, []⟩]⟩ := by
      unfold comeA
      have hf : forHouse m = false := by unfold forHouse; rw [decide_eq_false_iff_not]; omega
      have e1 : hHearH w.head m = w.head := by unfold hHearH; rw [hL]
      have e2 : hHearM w.head m = [⟨5, m.deed, m.house, []⟩] := by unfold hHearM; rw [hL]; simp only; rw [if_pos h7]
      simp only [hh, hf, e1, e2]
      rw [send_one _ (by omega)]
      rfl
    rw [ew]
    refine ⟨⟨ho, fun x hx => ?_, fun x hx r hr => ?_⟩, fun j hj x hx => hj x hx⟩
    · rcases List.mem_append.1 hx with hx | hx
      · exact hkl x hx
      · rw [List.mem_singleton.1 hx]; exact .inl rfl
    · obtain ⟨y, hy, y1, y2⟩ := ht x hx r hr
      rw [e] at hy
      rcases List.mem_cons.1 hy with hy | hy
      · rw [hy] at y1 y2
        exact ⟨_, List.mem_append_right _ List.mem_cons_self, y1, y2⟩
      · exact ⟨y, List.mem_append_left _ hy, y1, y2⟩
theorem keysOf_len : ∀ {l : List Rd}, (∀ r ∈ l, r.parts ≠ []) → l.length ≤ (keysOf l).length
  | [], _ => Nat.zero_le _
  | r :: l, h => by
    have ih := keysOf_len (l := l) fun x hx => h x (List.mem_cons_of_mem _ hx)
    have h1 : 0 < r.parts.length := List.length_pos_iff.2 (h r List.mem_cons_self)
    rw [keysOf_cons, List.length_append, List.length_map, List.length_cons]
    omega
theorem ready_len {n : Nat} {G : Reg} {hd : Hd} {hs : List Hs} (c : Core n G hd hs) {k : Nat} {h : Hs} (hk : hs[k]? = some h) : h.ready.length ≤ 4 := by
  have hi := c.house k h hk
  have h1 := keysOf_len (l := h.ready) fun r hr => by
    obtain ⟨P, -, -, hne⟩ := hi.reg r hr
    exact hne
  have h2 := len_le hi.calm.apart (b := [0, 1, 2, 3]) fun q hq => by
    unfold keysOf at hq
    obtain ⟨r, hr, hq⟩ := List.mem_flatMap.1 hq
    obtain ⟨P, hP, hp, -⟩ := hi.reg r hr
    obtain ⟨p, hp', rfl⟩ := List.mem_map.1 hq
    rw [hp] at hp'
    have := ofL_ok (c.reg.ok _ hP).2 k p hp'
    simp
    omega
  simp only [List.length_cons, List.length_nil] at h2
  omega
def tickD (w : AW) (k : Nat) : AW := drainA (tickA w k)
theorem WI.tickD {n : Nat} {G : Reg} {w : AW} (i : WI n G w) (k : Nat) : WI n G (tickD w k) ∧ (tickD w k).net = [] := (i.tick k).drain
theorem tickD_pot (w : AW) (k : Nat) : pot (tickD w k).head.opn ≤ pot w.head.opn := by
  have := drain_pot (tickA w k)
  rw [(tick_head w k).1] at this
  exact this
theorem tickD_quiet {n : Nat} {G : Reg} {w : AW} (i : WI n G w) (hnet : w.net = []) (ho : w.head.opn = []) {k : Nat} (hk : k ≠ 3) :
    (tickD w k).head.opn = [] ∧ NoRdy (tickD w k) k ∧ ∀ j, NoRdy w j → NoRdy (tickD w k) j := by
  have hth := tick_head w k
  have h0 : Asks (tickA w k) k := by
    refine ⟨by rw [hth.1]; exact ho, ?_, ?_⟩
    · intro m hm
      unfold tickA at hm
      rw [if_neg hk] at hm
      cases hh : w.houses[k]? with
      | none => rw [hh] at hm; simp only [hnet] at hm; simp at hm
      | some h =>
        rw [hh] at hm
        simp only [hnet] at hm
        rcases send_mem hm with hm | hm
        · simp at hm
        · unfold hTickE at hm
          obtain ⟨r, -, rfl⟩ := List.mem_map.1 hm
          exact .inr rfl
    · intro h hh r hr
      rw [hth.2] at hh
      have hlen := ready_len i.core hh
      refine ⟨⟨7, r.deed, k, []⟩, ?_, rfl, rfl⟩
      have e : (tickA w k).net = sendA w.net (hTickE h k) := by
        unfold tickA
        rw [if_neg hk, hh]
      rw [e, hnet]
      unfold sendA hTickE
      rw [List.nil_append, List.take_of_length_le (by simp; omega)]
      exact List.mem_map.2 ⟨r, hr, rfl⟩
  obtain ⟨⟨i2, t2, t3⟩, hn⟩ := drain_keeps (p := fun x => WI n G x ∧ Asks x k ∧ ∀ j, NoRdy w j → NoRdy x j)
    (fun x m l h e => ⟨h.1.come1 e, (asks_come h.1 h.2.1 e).1, fun j hj => (asks_come h.1 h.2.1 e).2 j (h.2.2 j hj)⟩) _ (tickA w k) (Nat.le_refl _)
    ⟨i.tick k, h0, fun j hj h hh => hj h (by rw [hth.2] at hh; exact hh)⟩
  refine ⟨t2.1, fun h hh => ?_, t3⟩
  rw [List.eq_nil_iff_forall_not_mem]
  intro r hr
  obtain ⟨m, hm, -⟩ := t2.2.2 h hh r hr
  have hn' : (drainA (tickA w k)).net = [] := hn
  rw [hn'] at hm
  simp at hm
/-- a round that is fair -/
def roundA (w : AW) : AW := tickD (tickD (tickD (tickD (drainA w) 3) 2) 1) 0
structure Quiet (w : AW) : Prop where
  net : w.net = []
  opn : w.head.opn = []
  ready : ∀ j, NoRdy w j
theorem WI.round {n : Nat} {G : Reg} {w : AW} (i : WI n G w) : WI n G (roundA w) :=
  ((((i.drain.1.tickD 3).1.tickD 2).1.tickD 1).1.tickD 0).1
theorem round_pot (w : AW) : pot (roundA w).head.opn ≤ pot (tickD (drainA w) 3).head.opn :=
  Nat.le_trans (tickD_pot _ 0) (Nat.le_trans (tickD_pot _ 1) (tickD_pot _ 2))
theorem pot_nil {l l' : List Opn} (h : pot l ≤ pot l') (e : l' = []) : l = [] := pot_zero (Nat.le_zero.1 (by rw [e] at h; exact h))
theorem round_quiet {n : Nat} {G : Reg} {w : AW} (i : WI n G w) (ho : (drainA w).head.opn = []) : Quiet (roundA w) := by
  unfold roundA
  obtain ⟨i0, n0⟩ := i.drain
  obtain ⟨i3, n3⟩ := i0.tickD 3
  have o3 := pot_nil (tickD_pot (drainA w) 3) ho
  obtain ⟨i2, n2⟩ := i3.tickD 2
  obtain ⟨o2, r2, k2⟩ := tickD_quiet i3 n3 o3 (k := 2) (by omega)
  obtain ⟨i1, n1⟩ := i2.tickD 1
  obtain ⟨o1, r1, k1⟩ := tickD_quiet i2 n2 o2 (k := 1) (by omega)
  obtain ⟨i4, n4⟩ := i1.tickD 0
  obtain ⟨o4, r4, k4⟩ := tickD_quiet i1 n1 o1 (k := 0) (by omega)
  refine ⟨n4, o4, fun j => ?_⟩
  rcases Nat.lt_or_ge j 3 with hj | hj
  · have : j = 0 ∨ j = 1 ∨ j = 2 := by omega
    rcases this with rfl | rfl | rfl
    · exact r4
    · exact k4 _ r1
    · exact k4 _ (k1 _ r2)
  · intro h hh
    have h1 := (List.getElem?_eq_some_iff.1 hh).1
    have h2 := i4.core.len
    have h3 := i4.core.n3
    omega
theorem sendA_nil (net : List Ms) : sendA net [] = net := by simp [sendA]
/-- behind a round where nothing is open all is as it was -/
theorem round_same {w : AW} (q : Quiet w) : roundA w = w := by
  have h3 : tickA w 3 = w := by
    unfold tickA
    rw [if_pos rfl]
    have : tickE w.head = [] := by unfold tickE; rw [q.opn]; rfl
    rw [this, sendA_nil]
  have hk : ∀ k, k ≠ 3 → tickA w k = w := fun k hk => by
    unfold tickA
    rw [if_neg hk]
    cases hh : w.houses[k]? with
    | none => rfl
    | some h =>
      have : hTickE h k = [] := by unfold hTickE; rw [q.ready k h hh]; rfl
      simp only [this, sendA_nil]
  unfold roundA Go.Proofs.Ytgbhpghgohggcaa.tickD
  rw [drain_nil q.net, h3, drain_nil q.net, hk 2 (by omega), drain_nil q.net, hk 1 (by omega), drain_nil q.net, hk 0 (by omega), drain_nil q.net]
/-- a deed is open -/
def isOpen (w : AW) (d : Int) : Bool := w.houses.any (fun h => readyE h.ready d) ||
  (decidedR w.head.log).any fun r => r.deed == d && (List.range w.houses.length).any fun k => !(ofL r.parts k).isEmpty && !decide (d ∈ (w.houses.getD k hs0).done)
def opensE (w : AW) : List Int := ((List.range 1344).map fun d : Nat => (d : Int)).filter (isOpen w)
def idleA (w : AW) : Bool := w.net.isEmpty && w.head.opn.isEmpty && (opensE w).isEmpty
theorem open_nil {n : Nat} {G : Reg} {w : AW} (i : WI n G w) (q : Quiet w) (d : Int) : isOpen w d = false := by
  unfold isOpen
  rw [Bool.or_eq_false_iff]
  constructor
  · rw [List.any_eq_false]
    intro h hh
    obtain ⟨j, hj⟩ := List.mem_iff_getElem?.1 hh
    rw [q.ready j h hj]
    simp [readyE]
  · rw [List.any_eq_false]
    intro r hr hx
    rw [Bool.and_eq_true, List.any_eq_true] at hx
    obtain ⟨hd, k, hk, hx⟩ := hx
    rw [Bool.and_eq_true] at hx
    have hk' : k < w.houses.length := List.mem_range.1 hk
    have hl := i.core.len
    have h3 := i.core.n3
    have hin : (k : Int) ∈ housesE r.parts := houses_mem.2 ⟨by omega, by have := hx.1; intro e; rw [e] at this; simp at this⟩
    obtain ⟨y, hy, hyd⟩ := i.core.settled q.opn r hr k hin
    have e1 : w.houses.getD k hs0 = y := by
      rw [show ((k : Int)).toNat = k from rfl] at hy
      rw [List.getD_eq_getElem?_getD, hy]; rfl
    have e2 : r.deed = d := by simpa using hd
    rw [e1, ← e2] at hx
    simp [hyd] at hx
theorem idle_iff {n : Nat} {G : Reg} {w : AW} (i : WI n G w) : idleA w = true ↔ Quiet w := by
  unfold idleA
  rw [Bool.and_eq_true, Bool.and_eq_true, List.isEmpty_iff, List.isEmpty_iff, List.isEmpty_iff]
  constructor
  · rintro ⟨⟨h1, h2⟩, h3⟩
    refine ⟨h1, h2, fun j h hh => ?_⟩
    rw [List.eq_nil_iff_forall_not_mem]
    intro r hr
    obtain ⟨P, hP, -⟩ := (i.core.house j h hh).reg r hr
    have hd := i.core.deed hP
    have : r.deed ∈ opensE w := by
      unfold opensE
      refine List.mem_filter.2 ⟨List.mem_map.2 ⟨r.deed.toNat, List.mem_range.2 (by omega), by omega⟩, ?_⟩
      unfold isOpen
      rw [Bool.or_eq_true, List.any_eq_true]
      left
      refine ⟨h, List.mem_of_getElem? hh, ?_⟩
      unfold readyE
      rw [List.any_eq_true]
      exact ⟨r, hr, by simp [isD]⟩
    rw [h3] at this
    simp at this
  · intro q
    refine ⟨⟨q.net, q.opn⟩, ?_⟩
    unfold opensE
    rw [List.filter_eq_nil_iff]
    intro d _
    rw [open_nil i q d]
    simp
/-- rounds, until nothing is open -/
def settleN : Nat → AW → AW × Nat
  | 0, w => (w, 0)
  | f + 1, w => if idleA w = true then (w, 0) else ((settleN f (roundA w)).1, (settleN f (roundA w)).2 + 1)
theorem settle_same {n : Nat} {G : Reg} {w : AW} (i : WI n G w) (q : Quiet w) : ∀ f, settleN f w = (w, 0)
  | 0 => rfl
  | f + 1 => by
    unfold settleN
    rw [if_pos ((idle_iff i).2 q)]
theorem settle_len : ∀ (f : Nat) (w : AW), (settleN f w).2 ≤ f
  | 0, w => Nat.le_refl _
  | f + 1, w => by
    unfold settleN
    split
    · exact Nat.zero_le _
    · have := settle_len f (roundA w)
      simp only
      omega
theorem settle_step (f : Nat) {w : AW} (h : idleA w = false) : settleN (f + 1) w = ((settleN f (roundA w)).1, (settleN f (roundA w)).2 + 1) := by
  show (if idleA w = true then (w, 0) else _) = _
  rw [h]; rfl
theorem settle_quiet {n : Nat} {G : Reg} (f : Nat) : ∀ {w : AW}, WI n G w → pot w.head.opn + 1 ≤ f → Quiet (settleN f w).1 ∧ WI n G (settleN f w).1 := by
  induction f with
  | zero => intro w _ h; omega
  | succ f ih =>
    intro w i h
    cases hi : idleA w with
    | true =>
      have q := (idle_iff i).1 hi
      rw [settle_same i q]
      exact ⟨q, i⟩
    | false =>
      rw [settle_step f hi]
      have i2 := i.round
      have h2 := drain_pot w
      have h3 := round_pot w
      by_cases ho : (drainA w).head.opn = []
      · have q := round_quiet i ho
        generalize roundA w = x at *
        rw [settle_same i2 q f]
        exact ⟨q, i2⟩
      · have h1 : pot (tickD (drainA w) 3).head.opn < pot (drainA w).head.opn := head_tick i.drain.1 i.drain.2 ho
        have h4 : pot (roundA w).head.opn + 1 ≤ f := by omega
        generalize roundA w = x at *
        exact ih i2 h4
def settleA (w : AW) : AW × Nat := settleN 30 w
theorem WI.settle {n : Nat} {G : Reg} {w : AW} (i : WI n G w) : Quiet (settleA w).1 ∧ WI n G (settleA w).1 ∧ (settleA w).2 ≤ 30 := by
  have h1 := (pot_len w.head.opn).1
  have h2 := i.core.olen
  have := settle_quiet 30 i (by omega)
  exact ⟨this.1, this.2, settle_len _ _⟩
/-- what each coming, and each saying again, keeps, holds behind rounds -/
theorem round_keeps {p : AW → Prop} (hcome : ∀ (w : AW) (m : Ms) (l : List Ms), p w → w.net = m :: l → p (comeA { w with net := l } m)) (htick : ∀ (w : AW) (k : Nat), p w → p (tickA w k)) {w : AW} (h : p w) : p (roundA w) := by
  have hd : ∀ x, p x → p (drainA x) := fun x hx => (drain_keeps hcome _ x (Nat.le_refl _) hx).1
  exact hd _ (htick _ _ (hd _ (htick _ _ (hd _ (htick _ _ (hd _ (htick _ _ (hd _ h))))))))
theorem settle_keeps {p : AW → Prop} (hcome : ∀ (w : AW) (m : Ms) (l : List Ms), p w → w.net = m :: l → p (comeA { w with net := l } m)) (htick : ∀ (w : AW) (k : Nat), p w → p (tickA w k)) : ∀ (f : Nat) {w : AW}, p w → p (settleN f w).1
  | 0, _, h => h
  | f + 1, w, h => by
    unfold settleN
    split
    · exact h
    · exact settle_keeps hcome htick f (round_keeps hcome htick h)
end Go.Proofs.Ytgbhpghgohggcaa

/- Plain: how long the logs of a played world are. -/
namespace Go.Proofs.Ytgbhpghgohggcaa
open Go.RowKit
theorem headFold_log : ∀ (l : List Rc) (h : Hd), (l.foldl headStep h).log = h.log
  | [], _ => rfl
  | r :: l, h => by
    rw [List.foldl_cons, headFold_log l]
    unfold headStep
    split
    · rfl
    · split
      · rfl
      · split <;> rfl
theorem headR_log (l : List Rc) : (headR l).log = l := headFold_log l _
theorem hearH_len {h : Hs} (m : Ms) {k : Nat} (hk : h.log.length ≤ k) : (hearH h m).log.length ≤ k + 1 := by
  have hn : ∀ r : Rc, (noteE h r).log.length ≤ k + 1 := fun r => by
    rw [show (noteE h r).log = h.log ++ [r] from log_house _]; simpa using hk
  unfold hearH
  split
  · split
    · exact hn _
    · omega
  · split
    · split
      · exact hn _
      · omega
    · split
      · split
        · exact hn _
        · omega
      · omega
theorem hearO_log (o : Opn) (m : Ms) : (hearO o m).2.1.length ≤ 1 := by
  unfold hearO
  split
  · split <;> simp
  · split
    · simp
    · split
      · split <;> simp
      · split <;> simp
theorem hearL_log {m : Ms} : ∀ {l : List Opn} {x : List Opn × List Rc × List Ms}, hearL m l = some x → x.2.1.length ≤ 1
  | [], x, h => by simp [hearL] at h
  | o :: l, x, h => by
    rw [hearL] at h
    split at h
    · rw [← Option.some.inj h]; exact hearO_log o m
    · cases e : hearL m l with
      | none => rw [e] at h; cases h
      | some y =>
        rw [e] at h
        rw [← Option.some.inj h]
        have h9 := hearL_log e
        exact h9
theorem hHear_log {h : Hd} (m : Ms) {k : Nat} (hk : h.log.length ≤ k) : (hHearH h m).log.length ≤ k + 1 := by
  unfold hHearH
  split
  · omega
  · rename_i x e
    have := hearL_log e
    show (h.log ++ x.2.1).length ≤ _
    rw [List.length_append]; omega
theorem begin_log (h : Hd) (P : List Pt) : (beginH h P).log = h.log := by
  unfold beginH
  split <;> rfl
theorem fall_log {h : Hd} {k : Nat} (hk : h.log.length ≤ k) : (fallH h).log.length ≤ k + 1 := by
  unfold fallH
  split
  · omega
  · rw [headR_log]; simpa using hk
theorem Few.more {k : Nat} {w : AW} (f : Few k w) : Few (k + 1) w := ⟨by have := f.log; omega, fun h hh => by have := f.logs h hh; omega⟩
theorem Few.come {k : Nat} {w : AW} (f : Few k w) (m : Ms) : Few (k + 1) (comeA w m) := by
  unfold comeA
  split
  · exact f.more
  · rename_i h e
    split
    · refine ⟨by have := f.log; show w.head.log.length ≤ _; omega, fun x hx => ?_⟩
      rcases List.mem_or_eq_of_mem_set hx with hx | rfl
      · have := f.logs x hx; omega
      · exact hearH_len m (f.logs h (List.mem_of_getElem? e))
    · exact ⟨hHear_log m f.log, fun x hx => by have := f.logs x hx; omega⟩
theorem Few.step {k : Nat} {w : AW} (f : Few k w) (s : St) : Few (k + 1) (doA w s) := by
  have f1 := f.more
  have f2 : ∀ net, Few k { w with net := net } := fun _ => ⟨f.log, f.logs⟩
  unfold doA
  split
  · split
    · exact ⟨by show (beginH w.head s.parts).log.length ≤ _; rw [begin_log]; exact f1.log, f1.logs⟩
    · exact f1
  · split
    · split
      · exact (f2 _).come _
      · exact f1
    · split
      · split
        · exact (f2 _).more
        · exact f1
      · split
        · split
          · exact (f2 _).more
          · exact f1
        · split
          · split
            · exact ⟨fall_log f.log, f1.logs⟩
            · exact f1
          · split
            · split
              · unfold tickA
                split
                · exact (f2 _).more
                · split
                  · exact f1
                  · exact (f2 _).more
              · exact f1
            · split
              · exact ⟨f1.log, f1.logs⟩
              · exact f1
theorem Few.zero (n : Nat) : Few 0 (newA n) := ⟨by show (headR _).log.length ≤ _; rw [headR_log]; simp, fun h hh => by
  rw [List.eq_of_mem_replicate hh]; show (houseR []).log.length ≤ _; rw [log_house]; simp⟩
theorem Few.play (n : Nat) : ∀ (l : List St) {k : Nat} {w : AW}, Few k w → Few (k + l.length) (playA w l)
  | [], k, w, f => f
  | s :: l, k, w, f => by
    show Few _ (playA (doA w s) l)
    have := Few.play n l (f.step s)
    rw [List.length_cons, show k + (l.length + 1) = k + 1 + l.length by omega]
    exact this
/-- what a step's walk needs of a world -/
structure Small (w : AW) : Prop where
  few : ∃ k, k ≤ 1000 ∧ Few k w
  wi : ∃ n G, WI n G w
end Go.Proofs.Ytgbhpghgohggcaa

/- Plain: what the head's loops make, one open deed after the other. -/
namespace Go.Proofs.Ytgbhpghgohggcaa
open Go.RowKit
theorem fmap_next {α β : Type} (q : α → Bool) (f : α → β) {l : List α} {j : Nat} (h : j < l.length) : ((l.take (j + 1)).filter q).map f = if q l[j] = true then ((l.take j).filter q).map f ++ [f l[j]] else ((l.take j).filter q).map f := by
  rw [List.take_succ_eq_append_getElem h, List.filter_append, List.map_append]
  by_cases hq : q l[j] = true <;> simp [hq]
theorem map_next {α β : Type} (f : α → β) {l : List α} {j : Nat} (h : j < l.length) : (l.take (j + 1)).map f = (l.take j).map f ++ [f l[j]] := by
  rw [List.take_succ_eq_append_getElem h, List.map_append]; rfl
theorem flat_next {α β : Type} (f : α → List β) {l : List α} {j : Nat} (h : j < l.length) : (l.take (j + 1)).flatMap f = (l.take j).flatMap f ++ f l[j] := by
  rw [List.take_succ_eq_append_getElem h, List.flatMap_append]; simp
theorem fflat_next {α β : Type} (q : α → Bool) (f : α → List β) {l : List α} {j : Nat} (h : j < l.length) : ((l.take (j + 1)).filter q).flatMap f = if q l[j] = true then ((l.take j).filter q).flatMap f ++ f l[j] else ((l.take j).filter q).flatMap f := by
  rw [List.take_succ_eq_append_getElem h, List.filter_append, List.flatMap_append]
  by_cases hq : q l[j] = true <;> simp [hq]
theorem take_next {α : Type} {l : List α} {j : Nat} (h : j < l.length) : l.take (j + 1) = l.take j ++ [l[j]] := List.take_succ_eq_append_getElem h
theorem houses_short (l : List Pt) : (housesE l).length ≤ 3 := Nat.le_trans (List.length_filter_le _ _) (by simp)
theorem asks_short (o : Opn) : (asksE o).length ≤ 3 := by
  unfold asksE
  rw [List.length_map]
  exact Nat.le_trans (List.length_filter_le _ _) (houses_short _)
theorem aborts_short (d : Int) (l : List Pt) : (abortsE d l).length ≤ 3 := by
  unfold abortsE
  rw [List.length_map]
  exact houses_short _
theorem flat_short {α β : Type} {f : α → List β} {b : Nat} (hf : ∀ x, (f x).length ≤ b) : ∀ (l : List α), (l.flatMap f).length ≤ l.length * b
  | [] => by simp
  | x :: l => by
    rw [List.flatMap_cons, List.length_append, List.length_cons, Nat.add_mul, Nat.one_mul]
    have := hf x
    have := flat_short hf l
    omega
/-- the head's answer, gone through one by one -/
structure HGo where
  opn : List Opn
  recs : List Rc
  says : List Ms
  known : Bool
def hgoStep (m : Ms) (s : HGo) (o : Opn) : HGo :=
  if o.deed = m.deed ∧ s.known = false then ⟨s.opn ++ (hearO o m).1, (hearO o m).2.1, (hearO o m).2.2, true⟩ else { s with opn := s.opn ++ [o] }
def hgo (m : Ms) (l : List Opn) : HGo := l.foldl (hgoStep m) ⟨[], [], [], false⟩
theorem hgo_next (m : Ms) {l : List Opn} {j : Nat} (h : j < l.length) : hgo m (l.take (j + 1)) = hgoStep m (hgo m (l.take j)) l[j] := by
  unfold hgo
  rw [List.take_succ_eq_append_getElem h, List.foldl_append]; rfl
theorem hgo_known (m : Ms) : ∀ (l : List Opn) (s : HGo), s.known = true → l.foldl (hgoStep m) s = { s with opn := s.opn ++ l }
  | [], s, _ => by simp
  | o :: l, s, h => by
    rw [List.foldl_cons]
    have e : hgoStep m s o = { s with opn := s.opn ++ [o] } := by unfold hgoStep; rw [if_neg (by rw [h]; simp)]
    rw [e, hgo_known m l { s with opn := s.opn ++ [o] } h]
    simp
theorem hgo_all (m : Ms) : ∀ (l : List Opn) (p : List Opn), l.foldl (hgoStep m) ⟨p, [], [], false⟩ = match hearL m l with
    | none => ⟨p ++ l, [], [], false⟩
    | some x => ⟨p ++ x.1, x.2.1, x.2.2, true⟩
  | [], p => by simp [hearL]
  | o :: l, p => by
    rw [List.foldl_cons, hearL]
    by_cases hd : o.deed = m.deed
    · have e : hgoStep m ⟨p, [], [], false⟩ o = ⟨p ++ (hearO o m).1, (hearO o m).2.1, (hearO o m).2.2, true⟩ := by unfold hgoStep; rw [if_pos ⟨hd, rfl⟩]
      rw [e, hgo_known m l ⟨p ++ (hearO o m).1, (hearO o m).2.1, (hearO o m).2.2, true⟩ rfl, if_pos hd]
      simp
    · have e : hgoStep m ⟨p, [], [], false⟩ o = ⟨p ++ [o], [], [], false⟩ := by unfold hgoStep; rw [if_neg (fun h => hd h.1)]
      rw [e, hgo_all m l, if_neg hd]
      cases hearL m l with
      | none => simp
      | some x => simp
theorem hgo_hear (h : Hd) (m : Ms) : hHearH h m = { h with opn := (hgo m h.opn).opn, log := h.log ++ (hgo m h.opn).recs } ∧ hHearM h m = (if (hgo m h.opn).known = false ∧ m.kind = 7 then [⟨5, m.deed, m.house, []⟩] else (hgo m h.opn).says) := by
  have e := hgo_all m h.opn []
  unfold hHearH hHearM hgo
  rw [e]
  cases hearL m h.opn with
  | none => simp
  | some x => simp
theorem hgo_len (m : Ms) : ∀ (l : List Opn) (s : HGo), (l.foldl (hgoStep m) s).opn.length ≤ s.opn.length + l.length
  | [], s => by simp
  | o :: l, s => by
    rw [List.foldl_cons]
    have h1 := hgo_len m l (hgoStep m s o)
    have h2 : (hgoStep m s o).opn.length ≤ s.opn.length + 1 := by
      unfold hgoStep
      split
      · have : (hearO o m).1.length ≤ 1 := by
          unfold hearO
          split
          · split <;> simp
          · split
            · simp
            · split
              · split <;> simp
              · split <;> simp
        show (s.opn ++ _).length ≤ _
        rw [List.length_append]; omega
      · show (s.opn ++ _).length ≤ _
        simp
    rw [List.length_cons]; omega
end Go.Proofs.Ytgbhpghgohggcaa

/- Laws: a struct stored into part of a box. -/
namespace Go.Proofs.Ytgbhpghgohggcaa
open Go.RowKit
theorem wp_store_part {P : Program} {ty : TypeId} {w : World} {o : Oper} {a : Act} {K : Act → World → Prop} {Q : Exit → Act → World → Prop} (d s : Operand) (ho : o.op = .store ty d s)
    {g p : Nat} {t : TypeId} {old cells new : Array Value} (hd : a.eval d = .pointer (some ⟨g, p, none⟩)) (hs : a.eval s = .agg cells) (hrow : w.heap[g]? = some (.cells old t (0, 0)))
    (hi : (P.info? ty).map (·.size) = some cells.size) (hos : p + cells.size ≤ old.size) (h1 : cells.toList.all (·.oneCell') = true) (hnew : (old.toList.take p ++ cells.toList ++ old.toList.drop (p + cells.size)).toArray = new)
    (h : ∀ w', w'.heap[g]? = some (.cells new t (0, 0)) → w.grownBy w' (some g) → K (a.put o.dst undef) w') : o.wp P a w K Q := by
  have hr := run_storeCells_at (P := P) g p t cells.toList 0 old w hrow (by simpa using hos) (fun v hv => by simpa using List.all_eq_true.1 h1 v hv)
  simp only [Nat.add_zero, Array.length_toList] at hr
  rw [hnew] at hr
  have hr2 : (storeVar ty ⟨g, p, none⟩ (.agg cells)).run P w = .ok () (w.setRow g new) := by
    cases hq : P.info? ty with
    | none => simp [hq] at hi
    | some q =>
      have hs : cells.size = q.size := by simp [hq] at hi; omega
      simp [storeVar, sizeOf, typeInfo, hq, Value.cells, hs] at hr ⊢
      exact hr
  unfold Oper.wp execOp
  simp only [ho, hd, hs, Instr.storeAt, Instr.sureAddr, Sem.run_bind, Sem.run_pure, Result.andThen_ok, hr2]
  exact h _ (setRow_heap w g old new t _ hrow) ⟨rfl, rfl, rfl, by simp [World.setRow], fun k hk hne => by
    simp only [World.setRow]
    rw [Array.getElem?_modify]
    rw [if_neg (fun e => hne (by rw [e]))]⟩
theorem wpList_store_part {P : Program} {ty : TypeId} {ops : Array Oper} {rest : List Oper} {w : World} {o : Oper} {a : Act} {Q : Exit → Act → World → Prop} (hgd : o.guard = none) (d s : Operand) (ho : o.op = .store ty d s)
    {g p : Nat} {t : TypeId} {old cells new : Array Value} (hd : a.eval d = .pointer (some ⟨g, p, none⟩)) (hs : a.eval s = .agg cells) (hrow : w.heap[g]? = some (.cells old t (0, 0)))
    (hi : (P.info? ty).map (·.size) = some cells.size) (hos : p + cells.size ≤ old.size) (h1 : cells.toList.all (·.oneCell') = true) (hnew : (old.toList.take p ++ cells.toList ++ old.toList.drop (p + cells.size)).toArray = new)
    (h : ∀ w', w'.heap[g]? = some (.cells new t (0, 0)) → w.grownBy w' (some g) → wpList P ops Q rest (a.put o.dst undef) w') : wpList P ops Q (o :: rest) a w :=
  wpList_plain hgd fun _ hK => wp_store_part d s ho hd hs hrow hi hos h1 hnew fun w' a b => hK _ _ (h w' a b)
/-- one cell is stored: any value -/
theorem wp_store_cell {P : Program} {ty : TypeId} {w : World} {o : Oper} {a : Act} {K : Act → World → Prop} {Q : Exit → Act → World → Prop} (d s : Operand) (ho : o.op = .store ty d s)
    {g p : Nat} {t : TypeId} {old new : Array Value} {v : Value} (hd : a.eval d = .pointer (some ⟨g, p, none⟩)) (hs : a.eval s = v) (hv : v.cells = [v].toArray) (hrow : w.heap[g]? = some (.cells old t (0, 0)))
    (hi : (P.info? ty).map (·.size) = some 1) (hos : p + 1 ≤ old.size) (h1 : v.oneCell' = true) (hnew : (old.toList.take p ++ [v] ++ old.toList.drop (p + 1)).toArray = new)
    (h : ∀ w', w'.heap[g]? = some (.cells new t (0, 0)) → w.grownBy w' (some g) → K (a.put o.dst undef) w') : o.wp P a w K Q := by
  have hr := run_storeCells_at (P := P) g p t [v] 0 old w hrow (by simpa using hos) (fun u hu => by rw [List.mem_singleton.1 hu]; exact h1)
  simp only [Nat.add_zero, List.length_singleton] at hr
  rw [hnew] at hr
  have hr2 : (storeVar ty ⟨g, p, none⟩ v).run P w = .ok () (w.setRow g new) := by
    cases hq : P.info? ty with
    | none => simp [hq] at hi
    | some q =>
      have hs : 1 = q.size := by simp [hq] at hi; omega
      simp [storeVar, sizeOf, typeInfo, hq, hv, ← hs] at hr ⊢
      exact hr
  unfold Oper.wp execOp
  simp only [ho, hd, hs, Instr.storeAt, Instr.sureAddr, Sem.run_bind, Sem.run_pure, Result.andThen_ok, hr2]
  exact h _ (setRow_heap w g old new t _ hrow) ⟨rfl, rfl, rfl, by simp [World.setRow], fun k hk hne => by
    simp only [World.setRow]
    rw [Array.getElem?_modify]
    rw [if_neg (fun e => hne (by rw [e]))]⟩
theorem cells6 {w : World} {B : Nat} {a b c d e f : Value} {t : TypeId} (h : w.heap[B]? = some (.cells #[a, b, c, d, e, f] t (0, 0))) :
    w.cell? ⟨B, 0, none⟩ = some a ∧ w.cell? ⟨B, 1, none⟩ = some b ∧ w.cell? ⟨B, 2, none⟩ = some c ∧ w.cell? ⟨B, 3, none⟩ = some d ∧ w.cell? ⟨B, 4, none⟩ = some e ∧ w.cell? ⟨B, 5, none⟩ = some f := by
  simp [World.cell?, h]
theorem row_set6_5 {w : World} {B : Nat} {a b c d e f : Value} {t : TypeId} (h : w.heap[B]? = some (.cells #[a, b, c, d, e, f] t (0, 0))) (u : Value) : (w.setCell ⟨B, 5, none⟩ u).heap[B]? = some (.cells #[a, b, c, d, e, u] t (0, 0)) := by
  simp only [World.setCell, Array.getElem?_modify, h]; simp
theorem row_set6_4 {w : World} {B : Nat} {a b c d e f : Value} {t : TypeId} (h : w.heap[B]? = some (.cells #[a, b, c, d, e, f] t (0, 0))) (u : Value) : (w.setCell ⟨B, 4, none⟩ u).heap[B]? = some (.cells #[a, b, c, d, u, f] t (0, 0)) := by
  simp only [World.setCell, Array.getElem?_modify, h]; simp
end Go.Proofs.Ytgbhpghgohggcaa

/- Plain: what the walk of the document's Read keeps. -/
namespace Go.Proofs.Ytgbhpghgohggcaa
open Go.RowKit
def lenOf : Value → Nat
  | .slice _ n _ => n
  | _ => 0
theorem RdSt.bound {l r : List UInt8} {xs : List Int} {want : Int} (h : RdSt l xs r want) : 3 ≤ want ∧ want ≤ 11 := by
  by_cases h3 : xs.length < 3
  · have := h.few h3; omega
  · have := h.more (by omega); omega
theorem RdSt.pairs_all {l r : List UInt8} {xs : List Int} {want : Int} (h : RdSt l xs r want) (hw : want ≤ (xs.length : Int)) : (∃ n, xs.length = 3 + 2 * n) ∧ (∀ j, 3 + 2 * j < xs.length → 3 + 2 * j + 1 < xs.length) := by
  have h3 : 3 ≤ xs.length := by have := h.bound; omega
  obtain ⟨m0, m4, hw2⟩ := h.more h3
  have hl := h.le
  exact ⟨⟨(xs.getD 2 0).toNat, by omega⟩, fun j hj => by omega⟩
theorem cell_by2 {w w' : World} {B : Nat} {a : Addr} {v : Value} (h : w.cell? a = some v) (hg : w.grownBy w' (some B)) (hne : a.block ≠ B) : w'.cell? a = some v := by
  rw [by_cell hg (World.block_lt_of_cell? w a h) hne]; exact h
theorem intD_at {xs : List Int} {i : Nat} (h : i < xs.length) : xs.getD i 0 = xs[i] := by
  rw [List.getD_eq_getElem?_getD, List.getElem?_eq_getElem h]; rfl
theorem OwnC.int_at {c : CM} {w : World} {base e g cap : Nat} {xs : List Int} (h : OwnC Ty.int c w base e (.slice (some ⟨g, 0, none⟩) xs.length cap) xs) {i : Nat} (hi : i < xs.length) : w.cell? ⟨g, i, none⟩ = some (.int .i64 (xs.getD i 0)) := by
  obtain ⟨g', cs, he, ⟨rfl, -⟩, hA⟩ := h.get (by decide) i hi
  obtain rfl : g = g' := by simpa using he
  have := hA 0 _ rfl
  rw [intD_at hi]
  simpa [Ty.int] using this
theorem OwnC.int_ok {c : CM} {w : World} {base e : Nat} {v : Value} {xs : List Int} (h : OwnC Ty.int c w base e v xs) (i : Nat) : I64 (xs.getD i 0) := by
  by_cases hi : i < xs.length
  · obtain ⟨css, -, h2, h3⟩ := h
    have := (h3 i css[i] xs[i] (List.getElem?_eq_getElem (by omega)) (List.getElem?_eq_getElem hi)).2
    rw [intD_at hi]; exact this
  · rw [List.getD_eq_getElem?_getD, List.getElem?_eq_none (by omega)]; exact zero_ok
theorem OwnC.ints_ok {c : CM} {w : World} {base e : Nat} {v : Value} {xs : List Int} (h : OwnC Ty.int c w base e v xs) : ∀ x ∈ xs, I64 x := fun x hx => by
  obtain ⟨i, hi, rfl⟩ := List.mem_iff_getElem.1 hx
  have := h.int_ok i
  rw [intD_at hi] at this; exact this
theorem nums_at {c : CM} {w : World} {base e cap : Nat} {a : Option Addr} {xs : List Int} (h : OwnC Ty.int c w base e (.slice a xs.length cap) xs) (h3 : 3 ≤ xs.length) : ∃ g, a = some ⟨g, 0, none⟩ ∧ w.cell? ⟨g, 0, none⟩ = some (.int .i64 (xs.getD 0 0)) ∧ w.cell? ⟨g, 1, none⟩ = some (.int .i64 (xs.getD 1 0)) ∧ g < w.heap.size := by
  obtain ⟨g, cs, rfl, -, -⟩ := h.get (by decide) 0 (by omega)
  exact ⟨g, rfl, h.int_at (by omega), h.int_at (by omega), (h.lt g rfl).2⟩
theorem nums_two {c : CM} {w : World} {base e g cap : Nat} {xs : List Int} (h : OwnC Ty.int c w base e (.slice (some ⟨g, 0, none⟩) xs.length cap) xs) {i : Nat} (hi : i + 1 < xs.length) : w.cell? ⟨g, i, none⟩ = some (.int .i64 (xs.getD i 0)) ∧ w.cell? ⟨g, i + 1, none⟩ = some (.int .i64 (xs.getD (i + 1) 0)) := ⟨h.int_at (by omega), h.int_at hi⟩
theorem pairs_more (h : Int) {xs : List Int} {k : Nat} (hl : 3 + 2 * k + 1 < xs.length) : pairs h ((xs.drop 3).take (2 * (k + 1))) = pairs h ((xs.drop 3).take (2 * k)) ++ [⟨h, xs.getD (3 + 2 * k) 0, xs.getD (3 + 2 * k + 1) 0⟩] := by
  have e1 : (xs.drop 3).length = xs.length - 3 := List.length_drop
  have e2 : (xs.drop 3).take (2 * (k + 1)) = (xs.drop 3).take (2 * k) ++ [xs.getD (3 + 2 * k) 0, xs.getD (3 + 2 * k + 1) 0] := by
    rw [show 2 * (k + 1) = 2 * k + 1 + 1 by omega, List.take_succ_eq_append_getElem (by omega), List.take_succ_eq_append_getElem (by omega), List.getElem_drop, List.getElem_drop, intD_at (by omega), intD_at (by omega), List.append_assoc]
    rfl
  rw [e2, pairs_snoc h k (by rw [List.length_take]; omega)]
theorem pairs_short (h : Int) {xs : List Int} {k : Nat} (hk : 3 + 2 * k ≤ xs.length) : (pairs h ((xs.drop 3).take (2 * k))).length = k :=
  (nums_pairs k (by rw [List.length_take, List.length_drop]; omega)).2
theorem pairs_fine {h : Int} (hh : I64 h) : ∀ {l : List Int}, (∀ x ∈ l, I64 x) → PtsOk (pairs h l)
  | [], _ => fun p hp => by simp [pairs] at hp
  | [x], _ => fun p hp => by simp [pairs] at hp
  | x :: y :: l, hl => fun p hp => by
    rw [pairs] at hp
    rcases List.mem_cons.1 hp with rfl | hp
    · exact ⟨hh, hl _ (by simp), hl _ (by simp)⟩
    · exact pairs_fine hh (fun z hz => hl z (by simp [hz])) p hp
theorem info_int : (Try.prog.info? 3).map (·.size) = some 1 := by kernel_rfl
theorem info_parts : (Try.prog.info? 23).map (·.size) = some 1 := by kernel_rfl
/-- the message at work: its box, the result's, the numbers, and the parts -/
structure PSt (w wr : World) (B6 wb : Nat) (z : Nat) (d h : Int) (vp : Value) (g8 c8 : Nat) (ps : List Pt) (xs : List Int) : Prop where
  res : wr.heap[w.heap.size]? = some (.cells #[.int .i64 0, .int .i64 0, .int .i64 0, .slice none 0 0] 39 (0, 0))
  msg : wr.heap[B6]? = some (.cells #[.int .i64 z, .int .i64 d, .int .i64 h, vp] 39 (0, 0))
  num : OwnC Ty.int (fun _ => none) wr wb 3 (.slice (some ⟨g8, 0, none⟩) xs.length c8) xs
  own : wr.ownsRow (B6 + 1) 32 3 vp ps.length (ps.flatMap Pt.cells)
  grow : Grow w wr
  lo : w.heap.size < B6
  wbs : B6 < wb
  dis : ∀ q, vp.ownBlock = some q → q ≠ B6 ∧ q ≠ g8
theorem PSt.still {w wr y z9 : World} {B6 wb z : Nat} {d h : Int} {vp : Value} {g8 c8 : Nat} {ps : List Pt} {xs : List Int} (p : PSt w wr B6 wb z d h vp g8 c8 ps xs) (_hG : Grow wr y) (hg : y.grownBy z9 vp.ownBlock) {u v x t : Value} {i j : Nat}
    (hS : y.cell? ⟨B6, 3, none⟩ = some u ∧ y.cell? ⟨B6, 2, none⟩ = some v ∧ y.cell? ⟨g8, i, none⟩ = some x ∧ y.cell? ⟨g8, j, none⟩ = some t) :
    z9.cell? ⟨B6, 3, none⟩ = some u ∧ z9.cell? ⟨B6, 2, none⟩ = some v ∧ z9.cell? ⟨g8, i, none⟩ = some x ∧ z9.cell? ⟨g8, j, none⟩ = some t := by
  have k : ∀ (a : Addr) (v : Value), some a.block ≠ vp.ownBlock → y.cell? a = some v → z9.cell? a = some v := fun a v hne e => by
    rw [World.cell?_of_block (hg.block a.block (World.block_lt_of_cell? y a e) hne)]; exact e
  have n6 : some B6 ≠ vp.ownBlock := fun e => (p.dis _ e.symm).1 rfl
  have n8 : some g8 ≠ vp.ownBlock := fun e => (p.dis _ e.symm).2 rfl
  exact ⟨k _ _ n6 hS.1, k _ _ n6 hS.2.1, k _ _ n8 hS.2.2.1, k _ _ n8 hS.2.2.2⟩
theorem PSt.part {w wr y z9 zz : World} {B6 wb z : Nat} {d h : Int} {vp : Value} {g8 c8 : Nat} {ps ps' : List Pt} {xs : List Int} {a' : Option Addr} {n c' : Nat} (p : PSt w wr B6 wb z d h vp g8 c8 ps xs) (hG : Grow wr y)
    (ho : z9.ownsRow (B6 + 1) 32 3 (.slice a' n c') ps'.length (ps'.flatMap Pt.cells)) (hg : y.grownBy z9 vp.ownBlock)
    (hb : (Value.slice a' n c').ownBlock = vp.ownBlock ∨ ∃ g, (Value.slice a' n c').ownBlock = some g ∧ y.heap.size ≤ g)
    (hz : zz.heap[B6]? = some (.cells #[.int .i64 z, .int .i64 d, .int .i64 h, .slice a' n c'] 39 (0, 0))) (hgz : z9.grownBy zz (some B6)) : PSt w zz B6 wb z d h (.slice a' n c') g8 c8 ps' xs := by
  have z8 := p.num.lt g8 rfl
  have zg := hG.size
  have z9s := hg.size
  have hlo := p.lo
  have hwb := p.wbs
  have n8 : some g8 ≠ vp.ownBlock := fun e => (p.dis _ e.symm).2 rfl
  have nR : some w.heap.size ≠ vp.ownBlock := fun e => by have := (p.own.lt _ e.symm).1; omega
  have hdis : ∀ q, (Value.slice a' n c').ownBlock = some q → q ≠ B6 ∧ q ≠ g8 := fun q hq => by
    rcases hb with e | ⟨g, e, hge⟩
    · exact p.dis q (e.symm.trans hq)
    · rw [e] at hq
      obtain rfl := Option.some.inj hq
      constructor <;> omega
  refine ⟨row_by (row_by (row_grow p.res hG) hg nR) hgz (by intro e; have := Option.some.inj e; omega), hz, ?_, ?_, ?_, hlo, hwb, hdis⟩
  · refine ((p.num.grow hG).kept hg (.inr ?_)).kept hgz (.inr ?_)
    · simpa [Value.ownBlock] using n8
    · simp [Value.ownBlock]; omega
  · refine ho.kept hgz ?_
    cases e : (Value.slice a' n c').ownBlock with
    | none => exact .inl rfl
    | some q => exact .inr (by have := (hdis q e).1; intro e2; exact this (Option.some.inj e2))
  · exact ((p.grow.trans hG).grown hg (fun q hq => by have := (p.own.lt q hq).1; omega)).grown hgz (fun q hq => by simp at hq; omega)
end Go.Proofs.Ytgbhpghgohggcaa

/- Walks: a message out of bytes, by the document. -/
namespace Go.Proofs.Ytgbhpghgohggcaa
open Go.RowKit
/-- the failing end: no message, and what is wrong -/
theorem ref_fail {n : Int} (w : World) : Calls Try.prog 133 #[.int .i64 n] w fun e w' => e = .returned (.tuple #[.agg #[.int .i64 0, .int .i64 0, .int .i64 0, .slice none 0 0], .int .i64 n]) ∧ Grow w w' := by
  have R2 := Lib.hid (row_new w (.cells #[.int .i64 0, .int .i64 0, .int .i64 0, .slice none 0 0] 39))
  have G1 := Lib.hid ((Grow.refl w).alloc (.cells #[.int .i64 0, .int .i64 0, .int .i64 0, .slice none 0 0] 39))
  go_enter Try.func133, Try.ntmps133
  go_wp2_with (first | (refine wpList_store_row rfl (.tmp 2) (.tmp 4) rfl rfl rfl R2.out info_ms rfl rfl ?_))
  intro w7 r7 g7
  obtain ⟨p0, p1, p2, p3⟩ := cells4 r7
  go_wp2
  refine bodyPost_ret (v := .tuple #[.agg #[.int .i64 0, .int .i64 0, .int .i64 0, .slice none 0 0], .int .i64 n]) (by simp [results, Try.results133, go_sem, p0, p1, p2, p3]) rfl ?_
  exact ⟨rfl, G1.out.grown g7 (fun q hq => by simp at hq; omega)⟩
set_option maxRecDepth 100000 in
set_option maxHeartbeats 4000000 in
theorem ref_read {v : Value} {b : List UInt8} (w : World) (hv : Bts w.cell? v b) :
    Calls Try.prog 68 #[v] w fun e w' => ∃ v', e = .returned (.tuple #[v', .int .i64 (readB b).2]) ∧ Of Ty.ms w'.cell? v' (readB b).1 ∧ Grow w w' := by
  have HV := Lib.hid hv
  obtain ⟨a, cap, rfl, h1, h2, -, hel⟩ := hv
  unfold maxLen at h2
  by_cases hl3 : b.length < 3
  · have HE : Hid (readB b = (ms0, 8)) := by show readB b = _; unfold readB; rw [if_pos hl3]
    have R2 := Lib.hid (row_new w (.cells #[.int .i64 0, .int .i64 0, .int .i64 0, .slice none 0 0] 39))
    have G1 := Lib.hid ((Grow.refl w).alloc (.cells #[.int .i64 0, .int .i64 0, .int .i64 0, .slice none 0 0] 39))
    clear hel
    go_enter Try.func68, Try.ntmps68
    go_wp2_with fail
    refine (ref_fail _).mono ?_
    rintro e w1 ⟨rfl, hb⟩
    have R3 := Lib.hid (row_grow R2.out hb)
    have G3 := Lib.hid (G1.out.trans hb)
    clear hb
    go_wp2_with (first | (refine wpList_store_row rfl (.tmp 2) (.tmp 20) rfl rfl rfl R3.out info_ms rfl rfl ?_))
    intro w7 r7 g7
    obtain ⟨p0, p1, p2, p3⟩ := cells4 r7
    go_wp2
    refine bodyPost_ret (v := .tuple #[.agg #[.int .i64 0, .int .i64 0, .int .i64 0, .slice none 0 0], .int .i64 8]) (by simp [results, Try.results68, go_sem, p0, p1, p2, p3]) rfl ?_
    rw [HE.out]
    exact ⟨_, rfl, of_ms0 _, G3.out.grown g7 (fun q hq => by simp at hq; omega)⟩
  have HSM := Lib.hid (fun (W : World) (hW : Grow w W) => ref_sum W ((HV.out.take' (b.length - 2) (by omega)).mono hW.sub))
  obtain ⟨bb, o, rfl, c0⟩ := byteAt hel 0 (by omega)
  obtain ⟨bb', o', he, cx⟩ := byteAt hel (b.length - 2) (by omega)
  obtain ⟨rfl, rfl⟩ : bb = bb' ∧ o = o' := by simpa using he
  obtain ⟨bb', o', he', cy⟩ := byteAt hel (b.length - 1) (by omega)
  obtain ⟨rfl, rfl⟩ : bb = bb' ∧ o = o' := by simpa using he'
  clear he he' hel
  obtain ⟨e, hle⟩ : ∃ e, b.length = e + 2 := ⟨b.length - 2, by omega⟩
  obtain ⟨x, hx⟩ : ∃ x, x = (b[b.length - 2]'(by omega)).toNat := ⟨_, rfl⟩
  obtain ⟨y, hy⟩ : ∃ x, x = (b[b.length - 1]'(by omega)).toNat := ⟨_, rfl⟩
  obtain ⟨z, hz⟩ : ∃ x, x = (b[0]'(by omega)).toNat := ⟨_, rfl⟩
  obtain ⟨s, hs⟩ : ∃ s, s = sumB (b.take (b.length - 2)) := ⟨_, rfl⟩
  have hx2 : x < 256 := by rw [hx]; exact UInt8.toNat_lt _
  have hy2 : y < 256 := by rw [hy]; exact UInt8.toNat_lt _
  have hz2 : z < 256 := by rw [hz]; exact UInt8.toNat_lt _
  have hs1 : s < 65521 := by rw [hs]; exact sumB_lt _
  have hok : sumOk b = decide (s = 256 * x + y) := by
    refine sum_test (e := e) hle ?_ ?_ hx2 hy2 (by rw [hs]; congr 2; omega)
    · rw [hx]; simp [hle]
    · rw [hy]; simp [hle]
  have HZ : Hid (((b.getD 0 0).toNat : Nat) = z) := Lib.hid (by rw [hz, List.getD_eq_getElem?_getD, List.getElem?_eq_getElem (by omega)]; rfl)
  rw [← hx] at cx
  rw [← hy] at cy
  rw [← hz] at c0
  rw [← hs] at HSM
  rw [show b.length - 2 = e by omega] at cx HSM
  rw [show b.length - 1 = e + 1 by omega] at cy
  have HL3 := Lib.hid hl3
  have HSL := Lib.hid (HV.out.take' (b.length - 2) (by omega))
  rw [show b.length - 2 = e by omega] at HSL
  have HTD : Hid (b.take (b.length - 2) = b.take e) := Lib.hid (by congr 1; omega)
  have HTL : Hid ((b.take e).length = e) := Lib.hid (by rw [List.length_take]; omega)
  rw [hle] at hl3 h1 ⊢
  clear hx hy hz hs hle
  have HOK := Lib.hid hok
  clear hok
  have HC0 := Lib.hid c0
  have HCX := Lib.hid cx
  have HCY := Lib.hid cy
  have HSV := Lib.hid (fun (W : World) (hW : Grow w W) => (show W.cell? ⟨bb, o + e, none⟩ = some (.int .u8 x) ∧ W.cell? ⟨bb, o + (e + 1), none⟩ = some (.int .u8 y) from ⟨hW.sub _ _ HCX.out, hW.sub _ _ HCY.out⟩))
  obtain ⟨wa, hwa⟩ : ∃ y : World, y = w.alloc (.cells #[.int .i64 0, .int .i64 0, .int .i64 0, .slice none 0 0] 39) := ⟨_, rfl⟩
  have R2 : Hid (wa.heap[w.heap.size]? = some (.cells #[.int .i64 0, .int .i64 0, .int .i64 0, .slice none 0 0] 39 (0, 0))) := Lib.hid (by rw [hwa]; exact row_new _ _)
  have G1 : Hid (Grow w wa) := Lib.hid (by rw [hwa]; exact (Grow.refl w).alloc _)
  have HS := Lib.hid (fun (W : World) (hW : Grow wa W) => HSV.out W (G1.out.trans hW))
  have HSM2 := Lib.hid (fun (W : World) (hW : Grow wa W) => HSM.out W (G1.out.trans hW))
  clear c0 cx cy HSV HSM
  by_cases ht : s = 256 * x + y
  · have HOT := Lib.hid (show sumOk b = true by rw [HOK.out]; exact decide_eq_true ht)
    have hbx : ((s : Int) != IntKind.i64.wrap (IntKind.i64.wrap (256 * IntKind.i64.wrap (x : Int)) + (y : Int))) = false := by rw [IntWalk.i64_in (x : Int) (by omega), IntWalk.i64_in (256 * (x : Int)) (by omega), IntWalk.i64_in (256 * (x : Int) + (y : Int)) (by omega)]; rw [bne_eq_false_iff_eq]; omega
    have hbx3 : ((s : Int) != IntKind.i64.wrap (IntKind.i64.wrap (256 * IntKind.i64.wrap (x : Int)) + IntKind.i64.wrap (y : Int))) = false := by rw [IntWalk.i64_in (x : Int) (by omega), IntWalk.i64_in (y : Int) (by omega), IntWalk.i64_in (256 * (x : Int)) (by omega), IntWalk.i64_in (256 * (x : Int) + (y : Int)) (by omega)]; rw [bne_eq_false_iff_eq]; omega
    have hbx2 : ((s : Int) != 256 * (x : Int) + (y : Int)) = false := by rw [bne_eq_false_iff_eq]; omega
    clear HOK ht
    have ha1 : IntKind.i64.wrap ((e : Int) + 1) = (e : Int) + 1 := IntWalk.i64_in _ (by omega)
    have hi1 : (e : Int) + 1 < (e : Int) + 2 := by omega
    have hi0 : (0 : Int) ≤ (e : Int) + 1 := by omega
    have hec : (e : Int) ≤ (cap : Int) := by omega
    have hec0 : (0 : Int) ≤ (e : Int) := by omega
    have hec2 : (e : Int) < (e : Int) + 2 := by omega
    go_enter Try.func68, Try.ntmps68
    go_upto_region 5 with fail
    rw [← hwa]
    clear hwa
    go_cut [42] from 43 (fun s42 wc => s42 = .bool false ∧ Grow wa wc)
    case first =>
      go_region_held3 (fun w' => w'.cell? ⟨bb, o + e, none⟩ = some (.int .u8 x) ∧ w'.cell? ⟨bb, o + (e + 1), none⟩ = some (.int .u8 y)) (first | assumption | exact HS.out _ (by repeat (first | with_reducible assumption | with_reducible exact Grow.refl _ | with_reducible apply Grow.drewN | with_reducible apply Grow.drew | with_reducible apply Grow.alloc | (refine Grow.trans ?_ (by with_reducible assumption))))) (first | (go_at_call 134; refine (HSM2.out _ (by repeat (first | with_reducible assumption | with_reducible exact Grow.refl _ | with_reducible apply Grow.drewN | with_reducible apply Grow.drew | with_reducible apply Grow.alloc | (refine Grow.trans ?_ (by with_reducible assumption))))).mono ?_; rintro e0 w4 ⟨rfl, hb4⟩))
      have GW4 : Grow wa w4 := (by repeat (first | with_reducible assumption | with_reducible exact Grow.refl _ | with_reducible apply Grow.drewN | with_reducible apply Grow.drew | with_reducible apply Grow.alloc | (refine Grow.trans ?_ (by with_reducible assumption))))
      go_wp2
      go_meet
      case rel => exact ⟨by first | rfl | (rw [hbx]; done) | (rw [hbx2]; done) | (rw [hbx3]; done), GW4⟩
    case rest =>
    obtain ⟨rfl, hgw⟩ := hcut
    have HGW := Lib.hid hgw
    have c0 := (G1.out.trans hgw).sub _ _ HC0.out
    simp only [Nat.add_zero] at c0
    have hzw : IntKind.i64.wrap (z : Int) = (z : Int) := IntWalk.i64_in _ (by omega)
    clear hgw
    go_wp2
    obtain ⟨wb, hwb⟩ : ∃ x : World, x = wc.alloc (.cells #[.int .i64 z, .int .i64 0, .int .i64 0, .slice none 0 0] 39) := ⟨_, rfl⟩
    obtain ⟨B6, hB6⟩ : ∃ B, B = wc.heap.size := ⟨_, rfl⟩
    have hrow : wb.heap[B6]? = some (.cells #[.int .i64 z, .int .i64 0, .int .i64 0, .slice none 0 0] 39 (0, 0)) := by rw [hwb, hB6]; exact row_new _ _
    have hgw : Grow wa wb := by rw [hwb]; exact HGW.out.alloc _
    have hlo : wa.heap.size ≤ B6 := by rw [hB6]; exact HGW.out.size
    rw [← hwb, ← hB6]
    clear hwb hB6 c0
    have RM := Lib.hid hrow
    have GB := Lib.hid (G1.out.trans hgw)
    have R2B := Lib.hid (row_grow R2.out hgw)
    have HLO : Hid (w.heap.size < B6) := Lib.hid (by have := (Array.getElem?_eq_some_iff.1 R2.out).1; omega)
    have HLB : Hid (B6 < wb.heap.size) := Lib.hid (Array.getElem?_eq_some_iff.1 hrow).1
    have HRB : Hid (readB b = readBody z ((b.take e).drop 1)) := Lib.hid (by unfold readB; rw [if_neg HL3.out, if_pos HOT.out, HZ.out, HTD.out])
    have HLL : Hid (((b.take e).drop 1).length = e - 1) := Lib.hid (by rw [List.length_drop, HTL.out])
    have HSB := Lib.hid (HSL.out.drop 1 (by omega))
    have HZI : Hid (I64 (z : Int)) := Lib.hid (i64_of (by omega) (by omega))
    have hcp : e + 1 ≤ cap - 1 := by omega
    have hcm : cap ≤ maxLen := by have h9 := HV.out; obtain ⟨a', cap', he9, -, h8, -⟩ := h9; simp only [Value.slice.injEq] at he9; omega
    clear hrow hgw hlo R2 G1 HGW HSL HSM2 HS HOT HTL HTD HZ HL3 HC0 HCX HCY HV hzw hbx hbx2 hbx3 ha1 hi1 hi0 hl3 hx2 hy2 hs1
    generalize (b.take e).drop 1 = L at *
    go_loopw [7, 8, 9] (fun s7 s8 s9 wr => ∃ (xs : List Int) (r : List UInt8) (want : Int) (q cr : Nat), RdSt L xs r want ∧ s9 = .int .i64 want ∧ s7 = .slice (some ⟨bb, q, none⟩) r.length cr ∧ r.length + 2 ≤ cr ∧ cr ≤ maxLen ∧ Bts w.cell? (.slice (some ⟨bb, q, none⟩) r.length cr) r ∧ OwnC Ty.int (fun _ => none) wr wb.heap.size 3 s8 xs ∧ Grow wb wr) (fun _ s8 _ _ => 11 - lenOf s8)
    case atStart =>
      refine ⟨[], L, 3, o + 1, cap - 1, RdSt.start L, rfl, by rw [HLL.out], by rw [HLL.out]; omega, by omega, ?_, OwnC.nil _ _ _ _ _, Grow.refl _⟩
      have h9 := HSB.out
      rw [HLL.out]
      simpa [show Ty.byte.size = 1 from rfl] using h9
    case round =>
      obtain ⟨xs, r, want, q, cr, hrd, rfl, rfl, hcr, hcm2, hbr, hown, hb⟩ := hrel
      obtain ⟨wx, rfl⟩ : ∃ x : World, x = wr := ⟨_, rfl⟩
      obtain ⟨a8, c8, rfl⟩ := hown.form
      obtain ⟨hw3, hw11⟩ := hrd.bound
      have HOWN := Lib.hid hown
      have HB := Lib.hid hb
      have HBR := Lib.hid hbr
      have HRD := Lib.hid hrd
      have GX := Lib.hid (GB.out.trans hb)
      have R2X := Lib.hid (row_grow R2B.out hb)
      have HLE := Lib.hid hrd.le
      clear hown hb hbr hrd
      by_cases hlt : (xs.length : Int) < want
      · have HG := Lib.hid (ref_get wx (HBR.out.mono GX.out.sub))
        obtain ⟨g0, g1, g2, g3, g4, g5⟩ := getB_bound r
        by_cases he : (getB r).2.2 = 0
        · obtain ⟨k, hk⟩ : ∃ k : Nat, (getB r).2.1 = k := ⟨(getB r).2.1.toNat, by omega⟩
          have HNX := Lib.hid (fun h => HRD.out.next hlt he h)
          have HFV : Hid (xs.length = 2 → (getB r).1 < 0 ∨ 4 < (getB r).1 → readB b = (ms0, 5)) := fun h9 h8 => by rw [HRB.out]; exact HRD.out.five h9 he h8 _
          rw [hk] at HG HNX
          rw [he] at HG
          simp only [Int.toNat_natCast] at HNX
          have hkl : k ≤ r.length := by omega
          have HBK := Lib.hid (HBR.out.drop k hkl)
          have HDL : Hid ((r.drop k).length = r.length - k) := Lib.hid List.length_drop
          have HIX : Hid (I64 (getB r).1) := Lib.hid (i64_of (by omega) (by omega))
          clear hk he g2 g3 g4 g5
          generalize (getB r).1 = x at *
          have hkc : k ≤ cr := by omega
          unfold maxLen at hcm2
          have hxl : xs.length < 12 := by have := HLE.out; omega
          go_wp2_with fail
          refine HG.out.mono ?_
          rintro e9 w3 ⟨rfl, hb3⟩
          have HO3 := Lib.hid (HOWN.out.grow hb3)
          have G3 := Lib.hid (GX.out.trans hb3)
          have GB3 := Lib.hid (HB.out.trans hb3)
          have R3 := Lib.hid (row_grow R2X.out hb3)
          clear hb3
          go_wp2_with (first | (at_builtin; refine wpList_appc (c := fun _ => none) (base := wb.heap.size) (l := xs) (m := [x]) ei_int rfl one_Tint (by decide) rfl (.tmp 72) (.tmp 74) rfl rfl ?own rfl (Src.of_new (T := Ty.int) (x := x) (cs := #[.int .i64 x]) ⟨rfl, HIX.out⟩ _ _ ?d1) ?d2 ?d3 ?_))
          case own => exact HO3.out.grow ((Grow.refl _).alloc _)
          case d1 => simp
          case d2 => simp; omega
          case d3 => have := GB3.out.size; simp; omega
          intro a9 c9 w9 ho9 hg9 hb9
          have HO9 := Lib.hid ho9
          have GB9 := Lib.hid (grow_by (w0 := wb) (GB3.out.alloc _) hg9 (fun q hq => (HO3.out.lt q hq).1))
          have G9 := Lib.hid (GB.out.trans GB9.out)
          have R9 := Lib.hid (row_grow R2B.out GB9.out)
          clear ho9 hg9 hb9
          have hll : xs.length + [x].length = xs.length + 1 := by simp
          by_cases h2 : xs.length = 2
          · have hb17 : ((xs.length : Int) + 1 == 3) = true := by rw [h2]; rfl
            have hxl2 : xs.length + 1 = 3 := by omega
            by_cases hx0 : x < 0
            · have HE := Lib.hid (HFV.out h2 (.inl hx0))
              go_wp2_with fail
              refine (ref_fail _).mono ?_
              rintro e8 w8 ⟨rfl, hb8⟩
              have R8 := Lib.hid (row_grow R9.out hb8)
              have G8 := Lib.hid (G9.out.trans hb8)
              clear hb8
              go_wp2_with (first | (refine wpList_store_row rfl (.tmp 2) (.tmp 90) rfl rfl rfl R8.out info_ms rfl rfl ?_))
              intro w7 r7 g7
              obtain ⟨p0, p1, p2, p3⟩ := cells4 r7
              go_wp2
              refine bodyPost_ret (v := .tuple #[.agg #[.int .i64 0, .int .i64 0, .int .i64 0, .slice none 0 0], .int .i64 5]) (by simp [results, Try.results68, go_sem, p0, p1, p2, p3]) rfl ?_
              rw [HE.out]
              exact ⟨_, rfl, of_ms0 _, G8.out.grown g7 (fun q hq => by simp at hq; omega)⟩
            by_cases hx4 : 4 < x
            · have HE := Lib.hid (HFV.out h2 (.inr hx4))
              go_wp2_with fail
              refine (ref_fail _).mono ?_
              rintro e8 w8 ⟨rfl, hb8⟩
              have R8 := Lib.hid (row_grow R9.out hb8)
              have G8 := Lib.hid (G9.out.trans hb8)
              clear hb8
              go_wp2_with (first | (refine wpList_store_row rfl (.tmp 2) (.tmp 90) rfl rfl rfl R8.out info_ms rfl rfl ?_))
              intro w7 r7 g7
              obtain ⟨p0, p1, p2, p3⟩ := cells4 r7
              go_wp2
              refine bodyPost_ret (v := .tuple #[.agg #[.int .i64 0, .int .i64 0, .int .i64 0, .slice none 0 0], .int .i64 5]) (by simp [results, Try.results68, go_sem, p0, p1, p2, p3]) rfl ?_
              rw [HE.out]
              exact ⟨_, rfl, of_ms0 _, G8.out.grown g7 (fun q hq => by simp at hq; omega)⟩
            obtain ⟨xn, rfl⟩ : ∃ xn : Nat, x = xn := ⟨x.toNat, by omega⟩
            have HN := Lib.hid (HNX.out (fun _ => ⟨by omega, by omega⟩))
            rw [if_pos h2] at HN
            have hxn : xn ≤ 4 := by omega
            go_wp2
            go_roundw
            case rel =>
              refine ⟨xs ++ [(xn : Int)], r.drop k, 3 + 2 * (xn : Int), q + k, cr - k, HN.out, by go_num, by rw [HDL.out], by rw [HDL.out]; omega, by unfold maxLen; omega, ?_, HO9.out, GB9.out⟩
              have h9 := HBK.out
              rw [HDL.out]
              simpa [show Ty.byte.size = 1 from rfl] using h9
            case measure => simp [lenOf]; omega
          · have hb17 : ((xs.length : Int) + 1 == 3) = false := by rw [beq_eq_false_iff_ne]; omega
            have hxl2 : ¬ xs.length + 1 = 3 := by omega
            have HN := Lib.hid (HNX.out (fun h => absurd h h2))
            rw [if_neg h2] at HN
            go_wp2
            go_roundw
            case rel =>
              refine ⟨xs ++ [x], r.drop k, want, q + k, cr - k, HN.out, rfl, by rw [HDL.out], by rw [HDL.out]; omega, by unfold maxLen; omega, ?_, HO9.out, GB9.out⟩
              have h9 := HBK.out
              rw [HDL.out]
              simpa [show Ty.byte.size = 1 from rfl] using h9
            case measure => simp [lenOf]; omega
        · have HE : Hid (readB b = (ms0, (getB r).2.2)) := Lib.hid (by rw [HRB.out]; exact HRD.out.fails hlt he _)
          have hbe : ((getB r).2.2 != 0) = true := by simp [he]
          clear he g0 g1 g2 g3 g4 g5
          generalize (getB r).2.2 = er at *
          generalize (getB r).2.1 = ek at *
          generalize (getB r).1 = ex at *
          go_wp2_with fail
          refine HG.out.mono ?_
          rintro e9 w3 ⟨rfl, hb3⟩
          have G3 := Lib.hid (GX.out.trans hb3)
          have R3 := Lib.hid (row_grow R2X.out hb3)
          clear hb3
          go_wp2_with fail
          refine (ref_fail _).mono ?_
          rintro e8 w8 ⟨rfl, hb8⟩
          have R8 := Lib.hid (row_grow R3.out hb8)
          have G8 := Lib.hid (G3.out.trans hb8)
          clear hb8
          go_wp2_with (first | (refine wpList_store_row rfl (.tmp 2) (.tmp 70) rfl rfl rfl R8.out info_ms rfl rfl ?_))
          intro w7 r7 g7
          obtain ⟨p0, p1, p2, p3⟩ := cells4 r7
          go_wp2
          refine bodyPost_ret (v := .tuple #[.agg #[.int .i64 0, .int .i64 0, .int .i64 0, .slice none 0 0], .int .i64 er]) (by simp [results, Try.results68, go_sem, p0, p1, p2, p3]) rfl ?_
          rw [HE.out]
          exact ⟨_, rfl, of_ms0 _, G8.out.grown g7 (fun q hq => by simp at hq; omega)⟩
      · have HAL := Lib.hid (HRD.out.all (by omega) (z : Int))
        by_cases hr : r = []
        · have hrl : ¬ (0 : Int) < (r.length : Int) := by rw [hr]; simp
          have HPL := Lib.hid (HRD.out.pairs_all (by omega))
          rw [if_neg (by simp [hr])] at HAL
          have hx3 : 3 ≤ xs.length := by omega
          have hx11 : xs.length ≤ 11 := by have := HLE.out; omega
          obtain ⟨g8, rfl, n0, n1, hn8⟩ := nums_at HOWN.out hx3
          have HN8 := Lib.hid hn8
          have RMX := Lib.hid (row_grow RM.out HB.out)
          obtain ⟨m0, m1, m2, m3⟩ := cells4 RMX.out
          have z6 : B6 < wx.heap.size := (Array.getElem?_eq_some_iff.1 RMX.out).1
          have z8 : wb.heap.size ≤ g8 := (HOWN.out.lt g8 rfl).1
          have HS : Hid (∀ W, Grow wx W → W.cell? ⟨g8, 0, none⟩ = some (.int .i64 (xs.getD 0 0)) ∧ W.cell? ⟨g8, 1, none⟩ = some (.int .i64 (xs.getD 1 0))) := fun W hW => ⟨hW.sub _ _ n0, hW.sub _ _ n1⟩
          have hi0 : (0 : Int) < (xs.length : Int) := by omega
          have hi1 : (1 : Int) < (xs.length : Int) := by omega
          have hn0 : 0 < xs.length := by omega
          have hn1 : 1 < xs.length := by omega
          have HIX1 := Lib.hid (HOWN.out.int_ok 1)
          have HIX0 := Lib.hid (HOWN.out.int_ok 0)
          clear hr m0 m1 m2 m3 n0 n1 hn8
          generalize xs.getD 0 0 = dd at *
          generalize xs.getD 1 0 = hh at *
          go_upto_region 23 with fail
          skip
          refine but_start (fun w' => w'.cell? ⟨g8, 0, none⟩ = some (.int .i64 dd) ∧ w'.cell? ⟨g8, 1, none⟩ = some (.int .i64 hh)) 9 (by kernel_rfl) ?_
          obtain ⟨wd, hWd⟩ : ∃ x : World, x = wx.drew := ⟨_, rfl⟩
          rw [← hWd]
          have GD : Grow wx wd := by rw [hWd]; exact (Grow.refl _).drew
          have zD : wx.heap.size = wd.heap.size := by rw [hWd]; rfl
          have ZD := Lib.hid zD
          clear hWd zD
          refine but_take (i := 0) (v := ?_) 12 rfl (by kernel_rfl) (by kernel_rfl) (by kernel_rfl) (by kernel_rfl) (by kernel_rfl) (fun _ _ _ h => h) (HS.out _ GD) (Or.inl ⟨by rfl, ?_⟩) ?_
          rotate_left
          · (intro w' hSw; (try dsimp only at hSw); obtain ⟨hs0, hs1⟩ := hSw; go_simp <;> with_reducible rfl)
          try simp only [Act.put, List.getElem_toArray, List.getElem_cons_zero, List.setIfInBounds_toArray, List.set_cons_zero, List.set_cons_succ]
          refine but_take (i := 1) (v := ?_) 12 rfl (by kernel_rfl) (by kernel_rfl) (by kernel_rfl) (by kernel_rfl) (by kernel_rfl) (fun _ _ _ h => h) (HS.out _ GD) (Or.inl ⟨by rfl, ?_⟩) ?_
          rotate_left
          · (intro w' hSw; (try dsimp only at hSw); obtain ⟨hs0, hs1⟩ := hSw; go_simp <;> with_reducible rfl)
          try simp only [Act.put, List.getElem_toArray, List.getElem_cons_succ, List.getElem_cons_zero, List.setIfInBounds_toArray, List.set_cons_zero, List.set_cons_succ]
          refine but_take (i := 2) (v := ?_) 12 rfl (by kernel_rfl) (by kernel_rfl) (by kernel_rfl) (by kernel_rfl) (by kernel_rfl) (fun _ _ _ h => h) (HS.out _ GD) (Or.inl ⟨by rfl, ?_⟩) ?_
          rotate_left
          · (intro w' hSw; (try dsimp only at hSw); obtain ⟨hs0, hs1⟩ := hSw; go_simp <;> with_reducible rfl)
          try simp only [Act.put, List.getElem_toArray, List.getElem_cons_succ, List.getElem_cons_zero, List.setIfInBounds_toArray, List.set_cons_zero, List.set_cons_succ]
          refine but_take (i := 3) (v := ?_) 12 rfl (by kernel_rfl) (by kernel_rfl) (by kernel_rfl) (by kernel_rfl) (by kernel_rfl) (fun _ _ _ h => h) (HS.out _ GD) (Or.inl ⟨by rfl, ?_⟩) ?_
          rotate_left
          · (intro w' hSw; (try dsimp only at hSw); obtain ⟨hs0, hs1⟩ := hSw; go_simp <;> with_reducible rfl)
          try simp only [Act.put, List.getElem_toArray, List.getElem_cons_succ, List.getElem_cons_zero, List.setIfInBounds_toArray, List.set_cons_zero, List.set_cons_succ]
          refine but_take (i := 4) (v := ?_) 12 rfl (by kernel_rfl) (by kernel_rfl) (by kernel_rfl) (by kernel_rfl) (by kernel_rfl) (fun _ _ _ h => h) (HS.out _ GD) (Or.inl ⟨by rfl, ?_⟩) ?_
          rotate_left
          · (intro w' hSw; (try dsimp only at hSw); obtain ⟨hs0, hs1⟩ := hSw; go_simp <;> with_reducible rfl)
          try simp only [Act.put, List.getElem_toArray, List.getElem_cons_succ, List.getElem_cons_zero, List.setIfInBounds_toArray, List.set_cons_zero, List.set_cons_succ]
          refine but_take (i := 5) (v := ?_) 12 rfl (by kernel_rfl) (by kernel_rfl) (by kernel_rfl) (by kernel_rfl) (by kernel_rfl) (fun _ _ _ h => h) (HS.out _ GD) (Or.inl ⟨by rfl, ?_⟩) ?_
          rotate_left
          · (intro w' hSw; (try dsimp only at hSw); obtain ⟨hs0, hs1⟩ := hSw; go_simp <;> with_reducible rfl)
          try simp only [Act.put, List.getElem_toArray, List.getElem_cons_succ, List.getElem_cons_zero, List.setIfInBounds_toArray, List.set_cons_zero, List.set_cons_succ]
          refine but_one (i := 6) (by kernel_rfl) rfl ?_
          intro K HK'
          have HK := Lib.hid HK'
          clear HK'
          skip
          try simp only [List.getElem_toArray, List.getElem_cons_succ, List.getElem_cons_zero]
          go_simp
          refine HK.out _ _ ⟨fun _ => HS.out _ GD, ?_⟩
          clear HK K
          try simp only [Act.put, List.getElem_toArray, List.getElem_cons_succ, List.getElem_cons_zero, List.setIfInBounds_toArray, List.set_cons_zero, List.set_cons_succ]
          refine but_one (i := 7) (by kernel_rfl) rfl ?_
          intro K HK'
          have HK := Lib.hid HK'
          clear HK'
          refine wanted_go rfl ?_
          try simp only [List.getElem_toArray, List.getElem_cons_succ, List.getElem_cons_zero]
          refine wp_store_cell (.tmp 108) (.tmp 104) (v := .int .i64 dd) (new := #[.int .i64 z, .int .i64 dd, .int .i64 0, .slice none 0 0]) rfl rfl (by rfl) (by rfl) (row_grow RMX.out GD) info_int (by simp) (by rfl) (by rfl) ?_
          intro z7 rz7 gz7
          have Hz7 := Lib.hid (And.intro rz7 gz7)
          clear rz7 gz7
          refine HK.out _ _ ⟨fun _ => ⟨cell_by2 (HS.out _ GD).1 (Hz7.out.2) (by have := HLB.out; show g8 ≠ B6; omega), cell_by2 (HS.out _ GD).2 (Hz7.out.2) (by have := HLB.out; show g8 ≠ B6; omega)⟩, ?_⟩
          clear HK K
          try simp only [Act.put]
          refine but_one (i := 8) (by kernel_rfl) rfl ?_
          intro K HK'
          have HK := Lib.hid HK'
          clear HK'
          skip
          try simp only [List.getElem_toArray, List.getElem_cons_succ, List.getElem_cons_zero]
          go_simp
          refine HK.out _ _ ⟨fun _ => ⟨cell_by2 (HS.out _ GD).1 (Hz7.out.2) (by have := HLB.out; show g8 ≠ B6; omega), cell_by2 (HS.out _ GD).2 (Hz7.out.2) (by have := HLB.out; show g8 ≠ B6; omega)⟩, ?_⟩
          clear HK K
          try simp only [Act.put, List.getElem_toArray, List.getElem_cons_succ, List.getElem_cons_zero, List.setIfInBounds_toArray, List.set_cons_zero, List.set_cons_succ]
          refine but_one (i := 9) (by kernel_rfl) rfl ?_
          intro K HK'
          have HK := Lib.hid HK'
          clear HK'
          refine wanted_go rfl ?_
          try simp only [List.getElem_toArray, List.getElem_cons_succ, List.getElem_cons_zero]
          refine wp_store_cell (.tmp 109) (.tmp 107) (v := .int .i64 hh) (new := #[.int .i64 z, .int .i64 dd, .int .i64 hh, .slice none 0 0]) rfl rfl (by rfl) (by rfl) Hz7.out.1 info_int (by simp) (by rfl) (by rfl) ?_
          intro z9 rz9 gz9
          have Hz9 := Lib.hid (And.intro rz9 gz9)
          clear rz9 gz9
          refine HK.out _ _ ⟨fun h => absurd rfl h, ?_⟩
          clear HK K
          try simp only [Act.put]
          refine but_done (by kernel_rfl) ?_
          have HG8 := Lib.hid (grownBy_trans (grownBy_of_grow GD (some B6)) (grownBy_trans Hz7.out.2 Hz9.out.2))
          have RM9 := Lib.hid Hz9.out.1
          have R29 := Lib.hid (row_by (row_grow R2X.out GD) (grownBy_trans Hz7.out.2 Hz9.out.2) (by have := HLO.out; intro e9; have := Option.some.inj e9; omega))
          have GX9 := Lib.hid (GX.out.grown HG8.out (fun q hq => by have := HLO.out; simp at hq; omega))
          have HO9 := Lib.hid (HOWN.out.kept HG8.out (.inr (by have := HLB.out; simp [Value.ownBlock]; omega)))
          obtain ⟨wy, rfl⟩ : ∃ x : World, x = z9 := ⟨_, rfl⟩
          clear Hz7 Hz9 HG8 GD ZD HS RMX R2X GX HOWN HB
          go_wp2
          go_loopw [13] (fun i wr => ∃ (i0 k : Nat) (vp : Value), i0 = 3 + 2 * k ∧ i0 ≤ xs.length ∧ i = .int .i64 (i0 : Nat) ∧ PSt w wr B6 wb.heap.size z dd hh vp g8 c8 (pairs hh ((xs.drop 3).take (2 * k))) xs) (fun i _ => xs.length - (intOf i).toNat)
          case atStart => exact ⟨3, 0, .slice none 0 0, rfl, by omega, rfl, ⟨R29.out, RM9.out, HO9.out, World.ownsRow_nil _ _ _ _, GX9.out, HLO.out, HLB.out, fun q hq => by simp [Value.ownBlock] at hq⟩⟩
          case round =>
            obtain ⟨i0, k, vp, hi0, hk3, rfl, hp⟩ := hrel
            have HI0 := Lib.hid hi0
            obtain ⟨wv, rfl⟩ : ∃ x : World, x = wr := ⟨_, rfl⟩
            obtain ⟨ap, cp, rfl⟩ := owns_form hp.own
            have HP := Lib.hid hp
            clear hp
            by_cases hlt2 : i0 < xs.length
            · have hlt3 : i0 + 1 < xs.length := by have := HPL.out.2 k (by omega); omega
              have HPN := Lib.hid (pairs_more hh (xs := xs) (k := k) (by omega))
              rw [← hi0] at HPN
              have HPK := Lib.hid (pairs_short hh (xs := xs) (k := k) (by omega))
              obtain ⟨n0, n1⟩ := nums_two HP.out.num hlt3
              have HIA := Lib.hid (HP.out.num.int_ok i0)
              have HIB := Lib.hid (HP.out.num.int_ok (i0 + 1))
              have HS : Hid (∀ W, Grow wv W → W.cell? ⟨B6, 3, none⟩ = some (.slice ap (pairs hh ((xs.drop 3).take (2 * k))).length cp) ∧ W.cell? ⟨B6, 2, none⟩ = some (.int .i64 hh) ∧ W.cell? ⟨g8, i0, none⟩ = some (.int .i64 (xs.getD i0 0)) ∧ W.cell? ⟨g8, i0 + 1, none⟩ = some (.int .i64 (xs.getD (i0 + 1) 0))) := fun W hW => by
                obtain ⟨-, -, m2, m3⟩ := cells4 (row_grow HP.out.msg hW)
                exact ⟨m3, m2, hW.sub _ _ n0, hW.sub _ _ n1⟩
              clear n0 n1
              generalize xs.getD i0 0 = xa at *
              generalize xs.getD (i0 + 1) 0 = xb at *
              generalize pairs hh ((xs.drop 3).take (2 * k)) = ps at *
              have hia : IntKind.i64.wrap ((i0 : Int) + 1) = (i0 : Int) + 1 := IntWalk.i64_in _ (by omega)
              have hib : (0 : Int) ≤ (i0 : Int) + 1 := by omega
              have hic : (i0 : Int) + 1 < (xs.length : Int) := by omega
              have hid : ((i0 : Int) + 1).toNat = i0 + 1 := by omega
              clear hi0
              go_upto_region 27 with fail
              skip
              refine but_start (fun w' => w'.cell? ⟨B6, 3, none⟩ = some (.slice ap ps.length cp) ∧ w'.cell? ⟨B6, 2, none⟩ = some (.int .i64 hh) ∧ w'.cell? ⟨g8, i0, none⟩ = some (.int .i64 xa) ∧ w'.cell? ⟨g8, i0 + 1, none⟩ = some (.int .i64 xb)) 17 (by kernel_rfl) ?_
              obtain ⟨wd, hWd⟩ : ∃ x : World, x = wv.drew := ⟨_, rfl⟩
              rw [← hWd]
              have GD : Grow wv wd := by rw [hWd]; exact (Grow.refl _).drew
              have zD : wv.heap.size = wd.heap.size := by rw [hWd]; rfl
              have ZD := Lib.hid zD
              clear hWd zD
              refine but_take (i := 0) (v := ?_) 20 rfl (by kernel_rfl) (by kernel_rfl) (by kernel_rfl) (by kernel_rfl) (by kernel_rfl) (fun _ _ _ h => h) (HS.out _ GD) (Or.inl ⟨by rfl, ?_⟩) ?_
              rotate_left
              · (intro w' hSw; (try dsimp only at hSw); obtain ⟨hs0, hs1, hs2, hs3⟩ := hSw; go_simp <;> with_reducible rfl)
              try simp only [Act.put, List.getElem_toArray, List.getElem_cons_zero, List.setIfInBounds_toArray, List.set_cons_zero, List.set_cons_succ]
              refine but_take (i := 1) (v := ?_) 20 rfl (by kernel_rfl) (by kernel_rfl) (by kernel_rfl) (by kernel_rfl) (by kernel_rfl) (fun _ _ _ h => h) (HS.out _ GD) (Or.inl ⟨by rfl, ?_⟩) ?_
              rotate_left
              · (intro w' hSw; (try dsimp only at hSw); obtain ⟨hs0, hs1, hs2, hs3⟩ := hSw; go_simp <;> with_reducible rfl)
              try simp only [Act.put, List.getElem_toArray, List.getElem_cons_succ, List.getElem_cons_zero, List.setIfInBounds_toArray, List.set_cons_zero, List.set_cons_succ]
              refine but_take (i := 2) (v := ?_) 20 rfl (by kernel_rfl) (by kernel_rfl) (by kernel_rfl) (by kernel_rfl) (by kernel_rfl) (fun _ _ _ h => h) (HS.out _ GD) (Or.inl ⟨by rfl, ?_⟩) ?_
              rotate_left
              · (intro w' hSw; (try dsimp only at hSw); obtain ⟨hs0, hs1, hs2, hs3⟩ := hSw; go_simp <;> with_reducible rfl)
              try simp only [Act.put, List.getElem_toArray, List.getElem_cons_succ, List.getElem_cons_zero, List.setIfInBounds_toArray, List.set_cons_zero, List.set_cons_succ]
              refine but_take (i := 3) (v := ?_) 20 rfl (by kernel_rfl) (by kernel_rfl) (by kernel_rfl) (by kernel_rfl) (by kernel_rfl) (fun _ _ _ h => h) (HS.out _ GD) (Or.inl ⟨by rfl, ?_⟩) ?_
              rotate_left
              · (intro w' hSw; (try dsimp only at hSw); obtain ⟨hs0, hs1, hs2, hs3⟩ := hSw; go_simp <;> with_reducible rfl)
              try simp only [Act.put, List.getElem_toArray, List.getElem_cons_succ, List.getElem_cons_zero, List.setIfInBounds_toArray, List.set_cons_zero, List.set_cons_succ]
              refine but_take (i := 4) (v := ?_) 20 rfl (by kernel_rfl) (by kernel_rfl) (by kernel_rfl) (by kernel_rfl) (by kernel_rfl) (fun _ _ _ h => h) (HS.out _ GD) (Or.inl ⟨by rfl, ?_⟩) ?_
              rotate_left
              · (intro w' hSw; (try dsimp only at hSw); obtain ⟨hs0, hs1, hs2, hs3⟩ := hSw; go_simp <;> with_reducible rfl)
              try simp only [Act.put, List.getElem_toArray, List.getElem_cons_succ, List.getElem_cons_zero, List.setIfInBounds_toArray, List.set_cons_zero, List.set_cons_succ]
              refine but_take (i := 5) (v := ?_) 20 rfl (by kernel_rfl) (by kernel_rfl) (by kernel_rfl) (by kernel_rfl) (by kernel_rfl) (fun _ _ _ h => h) (HS.out _ GD) (Or.inl ⟨by rfl, ?_⟩) ?_
              rotate_left
              · (intro w' hSw; (try dsimp only at hSw); obtain ⟨hs0, hs1, hs2, hs3⟩ := hSw; go_simp <;> with_reducible rfl)
              try simp only [Act.put, List.getElem_toArray, List.getElem_cons_succ, List.getElem_cons_zero, List.setIfInBounds_toArray, List.set_cons_zero, List.set_cons_succ]
              refine but_take (i := 6) (v := ?_) 20 rfl (by kernel_rfl) (by kernel_rfl) (by kernel_rfl) (by kernel_rfl) (by kernel_rfl) (fun _ _ _ h => h) (HS.out _ GD) (Or.inl ⟨by rfl, ?_⟩) ?_
              rotate_left
              · (intro w' hSw; (try dsimp only at hSw); obtain ⟨hs0, hs1, hs2, hs3⟩ := hSw; go_simp <;> with_reducible rfl)
              try simp only [Act.put, List.getElem_toArray, List.getElem_cons_succ, List.getElem_cons_zero, List.setIfInBounds_toArray, List.set_cons_zero, List.set_cons_succ]
              refine but_take (i := 7) (v := ?_) 20 rfl (by kernel_rfl) (by kernel_rfl) (by kernel_rfl) (by kernel_rfl) (by kernel_rfl) (fun _ _ _ h => h) (HS.out _ GD) (Or.inl ⟨by rfl, ?_⟩) ?_
              rotate_left
              · (intro w' hSw; (try dsimp only at hSw); obtain ⟨hs0, hs1, hs2, hs3⟩ := hSw; go_simp <;> with_reducible rfl)
              try simp only [Act.put, List.getElem_toArray, List.getElem_cons_succ, List.getElem_cons_zero, List.setIfInBounds_toArray, List.set_cons_zero, List.set_cons_succ]
              refine but_take (i := 8) (v := ?_) 20 rfl (by kernel_rfl) (by kernel_rfl) (by kernel_rfl) (by kernel_rfl) (by kernel_rfl) (fun _ _ _ h => h) (HS.out _ GD) (Or.inl ⟨by rfl, ?_⟩) ?_
              rotate_left
              · (intro w' hSw; (try dsimp only at hSw); obtain ⟨hs0, hs1, hs2, hs3⟩ := hSw; go_simp <;> with_reducible rfl)
              try simp only [Act.put, List.getElem_toArray, List.getElem_cons_succ, List.getElem_cons_zero, List.setIfInBounds_toArray, List.set_cons_zero, List.set_cons_succ]
              refine but_take (i := 9) (v := ?_) 20 rfl (by kernel_rfl) (by kernel_rfl) (by kernel_rfl) (by kernel_rfl) (by kernel_rfl) (fun _ _ _ h => h) (HS.out _ GD) (Or.inl ⟨by rfl, ?_⟩) ?_
              rotate_left
              · (intro w' hSw; (try dsimp only at hSw); obtain ⟨hs0, hs1, hs2, hs3⟩ := hSw; go_simp <;> with_reducible rfl)
              try simp only [Act.put, List.getElem_toArray, List.getElem_cons_succ, List.getElem_cons_zero, List.setIfInBounds_toArray, List.set_cons_zero, List.set_cons_succ]
              refine but_take (i := 10) (v := ?_) 20 rfl (by kernel_rfl) (by kernel_rfl) (by kernel_rfl) (by kernel_rfl) (by kernel_rfl) (fun _ _ _ h => h) (HS.out _ GD) (Or.inl ⟨by rfl, ?_⟩) ?_
              rotate_left
              · (intro w' hSw; (try dsimp only at hSw); obtain ⟨hs0, hs1, hs2, hs3⟩ := hSw; go_simp <;> with_reducible rfl)
              try simp only [Act.put, List.getElem_toArray, List.getElem_cons_succ, List.getElem_cons_zero, List.setIfInBounds_toArray, List.set_cons_zero, List.set_cons_succ]
              refine but_take (i := 11) (v := ?_) 20 rfl (by kernel_rfl) (by kernel_rfl) (by kernel_rfl) (by kernel_rfl) (by kernel_rfl) (fun _ _ _ h => h) (HS.out _ GD) (Or.inl ⟨by rfl, ?_⟩) ?_
              rotate_left
              · (intro w' hSw; (try dsimp only at hSw); obtain ⟨hs0, hs1, hs2, hs3⟩ := hSw; go_simp <;> with_reducible rfl)
              try simp only [Act.put, List.getElem_toArray, List.getElem_cons_succ, List.getElem_cons_zero, List.setIfInBounds_toArray, List.set_cons_zero, List.set_cons_succ]
              refine but_take (i := 12) (v := ?_) 20 rfl (by kernel_rfl) (by kernel_rfl) (by kernel_rfl) (by kernel_rfl) (by kernel_rfl) (fun _ _ _ h => h) (HS.out _ GD) (Or.inl ⟨by rfl, ?_⟩) ?_
              rotate_left
              · (intro w' hSw; (try dsimp only at hSw); obtain ⟨hs0, hs1, hs2, hs3⟩ := hSw; go_simp <;> with_reducible rfl)
              try simp only [Act.put, List.getElem_toArray, List.getElem_cons_succ, List.getElem_cons_zero, List.setIfInBounds_toArray, List.set_cons_zero, List.set_cons_succ]
              refine but_one (i := 13) (by kernel_rfl) rfl ?_
              intro K HK'
              have HK := Lib.hid HK'
              clear HK'
              skip
              try simp only [List.getElem_toArray, List.getElem_cons_succ, List.getElem_cons_zero]
              go_simp
              refine HK.out _ _ ⟨fun _ => HS.out _ GD, ?_⟩
              clear HK K
              try simp only [Act.put, List.getElem_toArray, List.getElem_cons_succ, List.getElem_cons_zero, List.setIfInBounds_toArray, List.set_cons_zero, List.set_cons_succ]
              refine but_one (i := 14) (by kernel_rfl) rfl ?_
              intro K HK'
              have HK := Lib.hid HK'
              clear HK'
              skip
              try simp only [List.getElem_toArray, List.getElem_cons_succ, List.getElem_cons_zero]
              go_simp
              obtain ⟨y9, hy9⟩ : ∃ x : World, x = wd.alloc (.cells #[.int .i64 hh, .int .i64 xa, .int .i64 xb] 32) := ⟨_, rfl⟩
              have GY : Grow wd y9 := by rw [hy9]; exact (Grow.refl _).alloc _
              have RY : y9.heap[wd.heap.size]? = some (.cells #[.int .i64 hh, .int .i64 xa, .int .i64 xb] 32 (0, 0)) := by rw [hy9]; exact row_new _ _
              have HY := Lib.hid (And.intro (GD.trans GY) RY)
              rw [← hy9]
              clear hy9 GY RY
              refine HK.out _ _ ⟨fun _ => HS.out _ HY.out.1, ?_⟩
              clear HK K
              try simp only [Act.put, List.getElem_toArray, List.getElem_cons_succ, List.getElem_cons_zero, List.setIfInBounds_toArray, List.set_cons_zero, List.set_cons_succ]
              refine but_one (i := 15) (by kernel_rfl) rfl ?_
              intro K HK'
              have HK := Lib.hid HK'
              clear HK'
              refine wanted_go rfl ?_
              try simp only [List.getElem_toArray, List.getElem_cons_succ, List.getElem_cons_zero]
              refine wp_app_any (n := ps.length) ei_pt (.tmp 117) (.tmp 130) rfl rfl (owns_grow HP.out.own HY.out.1) (some ⟨wd.heap.size, 0, none⟩) 1 1 [.int .i64 hh, .int .i64 xa, .int .i64 xb] rfl (by simp) rfl (fun ad had j u hu => ?news) (one_pt ⟨hh, xa, xb⟩) (by have := HPK.out; have := HI0.out; unfold maxLen; omega) (by have := HPK.out; have := HI0.out; omega) (by have := HY.out.1.size; have := (Array.getElem?_eq_some_iff.1 HP.out.msg).1; have := HP.out.wbs; omega) ?_
              case news =>
                obtain rfl := Option.some.inj had
                have h9 := cells3 HY.out.2
                rw [Addr.add_lit, Nat.zero_add]
                match j, hu with
                | 0, hu => simp at hu; rw [← hu]; exact h9.1
                | 1, hu => simp at hu; rw [← hu]; exact h9.2.1
                | 2, hu => simp at hu; rw [← hu]; exact h9.2.2
                | j + 3, hu => simp at hu
              intro a9 c9 z9 hA
              have HA := Lib.hid hA
              clear hA
              refine HK.out _ _ ⟨fun _ => HP.out.still HY.out.1 HA.out.grown (HS.out _ HY.out.1), ?_⟩
              clear HK K
              try simp only [Act.put, List.setIfInBounds_toArray, List.set_cons_zero, List.set_cons_succ]
              refine but_one (i := 16) (by kernel_rfl) rfl ?_
              intro K HK'
              have HK := Lib.hid HK'
              clear HK'
              skip
              try simp only [List.getElem_toArray, List.getElem_cons_succ, List.getElem_cons_zero]
              go_simp
              refine HK.out _ _ ⟨fun _ => HP.out.still HY.out.1 HA.out.grown (HS.out _ HY.out.1), ?_⟩
              clear HK K
              try simp only [Act.put, List.getElem_toArray, List.getElem_cons_succ, List.getElem_cons_zero, List.setIfInBounds_toArray, List.set_cons_zero, List.set_cons_succ]
              refine but_one (i := 17) (by kernel_rfl) rfl ?_
              intro K HK'
              have HK := Lib.hid HK'
              clear HK'
              refine wanted_go rfl ?_
              try simp only [List.getElem_toArray, List.getElem_cons_succ, List.getElem_cons_zero]
              refine wp_store_cell (.tmp 132) (.tmp 131) (v := .slice a9 (ps.length + 1) c9) (new := #[.int .i64 z, .int .i64 dd, .int .i64 hh, .slice a9 (ps.length + 1) c9]) rfl rfl (by rfl) (by rfl) (row_by (row_grow HP.out.msg HY.out.1) HA.out.grown (fun e9 => (HP.out.dis _ e9.symm).1 rfl)) info_parts (by simp) (by rfl) (by rfl) ?_
              intro zz rz gz
              have HZZ := Lib.hid (And.intro rz gz)
              clear rz gz
              refine HK.out _ _ ⟨fun h => absurd rfl h, ?_⟩
              clear HK K
              try simp only [Act.put]
              refine but_done (by kernel_rfl) ?_
              go_wp2
              go_roundw
              case rel =>
                refine ⟨i0 + 2, k + 1, .slice a9 (ps.length + 1) c9, by have := HI0.out; omega, by omega, by go_num, ?_⟩
                rw [HPN.out]
                refine HP.out.part (ps' := ps ++ [⟨hh, xa, xb⟩]) HY.out.1 ?_ HA.out.grown HA.out.blk HZZ.out.1 HZZ.out.2
                have h9 := HA.out.own
                simpa [Pt.cells] using h9
              case measure => simp [intOf]; omega
            · have HE0 := Lib.hid (show (xs.drop 3).take (2 * k) = xs.drop 3 from List.take_of_length_le (by rw [List.length_drop]; omega))
              have hp9 := HP.out
              rw [HE0.out] at hp9
              have HP9 := Lib.hid hp9
              have HPK := Lib.hid (pairs_short hh (xs := xs) (k := k) (by omega))
              rw [HE0.out] at HPK
              clear HP
              have HOK := Lib.hid (pairs_fine (l := xs.drop 3) HIX1.out (fun x hx => HP9.out.num.ints_ok x (List.mem_of_mem_drop hx)))
              clear hp9 HE0
              generalize pairs hh (xs.drop 3) = ps at *
              have HW := Lib.hid (fun (W : World) (hW : Grow wv W) => ref_wrong (m := ⟨z, dd, hh, ps⟩) W ⟨_, rfl, .slice ap ps.length cp, rfl, HZI.out, HIX0.out, HIX1.out, (Pts.of_own HP9.out.own HOK.out).mono hW.sub⟩)
              obtain ⟨m0, m1, m2, m3⟩ := cells4 HP9.out.msg
              have z7 : B6 < wv.heap.size := (Array.getElem?_eq_some_iff.1 HP9.out.msg).1
              go_wp2_with fail
              refine (HW.out _ (Grow.refl _)).mono ?_
              rintro e9 wy2 ⟨rfl, hby⟩
              have R2Y := Lib.hid (row_grow HP9.out.res hby)
              have RMY := Lib.hid (row_grow HP9.out.msg hby)
              have OWY := Lib.hid (owns_grow HP9.out.own hby)
              have GY := Lib.hid (HP9.out.grow.trans hby)
              clear hby m0 m1 m2 m3
              by_cases hwr : wrongM ⟨z, dd, hh, ps⟩ = 0
              · have HE : Hid (readB b = (⟨z, dd, hh, ps⟩, 0)) := Lib.hid (by rw [HRB.out, HAL.out, if_pos hwr])
                have hbw : (wrongM ⟨z, dd, hh, ps⟩ != 0) = false := by simp [hwr]
                obtain ⟨m0, m1, m2, m3⟩ := cells4 RMY.out
                have z9 : B6 < wy2.heap.size := (Array.getElem?_eq_some_iff.1 RMY.out).1
                clear hwr
                generalize wrongM ⟨z, dd, hh, ps⟩ = er at *
                go_wp2_with (first | (refine wpList_store_row rfl (.tmp 2) (.tmp 142) rfl rfl rfl R2Y.out info_ms rfl rfl ?_))
                intro w7 r7 g7
                obtain ⟨p0, p1, p2, p3⟩ := cells4 r7
                clear m0 m1 m2 m3
                go_wp2
                refine bodyPost_ret (v := .tuple #[.agg #[.int .i64 z, .int .i64 dd, .int .i64 hh, .slice ap ps.length cp], .int .i64 0]) (by simp [results, Try.results68, go_sem, p0, p1, p2, p3]) rfl ?_
                rw [HE.out]
                refine ⟨_, rfl, ⟨_, rfl, .slice ap ps.length cp, rfl, HZI.out, HIX0.out, HIX1.out, ?_⟩, GY.out.grown g7 (fun q hq => by simp at hq; omega)⟩
                refine Pts.of_own (OWY.out.kept g7 ?_) HOK.out
                cases e9 : (Value.slice ap ps.length cp).ownBlock with
                | none => exact .inl rfl
                | some q => exact .inr (by have := (HP9.out.own.lt q e9).1; have := HP9.out.wbs; have := HLO.out; intro e8; have := Option.some.inj e8; omega)
              · have HE : Hid (readB b = (ms0, wrongM ⟨z, dd, hh, ps⟩)) := Lib.hid (by rw [HRB.out, HAL.out, if_neg hwr])
                have hbw : (wrongM ⟨z, dd, hh, ps⟩ != 0) = true := by simp [hwr]
                clear hwr
                generalize wrongM ⟨z, dd, hh, ps⟩ = er at *
                go_wp2_with fail
                refine (ref_fail _).mono ?_
                rintro e8 w8 ⟨rfl, hb8⟩
                have R8 := Lib.hid (row_grow R2Y.out hb8)
                have G8 := Lib.hid (GY.out.trans hb8)
                clear hb8
                go_wp2_with (first | (refine wpList_store_row rfl (.tmp 2) (.tmp 140) rfl rfl rfl R8.out info_ms rfl rfl ?_))
                intro w7 r7 g7
                obtain ⟨p0, p1, p2, p3⟩ := cells4 r7
                go_wp2
                refine bodyPost_ret (v := .tuple #[.agg #[.int .i64 0, .int .i64 0, .int .i64 0, .slice none 0 0], .int .i64 er]) (by simp [results, Try.results68, go_sem, p0, p1, p2, p3]) rfl ?_
                rw [HE.out]
                exact ⟨_, rfl, of_ms0 _, G8.out.grown g7 (fun q hq => by simp at hq; omega)⟩
        · have hrl : (0 : Int) < (r.length : Int) := by have := List.length_pos_iff.2 hr; omega
          have HE : Hid (readB b = (ms0, 2)) := Lib.hid (by rw [HRB.out, HAL.out, if_pos hr])
          go_wp2_with fail
          refine (ref_fail _).mono ?_
          rintro e8 w8 ⟨rfl, hb8⟩
          have R8 := Lib.hid (row_grow R2X.out hb8)
          have G8 := Lib.hid (GX.out.trans hb8)
          clear hb8
          go_wp2_with (first | (refine wpList_store_row rfl (.tmp 2) (.tmp 100) rfl rfl rfl R8.out info_ms rfl rfl ?_))
          intro w7 r7 g7
          obtain ⟨p0, p1, p2, p3⟩ := cells4 r7
          go_wp2
          refine bodyPost_ret (v := .tuple #[.agg #[.int .i64 0, .int .i64 0, .int .i64 0, .slice none 0 0], .int .i64 2]) (by simp [results, Try.results68, go_sem, p0, p1, p2, p3]) rfl ?_
          rw [HE.out]
          exact ⟨_, rfl, of_ms0 _, G8.out.grown g7 (fun q hq => by simp at hq; omega)⟩
  · have HOT := Lib.hid (show sumOk b = false by rw [HOK.out]; exact decide_eq_false ht)
    have hbx : ((s : Int) != IntKind.i64.wrap (IntKind.i64.wrap (256 * IntKind.i64.wrap (x : Int)) + (y : Int))) = true := by rw [IntWalk.i64_in (x : Int) (by omega), IntWalk.i64_in (256 * (x : Int)) (by omega), IntWalk.i64_in (256 * (x : Int) + (y : Int)) (by omega)]; rw [bne_iff_ne]; omega
    have hbx3 : ((s : Int) != IntKind.i64.wrap (IntKind.i64.wrap (256 * IntKind.i64.wrap (x : Int)) + IntKind.i64.wrap (y : Int))) = true := by rw [IntWalk.i64_in (x : Int) (by omega), IntWalk.i64_in (y : Int) (by omega), IntWalk.i64_in (256 * (x : Int)) (by omega), IntWalk.i64_in (256 * (x : Int) + (y : Int)) (by omega)]; rw [bne_iff_ne]; omega
    have hbx2 : ((s : Int) != 256 * (x : Int) + (y : Int)) = true := by rw [bne_iff_ne]; omega
    clear HOK ht
    have ha1 : IntKind.i64.wrap ((e : Int) + 1) = (e : Int) + 1 := IntWalk.i64_in _ (by omega)
    have hi1 : (e : Int) + 1 < (e : Int) + 2 := by omega
    have hi0 : (0 : Int) ≤ (e : Int) + 1 := by omega
    have hec : (e : Int) ≤ (cap : Int) := by omega
    have hec0 : (0 : Int) ≤ (e : Int) := by omega
    have hec2 : (e : Int) < (e : Int) + 2 := by omega
    have HE : Hid (readB b = (ms0, 7)) := Lib.hid (by unfold readB; rw [if_neg HL3.out, if_neg (by rw [HOT.out]; decide)])
    go_enter Try.func68, Try.ntmps68
    go_upto_region 5 with fail
    rw [← hwa]
    clear hwa
    go_cut [42] from 43 (fun s42 wc => s42 = .bool true ∧ Grow wa wc)
    case first =>
      go_region_held3 (fun w' => w'.cell? ⟨bb, o + e, none⟩ = some (.int .u8 x) ∧ w'.cell? ⟨bb, o + (e + 1), none⟩ = some (.int .u8 y)) (first | assumption | exact HS.out _ (by repeat (first | with_reducible assumption | with_reducible exact Grow.refl _ | with_reducible apply Grow.drewN | with_reducible apply Grow.drew | with_reducible apply Grow.alloc | (refine Grow.trans ?_ (by with_reducible assumption))))) (first | (go_at_call 134; refine (HSM2.out _ (by repeat (first | with_reducible assumption | with_reducible exact Grow.refl _ | with_reducible apply Grow.drewN | with_reducible apply Grow.drew | with_reducible apply Grow.alloc | (refine Grow.trans ?_ (by with_reducible assumption))))).mono ?_; rintro e0 w4 ⟨rfl, hb4⟩))
      have GW4 : Grow wa w4 := (by repeat (first | with_reducible assumption | with_reducible exact Grow.refl _ | with_reducible apply Grow.drewN | with_reducible apply Grow.drew | with_reducible apply Grow.alloc | (refine Grow.trans ?_ (by with_reducible assumption))))
      go_wp2
      go_meet
      case rel => exact ⟨by first | rfl | (rw [hbx]; done) | (rw [hbx2]; done) | (rw [hbx3]; done), GW4⟩
    case rest =>
    obtain ⟨rfl, GW4⟩ := hcut
    have R4 := Lib.hid (row_grow R2.out GW4)
    go_wp2_with fail
    refine (ref_fail _).mono ?_
    rintro e w5 ⟨rfl, hb⟩
    have R5 := Lib.hid (row_grow R4.out hb)
    have G5 := Lib.hid (G1.out.trans (GW4.trans hb))
    clear hb
    go_wp2_with (first | (refine wpList_store_row rfl (.tmp 2) (.tmp 45) rfl rfl rfl R5.out info_ms rfl rfl ?_))
    intro w7 r7 g7
    obtain ⟨p0, p1, p2, p3⟩ := cells4 r7
    go_wp2
    refine bodyPost_ret (v := .tuple #[.agg #[.int .i64 0, .int .i64 0, .int .i64 0, .slice none 0 0], .int .i64 7]) (by simp [results, Try.results68, go_sem, p0, p1, p2, p3]) rfl ?_
    rw [HE.out]
    exact ⟨_, rfl, of_ms0 _, G5.out.grown g7 (fun q hq => by simp at hq; omega)⟩
end Go.Proofs.Ytgbhpghgohggcaa
