/- Walks: Vote of the document's answer. -/
import Derived.Test.YtgbhpghgohggcaaN2
namespace Go.Proofs.Ytgbhpghgohggcaa
open Go.RowKit
theorem vote_locked {l : List Rd} {ps : List Pt} {p : Pt} (hp : p ∈ ps) (h : 0 ≤ whoE l p.k) : freeE l ps = false := by
  unfold freeE
  rw [Bool.not_eq_false', List.any_eq_true]
  exact ⟨p, hp, by simpa using h⟩
theorem vote_open {l : List Rd} {ps : List Pt} (h : ∀ p ∈ ps, whoE l p.k < 0) : freeE l ps = true := by
  unfold freeE
  rw [Bool.not_eq_true', List.any_eq_false]
  intro p hp
  have := h p hp
  simp; omega
set_option maxRecDepth 100000 in
set_option maxHeartbeats 1000000 in
theorem ref_vote {v vp : Value} {h : Hs} {d : Int} {ps : List Pt} (w : World) (hv : Of Ty.hs w.cell? v h) (hp : Pts w.cell? vp ps) (hk : KeysOk ps) :
    Calls Try.prog 52 #[v, .int .i64 d, vp] w fun e w' => e = .returned (.int .i64 (voteE h d ps)) ∧ Grow w w' := by
  have HO := Lib.hid hv
  obtain ⟨al, cl, ar, cr, ad, cd, rfl⟩ := hv.hs_form
  have HIN := Lib.hid (fun (W : World) (hW : Grow w W) => ref_in (n := d) W ((Of.hs_log HO.out).2.2.mono hW.sub))
  have HRD := Lib.hid (fun (W : World) (hW : Grow w W) => ref_ready (d := d) W (HO.out.mono hW.sub))
  have HWH := Lib.hid (fun (W : World) (key : Int) (hW : Grow w W) => ref_who (key := key) W (HO.out.mono hW.sub))
  have HFT := Lib.hid (fun (W : World) (hW : Grow w W) => ref_fits (s0 := h.sums.a) (s1 := h.sums.b) (s2 := h.sums.c) (s3 := h.sums.d) W (hp.mono hW.sub) hk)
  have HP := Lib.hid hp
  obtain ⟨ap, cp, rfl, hp1, hp2, -, hel⟩ := hp
  unfold maxLen at hp2
  clear hv hk
  by_cases hd : d ∈ h.done
  · have HE : Hid (voteE h d ps = 10) := by show voteE h d ps = 10; unfold voteE; rw [if_pos hd]
    have HD := Lib.hid (decide_eq_true hd)
    clear hd
    go_enter Try.func52, Try.ntmps52
    go_wp2_with fail
    refine (HIN.out _ ((Grow.refl _).alloc _)).mono ?_
    rw [HD.out]
    rintro e w1 ⟨rfl, hbw1⟩
    (obtain ⟨cw1, fw1⟩ := bcell hbw1; have zw10 : w.heap.size < w1.heap.size := (by have := hbw1.size; (try simp at this); omega); have Gw1 := Lib.hid hbw1; clear hbw1)
    go_wp2
    go_ret
    exact ⟨ret_int HE.out.symm, ((Grow.refl w).alloc _).trans Gw1.out⟩
  have HD := Lib.hid (decide_eq_false hd)
  by_cases hr : readyE h.ready d = true
  · have HE : Hid (voteE h d ps = 0) := by show voteE h d ps = 0; unfold voteE; rw [if_neg hd, if_pos hr]
    have HR := Lib.hid hr
    clear hd hr
    go_enter Try.func52, Try.ntmps52
    go_wp2_with fail
    refine (HIN.out _ ((Grow.refl _).alloc _)).mono ?_
    rw [HD.out]
    rintro e w1 ⟨rfl, hbw1⟩
    (obtain ⟨cw1, fw1⟩ := bcell hbw1; have zw10 : w.heap.size < w1.heap.size := (by have := hbw1.size; (try simp at this); omega); have Gw1 := Lib.hid hbw1; clear hbw1)
    go_wp2_with fail
    refine (HRD.out _ (((Grow.refl w).alloc _).trans Gw1.out)).mono ?_
    rw [HR.out]
    rintro e w2 ⟨rfl, hbw2⟩
    (obtain ⟨cw2, fw2⟩ := bcell hbw2; have zw20 : w.heap.size < w2.heap.size := (by have := hbw2.size; (try simp at this); omega); have Gw2 := Lib.hid hbw2; clear hbw2)
    go_wp2
    go_ret
    exact ⟨ret_int HE.out.symm, (((Grow.refl w).alloc _).trans Gw1.out).trans Gw2.out⟩
  have HE : Hid (voteE h d ps = if freeE h.ready ps = false then 12 else fitsE h.sums.get ps) := by show voteE h d ps = _; unfold voteE; rw [if_neg hd, if_neg hr]
  have HR : Hid (readyE h.ready d = false) := by show readyE h.ready d = false; simpa using hr
  clear hd hr
  go_enter Try.func52, Try.ntmps52
  go_wp2_with fail
  refine (HIN.out _ ((Grow.refl _).alloc _)).mono ?_
  rw [HD.out]
  rintro e w1 ⟨rfl, hbw1⟩
  (obtain ⟨cw1, fw1⟩ := bcell hbw1; have zw10 : w.heap.size < w1.heap.size := (by have := hbw1.size; (try simp at this); omega); have Gw1 := Lib.hid hbw1; clear hbw1)
  go_wp2_with fail
  refine (HRD.out _ (((Grow.refl w).alloc _).trans Gw1.out)).mono ?_
  rw [HR.out]
  rintro e w2 ⟨rfl, hbw2⟩
  have HG := Lib.hid (Gw1.out.trans hbw2)
  clear hbw2 cw1 fw1 zw10
  go_wp2
  go_loopw [8, 18] (fun _ i wr => ∃ k : Nat, k ≤ ps.length ∧ i = .int .i64 k ∧ Grow w2 wr ∧ ∀ p ∈ ps.take k, whoE h.ready p.k < 0) (fun _ i _ => ps.length - (intOf i).toNat)
  case atStart => exact ⟨0, by omega, rfl, Grow.refl _, by simp⟩
  case round =>
    obtain ⟨k, hk', rfl, hb, hE⟩ := hrel
    have hg := HG.out.trans hb
    have hbw := ((Grow.refl w).alloc (.cells #[.slice al h.log.length cl, .int .i64 h.sums.a, .int .i64 h.sums.b, .int .i64 h.sums.c, .int .i64 h.sums.d, .slice ar h.ready.length cr, .slice ad h.done.length cd] 29)).trans hg
    obtain ⟨cr1, fr1⟩ := bcell hg
    have xz : w.heap.size < wr.heap.size := by have := hg.size; simp at this; omega
    by_cases hlt : k < ps.length
    · obtain ⟨b, o, rfl, c0, c1, c2, -, -, -⟩ := Pts.at_ hel k hlt
      replace c0 := hbw.sub _ _ c0
      replace c1 := hbw.sub _ _ c1
      replace c2 := hbw.sub _ _ c2
      have H1 : Hid (0 ≤ whoE h.ready ps[k].k → freeE h.ready ps = false) := fun h2 => vote_locked (List.getElem_mem hlt) h2
      have H2 : Hid (whoE h.ready ps[k].k < 0 → ∀ p ∈ ps.take (k + 1), whoE h.ready p.k < 0) := fun h2 p hp => by
        rw [List.take_succ_eq_append_getElem hlt] at hp
        rcases List.mem_append.1 hp with h' | h'
        · exact hE p h'
        · simp at h'; subst h'; exact h2
      have HBW := Lib.hid hbw
      have HG2 := Lib.hid hg
      have HB := Lib.hid hb
      clear hel hE hbw hg hb
      generalize ps[k] = p at *
      go_wp2_with fail
      refine (HWH.out _ p.k (HBW.out.alloc _)).mono ?_
      rintro e w3 ⟨rfl, hb3⟩
      have HB3 := Lib.hid (((Grow.refl wr).alloc _).trans hb3)
      clear hb3
      by_cases hw : 0 ≤ whoE h.ready p.k
      · have H3 := Lib.hid (H1.out hw)
        clear H1 H2
        generalize whoE h.ready p.k = wk at *
        go_wp2
        go_ret
        refine ⟨ret_int ?_, HBW.out.trans HB3.out⟩
        rw [HE.out, if_pos H3.out]
      · have H3 := Lib.hid (H2.out (by omega))
        clear H1 H2
        generalize whoE h.ready p.k = wk at *
        go_wp2
        go_roundw
        case rel => exact ⟨k + 1, by omega, by go_num, HB.out.trans HB3.out, H3.out⟩
        case measure => simp [intOf]; omega
    · have HF := Lib.hid hE
      have HBW := Lib.hid hbw
      clear hel hE hbw hb hg
      go_wp2_with fail
      refine (HFT.out _ HBW.out).mono ?_
      rintro e w3 ⟨rfl, hb3⟩
      have HB3 := Lib.hid hb3
      clear hb3
      go_wp2
      go_ret
      refine ⟨ret_int ?_, HBW.out.trans HB3.out⟩
      have h9 := HF.out
      rw [List.take_of_length_le (by omega)] at h9
      rw [HE.out, if_neg (by rw [vote_open h9]; simp)]
      rfl
end Go.Proofs.Ytgbhpghgohggcaa
