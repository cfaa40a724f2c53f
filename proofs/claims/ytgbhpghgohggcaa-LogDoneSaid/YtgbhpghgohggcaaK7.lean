/- The law LogDone, walked. -/
import Derived.Test.YtgbhpghgohggcaaK5
namespace Go.Proofs.Ytgbhpghgohggcaa
open Go.RowKit
theorem Sl.take {α : Type} {T : Ty α} {c : CM} {a : Option Addr} {n cap : Nat} {l : List α} (h : Sl T c (.slice a n cap) l) (m : Nat) (hm : m ≤ n) : Sl T c (.slice a m cap) (l.take m) := by
  obtain ⟨a', cap', he, h1, h2, h3, hel⟩ := h
  simp only [Value.slice.injEq] at he
  obtain ⟨rfl, rfl, rfl⟩ := he
  have hl : (l.take m).length = m := by simp; omega
  refine ⟨a, cap, by rw [hl], by rw [hl]; omega, h2, h3, fun i x e => ?_⟩
  have hi := (List.getElem?_eq_some_iff.1 e).1
  rw [List.getElem?_take_of_lt (by omega)] at e
  exact hel i x e
theorem mem_take_succ {l : List Rd} {j : Nat} (h : j < l.length) (d : Int) : d ∈ (l.take (j + 1)).map (·.deed) ↔ d ∈ (l.take j).map (·.deed) ∨ d = l[j].deed := by
  rw [List.take_succ_eq_append_getElem h, List.map_append, List.mem_append]
  simp
theorem new_deed {l : List Rd} (hn : (l.map (·.deed)).Nodup) {j : Nat} (h : j < l.length) : l[j].deed ∉ (l.take j).map (·.deed) := by
  intro hm
  obtain ⟨x, hx, he⟩ := List.mem_map.1 hm
  obtain ⟨i, hi, rfl⟩ := List.mem_iff_getElem.1 hx
  have hi2 : i < j := by simp at hi; omega
  have := List.pairwise_iff_getElem.1 hn i j (by simp; omega) (by simpa using h) hi2
  simp only [List.getElem_map] at this
  rw [List.getElem_take] at he
  exact this he
set_option maxRecDepth 100000 in
set_option maxHeartbeats 4000000 in
theorem logDone_walk {v v' : Value} {l more : List Rc} (w : World) (hv : Rcs w.cell? v l) (_hs : l.length * 40 ≤ 140737488351232) (hv' : Rcs w.cell? v' more) (_hs' : more.length * 40 ≤ 140737488351232) :
    Calls Try.prog 8 #[v, v'] w fun e w' => e = .returned (.bool true) ∧ Grow w w' := by
  have HV := Lib.hid hv
  have HV' := Lib.hid hv'
  have HRL := Lib.hid (fun (W : World) (hW : Grow w W) => ref_rightLog W (hv.mono hW.sub))
  have HRL' := Lib.hid (fun (W : World) (hW : Grow w W) => ref_rightLog W (hv'.mono hW.sub))
  have HAL := Lib.hid (alive5 w)
  have HSRC := Lib.hid (fun (W : World) (hW : Grow w W) => (Src.of_sl (T := Ty.rc) (by decide) hv).grow hW)
  have HSRC' := Lib.hid (fun (W : World) (hW : Grow w W) => (Src.of_sl (T := Ty.rc) (by decide) hv').grow hW)
  obtain ⟨al, cl, rfl, -⟩ := hv
  obtain ⟨al', cl', rfl, -⟩ := hv'
  cases hok : rightLog l with
  | false =>
    go_enter Try.func8, Try.ntmps8
    go_wp2_with fail
    refine HAL.out.mono ?_
    rintro e w1 ⟨rfl, hb1⟩
    have HB1 := Lib.hid hb1
    clear hb1
    go_wp2_with fail
    refine (HRL.out _ HB1.out).mono ?_
    rw [hok]
    rintro e w2 ⟨rfl, hb2⟩
    go_wp2
    go_ret
    exact ⟨rfl, HB1.out.trans hb2⟩
  | true =>
    have HOK := Lib.hid hok
    clear hok
    cases hok1 : rightLog more with
    | false =>
      go_enter Try.func8, Try.ntmps8
      go_wp2_with fail
      refine HAL.out.mono ?_
      rintro e w1 ⟨rfl, hb1⟩
      have HB1 := Lib.hid hb1
      clear hb1
      go_wp2_with fail
      refine (HRL.out _ HB1.out).mono ?_
      rw [HOK.out]
      rintro e w2 ⟨rfl, hb2⟩
      have HB2 := Lib.hid (HB1.out.trans hb2)
      clear hb2
      go_wp2_with fail
      refine (HRL'.out _ HB2.out).mono ?_
      rw [hok1]
      rintro e w3 ⟨rfl, hb3⟩
      go_wp2
      go_ret
      exact ⟨rfl, HB2.out.trans hb3⟩
    | true =>
      have HOK1 := Lib.hid hok1
      have hk1 := keys_of_right HOK.out
      have hk2 := keys_of_right hok1
      have hsm := right_small HOK.out
      have hsm' := right_small hok1
      have hall : ∀ r ∈ l ++ more, KeysOk r.parts ∧ r.parts.length * 24 ≤ 140737488355328 ∧ 0 ≤ r.deed := by
        intro r hr
        rcases List.mem_append.1 hr with hr | hr
        · exact ⟨hk1.1 r hr, by have := hsm r hr; omega, right_deeds HOK.out r hr⟩
        · exact ⟨hk2.1 r hr, by have := hsm' r hr; omega, right_deeds hok1 r hr⟩
      have hlen1 := hk1.2
      have hlen2 := hk2.2
      have HHS := Lib.hid (fun (W : World) (hW : Grow w W) => wlog_house W (HV.out.mono hW.sub) hk1.1 (by omega) (fun x hx => by have := hsm x hx; omega))
      have HHS2 := Lib.hid (fun (vx : Value) (W : World) (hx : Rcs W.cell? vx (l ++ more)) => wlog_house W hx (fun r hr => (hall r hr).1) (by simp; omega) (fun r hr => (hall r hr).2.1))
      have HFINE := Lib.hid (house_fine (l := l ++ more) fun r hr => (hall r hr).2.2).nodup
      have HPRE : Hid ((houseR (l ++ more)).done.take (houseR l).done.length = (houseR l).done ∧ (houseR l).done.length ≤ (houseR (l ++ more)).done.length) := by
        obtain ⟨t, ht⟩ := done_app l more
        show _ ∧ _
        rw [ht]
        exact ⟨by simp, by simp⟩
      have HYL : Hid ((houseR (l ++ more)).ready.length ≤ 120) := by
        have := house_len (l ++ more)
        rw [List.length_append] at this
        show _ ≤ _; omega
      clear hk1 hk2 hsm hsm' hall hok1
      go_enter Try.func8, Try.ntmps8
      go_wp2_with fail
      refine HAL.out.mono ?_
      rintro e w1 ⟨rfl, hb1⟩
      have HB1 := Lib.hid hb1
      clear hb1
      go_wp2_with fail
      refine (HRL.out _ HB1.out).mono ?_
      rw [HOK.out]
      rintro e w2 ⟨rfl, hb2⟩
      have HB2 := Lib.hid (HB1.out.trans hb2)
      clear hb2
      go_wp2_with fail
      refine (HRL'.out _ HB2.out).mono ?_
      rw [HOK1.out]
      rintro e w3 ⟨rfl, hb3⟩
      have HB3 := Lib.hid (HB2.out.trans hb3)
      clear hb3
      go_wp2_with fail
      refine (HHS.out _ HB3.out).mono ?_
      rintro e w4 ⟨vx, rfl, hX, hb4⟩
      obtain ⟨xl, kl, xr, kr, xd, kd, rfl⟩ := hX.hs_form
      have HXD := Lib.hid (Of.hs_log (hX.mono (ov_none hb4))).2.2
      have HB4 := Lib.hid (HB3.out.trans hb4)
      clear hX hb4
      generalize houseR l = x at *
      go_wp2_with (first | (at_builtin; refine wpList_appc (c := w.cell?) (base := w4.heap.size) (l := []) (m := l) ei_rc rfl one_Trc (by decide) rfl (.tmp 22) (.tmp 23) rfl rfl (OwnC.made0 Ty.rc w.cell? _ _ _ ?c1 ?c1') rfl (HSRC.out _ ?c2) ?c3 ?c4 ?_))
      case c1 => exact Nat.le_refl _
      case c1' => rfl
      case c2 => exact HB4.out.alloc _
      case c3 => simp; omega
      case c4 => simp
      intro a1 c1 w5 hown1 hg1 hb1
      try simp only [List.length_nil, Nat.zero_add, List.nil_append] at hown1 hb1 ⊢
      have g5 := grow_by (w0 := w4) ((Grow.refl w4).alloc _) hg1 (own_at (Nat.le_refl _))
      have HO5 := Lib.hid hown1
      have HG5 := Lib.hid g5
      clear hown1 hg1 hb1 g5
      go_wp2_with (first | (at_builtin; refine wpList_appc (c := w.cell?) (base := w4.heap.size) (l := l) (m := more) ei_rc rfl one_Trc (by decide) rfl (.tmp 24) (.tmp 25) rfl rfl HO5.out rfl (HSRC'.out _ (HB4.out.trans HG5.out)) ?d2 HG5.out.size ?_))
      case d2 => omega
      intro a2 c2 w6 hown2 hg2 hb2
      have g6 := grow_by (w0 := w4) HG5.out hg2 (fun k hk => (HO5.out.lt k hk).1)
      have HG6 := Lib.hid g6
      have HV6 := Lib.hid (hown2.sl (by decide) (HB4.out.trans g6).sub)
      clear hown2 hg2 hb2 g6
      go_wp2_with fail
      refine (HHS2.out _ _ HV6.out).mono ?_
      rintro e w7 ⟨vy, rfl, hY, hb7⟩
      obtain ⟨yl, ml, yr, mr, yd, md, rfl⟩ := hY.hs_form
      have hY' := Of.hs_log (hY.mono (ov_none hb7))
      have HYD := Lib.hid hY'.2.2
      have HYR := Lib.hid hY'.2.1
      have HG7 : Hid (Grow w4 w7) := Lib.hid (HG6.out.trans hb7)
      clear hY hY' hb7
      generalize houseR (l ++ more) = y at *
      have hkd : x.done.length ≤ kd := by obtain ⟨a0, c0, he, h0, -⟩ := HXD.out; simp only [Value.slice.injEq] at he; omega
      have hmd : y.done.length ≤ md ∧ md ≤ maxLen := by obtain ⟨a0, c0, he, h0, h1, -⟩ := HYD.out; simp only [Value.slice.injEq] at he; omega
      have hpre := HPRE.out
      have hxm : x.done.length ≤ md := by omega
      have hb1 : ¬ (y.done.length < x.done.length) := by omega
      have hsi : ∀ W : World, Grow w7 W → Calls Try.prog 48 #[.slice yd x.done.length md, .slice xd x.done.length kd] W fun e w' => e = .returned (.bool true) ∧ Grow W w' := fun W hW => by
        have h1 := ref_sameInts W ((HYD.out.take x.done.length hpre.2).mono hW.sub) (HXD.out.mono (HG7.out.trans hW).sub)
        rw [hpre.1, decide_eq_true rfl] at h1
        exact h1
      have HSI := Lib.hid hsi
      obtain ⟨yr', mr', he, r1, r2, -, hyel⟩ := HYR.out
      obtain ⟨rfl, rfl⟩ : yr = yr' ∧ mr = mr' := by simpa using he
      unfold maxLen at r2
      have hyl : y.ready.length ≤ 120 := HYL.out
      have hmm2 := hmd.2
      unfold maxLen at hmm2
      clear he hsi hpre hkd hmd
      go_wp2
      obtain ⟨w8, hWE⟩ : ∃ u : World, u = ((w7.alloc (.cells #[.slice xl x.log.length kl, .int .i64 x.sums.a, .int .i64 x.sums.b, .int .i64 x.sums.c, .int .i64 x.sums.d, .slice xr x.ready.length kr, .slice xd x.done.length kd] 29)).alloc (.cells #[.slice yl y.log.length ml, .int .i64 y.sums.a, .int .i64 y.sums.b, .int .i64 y.sums.c, .int .i64 y.sums.d, .slice yr y.ready.length mr, .slice yd y.done.length md] 29)) := ⟨_, rfl⟩
      rw [← hWE]
      have HG8 : Hid (Grow w7 w8) := Lib.hid (by rw [hWE]; exact ((Grow.refl w7).alloc _).alloc _)
      have k5 : w8.heap[w7.heap.size]? = some (.cells #[.slice xl x.log.length kl, .int .i64 x.sums.a, .int .i64 x.sums.b, .int .i64 x.sums.c, .int .i64 x.sums.d, .slice xr x.ready.length kr, .slice xd x.done.length kd] 29 (0, 0)) := by rw [hWE]; exact heap_later (row_new _ _) _
      have k6 : w8.heap[w7.heap.size + 1]? = some (.cells #[.slice yl y.log.length ml, .int .i64 y.sums.a, .int .i64 y.sums.b, .int .i64 y.sums.c, .int .i64 y.sums.d, .slice yr y.ready.length mr, .slice yd y.done.length md] 29 (0, 0)) := by rw [hWE]; simpa using row_new (w7.alloc (.cells #[.slice xl x.log.length kl, .int .i64 x.sums.a, .int .i64 x.sums.b, .int .i64 x.sums.c, .int .i64 x.sums.d, .slice xr x.ready.length kr, .slice xd x.done.length kd] 29)) (.cells #[.slice yl y.log.length ml, .int .i64 y.sums.a, .int .i64 y.sums.b, .int .i64 y.sums.c, .int .i64 y.sums.d, .slice yr y.ready.length mr, .slice yd y.done.length md] 29)
      clear hWE
      have K6' := Lib.hid k6
      obtain ⟨-, -, -, -, -, -, f5⟩ := cells7 k5
      obtain ⟨-, -, -, -, -, -, f6⟩ := cells7 k6
      have HS : Hid (∀ W, Grow w8 W → W.cell? ⟨w7.heap.size, 6, none⟩ = some (.slice xd x.done.length kd) ∧ W.cell? ⟨w7.heap.size + 1, 6, none⟩ = some (.slice yd y.done.length md)) := fun W hW => ⟨hW.sub _ _ f5, hW.sub _ _ f6⟩
      have HSI8 := Lib.hid (fun (W : World) (hW : Grow w8 W) => HSI.out W (HG8.out.trans hW))
      clear k5 k6 f5 f6
      go_region_held3 (fun w' => w'.cell? ⟨w7.heap.size, 6, none⟩ = some (.slice xd x.done.length kd) ∧ w'.cell? ⟨w7.heap.size + 1, 6, none⟩ = some (.slice yd y.done.length md)) (first | assumption | exact HS.out _ (by repeat (first | with_reducible assumption | with_reducible exact Grow.refl _ | with_reducible apply Grow.drewN | with_reducible apply Grow.drew | with_reducible apply Grow.alloc | (refine Grow.trans ?_ (by with_reducible assumption))))) (first | (go_at_call 48; refine (HSI8.out _ (by repeat (first | with_reducible assumption | with_reducible exact Grow.refl _ | with_reducible apply Grow.drewN | with_reducible apply Grow.drew | with_reducible apply Grow.alloc | (refine Grow.trans ?_ (by with_reducible assumption))))).mono ?_; rintro e wa ⟨rfl, hba⟩))
      have HGA : Hid (Grow w8 wa) := Lib.hid (by repeat (first | with_reducible assumption | with_reducible exact Grow.refl _ | with_reducible apply Grow.drewN | with_reducible apply Grow.drew | with_reducible apply Grow.alloc | (refine Grow.trans ?_ (by with_reducible assumption))))
      obtain ⟨-, -, -, -, -, u5, u6⟩ := cells7 (row_grow K6'.out HGA.out)
      have u9 : w7.heap.size + 1 < wa.heap.size := (Array.getElem?_eq_some_iff.1 (row_grow K6'.out HGA.out)).1
      have hzb : ∀ w, (zeroValue 4).run Try.prog w = .ok (.bool false) w := fun w => by kernel_rfl
      have hmm := @run_makeMap Try.prog
      go_wp2
      clear hmm u5 u6 u9
      go_loopw [51] (fun i wr => ∃ (j : Nat) (ks : List Int), j ≤ y.ready.length ∧ i = .int .i64 j ∧ Grow wa wr ∧ MapIs encInt wr wa.heap.size (setKv ks) ∧ ∀ d, d ∈ ks ↔ d ∈ (y.ready.take j).map (·.deed)) (fun i _ => y.ready.length - (intOf i).toNat)
      case atStart => exact ⟨0, [], by omega, rfl, (Grow.refl _).alloc _, MapIs.new wa, by simp⟩
      case round =>
        obtain ⟨j, ks, hj', rfl, hb, hmap, hks⟩ := hrel
        have HM := Lib.hid hmap
        have HKS := Lib.hid hks
        clear hmap hks
        by_cases hlt : j < y.ready.length
        · obtain ⟨b, o, vp, rfl, d0, d1, -, hP⟩ := Rds.at_ hyel j hlt
          obtain ⟨aq, cq, rfl, -⟩ := id hP
          have hg := HG8.out.trans (HGA.out.trans hb)
          replace d0 := hg.sub _ _ d0
          replace d1 := hg.sub _ _ d1
          have hout : y.ready[j].deed ∉ ks := fun h => new_deed HFINE.out hlt ((HKS.out _).1 h)
          have HMT := Lib.hid (mem_take_succ hlt)
          have HGT := Lib.hid (mget_out hout)
          clear hyel hP hg hout
          generalize y.ready[j] = q at *
          go_wp2_with (first | (at_lookup; refine wp_lookup keyInt Try.underlying63 hzb rfl _ _ rfl (HM.out.grown (grownBy_of_grow ((Grow.refl _).alloc _) none) (by simp)) q.deed rfl rfl ?_; rw [HGT.out]) | (at_mapUpdate; refine wp_put keyInt Try.underlying63 rfl _ _ _ rfl (HM.out.grown (grownBy_of_grow ((Grow.refl _).alloc _) none) (by simp)) q.deed (.bool true) rfl rfl rfl ?_; intro w' hm' hg'; have HM' := Lib.hid hm'; have HG' := Lib.hid hg'; clear hm' hg'))
          obtain ⟨ks', hks2, hmem⟩ := mput_set ks q.deed
          have hm' := HM'.out
          rw [hks2] at hm'
          go_roundw
          case rel => exact ⟨j + 1, ks', by omega, by go_num, (hb.alloc _).grown HG'.out (by simp), hm', fun d => by rw [hmem, HMT.out, HKS.out]⟩
          case measure => simp [intOf]; omega
        · clear hyel
          go_wp2
          go_ret
          exact ⟨rfl, HB4.out.trans (HG7.out.trans (HG8.out.trans (HGA.out.trans hb)))⟩
end Go.Proofs.Ytgbhpghgohggcaa
