/- The law LogStill, walked. -/
import Derived.Test.YtgbhpghgohggcaaA5
import Derived.Test.YtgbhpghgohggcaaE2
import Derived.Test.YtgbhpghgohggcaaK6
namespace Go.Proofs.Ytgbhpghgohggcaa
open Go.RowKit
theorem right_small {l : List Rc} (h : rightLog l = true) : ∀ r ∈ l, r.parts.length ≤ 4 := by
  unfold rightLog at h
  intro r hr
  have h1 := of_decide_eq_true ((of_decide_eq_true h).1 r hr)
  by_cases e : r.parts = []
  · rw [e]; simp
  · exact (wrong_ok (h1.2.1 e)).2.1
theorem still_take {r : Rc} {s : Sm} {l : List Rd} {j : Nat} (h : j < l.length) : stillF r s (l.take (j + 1)) = (if l[j].deed = r.deed ∧ r.kind = 2 then doP (stillF r s (l.take j)) l[j].parts else stillF r s (l.take j)) := by
  unfold stillF
  rw [List.take_succ_eq_append_getElem h, List.foldl_append]
  rfl
theorem note_house (l : List Rc) (r : Rc) : noteE (houseR l) r = houseR (l ++ [r]) := by
  unfold noteE
  rw [log_house]
theorem ready_keys {l : List Rc} (h : ∀ r ∈ l, KeysOk r.parts) : ∀ x ∈ (houseR l).ready, KeysOk x.parts := by
  have : ∀ (l : List Rc) (h0 : Hs), (∀ x ∈ h0.ready, KeysOk x.parts) → (∀ r ∈ l, KeysOk r.parts) → ∀ x ∈ (l.foldl refStep h0).ready, KeysOk x.parts := by
    intro l
    induction l with
    | nil => intro h0 h1 _; exact h1
    | cons r l ih =>
      intro h0 h1 h2
      rw [List.foldl_cons]
      refine ih _ (fun x hx => ?_) fun y hy => h2 y (List.mem_cons_of_mem _ hy)
      rw [step_ready] at hx
      split at hx
      · split at hx
        · exact h1 x (List.eraseP_sublist.subset hx)
        · exact h1 x hx
      · split at hx
        · rcases List.mem_append.1 hx with hx | hx
          · exact h1 x hx
          · rw [List.mem_singleton.1 hx]; exact h2 r List.mem_cons_self
        · exact h1 x hx
  exact this l _ (by simp) h
theorem house_len (l : List Rc) : (houseR l).ready.length ≤ l.length := by
  have : ∀ (l : List Rc) (h0 : Hs), (l.foldl refStep h0).ready.length ≤ h0.ready.length + l.length := by
    intro l
    induction l with
    | nil => intro h0; simp
    | cons r l ih =>
      intro h0
      rw [List.foldl_cons]
      have h1 := ih (refStep h0 r)
      have h2 : (refStep h0 r).ready.length ≤ h0.ready.length + 1 := by
        rw [step_ready]
        split
        · split
          · exact Nat.le_trans List.eraseP_sublist.length_le (by omega)
          · omega
        · split
          · simp
          · omega
      simp only [List.length_cons]
      omega
  simpa [houseR] using this l ⟨l, ⟨0, 0, 0, 0⟩, [], []⟩
set_option maxRecDepth 100000 in
set_option maxHeartbeats 4000000 in
theorem logStill_walk {v vr : Value} {l : List Rc} {r : Rc} (w : World) (hv : Rcs w.cell? v l) (_hs : l.length * 40 ≤ 140737488351232) (hr : Of Ty.rc w.cell? vr r) :
    Calls Try.prog 7 #[v, vr] w fun e w' => e = .returned (.bool true) ∧ Grow w w' := by
  obtain ⟨ap, cp, rfl⟩ := hr.rc_form
  have hr3 : Ty.rc.R w.cell? [.int .i64 r.kind, .int .i64 r.deed, .slice ap r.parts.length cp] r := Of.cells hr
  have HR := Lib.hid hr3
  have HOR := Lib.hid hr
  have HV := Lib.hid hv
  have HRL := Lib.hid (fun (W : World) (hW : Grow w W) => ref_rightLog W (hv.mono hW.sub))
  have HAL := Lib.hid (fun (W : World) => alive5 W)
  have HR1 := Lib.hid (fun (W : World) (hW : Grow w W) => ref_rightLog (v := .slice (some ⟨W.heap.size, 0, none⟩) 1 1) (l := [r]) (W.alloc (.cells #[.int .i64 r.kind, .int .i64 r.deed, .slice ap r.parts.length cp] 48)) (sl_one (T := Ty.rc) (Ty.rc.mono (hW.trans ((Grow.refl W).alloc _)).sub hr3) (at_new W _ _) (by decide) (by decide)))
  obtain ⟨al, cl, rfl, -⟩ := hv
  clear hr hr3
  cases hok : rightLog l with
  | false =>
    go_enter Try.func7, Try.ntmps7
    go_wp2_with fail
    refine (HAL.out _).mono ?_
    rintro e w1 ⟨rfl, hb1⟩
    have HB1 := Lib.hid (((Grow.refl w).alloc (.cells #[.int .i64 r.kind, .int .i64 r.deed, .slice ap r.parts.length cp] 48)).trans hb1)
    clear hb1
    go_wp2_with fail
    refine (HRL.out _ HB1.out).mono ?_
    rw [hok]
    rintro e w2 ⟨rfl, hb2⟩
    go_wp2
    go_ret
    exact ⟨rfl, HB1.out.trans hb2⟩
  | true =>
    have HOK := Lib.hid hok
    clear hok
    cases hok1 : rightLog [r] with
    | false =>
      go_enter Try.func7, Try.ntmps7
      go_wp2_with fail
      refine (HAL.out _).mono ?_
      rintro e w1 ⟨rfl, hb1⟩
      have HB1 := Lib.hid (((Grow.refl w).alloc (.cells #[.int .i64 r.kind, .int .i64 r.deed, .slice ap r.parts.length cp] 48)).trans hb1)
      have R3 := Lib.hid (row_grow (row_new w (.cells #[.int .i64 r.kind, .int .i64 r.deed, .slice ap r.parts.length cp] 48)) hb1)
      clear hb1
      go_wp2_with fail
      refine (HRL.out _ HB1.out).mono ?_
      rw [HOK.out]
      rintro e w2 ⟨rfl, hb2⟩
      have HB2 := Lib.hid (HB1.out.trans hb2)
      obtain ⟨q0, q1, q2⟩ := cells3 (row_grow R3.out hb2)
      have qz : w.heap.size < w2.heap.size := (Array.getElem?_eq_some_iff.1 (row_grow R3.out hb2)).1
      clear hb2
      go_wp2_with fail
      refine (HR1.out _ HB2.out).mono ?_
      rw [hok1]
      rintro e w3 ⟨rfl, hb3⟩
      go_wp2
      go_ret
      exact ⟨rfl, (HB2.out.alloc _).trans hb3⟩
    | true =>
      have hkeys := keys_of_right HOK.out
      have hkr : KeysOk r.parts := (keys_of_right hok1).1 r (by simp)
      have hsm := right_small HOK.out
      have hsr := right_small hok1 r (by simp)
      have HHS := Lib.hid (fun (W : World) (hW : Grow w W) => wlog_house W (HV.out.mono hW.sub) hkeys.1 (by omega) (fun x hx => by have := hsm x hx; omega))
      have HNT := Lib.hid (fun (vx : Value) (W : World) (hW : Grow w W) (hx : Of Ty.hs W.cell? vx (houseR l)) => wlog_note W hx (HOR.out.mono hW.sub) (by rw [log_house]; exact hkeys.1) hkr (by rw [log_house]; omega) (by rw [log_house]; exact fun x hx => by have := hsm x hx; omega) (by omega))
      have HLAW := Lib.hid (still_law r (right_deeds HOK.out))
      have HRK := Lib.hid (ready_keys hkeys.1)
      have HO1 := Lib.hid hok1
      have HHO : Hid ((houseR l).ready.length ≤ 60) := by
        have := house_len l
        have := hkeys.2
        show _ ≤ _; omega
      clear hkeys hkr hsm hsr hok1
      go_enter Try.func7, Try.ntmps7
      go_wp2_with fail
      refine (HAL.out _).mono ?_
      rintro e w1 ⟨rfl, hb1⟩
      have HB1 := Lib.hid (((Grow.refl w).alloc (.cells #[.int .i64 r.kind, .int .i64 r.deed, .slice ap r.parts.length cp] 48)).trans hb1)
      have R3 := Lib.hid (row_grow (row_new w (.cells #[.int .i64 r.kind, .int .i64 r.deed, .slice ap r.parts.length cp] 48)) hb1)
      clear hb1
      go_wp2_with fail
      refine (HRL.out _ HB1.out).mono ?_
      rw [HOK.out]
      rintro e w2 ⟨rfl, hb2⟩
      have HB2 := Lib.hid (HB1.out.trans hb2)
      have R32 := Lib.hid (row_grow R3.out hb2)
      obtain ⟨q0, q1, q2⟩ := cells3 R32.out
      have qz : w.heap.size < w2.heap.size := (Array.getElem?_eq_some_iff.1 R32.out).1
      clear hb2
      go_wp2_with fail
      refine (HR1.out _ HB2.out).mono ?_
      rw [HO1.out]
      rintro e w3 ⟨rfl, hb3⟩
      have HB3 := Lib.hid ((HB2.out.alloc _).trans hb3)
      have R33 := Lib.hid (row_grow R32.out (((Grow.refl w2).alloc _).trans hb3))
      clear hb3 q0 q1 q2 qz
      go_wp2_with fail
      refine (HHS.out _ HB3.out).mono ?_
      rintro e w4 ⟨vx, rfl, hX, hb4⟩
      have hX' := hX.mono (ov_none hb4)
      obtain ⟨xl, kl, xr, kr, xd, kd, rfl⟩ := hX'.hs_form
      have HX := Lib.hid hX'
      have HB4 := Lib.hid (HB3.out.trans hb4)
      have R34 := Lib.hid (row_grow R33.out (hb4.trans ((Grow.refl w4).alloc (.cells #[.slice xl (houseR l).log.length kl, .int .i64 (houseR l).sums.a, .int .i64 (houseR l).sums.b, .int .i64 (houseR l).sums.c, .int .i64 (houseR l).sums.d, .slice xr (houseR l).ready.length kr, .slice xd (houseR l).done.length kd] 29))))
      obtain ⟨q0, q1, q2⟩ := cells3 R34.out
      have qz : w.heap.size < w4.heap.size := by have := (Array.getElem?_eq_some_iff.1 (row_grow R33.out hb4)).1; exact this
      obtain ⟨t0, t1, t2⟩ := cells3 (row_grow R33.out hb4)
      clear hX hX' hb4
      go_wp2_with fail
      refine (HNT.out _ _ (HB4.out.alloc _) (HX.out.mono ((Grow.refl _).alloc _).sub)).mono ?_
      rintro e w5 ⟨vy, rfl, hY, hb5⟩
      obtain ⟨yl, ml, yr, mr, yd, md, rfl⟩ := hY.hs_form
      have HB5 := Lib.hid ((HB4.out.alloc _).trans hb5)
      have R35 := Lib.hid (row_grow R34.out hb5)
      have RX := Lib.hid (row_grow (row_new w4 (.cells #[.slice xl (houseR l).log.length kl, .int .i64 (houseR l).sums.a, .int .i64 (houseR l).sums.b, .int .i64 (houseR l).sums.c, .int .i64 (houseR l).sums.d, .slice xr (houseR l).ready.length kr, .slice xd (houseR l).done.length kd] 29)) hb5)
      have HXR := Lib.hid ((Of.hs_log HX.out).2.1.mono (((Grow.refl w4).alloc _).trans hb5).sub)
      rw [note_house] at hY ⊢
      generalize houseR (l ++ [r]) = y at *
      have HY0 : Hid True := Lib.hid trivial
      clear hY hb5
      generalize houseR l = x at *
      obtain ⟨xr', kr', he, r1, r2, -, hxel⟩ := HXR.out
      obtain ⟨rfl, rfl⟩ : xr = xr' ∧ kr = kr' := by simpa using he
      unfold maxLen at r2
      have hrl : x.ready.length ≤ 60 := HHO.out
      clear he
      obtain ⟨u0, u1, u2, u3, u4, u5, u6⟩ := cells7 RX.out
      have uz : w4.heap.size < w5.heap.size := (Array.getElem?_eq_some_iff.1 RX.out).1
      clear q0 q1 q2 qz t0 t1 t2
      go_wp2
      go_loopw [33] (fun i wr => ∃ (j : Nat) (s : Sm), j ≤ x.ready.length ∧ i = .int .i64 j ∧ Grow (w5.alloc (.cells #[.slice yl y.log.length ml, .int .i64 y.sums.a, .int .i64 y.sums.b, .int .i64 y.sums.c, .int .i64 y.sums.d, .slice yr y.ready.length mr, .slice yd y.done.length md] 29)) wr ∧ wr.heap[w5.heap.size + 1]? = some (.cells #[.int .i64 s.a, .int .i64 s.b, .int .i64 s.c, .int .i64 s.d] 25 (0, 0)) ∧ s = stillF r x.sums (x.ready.take j)) (fun i _ => x.ready.length - (intOf i).toNat)
      case atStart => exact ⟨0, x.sums, by omega, rfl, (Grow.refl _).alloc _, by simpa using row_new (w5.alloc (.cells #[.slice yl y.log.length ml, .int .i64 y.sums.a, .int .i64 y.sums.b, .int .i64 y.sums.c, .int .i64 y.sums.d, .slice yr y.ready.length mr, .slice yd y.done.length md] 29)) (.cells #[.int .i64 x.sums.a, .int .i64 x.sums.b, .int .i64 x.sums.c, .int .i64 x.sums.d] 25), rfl⟩
      case round =>
        obtain ⟨j, s, hj', rfl, hb, hrow, hE⟩ := hrel
        have HE := Lib.hid hE
        have HG := Lib.hid (((Grow.refl w5).alloc (.cells #[.slice yl y.log.length ml, .int .i64 y.sums.a, .int .i64 y.sums.b, .int .i64 y.sums.c, .int .i64 y.sums.d, .slice yr y.ready.length mr, .slice yd y.done.length md] 29)).trans hb)
        have HROW := Lib.hid hrow
        obtain ⟨q0, q1, q2⟩ := cells3 (row_grow R35.out HG.out)
        have qz : w.heap.size < wr.heap.size := (Array.getElem?_eq_some_iff.1 (row_grow R35.out HG.out)).1
        clear u0 u1 u2 u3 u4 u5 u6 uz hE hrow
        by_cases hlt : j < x.ready.length
        · obtain ⟨b, o, vp, rfl, d0, d1, -, hP⟩ := Rds.at_ hxel j hlt
          obtain ⟨aq, cq, rfl, p1, p2, -, hpel⟩ := hP
          unfold maxLen at p2
          replace d0 := HG.out.sub _ _ d0
          replace d1 := HG.out.sub _ _ d1
          have HST := Lib.hid (still_take (r := r) (s := x.sums) hlt)
          have hkq := HRK.out x.ready[j] (List.getElem_mem _)
          clear hxel
          generalize x.ready[j] = q at *
          by_cases hq : q.deed = r.deed ∧ r.kind = 2
          · have b1 : (q.deed == r.deed) = true := by simp [hq.1]
            have b2 : (r.kind == 2) = true := by simp [hq.2]
            have HQ := Lib.hid hq
            clear hq
            go_wp2
            obtain ⟨wo, rfl⟩ : ∃ x : World, x = wr := ⟨_, rfl⟩
            go_loopw [50] (fun i wx => ∃ (m : Nat) (s' : Sm), m ≤ q.parts.length ∧ i = .int .i64 m ∧ Grow (w5.alloc (.cells #[.slice yl y.log.length ml, .int .i64 y.sums.a, .int .i64 y.sums.b, .int .i64 y.sums.c, .int .i64 y.sums.d, .slice yr y.ready.length mr, .slice yd y.done.length md] 29)) wx ∧ wx.heap[w5.heap.size + 1]? = some (.cells #[.int .i64 s'.a, .int .i64 s'.b, .int .i64 s'.c, .int .i64 s'.d] 25 (0, 0)) ∧ doP s' (q.parts.drop m) = doP s q.parts) (fun i _ => q.parts.length - (intOf i).toNat)
            case atStart => exact ⟨0, s, by omega, rfl, hb.alloc _, heap_later HROW.out _, rfl⟩
            case round =>
              obtain ⟨wx, rfl⟩ : ∃ x : World, x = wr := ⟨_, rfl⟩
              obtain ⟨m, s', hm', rfl, hbx, hrow, hF⟩ := hrel
              have HF := Lib.hid hF
              have HRX := Lib.hid hrow
              clear hF q0 q1 q2 qz d0 d1
              by_cases hlm : m < q.parts.length
              · obtain ⟨b', o', rfl, e0, e1, e2, -, -, -⟩ := Pts.at_ hpel m hlm
                have hg5 := ((Grow.refl w5).alloc (.cells #[.slice yl y.log.length ml, .int .i64 y.sums.a, .int .i64 y.sums.b, .int .i64 y.sums.c, .int .i64 y.sums.d, .slice yr y.ready.length mr, .slice yd y.done.length md] 29)).trans hbx
                replace e0 := hg5.sub _ _ e0
                replace e1 := hg5.sub _ _ e1
                replace e2 := hg5.sub _ _ e2
                obtain ⟨hk0, hk1⟩ := hkq q.parts[m] (List.getElem_mem _)
                have cs := Sm.row_cell hrow _ hk0 hk1
                have cf := Sm.row_free hrow q.parts[m].k.toNat
                have hsz : w5.heap.size + 1 < wx.heap.size := (Array.getElem?_eq_some_iff.1 hrow).1
                have HD := Lib.hid (List.drop_eq_getElem_cons hlm)
                clear hpel hkq hrow hg5
                generalize hp : q.parts[m] = p at *
                obtain ⟨ph, pk, pn⟩ := p
                clear hp
                simp only at e0 e1 e2 hk0 hk1 cs cf
                go_wp2
                go_region
                go_wp2
                go_roundw
                case rel => exact ⟨m + 1, s'.add pk pn, by omega, by go_num, (by repeat (first | with_reducible assumption | with_reducible exact Grow.refl _ | with_reducible apply Grow.drewN | with_reducible apply Grow.drew | with_reducible apply Grow.alloc | (refine Grow.setCell ?_ (by simp; done) _))), heap_later (Sm.row_set HRX.out _ _ hk0 hk1) _, by rw [← HF.out, HD.out]; rfl⟩
                case measure => simp [intOf]; omega
              · have hs : s' = doP s q.parts := by rw [← HF.out, List.drop_of_length_le (by omega)]; rfl
                have HS := Lib.hid hs
                clear hpel hkq hrow hs
                go_wp2
                go_roundw
                case rel => exact ⟨j + 1, s', by omega, by go_num, hbx, HRX.out, by rw [HST.out, if_pos HQ.out, ← HE.out]; exact HS.out⟩
                case measure => simp [intOf]; omega
          · have HQ := Lib.hid hq
            by_cases h1 : q.deed = r.deed
            · have b1 : (q.deed == r.deed) = true := by simp [h1]
              have b2 : (r.kind == 2) = false := by simp; exact fun e => hq ⟨h1, e⟩
              clear hq h1
              go_wp2
              go_roundw
              case rel => exact ⟨j + 1, s, by omega, by go_num, hb.alloc _, heap_later HROW.out _, by rw [HST.out, if_neg HQ.out]; exact HE.out⟩
              case measure => simp [intOf]; omega
            · have b1 : (q.deed == r.deed) = false := by simp [h1]
              clear hq h1
              go_wp2
              go_roundw
              case rel => exact ⟨j + 1, s, by omega, by go_num, hb.alloc _, heap_later HROW.out _, by rw [HST.out, if_neg HQ.out]; exact HE.out⟩
              case measure => simp [intOf]; omega
        · have hs : y.sums = s := by rw [HLAW.out, HE.out, List.take_of_length_le (by omega)]
          have RY := row_grow (row_new w5 (.cells #[.slice yl y.log.length ml, .int .i64 y.sums.a, .int .i64 y.sums.b, .int .i64 y.sums.c, .int .i64 y.sums.d, .slice yr y.ready.length mr, .slice yd y.done.length md] 29)) hb
          obtain ⟨g0, g1, g2, g3, g4, g5, g6⟩ := cells7 RY
          have gz : w5.heap.size < wr.heap.size := (Array.getElem?_eq_some_iff.1 RY).1
          obtain ⟨f0, f1, f2, f3⟩ := cells4 HROW.out
          have fz : w5.heap.size + 1 < wr.heap.size := (Array.getElem?_eq_some_iff.1 HROW.out).1
          have HQ : ∀ u : World, (binOp .eql 25 (.agg #[.int .i64 y.sums.a, .int .i64 y.sums.b, .int .i64 y.sums.c, .int .i64 y.sums.d]) (.agg #[.int .i64 s.a, .int .i64 s.b, .int .i64 s.c, .int .i64 s.d])).run Try.prog u = .ok (.bool true) u := fun u => by rw [eql_sm, decide_eq_true hs]
          have hg := guard_sm
          clear hs RY hxel
          go_wp2
          go_ret
          exact ⟨rfl, HB5.out.trans HG.out⟩
end Go.Proofs.Ytgbhpghgohggcaa
