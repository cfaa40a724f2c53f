/- The law LocksTells, walked. -/
import Derived.Test.YtgbhpghgohggcaaL3
import Derived.Test.YtgbhpghgohggcaaH1
import Derived.Test.YtgbhpghgohggcaaW1
namespace Go.Proofs.Ytgbhpghgohggcaa
open Go.RowKit
theorem keys_of_right {l : List Rc} (h : rightLog l = true) : (∀ r ∈ l, KeysOk r.parts) ∧ l.length ≤ 60 := by
  unfold rightLog at h
  have h := of_decide_eq_true h
  refine ⟨fun r hr => ?_, h.2⟩
  have h2 := of_decide_eq_true (h.1 r hr)
  by_cases hp : r.parts = []
  · rw [hp]; intro p hp; simp at hp
  · exact wrong_keys (h2.2.1 hp)
theorem free_all (l : List Rd) (ps : List Pt) : freeE l ps = ps.all fun p => decide (whoE l p.k < 0) := by
  unfold freeE
  induction ps with
  | nil => rfl
  | cons p ps ih =>
    rw [List.any_cons, List.all_cons, ← ih, Bool.not_or]
    congr 1
    by_cases h : 0 ≤ whoE l p.k
    · simp [h, Int.not_lt.2 h]
    · simp [h, Int.not_le.1 h]
set_option maxRecDepth 100000 in
set_option maxHeartbeats 1000000 in
theorem locksTells_walk {v v' : Value} {l : List Rc} {ps : List Pt} {key : Int} (w : World) (hv : Rcs w.cell? v l) (hv' : Pts w.cell? v' ps) :
    Calls Try.prog 3 #[v, v', .int .i64 key] w fun e w' => e = .returned (.bool true) ∧ Grow w w' := by
  have HRL := Lib.hid (ref_rightLog w hv)
  have HH : Hid (rightLog l = true → ∀ W, Grow w W → Calls Try.prog 29 #[v] W fun e w' => ∃ v', e = .returned v' ∧ Of Ty.hs w'.cell? v' (houseR l) ∧ Grow W w') := fun hr W hW => ref_house W (hv.mono hW.sub) (keys_of_right hr).1 (by have := (keys_of_right hr).2; omega)
  have HP := Lib.hid hv'
  obtain ⟨al, cl, rfl, -⟩ := hv
  obtain ⟨ap, cp, rfl, hp1, hp2, -, hpel⟩ := hv'
  unfold maxLen at hp2
  cases hok : rightLog l with
  | false =>
    go_enter Try.func3, Try.ntmps3
    go_wp2_with (go_at_call 28; refine HRL.out.mono ?_; rintro e w1 ⟨rfl, hb1⟩)
    go_ret
    exact ⟨rfl, hb1⟩
  | true =>
    have HC := Lib.hid (HH.out hok)
    generalize houseR l = h at *
    go_enter Try.func3, Try.ntmps3
    go_wp2_with (go_at_call 28; refine HRL.out.mono ?_; rintro e w1 ⟨rfl, hb1⟩; have HB1 := Lib.hid hb1; clear hb1)
    refine (HC.out _ HB1.out).mono ?_
    rintro e w2 ⟨vh, rfl, ⟨cs, rfl, hR⟩, hb2⟩
    have hR0 := hR
    obtain ⟨vl, vr, vd, rfl, hl, -, -, -, -, hr, hd⟩ := hR
    obtain ⟨ah, ch, rfl, -⟩ := id hl
    obtain ⟨ad, cd, rfl, -⟩ := id hd
    obtain ⟨ar, cr, rfl, -⟩ := id hr
    have HR := Lib.hid hR0
    have HB2 := Lib.hid (HB1.out.trans hb2)
    clear hl hd hr hR0 hb2
    go_wp2
    go_loopw [8, 18] (fun f i wr => ∃ k : Nat, k ≤ ps.length ∧ i = .int .i64 k ∧ f = .bool ((ps.take k).all fun p => decide (whoE h.ready p.k < 0)) ∧ Grow w2 wr ∧
      At wr.cell? w2.heap.size 0 [.slice ah h.log.length ch, .int .i64 h.sums.a, .int .i64 h.sums.b, .int .i64 h.sums.c, .int .i64 h.sums.d, .slice ar h.ready.length cr, .slice ad h.done.length cd]) (fun _ i _ => ps.length - (intOf i).toNat)
    case atStart => exact ⟨0, by omega, rfl, rfl, (Grow.refl w2).alloc _, fun j u hu => by rw [Nat.zero_add, World.cell?_alloc_new]; simpa using hu⟩
    case round =>
      obtain ⟨k, hk', rfl, rfl, hb, hA⟩ := hrel
      have g0 := hA 0 _ rfl
      have g1 := hA 1 _ rfl
      have g2 := hA 2 _ rfl
      have g3 := hA 3 _ rfl
      have g4 := hA 4 _ rfl
      have g5 := hA 5 _ rfl
      have g6 := hA 6 _ rfl
      have gs := World.block_lt_of_cell? wr _ g0
      simp only [Nat.zero_add] at g0 g1 g2 g3 g4 g5 g6 gs
      by_cases hlt : k < ps.length
      · obtain ⟨b, o, rfl, c0, c1, c2, -, hkk, -⟩ := Pts.at_ hpel k hlt
        replace c0 := (HB2.out.trans hb).sub _ _ c0
        replace c1 := (HB2.out.trans hb).sub _ _ c1
        replace c2 := (HB2.out.trans hb).sub _ _ c2
        have hall : (ps.take (k + 1)).all (fun p => decide (whoE h.ready p.k < 0)) = ((ps.take k).all (fun p => decide (whoE h.ready p.k < 0)) && decide (whoE h.ready ps[k].k < 0)) := by
          rw [List.take_succ_eq_append_getElem hlt, List.all_append]; simp
        have HAL := Lib.hid hall
        have HW : Hid (∀ W, Grow wr W → Calls Try.prog 30 #[.agg #[.slice ah h.log.length ch, .int .i64 h.sums.a, .int .i64 h.sums.b, .int .i64 h.sums.c, .int .i64 h.sums.d, .slice ar h.ready.length cr, .slice ad h.done.length cd], .int .i64 ps[k].k] W fun e w' => e = .returned (.int .i64 (whoE h.ready ps[k].k)) ∧ Grow W w') := fun W hW => ref_who W ⟨_, rfl, Ty.hs.mono (hb.trans hW).sub HR.out⟩
        have HA := Lib.hid hA
        have HLEN : Hid (k < ps.length) := Lib.hid hlt
        clear hpel hA hall hkk
        generalize ps[k] = p at *
        generalize (ps.take k).all (fun p => decide (whoE h.ready p.k < 0)) = acc at *
        cases acc
        · go_wp2_with fail
          go_roundw
          case rel => exact ⟨k + 1, by omega, by go_num, by rw [HAL.out]; rfl, hb.alloc _, HA.out.mono ((Grow.refl _).alloc _).sub⟩
          case measure => simp [intOf]; omega
        · go_wp2_with (go_at_call 30; refine (HW.out _ ((Grow.refl _).alloc _)).mono ?_; rintro e w4 ⟨rfl, hb4⟩)
          go_roundw
          case rel => exact ⟨k + 1, by omega, by go_num, by rw [HAL.out]; rfl, (hb.alloc _).trans hb4, HA.out.mono (((Grow.refl _).alloc _).trans hb4).sub⟩
          case measure => simp [intOf]; omega
      · obtain rfl : k = ps.length := by omega
        rw [List.take_of_length_le (Nat.le_refl _), ← free_all]
        have hO : ∀ W, Grow wr W → Of Ty.hs W.cell? (.agg #[.slice ah h.log.length ch, .int .i64 h.sums.a, .int .i64 h.sums.b, .int .i64 h.sums.c, .int .i64 h.sums.d, .slice ar h.ready.length cr, .slice ad h.done.length cd]) h := fun W hW => ⟨_, rfl, Ty.hs.mono (hb.trans hW).sub HR.out⟩
        have hW1 := fun (W : World) (hW : Grow wr W) => locks_who (key := key) W (hO W hW)
        have hW2 := fun (W : World) (hW : Grow wr W) => ref_who (key := key) W (hO W hW)
        have hW3 := fun (W : World) (hW : Grow wr W) => locks_free W (hO W hW) (HP.out.mono ((HB2.out.trans hb).trans hW).sub)
        have HW1 := Lib.hid hW1
        have HW2 := Lib.hid hW2
        have HW3 := Lib.hid hW3
        have HS : Hid (∀ W, Grow wr W → W.cell? ⟨w2.heap.size, 0, none⟩ = some (.slice ah h.log.length ch) ∧ W.cell? ⟨w2.heap.size, 1, none⟩ = some (.int .i64 h.sums.a) ∧ W.cell? ⟨w2.heap.size, 2, none⟩ = some (.int .i64 h.sums.b) ∧ W.cell? ⟨w2.heap.size, 3, none⟩ = some (.int .i64 h.sums.c) ∧ W.cell? ⟨w2.heap.size, 4, none⟩ = some (.int .i64 h.sums.d) ∧ W.cell? ⟨w2.heap.size, 5, none⟩ = some (.slice ar h.ready.length cr) ∧ W.cell? ⟨w2.heap.size, 6, none⟩ = some (.slice ad h.done.length cd)) := fun W hW => ⟨hW.sub _ _ g0, hW.sub _ _ g1, hW.sub _ _ g2, hW.sub _ _ g3, hW.sub _ _ g4, hW.sub _ _ g5, hW.sub _ _ g6⟩
        clear hW1 hW2 hW3 hA hpel
        generalize whoE h.ready key = wh at *
        generalize freeE h.ready ps = fr at *
        go_wp2
        go_region_held3 (fun w' => w'.cell? ⟨w2.heap.size, 0, none⟩ = some (.slice ah h.log.length ch) ∧ w'.cell? ⟨w2.heap.size, 1, none⟩ = some (.int .i64 h.sums.a) ∧ w'.cell? ⟨w2.heap.size, 2, none⟩ = some (.int .i64 h.sums.b) ∧ w'.cell? ⟨w2.heap.size, 3, none⟩ = some (.int .i64 h.sums.c) ∧ w'.cell? ⟨w2.heap.size, 4, none⟩ = some (.int .i64 h.sums.d) ∧ w'.cell? ⟨w2.heap.size, 5, none⟩ = some (.slice ar h.ready.length cr) ∧ w'.cell? ⟨w2.heap.size, 6, none⟩ = some (.slice ad h.done.length cd)) (first | assumption | exact HS.out _ (by repeat (first | with_reducible assumption | with_reducible exact Grow.refl _ | with_reducible apply Grow.drewN | with_reducible apply Grow.drew | with_reducible apply Grow.alloc | (refine Grow.trans ?_ (by with_reducible assumption))))) (first | (go_at_call 31; refine (HW1.out _ (by repeat (first | with_reducible assumption | with_reducible exact Grow.refl _ | with_reducible apply Grow.drewN | with_reducible apply Grow.drew | with_reducible apply Grow.alloc | (refine Grow.trans ?_ (by with_reducible assumption))))).mono ?_; rintro e wa ⟨rfl, hba⟩) | (go_at_call 30; refine (HW2.out _ (by repeat (first | with_reducible assumption | with_reducible exact Grow.refl _ | with_reducible apply Grow.drewN | with_reducible apply Grow.drew | with_reducible apply Grow.alloc | (refine Grow.trans ?_ (by with_reducible assumption))))).mono ?_; rintro e wb ⟨rfl, hbb⟩) | (go_at_call 32; refine (HW3.out _ (by repeat (first | with_reducible assumption | with_reducible exact Grow.refl _ | with_reducible apply Grow.drewN | with_reducible apply Grow.drew | with_reducible apply Grow.alloc | (refine Grow.trans ?_ (by with_reducible assumption))))).mono ?_; rintro e wc ⟨rfl, hbc⟩))
        go_wp2
        go_ret
        exact ⟨rfl, HB2.out.trans (by repeat (first | with_reducible assumption | with_reducible exact Grow.refl _ | with_reducible apply Grow.drewN | with_reducible apply Grow.drew | with_reducible apply Grow.alloc | (refine Grow.trans ?_ (by with_reducible assumption))))⟩
end Go.Proofs.Ytgbhpghgohggcaa
