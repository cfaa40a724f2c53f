/- The parts that HouseWord is proved of, joined: K1, A6, N1, N2, N3, N4, N5, Clone, M1, W5, S4, M2, M3, M4, M5, S2, S6, M6, Dfn, Dfn2, M7, M8, A5. No condition beside those that each theorem names. -/
import Derived.Test.YtgbhpghgohggcaaJHouseWorda
/- The law LocksTells, walked. -/
namespace Go.Proofs.Ytgbhpghgohggcaa
open Go.RowKit
theorem keys_of_right {l : List Rc} (h : rightLog l = true) : (∀ r ∈ l, KeysOk r.parts) ∧ l.length ≤ 60 := by
  unfold rightLog at h
  have h := of_decide_eq_true h
  refine ⟨fun r hr => ?_, h.2⟩
  have h2 := of_decide_eq_true (h.1 r hr)
  by_cases hp : r.parts = []
  · rw [hp]; intro p hp; simp at hp
  · exact wrong_keys (h2.2.1 hp)
theorem free_all (l : List Rd) (ps : List Pt) : freeE l ps = ps.all fun p => decide (whoE l p.k < 0) := by
  unfold freeE
  induction ps with
  | nil => rfl
  | cons p ps ih =>
    rw [List.any_cons, List.all_cons, ← ih, Bool.not_or]
    congr 1
    by_cases h : 0 ≤ whoE l p.k
    · simp [h, Int.not_lt.2 h]
    · simp [h, Int.not_le.1 h]
set_option maxRecDepth 100000 in
set_option maxHeartbeats 1000000 in
theorem locksTells_walk {v v' : Value} {l : List Rc} {ps : List Pt} {key : Int} (w : World) (hv : Rcs w.cell? v l) (hv' : Pts w.cell? v' ps) :
    Calls Try.prog 3 #[v, v', .int .i64 key] w fun e w' => e = .returned (.bool true) ∧ Grow w w' := by
  have HRL := Lib.hid (ref_rightLog w hv)
  have HH : Hid (rightLog l = true → ∀ W, Grow w W → Calls Try.prog 29 #[v] W fun e w' => ∃ v', e = .returned v' ∧ Of Ty.hs w'.cell? v' (houseR l) ∧ Grow W w') := fun hr W hW => ref_house W (hv.mono hW.sub) (keys_of_right hr).1 (by have := (keys_of_right hr).2; omega)
  have HP := Lib.hid hv'
  obtain ⟨al, cl, rfl, -⟩ := hv
  obtain ⟨ap, cp, rfl, hp1, hp2, -, hpel⟩ := hv'
  unfold maxLen at hp2
  cases hok : rightLog l with
  | false =>
    go_enter Try.func3, Try.ntmps3
    go_wp2_with (go_at_call 28; refine HRL.out.mono ?_; rintro e w1 ⟨rfl, hb1⟩)
    go_ret
    exact ⟨rfl, hb1⟩
  | true =>
    have HC := Lib.hid (HH.out hok)
    generalize houseR l = h at *
    go_enter Try.func3, Try.ntmps3
    go_wp2_with (go_at_call 28; refine HRL.out.mono ?_; rintro e w1 ⟨rfl, hb1⟩; have HB1 := Lib.hid hb1; clear hb1)
    refine (HC.out _ HB1.out).mono ?_
    rintro e w2 ⟨vh, rfl, ⟨cs, rfl, hR⟩, hb2⟩
    have hR0 := hR
    obtain ⟨vl, vr, vd, rfl, hl, -, -, -, -, hr, hd⟩ := hR
    obtain ⟨ah, ch, rfl, -⟩ := id hl
    obtain ⟨ad, cd, rfl, -⟩ := id hd
    obtain ⟨ar, cr, rfl, -⟩ := id hr
    have HR := Lib.hid hR0
    have HB2 := Lib.hid (HB1.out.trans hb2)
    clear hl hd hr hR0 hb2
    go_wp2
    go_loopw [8, 18] (fun f i wr => ∃ k : Nat, k ≤ ps.length ∧ i = .int .i64 k ∧ f = .bool ((ps.take k).all fun p => decide (whoE h.ready p.k < 0)) ∧ Grow w2 wr ∧
      At wr.cell? w2.heap.size 0 [.slice ah h.log.length ch, .int .i64 h.sums.a, .int .i64 h.sums.b, .int .i64 h.sums.c, .int .i64 h.sums.d, .slice ar h.ready.length cr, .slice ad h.done.length cd]) (fun _ i _ => ps.length - (intOf i).toNat)
    case atStart => exact ⟨0, by omega, rfl, rfl, (Grow.refl w2).alloc _, fun j u hu => by rw [Nat.zero_add, World.cell?_alloc_new]; simpa using hu⟩
    case round =>
      obtain ⟨k, hk', rfl, rfl, hb, hA⟩ := hrel
      have g0 := hA 0 _ rfl
      have g1 := hA 1 _ rfl
      have g2 := hA 2 _ rfl
      have g3 := hA 3 _ rfl
      have g4 := hA 4 _ rfl
      have g5 := hA 5 _ rfl
      have g6 := hA 6 _ rfl
      have gs := World.block_lt_of_cell? wr _ g0
      simp only [Nat.zero_add] at g0 g1 g2 g3 g4 g5 g6 gs
      by_cases hlt : k < ps.length
      · obtain ⟨b, o, rfl, c0, c1, c2, -, hkk, -⟩ := Pts.at_ hpel k hlt
        replace c0 := (HB2.out.trans hb).sub _ _ c0
        replace c1 := (HB2.out.trans hb).sub _ _ c1
        replace c2 := (HB2.out.trans hb).sub _ _ c2
        have hall : (ps.take (k + 1)).all (fun p => decide (whoE h.ready p.k < 0)) = ((ps.take k).all (fun p => decide (whoE h.ready p.k < 0)) && decide (whoE h.ready ps[k].k < 0)) := by
          rw [List.take_succ_eq_append_getElem hlt, List.all_append]; simp
        have HAL := Lib.hid hall
        have HW : Hid (∀ W, Grow wr W → Calls Try.prog 30 #[.agg #[.slice ah h.log.length ch, .int .i64 h.sums.a, .int .i64 h.sums.b, .int .i64 h.sums.c, .int .i64 h.sums.d, .slice ar h.ready.length cr, .slice ad h.done.length cd], .int .i64 ps[k].k] W fun e w' => e = .returned (.int .i64 (whoE h.ready ps[k].k)) ∧ Grow W w') := fun W hW => ref_who W ⟨_, rfl, Ty.hs.mono (hb.trans hW).sub HR.out⟩
        have HA := Lib.hid hA
        have HLEN : Hid (k < ps.length) := Lib.hid hlt
        clear hpel hA hall hkk
        generalize ps[k] = p at *
        generalize (ps.take k).all (fun p => decide (whoE h.ready p.k < 0)) = acc at *
        cases acc
        · go_wp2_with fail
          go_roundw
          case rel => exact ⟨k + 1, by omega, by go_num, by rw [HAL.out]; rfl, hb.alloc _, HA.out.mono ((Grow.refl _).alloc _).sub⟩
          case measure => simp [intOf]; omega
        · go_wp2_with (go_at_call 30; refine (HW.out _ ((Grow.refl _).alloc _)).mono ?_; rintro e w4 ⟨rfl, hb4⟩)
          go_roundw
          case rel => exact ⟨k + 1, by omega, by go_num, by rw [HAL.out]; rfl, (hb.alloc _).trans hb4, HA.out.mono (((Grow.refl _).alloc _).trans hb4).sub⟩
          case measure => simp [intOf]; omega
      · obtain rfl : k = ps.length := by omega
        rw [List.take_of_length_le (Nat.le_refl _), ← free_all]
        have hO : ∀ W, Grow wr W → Of Ty.hs W.cell? (.agg #[.slice ah h.log.length ch, .int .i64 h.sums.a, .int .i64 h.sums.b, .int .i64 h.sums.c, .int .i64 h.sums.d, .slice ar h.ready.length cr, .slice ad h.done.length cd]) h := fun W hW => ⟨_, rfl, Ty.hs.mono (hb.trans hW).sub HR.out⟩
        have hW1 := fun (W : World) (hW : Grow wr W) => locks_who (key := key) W (hO W hW)
        have hW2 := fun (W : World) (hW : Grow wr W) => ref_who (key := key) W (hO W hW)
        have hW3 := fun (W : World) (hW : Grow wr W) => locks_free W (hO W hW) (HP.out.mono ((HB2.out.trans hb).trans hW).sub)
        have HW1 := Lib.hid hW1
        have HW2 := Lib.hid hW2
        have HW3 := Lib.hid hW3
        have HS : Hid (∀ W, Grow wr W → W.cell? ⟨w2.heap.size, 0, none⟩ = some (.slice ah h.log.length ch) ∧ W.cell? ⟨w2.heap.size, 1, none⟩ = some (.int .i64 h.sums.a) ∧ W.cell? ⟨w2.heap.size, 2, none⟩ = some (.int .i64 h.sums.b) ∧ W.cell? ⟨w2.heap.size, 3, none⟩ = some (.int .i64 h.sums.c) ∧ W.cell? ⟨w2.heap.size, 4, none⟩ = some (.int .i64 h.sums.d) ∧ W.cell? ⟨w2.heap.size, 5, none⟩ = some (.slice ar h.ready.length cr) ∧ W.cell? ⟨w2.heap.size, 6, none⟩ = some (.slice ad h.done.length cd)) := fun W hW => ⟨hW.sub _ _ g0, hW.sub _ _ g1, hW.sub _ _ g2, hW.sub _ _ g3, hW.sub _ _ g4, hW.sub _ _ g5, hW.sub _ _ g6⟩
        clear hW1 hW2 hW3 hA hpel
        generalize whoE h.ready key = wh at *
        generalize freeE h.ready ps = fr at *
        go_wp2
        go_region_held3 (fun w' => w'.cell? ⟨w2.heap.size, 0, none⟩ = some (.slice ah h.log.length ch) ∧ w'.cell? ⟨w2.heap.size, 1, none⟩ = some (.int .i64 h.sums.a) ∧ w'.cell? ⟨w2.heap.size, 2, none⟩ = some (.int .i64 h.sums.b) ∧ w'.cell? ⟨w2.heap.size, 3, none⟩ = some (.int .i64 h.sums.c) ∧ w'.cell? ⟨w2.heap.size, 4, none⟩ = some (.int .i64 h.sums.d) ∧ w'.cell? ⟨w2.heap.size, 5, none⟩ = some (.slice ar h.ready.length cr) ∧ w'.cell? ⟨w2.heap.size, 6, none⟩ = some (.slice ad h.done.length cd)) (first | assumption | exact HS.out _ (by repeat (first | with_reducible assumption | with_reducible exact Grow.refl _ | with_reducible apply Grow.drewN | with_reducible apply Grow.drew | with_reducible apply Grow.alloc | (refine Grow.trans ?_ (by with_reducible assumption))))) (first | (go_at_call 31; refine (HW1.out _ (by repeat (first | with_reducible assumption | with_reducible exact Grow.refl _ | with_reducible apply Grow.drewN | with_reducible apply Grow.drew | with_reducible apply Grow.alloc | (refine Grow.trans ?_ (by with_reducible assumption))))).mono ?_; rintro e wa ⟨rfl, hba⟩) | (go_at_call 30; refine (HW2.out _ (by repeat (first | with_reducible assumption | with_reducible exact Grow.refl _ | with_reducible apply Grow.drewN | with_reducible apply Grow.drew | with_reducible apply Grow.alloc | (refine Grow.trans ?_ (by with_reducible assumption))))).mono ?_; rintro e wb ⟨rfl, hbb⟩) | (go_at_call 32; refine (HW3.out _ (by repeat (first | with_reducible assumption | with_reducible exact Grow.refl _ | with_reducible apply Grow.drewN | with_reducible apply Grow.drew | with_reducible apply Grow.alloc | (refine Grow.trans ?_ (by with_reducible assumption))))).mono ?_; rintro e wc ⟨rfl, hbc⟩))
        go_wp2
        go_ret
        exact ⟨rfl, HB2.out.trans (by repeat (first | with_reducible assumption | with_reducible exact Grow.refl _ | with_reducible apply Grow.drewN | with_reducible apply Grow.drew | with_reducible apply Grow.alloc | (refine Grow.trans ?_ (by with_reducible assumption))))⟩
end Go.Proofs.Ytgbhpghgohggcaa

/- The closed fact that chapter 6's laws ask first, walked. -/
namespace Go.Proofs.Ytgbhpghgohggcaa
open Go.RowKit
/-- a slice of one thing -/
theorem sl_one {α : Type} {T : Ty α} {c : CM} {B n : Nat} {cs : List Value} {x : α} (hR : T.R c cs x) (hA : At c B 0 cs) (hn : 1 ≤ n) (hm : n ≤ maxLen) : Sl T c (.slice (some ⟨B, 0, none⟩) 1 n) [x] :=
  ⟨_, n, rfl, hn, hm, by simp, fun i y hy => by
    have hi := (List.getElem?_eq_some_iff.1 hy).1
    obtain rfl : i = 0 := by simpa using hi
    obtain rfl : x = y := by simpa using hy
    exact ⟨B, 0, cs, rfl, hR, by simpa using hA⟩⟩
theorem at_new (w : World) (c : Array Value) (t : TypeId) : At (w.alloc (.cells c t)).cell? w.heap.size 0 c.toList := fun j u hu => by
  rw [Nat.zero_add, World.cell?_alloc_new]; simpa using hu
/-- one part in a new array -/
theorem pts_one (a b c : Int) (ha : I64 a) (hb : I64 b) (hc : I64 c) (w W : World) (t : TypeId) (hW : Grow (w.alloc (.cells #[.int .i64 a, .int .i64 b, .int .i64 c] t)) W) : Pts W.cell? (.slice (some ⟨w.heap.size, 0, none⟩) 1 1) [⟨a, b, c⟩] :=
  Sl.mono hW.sub (sl_one (T := Ty.pt) ⟨rfl, ha, hb, hc⟩ (at_new _ _ _) (by decide) (by decide))
theorem Of.hs_form {c : CM} {v : Value} {h : Hs} (hv : Of Ty.hs c v h) : ∃ al cl ar cr ad cd, v = .agg #[.slice al h.log.length cl, .int .i64 h.sums.a, .int .i64 h.sums.b, .int .i64 h.sums.c, .int .i64 h.sums.d, .slice ar h.ready.length cr, .slice ad h.done.length cd] := by
  obtain ⟨cs, rfl, hR⟩ := hv
  obtain ⟨vl, vr, vd, rfl, hl, -, -, -, -, hr, hd⟩ := hR
  obtain ⟨ah, ch, rfl, -⟩ := id hl
  obtain ⟨ad, cd, rfl, -⟩ := id hd
  obtain ⟨ar, cr, rfl, -⟩ := id hr
  exact ⟨_, _, _, _, _, _, rfl⟩
def hs70 : Hs := houseR [⟨1, 70, [⟨0, 1, 5⟩]⟩]
set_option maxRecDepth 100000 in
set_option maxHeartbeats 1000000 in
theorem alive6 (w : World) : Calls Try.prog 33 #[] w fun e w' => e = .returned (.bool true) ∧ Grow w w' := by
  have i0 : I64 0 := by unfold I64; decide
  have i1 : I64 1 := by unfold I64; decide
  have i2 : I64 2 := by unfold I64; decide
  have i5 : I64 5 := by unfold I64; decide
  have i70 : I64 70 := by unfold I64; decide
  have HP := Lib.hid (pts_one 0 1 5 i0 i1 i5 w)
  have HQ := Lib.hid (pts_one 0 2 0 i0 i2 i0)
  have HI := Lib.hid (And.intro i1 i70)
  clear i0 i1 i2 i5 i70
  go_enter Try.func33, Try.ntmps33
  go_wp2_with fail
  refine (ref_house (l := [⟨1, 70, [⟨0, 1, 5⟩]⟩]) _ (sl_one (T := Ty.rc) ⟨_, rfl, HI.out.1, HI.out.2, HP.out _ 32 (by repeat (first | with_reducible assumption | with_reducible exact Grow.refl _ | with_reducible apply Grow.drewN | with_reducible apply Grow.drew | with_reducible apply Grow.alloc | (refine Grow.trans ?_ (by with_reducible assumption))))⟩ (by simpa using at_new (w.alloc _) #[.int .i64 1, .int .i64 70, .slice (some ⟨w.heap.size, 0, none⟩) 1 1] 48) (by decide) (by decide)) (by intro r hr p hp; simp at hr; subst hr; simp at hp; subst hp; decide) (by decide)).mono ?_
  have e1 : whoE hs70.ready 1 = 70 := by decide
  have e2 : whoE hs70.ready 2 = -1 := by decide
  have e3 : freeE hs70.ready [⟨0, 1, 5⟩] = false := by decide
  have e4 : freeE hs70.ready [⟨0, 2, 0⟩] = true := by decide
  rintro e w2 ⟨vh, rfl, hO, hb2⟩
  change Of Ty.hs _ _ hs70 at hO
  have H1 := fun (W : World) (hW : Grow w2 W) => locks_who (key := 1) W (hO.mono hW.sub)
  have H2 := fun (W : World) (hW : Grow w2 W) => locks_who (key := 2) W (hO.mono hW.sub)
  have H3 := fun (v' : Value) (W : World) (hW : Grow w2 W) => locks_free (v' := v') (ps := [⟨0, 1, 5⟩]) W (hO.mono hW.sub)
  have H4 := fun (v' : Value) (W : World) (hW : Grow w2 W) => locks_free (v' := v') (ps := [⟨0, 2, 0⟩]) W (hO.mono hW.sub)
  rw [e1] at H1
  rw [e2] at H2
  rw [e3] at H3
  rw [e4] at H4
  obtain ⟨al, cl, ar, cr, ad, cd, rfl⟩ := hO.hs_form
  generalize hs70.log.length = nl at *
  generalize hs70.ready.length = nr at *
  generalize hs70.done.length = nd at *
  generalize hs70.sums.a = sa at *
  generalize hs70.sums.b = sb at *
  generalize hs70.sums.c = sc at *
  generalize hs70.sums.d = sd at *
  have H1' := Lib.hid H1
  have H2' := Lib.hid H2
  have H3' := Lib.hid H3
  have H4' := Lib.hid H4
  have hs2 := hb2.size
  simp at hs2
  have HB := Lib.hid ((((Grow.refl w).alloc (.cells #[.int .i64 0, .int .i64 1, .int .i64 5] 32)).alloc (.cells #[.int .i64 1, .int .i64 70, .slice (some ⟨w.heap.size, 0, none⟩) 1 1] 48)).trans hb2)
  have HB2' := Lib.hid (((Grow.refl (w.alloc (.cells #[.int .i64 0, .int .i64 1, .int .i64 5] 32))).alloc (.cells #[.int .i64 1, .int .i64 70, .slice (some ⟨w.heap.size, 0, none⟩) 1 1] 48)).trans hb2)
  clear e1 e2 e3 e4 H1 H2 H3 H4 hO hb2
  go_wp2_with fail
  refine (H1'.out _ ((Grow.refl _).alloc _)).mono ?_
  rintro e wa ⟨rfl, hbwa⟩
  (obtain ⟨cwa, fwa⟩ := bcell hbwa; have zwa0 : w2.heap.size < wa.heap.size := (by have := hbwa.size; (try simp at this); omega); have Gwa := Lib.hid hbwa; clear hbwa)
  have K1 := Lib.hid (((Grow.refl w2).alloc _).trans Gwa.out)
  go_wp2_with fail
  refine (H2'.out _ K1.out).mono ?_
  rintro e wb ⟨rfl, hbwb⟩
  (obtain ⟨cwb, fwb⟩ := bcell hbwb; have zwb0 : w2.heap.size < wb.heap.size := (by have := hbwb.size; (try simp at this); omega); have Gwb := Lib.hid hbwb; clear hbwb)
  have K2 := Lib.hid (K1.out.trans Gwb.out)
  go_wp2_with fail
  refine (H3'.out _ _ K2.out (HP.out _ _ (HB2'.out.trans K2.out))).mono ?_
  rintro e wc ⟨rfl, hbwc⟩
  (obtain ⟨cwc, fwc⟩ := bcell hbwc; have zwc0 : w2.heap.size < wc.heap.size := (by have := hbwc.size; (try simp at this); omega); have Gwc := Lib.hid hbwc; clear hbwc)
  have K3 := Lib.hid (K2.out.trans Gwc.out)
  go_wp2_with fail
  refine (H4'.out _ _ (K3.out.alloc _) (HQ.out _ _ _ (Grow.refl _))).mono ?_
  rintro e wd ⟨rfl, hbwd⟩
  (obtain ⟨cwd, fwd⟩ := bcell hbwd; have zwd0 : w2.heap.size < wd.heap.size := (by have := hbwd.size; (try simp at this); omega); have Gwd := Lib.hid hbwd; clear hbwd)
  go_wp2_with fail
  go_ret
  exact ⟨rfl, HB.out.trans ((K3.out.alloc _).trans Gwd.out)⟩
end Go.Proofs.Ytgbhpghgohggcaa

/- Walks: in, ready, Vote, note of the document's answer to chapter 7. -/
namespace Go.Proofs.Ytgbhpghgohggcaa
open Go.RowKit
theorem in_take {l : List Int} {k : Nat} {n : Int} (hlt : k < l.length) (h : ∀ x ∈ l.take k, x ≠ n) (hne : l[k] ≠ n) : ∀ x ∈ l.take (k + 1), x ≠ n := by
  intro x hx
  rw [List.take_succ_eq_append_getElem hlt] at hx
  rcases List.mem_append.1 hx with h' | h'
  · exact h x h'
  · simp at h'; subst h'; exact hne
set_option maxHeartbeats 400000 in
theorem ref_in {v : Value} {l : List Int} {n : Int} (w : World) (hv : Ints w.cell? v l) :
    Calls Try.prog 120 #[v, .int .i64 n] w fun e w' => e = .returned (.bool (decide (n ∈ l))) ∧ Grow w w' := by
  obtain ⟨a, cap, rfl, h1, h2, -, hel⟩ := hv
  unfold maxLen at h2
  go_enter Try.func120, Try.ntmps120
  go_wp2
  go_loopw [6, 9] (fun _ i wr => ∃ k : Nat, k ≤ l.length ∧ i = .int .i64 k ∧ Grow w wr ∧ ∀ x ∈ l.take k, x ≠ n) (fun _ i _ => l.length - (intOf i).toNat)
  case atStart => exact ⟨0, by omega, rfl, (by repeat (first | with_reducible assumption | with_reducible exact Grow.refl _ | with_reducible apply Grow.drewN | with_reducible apply Grow.drew | with_reducible apply Grow.alloc | (refine Grow.setCell ?_ (by simp; done) _))), by simp⟩
  case round =>
    obtain ⟨k, hk', rfl, hb, hE⟩ := hrel
    have HE := Lib.hid hE
    clear hE
    by_cases hlt : k < l.length
    · obtain ⟨b, o, rfl, c0, -⟩ := intAt hel k hlt
      replace c0 := hb.sub _ _ c0
      have H1 : Hid (l[k] = n → n ∈ l) := fun h => h ▸ List.getElem_mem _
      have H2 : Hid (l[k] ≠ n → ∀ x ∈ l.take (k + 1), x ≠ n) := fun h => in_take hlt HE.out h
      clear hel
      generalize l[k] = x at *
      cases ht : (x == n)
      · have H3 := Lib.hid (H2.out (by simpa using ht))
        clear H1 H2
        go_wp2
        go_roundw
        case rel => exact ⟨k + 1, by omega, by go_num, (by repeat (first | with_reducible assumption | with_reducible exact Grow.refl _ | with_reducible apply Grow.drewN | with_reducible apply Grow.drew | with_reducible apply Grow.alloc | (refine Grow.setCell ?_ (by simp; done) _))), H3.out⟩
        case measure => simp [intOf]; omega
      · have H3 := Lib.hid (H1.out (by simpa using ht))
        clear H1 H2
        go_wp2
        go_ret
        exact ⟨ret_bool (by simp [H3.out]), (by repeat (first | with_reducible assumption | with_reducible exact Grow.refl _ | with_reducible apply Grow.drewN | with_reducible apply Grow.drew | with_reducible apply Grow.alloc | (refine Grow.setCell ?_ (by simp; done) _)))⟩
    · clear hel
      go_wp2
      go_ret
      refine ⟨ret_bool ?_, hb⟩
      have h := HE.out
      rw [List.take_of_length_le (by omega)] at h
      symm
      rw [decide_eq_false_iff_not]
      exact fun hm => h n hm rfl
set_option maxHeartbeats 400000 in
theorem ref_ready {v : Value} {h : Hs} {d : Int} (w : World) (hv : Of Ty.hs w.cell? v h) :
    Calls Try.prog 118 #[v, .int .i64 d] w fun e w' => e = .returned (.bool (readyE h.ready d)) ∧ Grow w w' := by
  obtain ⟨cs, rfl, vl, vr, vd, rfl, hl, -, -, -, -, hr, hd⟩ := hv
  obtain ⟨al, cl, rfl, -⟩ := id hl
  obtain ⟨ad, cd, rfl, -⟩ := id hd
  obtain ⟨a, cap, rfl, h1, h2, -, hel⟩ := hr
  unfold maxLen at h2
  go_enter Try.func118, Try.ntmps118
  go_wp2
  go_loopw [6, 10] (fun _ i wr => ∃ k : Nat, k ≤ h.ready.length ∧ i = .int .i64 k ∧ Grow w wr ∧ ∀ r ∈ h.ready.take k, isD d r = false) (fun _ i _ => h.ready.length - (intOf i).toNat)
  case atStart => exact ⟨0, by omega, rfl, (by repeat (first | with_reducible assumption | with_reducible exact Grow.refl _ | with_reducible apply Grow.drewN | with_reducible apply Grow.drew | with_reducible apply Grow.alloc | (refine Grow.setCell ?_ (by simp; done) _))), by simp⟩
  case round =>
    obtain ⟨k, hk', rfl, hb, hE⟩ := hrel
    have HE := Lib.hid hE
    clear hE
    by_cases hlt : k < h.ready.length
    · obtain ⟨b, o, vp, rfl, c0, c1, -, hP⟩ := Rds.at_ hel k hlt
      obtain ⟨ap, cp, rfl, -⟩ := id hP
      replace c0 := hb.sub _ _ c0
      replace c1 := hb.sub _ _ c1
      have H1 : Hid (isD d h.ready[k] = true → readyE h.ready d = true) := fun h2 => List.any_eq_true.2 ⟨_, List.getElem_mem _, h2⟩
      have H2 : Hid (isD d h.ready[k] = false → ∀ r ∈ h.ready.take (k + 1), isD d r = false) := fun h2 r hr => by
        rw [List.take_succ_eq_append_getElem hlt] at hr
        rcases List.mem_append.1 hr with h' | h'
        · exact HE.out r h'
        · simp at h'; subst h'; exact h2
      clear hel hP
      generalize h.ready[k] = r at *
      cases ht : (r.deed == d)
      · have H3 := Lib.hid (H2.out ht)
        clear H1 H2
        go_wp2
        go_roundw
        case rel => exact ⟨k + 1, by omega, by go_num, (by repeat (first | with_reducible assumption | with_reducible exact Grow.refl _ | with_reducible apply Grow.drewN | with_reducible apply Grow.drew | with_reducible apply Grow.alloc | (refine Grow.setCell ?_ (by simp; done) _))), H3.out⟩
        case measure => simp [intOf]; omega
      · have H3 := Lib.hid (H1.out ht)
        clear H1 H2
        go_wp2
        go_ret
        exact ⟨ret_bool H3.out.symm, (by repeat (first | with_reducible assumption | with_reducible exact Grow.refl _ | with_reducible apply Grow.drewN | with_reducible apply Grow.drew | with_reducible apply Grow.alloc | (refine Grow.setCell ?_ (by simp; done) _)))⟩
    · clear hel
      go_wp2
      go_ret
      refine ⟨ret_bool ?_, hb⟩
      have h3 := HE.out
      rw [List.take_of_length_le (by omega)] at h3
      symm
      rw [readyE, List.any_eq_false]
      intro x hx
      rw [h3 x hx]; simp
end Go.Proofs.Ytgbhpghgohggcaa

/- Walks: note of the document's answer. -/
namespace Go.Proofs.Ytgbhpghgohggcaa
open Go.RowKit
theorem Of.rc_form {c : CM} {v : Value} {r : Rc} (hv : Of Ty.rc c v r) : ∃ ap cp, v = .agg #[.int .i64 r.kind, .int .i64 r.deed, .slice ap r.parts.length cp] := by
  obtain ⟨cs, rfl, vp, rfl, -, -, hp⟩ := hv
  obtain ⟨ap, cp, rfl, -⟩ := id hp
  exact ⟨_, _, rfl⟩
theorem Of.cells {α : Type} {T : Ty α} {c : CM} {cs : Array Value} {x : α} (h : Of T c (.agg cs) x) : T.R c cs.toList x := by
  obtain ⟨cs', he, hR⟩ := h
  simp only [Value.agg.injEq] at he
  subst he
  exact hR
theorem Of.hs_log {c : CM} {al ar ad : Option Addr} {nl cl nr cr nd cd : Nat} {sa sb sc sd : Value} {h : Hs} (hv : Of Ty.hs c (.agg #[.slice al nl cl, sa, sb, sc, sd, .slice ar nr cr, .slice ad nd cd]) h) : Sl Ty.rc c (.slice al nl cl) h.log ∧ Sl Ty.rd c (.slice ar nr cr) h.ready ∧ Sl Ty.int c (.slice ad nd cd) h.done := by
  obtain ⟨vl, vr, vd, he, hl, -, -, -, -, hr, hd⟩ := hv.cells
  simp at he
  obtain ⟨rfl, -, -, -, -, rfl, rfl⟩ := he
  exact ⟨hl, hr, hd⟩
set_option maxRecDepth 100000 in
set_option maxHeartbeats 1000000 in
theorem ref_note {c : CM} {v vr : Value} {h : Hs} {r : Rc} (w : World) (hc : Sub c w.cell?) (hv : Of Ty.hs c v h) (hr : Of Ty.rc c vr r) (hk : ∀ x ∈ h.log, KeysOk x.parts) (hkr : KeysOk r.parts) (hm : (h.log.length + 1) * 40 ≤ 140737488355328) :
    Calls Try.prog 119 #[v, vr] w fun e w' => ∃ v', e = .returned v' ∧ Of Ty.hs (ov c w w') v' (noteE h r) ∧ Grow w w' := by
  obtain ⟨al, cl, ar, cr, ad, cd, rfl⟩ := hv.hs_form
  obtain ⟨ap, cp, rfl⟩ := hr.rc_form
  have hll := (Of.hs_log hv).1
  have HR := Lib.hid hr.cells
  have HONE : Hid (OwnC Ty.rc c w w.heap.size 48 (.slice none 0 0) []) := Lib.hid (OwnC.nil _ _ _ _ _)
  have HSRC := Lib.hid (fun (W : World) (hW : Grow w W) => (Src.of_sl_c (T := Ty.rc) (by decide) hc hll).grow hW)
  have HM := Lib.hid hm
  have HK0 := Lib.hid hk
  have HKR := Lib.hid hkr
  have HC := Lib.hid hc
  clear hv hr hll hm hk hkr hc HONE
  generalize hne : noteE h r = x
  have HNE : Hid (houseR (h.log ++ [r]) = x) := hne
  clear hne
  go_enter Try.func119, Try.ntmps119
  go_wp2_with fail
  have hGW : Grow w (((w.alloc (.cells #[.slice al h.log.length cl, .int .i64 h.sums.a, .int .i64 h.sums.b, .int .i64 h.sums.c, .int .i64 h.sums.d, .slice ar h.ready.length cr, .slice ad h.done.length cd] 29)).alloc (.cells #[.int .i64 r.kind, .int .i64 r.deed, .slice ap r.parts.length cp] 48)).alloc (.cells #[.slice none 0 0, .int .i64 0, .int .i64 0, .int .i64 0, .int .i64 0, .slice none 0 0, .slice none 0 0] 29)) := (((Grow.refl w).alloc _).alloc _).alloc _
  have hS : (((w.alloc (.cells #[.slice al h.log.length cl, .int .i64 h.sums.a, .int .i64 h.sums.b, .int .i64 h.sums.c, .int .i64 h.sums.d, .slice ar h.ready.length cr, .slice ad h.done.length cd] 29)).alloc (.cells #[.int .i64 r.kind, .int .i64 r.deed, .slice ap r.parts.length cp] 48)).alloc (.cells #[.slice none 0 0, .int .i64 0, .int .i64 0, .int .i64 0, .int .i64 0, .slice none 0 0, .slice none 0 0] 29)).cell? ⟨w.heap.size, 0, none⟩ = some (.slice al h.log.length cl) ∧ (((w.alloc (.cells #[.slice al h.log.length cl, .int .i64 h.sums.a, .int .i64 h.sums.b, .int .i64 h.sums.c, .int .i64 h.sums.d, .slice ar h.ready.length cr, .slice ad h.done.length cd] 29)).alloc (.cells #[.int .i64 r.kind, .int .i64 r.deed, .slice ap r.parts.length cp] 48)).alloc (.cells #[.slice none 0 0, .int .i64 0, .int .i64 0, .int .i64 0, .int .i64 0, .slice none 0 0, .slice none 0 0] 29)).cell? ⟨w.heap.size + 1, 0, none⟩ = some (.int .i64 r.kind) ∧ (((w.alloc (.cells #[.slice al h.log.length cl, .int .i64 h.sums.a, .int .i64 h.sums.b, .int .i64 h.sums.c, .int .i64 h.sums.d, .slice ar h.ready.length cr, .slice ad h.done.length cd] 29)).alloc (.cells #[.int .i64 r.kind, .int .i64 r.deed, .slice ap r.parts.length cp] 48)).alloc (.cells #[.slice none 0 0, .int .i64 0, .int .i64 0, .int .i64 0, .int .i64 0, .slice none 0 0, .slice none 0 0] 29)).cell? ⟨w.heap.size + 1, 1, none⟩ = some (.int .i64 r.deed) ∧ (((w.alloc (.cells #[.slice al h.log.length cl, .int .i64 h.sums.a, .int .i64 h.sums.b, .int .i64 h.sums.c, .int .i64 h.sums.d, .slice ar h.ready.length cr, .slice ad h.done.length cd] 29)).alloc (.cells #[.int .i64 r.kind, .int .i64 r.deed, .slice ap r.parts.length cp] 48)).alloc (.cells #[.slice none 0 0, .int .i64 0, .int .i64 0, .int .i64 0, .int .i64 0, .slice none 0 0, .slice none 0 0] 29)).cell? ⟨w.heap.size + 1, 2, none⟩ = some (.slice ap r.parts.length cp) := by refine ⟨?_, ?_, ?_, ?_⟩ <;> go_simp
  have hZ : (((w.alloc (.cells #[.slice al h.log.length cl, .int .i64 h.sums.a, .int .i64 h.sums.b, .int .i64 h.sums.c, .int .i64 h.sums.d, .slice ar h.ready.length cr, .slice ad h.done.length cd] 29)).alloc (.cells #[.int .i64 r.kind, .int .i64 r.deed, .slice ap r.parts.length cp] 48)).alloc (.cells #[.slice none 0 0, .int .i64 0, .int .i64 0, .int .i64 0, .int .i64 0, .slice none 0 0, .slice none 0 0] 29)).cell? ⟨w.heap.size + 1 + 1, 0, none⟩ = some (.slice none 0 0) ∧ (((w.alloc (.cells #[.slice al h.log.length cl, .int .i64 h.sums.a, .int .i64 h.sums.b, .int .i64 h.sums.c, .int .i64 h.sums.d, .slice ar h.ready.length cr, .slice ad h.done.length cd] 29)).alloc (.cells #[.int .i64 r.kind, .int .i64 r.deed, .slice ap r.parts.length cp] 48)).alloc (.cells #[.slice none 0 0, .int .i64 0, .int .i64 0, .int .i64 0, .int .i64 0, .slice none 0 0, .slice none 0 0] 29)).cell? ⟨w.heap.size + 1 + 1, 1, none⟩ = some (.int .i64 0) ∧ (((w.alloc (.cells #[.slice al h.log.length cl, .int .i64 h.sums.a, .int .i64 h.sums.b, .int .i64 h.sums.c, .int .i64 h.sums.d, .slice ar h.ready.length cr, .slice ad h.done.length cd] 29)).alloc (.cells #[.int .i64 r.kind, .int .i64 r.deed, .slice ap r.parts.length cp] 48)).alloc (.cells #[.slice none 0 0, .int .i64 0, .int .i64 0, .int .i64 0, .int .i64 0, .slice none 0 0, .slice none 0 0] 29)).cell? ⟨w.heap.size + 1 + 1, 2, none⟩ = some (.int .i64 0) ∧ (((w.alloc (.cells #[.slice al h.log.length cl, .int .i64 h.sums.a, .int .i64 h.sums.b, .int .i64 h.sums.c, .int .i64 h.sums.d, .slice ar h.ready.length cr, .slice ad h.done.length cd] 29)).alloc (.cells #[.int .i64 r.kind, .int .i64 r.deed, .slice ap r.parts.length cp] 48)).alloc (.cells #[.slice none 0 0, .int .i64 0, .int .i64 0, .int .i64 0, .int .i64 0, .slice none 0 0, .slice none 0 0] 29)).cell? ⟨w.heap.size + 1 + 1, 3, none⟩ = some (.int .i64 0) ∧ (((w.alloc (.cells #[.slice al h.log.length cl, .int .i64 h.sums.a, .int .i64 h.sums.b, .int .i64 h.sums.c, .int .i64 h.sums.d, .slice ar h.ready.length cr, .slice ad h.done.length cd] 29)).alloc (.cells #[.int .i64 r.kind, .int .i64 r.deed, .slice ap r.parts.length cp] 48)).alloc (.cells #[.slice none 0 0, .int .i64 0, .int .i64 0, .int .i64 0, .int .i64 0, .slice none 0 0, .slice none 0 0] 29)).cell? ⟨w.heap.size + 1 + 1, 4, none⟩ = some (.int .i64 0) ∧ (((w.alloc (.cells #[.slice al h.log.length cl, .int .i64 h.sums.a, .int .i64 h.sums.b, .int .i64 h.sums.c, .int .i64 h.sums.d, .slice ar h.ready.length cr, .slice ad h.done.length cd] 29)).alloc (.cells #[.int .i64 r.kind, .int .i64 r.deed, .slice ap r.parts.length cp] 48)).alloc (.cells #[.slice none 0 0, .int .i64 0, .int .i64 0, .int .i64 0, .int .i64 0, .slice none 0 0, .slice none 0 0] 29)).cell? ⟨w.heap.size + 1 + 1, 5, none⟩ = some (.slice none 0 0) ∧ (((w.alloc (.cells #[.slice al h.log.length cl, .int .i64 h.sums.a, .int .i64 h.sums.b, .int .i64 h.sums.c, .int .i64 h.sums.d, .slice ar h.ready.length cr, .slice ad h.done.length cd] 29)).alloc (.cells #[.int .i64 r.kind, .int .i64 r.deed, .slice ap r.parts.length cp] 48)).alloc (.cells #[.slice none 0 0, .int .i64 0, .int .i64 0, .int .i64 0, .int .i64 0, .slice none 0 0, .slice none 0 0] 29)).cell? ⟨w.heap.size + 1 + 1, 6, none⟩ = some (.slice none 0 0) := by refine ⟨?_, ?_, ?_, ?_, ?_, ?_, ?_⟩ <;> go_simp
  have hZF : ∀ o, (((w.alloc (.cells #[.slice al h.log.length cl, .int .i64 h.sums.a, .int .i64 h.sums.b, .int .i64 h.sums.c, .int .i64 h.sums.d, .slice ar h.ready.length cr, .slice ad h.done.length cd] 29)).alloc (.cells #[.int .i64 r.kind, .int .i64 r.deed, .slice ap r.parts.length cp] 48)).alloc (.cells #[.slice none 0 0, .int .i64 0, .int .i64 0, .int .i64 0, .int .i64 0, .slice none 0 0, .slice none 0 0] 29)).frozen? ⟨w.heap.size + 1 + 1, o, none⟩ = false := by intro o; go_simp
  have hsz : w.heap.size + 1 + 1 < (((w.alloc (.cells #[.slice al h.log.length cl, .int .i64 h.sums.a, .int .i64 h.sums.b, .int .i64 h.sums.c, .int .i64 h.sums.d, .slice ar h.ready.length cr, .slice ad h.done.length cd] 29)).alloc (.cells #[.int .i64 r.kind, .int .i64 r.deed, .slice ap r.parts.length cp] 48)).alloc (.cells #[.slice none 0 0, .int .i64 0, .int .i64 0, .int .i64 0, .int .i64 0, .slice none 0 0, .slice none 0 0] 29)).heap.size := by simp
  generalize hW3 : (((w.alloc (.cells #[.slice al h.log.length cl, .int .i64 h.sums.a, .int .i64 h.sums.b, .int .i64 h.sums.c, .int .i64 h.sums.d, .slice ar h.ready.length cr, .slice ad h.done.length cd] 29)).alloc (.cells #[.int .i64 r.kind, .int .i64 r.deed, .slice ap r.parts.length cp] 48)).alloc (.cells #[.slice none 0 0, .int .i64 0, .int .i64 0, .int .i64 0, .int .i64 0, .slice none 0 0, .slice none 0 0] 29)) = w3 at *
  have HW3 := Lib.hid hW3
  have HGW := Lib.hid hGW
  have HS : Hid (∀ W, Grow w3 W → W.cell? ⟨w.heap.size, 0, none⟩ = some (.slice al h.log.length cl) ∧ W.cell? ⟨w.heap.size + 1, 0, none⟩ = some (.int .i64 r.kind) ∧ W.cell? ⟨w.heap.size + 1, 1, none⟩ = some (.int .i64 r.deed) ∧ W.cell? ⟨w.heap.size + 1, 2, none⟩ = some (.slice ap r.parts.length cp)) := fun W hW => ⟨hW.sub _ _ hS.1, hW.sub _ _ hS.2.1, hW.sub _ _ hS.2.2.1, hW.sub _ _ hS.2.2.2⟩
  have HSB : Hid (∀ W, w3.grownBy W (some (w.heap.size + 1 + 1)) → W.cell? ⟨w.heap.size, 0, none⟩ = some (.slice al h.log.length cl) ∧ W.cell? ⟨w.heap.size + 1, 0, none⟩ = some (.int .i64 r.kind) ∧ W.cell? ⟨w.heap.size + 1, 1, none⟩ = some (.int .i64 r.deed) ∧ W.cell? ⟨w.heap.size + 1, 2, none⟩ = some (.slice ap r.parts.length cp)) := fun W hW => by
    have k : ∀ (b o : Nat) (u : Value), b < w.heap.size + 1 + 1 → w3.cell? ⟨b, o, none⟩ = some u → W.cell? ⟨b, o, none⟩ = some u := fun b o u hb e => by
      rw [World.cell?_of_block (w := w3) (hW.block b (World.block_lt_of_cell? w3 _ e) (by simp; omega))]; exact e
    exact ⟨k _ _ _ (by omega) hS.1, k _ _ _ (by omega) hS.2.1, k _ _ _ (by omega) hS.2.2.1, k _ _ _ (by omega) hS.2.2.2⟩
  have HSR := Lib.hid (fun (W : World) (hW : Grow w3 W) => HSRC.out W (HGW.out.trans hW))
  have HL : Hid (h.log.length + 1 ≤ 3518437208883) := by show _ ≤ _; have := HM.out; omega
  have HZ : Hid (∀ W, Grow w3 W → W.cell? ⟨w.heap.size + 1 + 1, 0, none⟩ = some (.slice none 0 0) ∧ W.cell? ⟨w.heap.size + 1 + 1, 1, none⟩ = some (.int .i64 0) ∧ W.cell? ⟨w.heap.size + 1 + 1, 2, none⟩ = some (.int .i64 0) ∧ W.cell? ⟨w.heap.size + 1 + 1, 3, none⟩ = some (.int .i64 0) ∧ W.cell? ⟨w.heap.size + 1 + 1, 4, none⟩ = some (.int .i64 0) ∧ W.cell? ⟨w.heap.size + 1 + 1, 5, none⟩ = some (.slice none 0 0) ∧ W.cell? ⟨w.heap.size + 1 + 1, 6, none⟩ = some (.slice none 0 0) ∧ ∀ o, W.frozen? ⟨w.heap.size + 1 + 1, o, none⟩ = false) := fun W hW => ⟨hW.sub _ _ hZ.1, hW.sub _ _ hZ.2.1, hW.sub _ _ hZ.2.2.1, hW.sub _ _ hZ.2.2.2.1, hW.sub _ _ hZ.2.2.2.2.1, hW.sub _ _ hZ.2.2.2.2.2.1, hW.sub _ _ hZ.2.2.2.2.2.2, fun o => by rw [hW.frozen (p := ⟨w.heap.size + 1 + 1, o, none⟩) hsz]; exact hZF o⟩
  clear hW3 hGW hS hZ hZF
  refine but_start (fun w' => w'.cell? ⟨w.heap.size, 0, none⟩ = some (.slice al h.log.length cl) ∧ w'.cell? ⟨w.heap.size + 1, 0, none⟩ = some (.int .i64 r.kind) ∧ w'.cell? ⟨w.heap.size + 1, 1, none⟩ = some (.int .i64 r.deed) ∧ w'.cell? ⟨w.heap.size + 1, 2, none⟩ = some (.slice ap r.parts.length cp)) 8 (by kernel_rfl) ?_
  obtain ⟨wd, hWd⟩ : ∃ x : World, x = w3.drew := ⟨_, rfl⟩
  rw [← hWd]
  have GD : Grow w3 wd := by rw [hWd]; exact (Grow.refl _).drew
  have zD : w3.heap.size = wd.heap.size := by rw [hWd]; rfl
  have ZD := Lib.hid zD
  clear hWd zD
  refine but_take (i := 1) (v := ?_) 8 rfl (by kernel_rfl) (by kernel_rfl) (by kernel_rfl) (by kernel_rfl) (by kernel_rfl) (fun _ _ _ h => h) (HS.out _ GD) (Or.inl ⟨by rfl, ?_⟩) ?_
  rotate_left
  · (intro w' hSw; (try dsimp only at hSw); obtain ⟨hs0, hs1, hs2, hs3⟩ := hSw; go_simp <;> with_reducible rfl)
  try simp only [Act.put, List.setIfInBounds_toArray]
  refine but_take (i := 2) (v := ?_) 8 rfl (by kernel_rfl) (by kernel_rfl) (by kernel_rfl) (by kernel_rfl) (by kernel_rfl) (fun _ _ _ h => h) (HS.out _ GD) (Or.inl ⟨by rfl, ?_⟩) ?_
  rotate_left
  · (intro w' hSw; (try dsimp only at hSw); obtain ⟨hs0, hs1, hs2, hs3⟩ := hSw; go_simp <;> with_reducible rfl)
  try simp only [Act.put]
  refine but_take (i := 4) (v := ?_) 8 rfl (by kernel_rfl) (by kernel_rfl) (by kernel_rfl) (by kernel_rfl) (by kernel_rfl) (fun _ _ _ h => h) (HS.out _ GD) (Or.inl ⟨by rfl, ?_⟩) ?_
  rotate_left
  · (intro w' hSw; (try dsimp only at hSw); obtain ⟨hs0, hs1, hs2, hs3⟩ := hSw; go_simp <;> with_reducible rfl)
  try simp only [Act.put]
  refine but_two (i := 0) (j := 5) (by kernel_rfl) rfl rfl (fun K HK' => ?_) (fun K HK' => ?_)
  · skip
    have HK := Lib.hid HK'
    clear HK'
    go_simp
    refine HK.out _ _ ⟨fun _ => HS.out _ (GD.alloc _), ?_⟩
    clear HK K
    try simp only [Act.put, List.setIfInBounds_toArray, List.set_cons_zero, List.set_cons_succ]
    refine but_two (i := 3) (j := 5) (by kernel_rfl) rfl rfl (fun K HK' => ?_) (fun K HK' => ?_)
    · skip
      have HK := Lib.hid HK'
      clear HK'
      refine step_appc (v := .slice (some ⟨wd.heap.size, 0, none⟩) 0 0) ei_rc rfl one_Trc (by decide) rfl (.tmp 5) (.tmp 7) rfl rfl ((OwnC.made0 Ty.rc c _ w3.heap.size _ (by have := ZD.out; (try simp); omega) (by simp))) rfl (HSR.out _ (GD.alloc _)) (by have := HL.out; simp; omega) (GD.alloc _).size ?_
      intro a3 c3 q3 ho3 hg3 hb3
      try simp only [List.length_nil, Nat.zero_add, List.nil_append] at ho3
      try simp only [List.length_nil, Nat.zero_add] at hb3
      try simp only [List.length_nil, Nat.zero_add]
      have G3 := grow_by (w0 := w3) (GD.alloc _) hg3 (own_at (by have := ZD.out; (try simp); omega))
      have B3 := Lib.hid (own_new (B := w3.heap.size) (GD.alloc _).size hb3 (own_at (by have := ZD.out; (try simp); omega)))
      have HO3 := Lib.hid ho3
      have HG3 := Lib.hid hg3
      clear ho3 hg3 hb3
      refine HK.out _ _ ⟨fun _ => HS.out _ G3, ?_⟩
      clear HK K
      try simp only [Act.put, List.setIfInBounds_toArray]
      refine but_one (i := 5) (by kernel_rfl) rfl (fun K HK' => ?_)
      have HK := Lib.hid HK'
      clear HK'
      go_simp
      refine HK.out _ _ ⟨fun _ => HS.out _ (G3.alloc _), ?_⟩
      clear HK K
      try simp only [Act.put, List.setIfInBounds_toArray, List.set_cons_zero, List.set_cons_succ]
      refine but_one (i := 6) (by kernel_rfl) rfl (fun K HK' => ?_)
      have HK := Lib.hid HK'
      clear HK'
      refine step_appc (v := .slice a3 (h.log.length) c3) ei_rc rfl one_Trc (by decide) rfl (.tmp 8) (.tmp 10) rfl rfl ((HO3.out).grow ((Grow.refl _).alloc _)) rfl ((Src.of_new (T := Ty.rc) (c := c) (cs := #[.int .i64 r.kind, .int .i64 r.deed, .slice ap r.parts.length cp]) HR.out _ _ (by simp))) (by have := HL.out; simp; omega) (G3.alloc _).size ?_
      intro a6 c6 q6 ho6 hg6 hb6
      try simp only [List.length_nil, List.length_cons, Nat.zero_add] at ho6
      try simp only [List.length_nil, List.length_cons, Nat.zero_add] at hb6
      try simp only [List.length_nil, List.length_cons, Nat.zero_add]
      have G6 := grow_by (w0 := w3) (G3.alloc _) hg6 B3.out
      have B6 := Lib.hid (own_new (B := w3.heap.size) (G3.alloc _).size hb6 B3.out)
      have HO6 := Lib.hid ho6
      have HG6 := Lib.hid hg6
      clear ho6 hg6 hb6
      refine HK.out _ _ ⟨fun _ => HS.out _ G6, ?_⟩
      clear HK K
      try simp only [Act.put, List.setIfInBounds_toArray]
      refine but_one (i := 7) (by kernel_rfl) rfl (fun K HK' => ?_)
      have HK := Lib.hid HK'
      clear HK'
      go_simp
      go_at_call 29
      refine (ref_house_c (c := wo (w.heap.size + 1 + 1) (ov c w q6)) (l := h.log ++ [r]) q6 (wo_ov_sub HC.out (HGW.out.trans G6)) (HO6.out.slc (by decide) (wo_ov_in HC.out (by omega)) fun a ha => wo_ov_new (by omega) (by omega)) (by intro x hx; rcases List.mem_append.1 hx with hx | hx; exact HK0.out x hx; simp at hx; subst hx; exact HKR.out) (by have := HL.out; simp; omega)).mono ?_
      rw [HNE.out]
      rintro e q7 ⟨vx, rfl, hX, hb7⟩
      obtain ⟨al2, cl2, ar2, cr2, ad2, cd2, rfl⟩ := hX.hs_form
      have HX := Lib.hid hX
      have G7 := G6.trans hb7
      have HB7 := Lib.hid hb7
      obtain ⟨p0, p1, p2, p3, p4, p5, p6, pf⟩ := HZ.out _ G7
      have z7 : w.heap.size + 1 + 1 < q7.heap.size := by have := G7.size; omega
      clear hX hb7
      refine HK.out _ _ ⟨fun _ => HS.out _ G7, ?_⟩
      clear HK K
      try simp only [Act.put, List.setIfInBounds_toArray, List.set_cons_zero, List.set_cons_succ]
      refine but_one (i := 8) (by kernel_rfl) rfl (fun K HK' => ?_)
      have HK := Lib.hid HK'
      clear HK'
      go_simp
      refine HK.out _ _ ⟨fun h => absurd rfl h, ?_⟩
      clear HK K
      try simp only [Act.put, List.setIfInBounds_toArray, List.set_cons_zero, List.set_cons_succ]
      refine but_done (by kernel_rfl) ?_
      go_wp2
      refine bodyPost_ret (v := .agg #[.slice al2 x.log.length cl2, .int .i64 x.sums.a, .int .i64 x.sums.b, .int .i64 x.sums.c, .int .i64 x.sums.d, .slice ar2 x.ready.length cr2, .slice ad2 x.done.length cd2]) (by simp [results, Try.results119, go_sem, p0, p1, p2, p3, p4, p5, p6]) rfl ?_
      refine ⟨_, rfl, ?_, ?_⟩
      · refine HX.out.mono (ov_box (B := w.heap.size + 1 + 1) (HGW.out.trans G6) HB7.out (by have := G6.size; omega) fun a ha => ?_)
        rw [setCell_ne ha, setCell_ne ha, setCell_ne ha, setCell_ne ha, setCell_ne ha, setCell_ne ha, setCell_ne ha]
      · (repeat (with_reducible refine Grow.setCell ?_ (by first | (simp; done) | (simp; omega) | omega) _))
        exact HGW.out.trans G7
    · skip
      have HK := Lib.hid HK'
      clear HK'
      go_simp
      refine HK.out _ _ ⟨fun _ => HS.out _ ((GD.alloc _).alloc _), ?_⟩
      clear HK K
      try simp only [Act.put, List.setIfInBounds_toArray, List.set_cons_zero, List.set_cons_succ]
      refine but_one (i := 3) (by kernel_rfl) rfl (fun K HK' => ?_)
      have HK := Lib.hid HK'
      clear HK'
      refine step_appc (v := .slice (some ⟨wd.heap.size, 0, none⟩) 0 0) ei_rc rfl one_Trc (by decide) rfl (.tmp 5) (.tmp 7) rfl rfl (((OwnC.made0 Ty.rc c _ w3.heap.size _ (by have := ZD.out; (try simp); omega) (by simp))).grow ((Grow.refl _).alloc _)) rfl (HSR.out _ ((GD.alloc _).alloc _)) (by have := HL.out; simp; omega) ((GD.alloc _).alloc _).size ?_
      intro a3 c3 q3 ho3 hg3 hb3
      try simp only [List.length_nil, Nat.zero_add, List.nil_append] at ho3
      try simp only [List.length_nil, Nat.zero_add] at hb3
      try simp only [List.length_nil, Nat.zero_add]
      have G3 := grow_by (w0 := w3) ((GD.alloc _).alloc _) hg3 (own_at (by have := ZD.out; (try simp); omega))
      have B3 := Lib.hid (own_new (B := w3.heap.size) ((GD.alloc _).alloc _).size hb3 (own_at (by have := ZD.out; (try simp); omega)))
      have HO3 := Lib.hid ho3
      have HG3 := Lib.hid hg3
      clear ho3 hg3 hb3
      refine HK.out _ _ ⟨fun _ => HS.out _ G3, ?_⟩
      clear HK K
      try simp only [Act.put, List.setIfInBounds_toArray]
      refine but_one (i := 6) (by kernel_rfl) rfl (fun K HK' => ?_)
      have HK := Lib.hid HK'
      clear HK'
      refine step_appc (v := .slice a3 (h.log.length) c3) ei_rc rfl one_Trc (by decide) rfl (.tmp 8) (.tmp 10) rfl rfl (HO3.out) rfl (((Src.of_new (T := Ty.rc) (c := c) (cs := #[.int .i64 r.kind, .int .i64 r.deed, .slice ap r.parts.length cp]) HR.out _ _ (by simp))).kept HG3.out (by simp [Value.ownBlock])) (by have := HL.out; simp; omega) G3.size ?_
      intro a6 c6 q6 ho6 hg6 hb6
      try simp only [List.length_nil, List.length_cons, Nat.zero_add] at ho6
      try simp only [List.length_nil, List.length_cons, Nat.zero_add] at hb6
      try simp only [List.length_nil, List.length_cons, Nat.zero_add]
      have G6 := grow_by (w0 := w3) G3 hg6 B3.out
      have B6 := Lib.hid (own_new (B := w3.heap.size) G3.size hb6 B3.out)
      have HO6 := Lib.hid ho6
      have HG6 := Lib.hid hg6
      clear ho6 hg6 hb6
      refine HK.out _ _ ⟨fun _ => HS.out _ G6, ?_⟩
      clear HK K
      try simp only [Act.put]
      refine but_one (i := 7) (by kernel_rfl) rfl (fun K HK' => ?_)
      have HK := Lib.hid HK'
      clear HK'
      go_simp
      go_at_call 29
      refine (ref_house_c (c := wo (w.heap.size + 1 + 1) (ov c w q6)) (l := h.log ++ [r]) q6 (wo_ov_sub HC.out (HGW.out.trans G6)) (HO6.out.slc (by decide) (wo_ov_in HC.out (by omega)) fun a ha => wo_ov_new (by omega) (by omega)) (by intro x hx; rcases List.mem_append.1 hx with hx | hx; exact HK0.out x hx; simp at hx; subst hx; exact HKR.out) (by have := HL.out; simp; omega)).mono ?_
      rw [HNE.out]
      rintro e q7 ⟨vx, rfl, hX, hb7⟩
      obtain ⟨al2, cl2, ar2, cr2, ad2, cd2, rfl⟩ := hX.hs_form
      have HX := Lib.hid hX
      have G7 := G6.trans hb7
      have HB7 := Lib.hid hb7
      obtain ⟨p0, p1, p2, p3, p4, p5, p6, pf⟩ := HZ.out _ G7
      have z7 : w.heap.size + 1 + 1 < q7.heap.size := by have := G7.size; omega
      clear hX hb7
      refine HK.out _ _ ⟨fun _ => HS.out _ G7, ?_⟩
      clear HK K
      try simp only [Act.put, List.setIfInBounds_toArray, List.set_cons_zero, List.set_cons_succ]
      refine but_one (i := 8) (by kernel_rfl) rfl (fun K HK' => ?_)
      have HK := Lib.hid HK'
      clear HK'
      go_simp
      refine HK.out _ _ ⟨fun h => absurd rfl h, ?_⟩
      clear HK K
      try simp only [Act.put, List.setIfInBounds_toArray, List.set_cons_zero, List.set_cons_succ]
      refine but_done (by kernel_rfl) ?_
      go_wp2
      refine bodyPost_ret (v := .agg #[.slice al2 x.log.length cl2, .int .i64 x.sums.a, .int .i64 x.sums.b, .int .i64 x.sums.c, .int .i64 x.sums.d, .slice ar2 x.ready.length cr2, .slice ad2 x.done.length cd2]) (by simp [results, Try.results119, go_sem, p0, p1, p2, p3, p4, p5, p6]) rfl ?_
      refine ⟨_, rfl, ?_, ?_⟩
      · refine HX.out.mono (ov_box (B := w.heap.size + 1 + 1) (HGW.out.trans G6) HB7.out (by have := G6.size; omega) fun a ha => ?_)
        rw [setCell_ne ha, setCell_ne ha, setCell_ne ha, setCell_ne ha, setCell_ne ha, setCell_ne ha, setCell_ne ha]
      · (repeat (with_reducible refine Grow.setCell ?_ (by first | (simp; done) | (simp; omega) | omega) _))
        exact HGW.out.trans G7
  · skip
    have HK := Lib.hid HK'
    clear HK'
    go_simp
    refine HK.out _ _ ⟨fun _ => HS.out _ (GD.alloc _), ?_⟩
    clear HK K
    try simp only [Act.put, List.setIfInBounds_toArray, List.set_cons_zero, List.set_cons_succ]
    refine but_one (i := 0) (by kernel_rfl) rfl (fun K HK' => ?_)
    have HK := Lib.hid HK'
    clear HK'
    go_simp
    refine HK.out _ _ ⟨fun _ => HS.out _ ((GD.alloc _).alloc _), ?_⟩
    clear HK K
    try simp only [Act.put, List.setIfInBounds_toArray, List.set_cons_zero, List.set_cons_succ]
    refine but_one (i := 3) (by kernel_rfl) rfl (fun K HK' => ?_)
    have HK := Lib.hid HK'
    clear HK'
    refine step_appc (v := .slice (some ⟨wd.heap.size + 1, 0, none⟩) 0 0) ei_rc rfl one_Trc (by decide) rfl (.tmp 5) (.tmp 7) rfl rfl ((OwnC.made0 Ty.rc c _ w3.heap.size _ (by have := ZD.out; (try simp); omega) (by simp))) rfl (HSR.out _ ((GD.alloc _).alloc _)) (by have := HL.out; simp; omega) ((GD.alloc _).alloc _).size ?_
    intro a3 c3 q3 ho3 hg3 hb3
    try simp only [List.length_nil, Nat.zero_add, List.nil_append] at ho3
    try simp only [List.length_nil, Nat.zero_add] at hb3
    try simp only [List.length_nil, Nat.zero_add]
    have G3 := grow_by (w0 := w3) ((GD.alloc _).alloc _) hg3 (own_at (by have := ZD.out; (try simp); omega))
    have B3 := Lib.hid (own_new (B := w3.heap.size) ((GD.alloc _).alloc _).size hb3 (own_at (by have := ZD.out; (try simp); omega)))
    have HO3 := Lib.hid ho3
    have HG3 := Lib.hid hg3
    clear ho3 hg3 hb3
    refine HK.out _ _ ⟨fun _ => HS.out _ G3, ?_⟩
    clear HK K
    try simp only [Act.put, List.setIfInBounds_toArray]
    refine but_one (i := 6) (by kernel_rfl) rfl (fun K HK' => ?_)
    have HK := Lib.hid HK'
    clear HK'
    refine step_appc (v := .slice a3 (h.log.length) c3) ei_rc rfl one_Trc (by decide) rfl (.tmp 8) (.tmp 10) rfl rfl (HO3.out) rfl ((((Src.of_new (T := Ty.rc) (c := c) (cs := #[.int .i64 r.kind, .int .i64 r.deed, .slice ap r.parts.length cp]) HR.out _ _ (by simp))).grow ((Grow.refl _).alloc _)).kept HG3.out (by simp [Value.ownBlock])) (by have := HL.out; simp; omega) G3.size ?_
    intro a6 c6 q6 ho6 hg6 hb6
    try simp only [List.length_nil, List.length_cons, Nat.zero_add] at ho6
    try simp only [List.length_nil, List.length_cons, Nat.zero_add] at hb6
    try simp only [List.length_nil, List.length_cons, Nat.zero_add]
    have G6 := grow_by (w0 := w3) G3 hg6 B3.out
    have B6 := Lib.hid (own_new (B := w3.heap.size) G3.size hb6 B3.out)
    have HO6 := Lib.hid ho6
    have HG6 := Lib.hid hg6
    clear ho6 hg6 hb6
    refine HK.out _ _ ⟨fun _ => HS.out _ G6, ?_⟩
    clear HK K
    try simp only [Act.put]
    refine but_one (i := 7) (by kernel_rfl) rfl (fun K HK' => ?_)
    have HK := Lib.hid HK'
    clear HK'
    go_simp
    go_at_call 29
    refine (ref_house_c (c := wo (w.heap.size + 1 + 1) (ov c w q6)) (l := h.log ++ [r]) q6 (wo_ov_sub HC.out (HGW.out.trans G6)) (HO6.out.slc (by decide) (wo_ov_in HC.out (by omega)) fun a ha => wo_ov_new (by omega) (by omega)) (by intro x hx; rcases List.mem_append.1 hx with hx | hx; exact HK0.out x hx; simp at hx; subst hx; exact HKR.out) (by have := HL.out; simp; omega)).mono ?_
    rw [HNE.out]
    rintro e q7 ⟨vx, rfl, hX, hb7⟩
    obtain ⟨al2, cl2, ar2, cr2, ad2, cd2, rfl⟩ := hX.hs_form
    have HX := Lib.hid hX
    have G7 := G6.trans hb7
    have HB7 := Lib.hid hb7
    obtain ⟨p0, p1, p2, p3, p4, p5, p6, pf⟩ := HZ.out _ G7
    have z7 : w.heap.size + 1 + 1 < q7.heap.size := by have := G7.size; omega
    clear hX hb7
    refine HK.out _ _ ⟨fun _ => HS.out _ G7, ?_⟩
    clear HK K
    try simp only [Act.put, List.setIfInBounds_toArray, List.set_cons_zero, List.set_cons_succ]
    refine but_one (i := 8) (by kernel_rfl) rfl (fun K HK' => ?_)
    have HK := Lib.hid HK'
    clear HK'
    go_simp
    refine HK.out _ _ ⟨fun h => absurd rfl h, ?_⟩
    clear HK K
    try simp only [Act.put, List.setIfInBounds_toArray, List.set_cons_zero, List.set_cons_succ]
    refine but_done (by kernel_rfl) ?_
    go_wp2
    refine bodyPost_ret (v := .agg #[.slice al2 x.log.length cl2, .int .i64 x.sums.a, .int .i64 x.sums.b, .int .i64 x.sums.c, .int .i64 x.sums.d, .slice ar2 x.ready.length cr2, .slice ad2 x.done.length cd2]) (by simp [results, Try.results119, go_sem, p0, p1, p2, p3, p4, p5, p6]) rfl ?_
    refine ⟨_, rfl, ?_, ?_⟩
    · refine HX.out.mono (ov_box (B := w.heap.size + 1 + 1) (HGW.out.trans G6) HB7.out (by have := G6.size; omega) fun a ha => ?_)
      rw [setCell_ne ha, setCell_ne ha, setCell_ne ha, setCell_ne ha, setCell_ne ha, setCell_ne ha, setCell_ne ha]
    · (repeat (with_reducible refine Grow.setCell ?_ (by first | (simp; done) | (simp; omega) | omega) _))
      exact HGW.out.trans G7
end Go.Proofs.Ytgbhpghgohggcaa

/- Walks: Wrong of the document's answer to chapter 2. -/
namespace Go.Proofs.Ytgbhpghgohggcaa
open Go.RowKit
theorem Of.ms_form {c : CM} {v : Value} {m : Ms} (hv : Of Ty.ms c v m) : ∃ ap cp, v = .agg #[.int .i64 m.kind, .int .i64 m.deed, .int .i64 m.house, .slice ap m.parts.length cp] := by
  obtain ⟨cs, rfl, vp, rfl, -, -, -, hp⟩ := hv
  obtain ⟨ap, cp, rfl, -⟩ := id hp
  exact ⟨_, _, rfl⟩
theorem Of.ms_parts {c : CM} {a b d : Value} {ap : Option Addr} {n cp : Nat} {m : Ms} (hv : Of Ty.ms c (.agg #[a, b, d, .slice ap n cp]) m) : Sl Ty.pt c (.slice ap n cp) m.parts ∧ I64 m.kind ∧ I64 m.deed ∧ I64 m.house := by
  obtain ⟨cs, he, vp, rfl, h1, h2, h3, hp⟩ := hv
  simp at he
  obtain ⟨-, -, -, rfl⟩ := he
  exact ⟨hp, h1, h2, h3⟩
theorem wrong_house {ps : List Pt} {h : Int} {k : Nat} (hlt : k < ps.length) (hE : ∀ p ∈ ps.take k, (p.h == h) = true) :
    ((ps[k].h == h) = true → ∀ p ∈ ps.take (k + 1), (p.h == h) = true) ∧ ((ps[k].h == h) = false → ps.all (fun p => p.h == h) = false) := by
  constructor
  · intro e p hp
    rw [List.take_succ_eq_append_getElem hlt] at hp
    rcases List.mem_append.1 hp with h' | h'
    · exact hE p h'
    · simp at h'; subst h'; exact e
  · intro e
    rw [List.all_eq_false]
    exact ⟨_, List.getElem_mem hlt, by simp [e]⟩
set_option maxRecDepth 100000 in
set_option maxHeartbeats 1000000 in
theorem ref_wrong {v : Value} {m : Ms} (w : World) (hv : Of Ty.ms w.cell? v m) :
    Calls Try.prog 34 #[v] w fun e w' => e = .returned (.int .i64 (wrongM m)) ∧ Grow w w' := by
  obtain ⟨ap, cp, rfl⟩ := hv.ms_form
  obtain ⟨hp, -⟩ := hv.ms_parts
  have HW := Lib.hid (fun (W : World) (hW : Grow w W) => ref_wrongParts (h := 3) W (hp.mono hW.sub))
  have HPL := Lib.hid hp
  clear hv hp
  by_cases h1 : m.kind < 1
  · have HE : Hid (wrongM m = 1) := by show wrongM m = 1; unfold wrongM; rw [if_pos (.inl h1)]
    go_enter Try.func34, Try.ntmps34
    go_wp2
    go_ret
    exact ⟨ret_int HE.out.symm, (by repeat (first | with_reducible assumption | with_reducible exact Grow.refl _ | with_reducible apply Grow.drewN | with_reducible apply Grow.drew | with_reducible apply Grow.alloc | (refine Grow.setCell ?_ (by simp; done) _)))⟩
  by_cases h2 : 7 < m.kind
  · have HE : Hid (wrongM m = 1) := by show wrongM m = 1; unfold wrongM; rw [if_pos (.inr h2)]
    go_enter Try.func34, Try.ntmps34
    go_wp2
    go_ret
    exact ⟨ret_int HE.out.symm, (by repeat (first | with_reducible assumption | with_reducible exact Grow.refl _ | with_reducible apply Grow.drewN | with_reducible apply Grow.drew | with_reducible apply Grow.alloc | (refine Grow.setCell ?_ (by simp; done) _)))⟩
  by_cases h3 : m.deed < 0
  · have HE : Hid (wrongM m = 3) := by show wrongM m = 3; unfold wrongM; rw [if_neg (by omega), if_pos (.inl h3)]
    go_enter Try.func34, Try.ntmps34
    go_wp2
    go_ret
    exact ⟨ret_int HE.out.symm, (by repeat (first | with_reducible assumption | with_reducible exact Grow.refl _ | with_reducible apply Grow.drewN | with_reducible apply Grow.drew | with_reducible apply Grow.alloc | (refine Grow.setCell ?_ (by simp; done) _)))⟩
  by_cases h4 : 1343 < m.deed
  · have HE : Hid (wrongM m = 3) := by show wrongM m = 3; unfold wrongM; rw [if_neg (by omega), if_pos (by omega)]
    go_enter Try.func34, Try.ntmps34
    go_wp2
    go_ret
    exact ⟨ret_int HE.out.symm, (by repeat (first | with_reducible assumption | with_reducible exact Grow.refl _ | with_reducible apply Grow.drewN | with_reducible apply Grow.drew | with_reducible apply Grow.alloc | (refine Grow.setCell ?_ (by simp; done) _)))⟩
  by_cases h5 : m.house < 0
  · have HE : Hid (wrongM m = 3) := by show wrongM m = 3; unfold wrongM; rw [if_neg (by omega), if_pos (by omega)]
    go_enter Try.func34, Try.ntmps34
    go_wp2
    go_ret
    exact ⟨ret_int HE.out.symm, (by repeat (first | with_reducible assumption | with_reducible exact Grow.refl _ | with_reducible apply Grow.drewN | with_reducible apply Grow.drew | with_reducible apply Grow.alloc | (refine Grow.setCell ?_ (by simp; done) _)))⟩
  by_cases h6 : 2 < m.house
  · have HE : Hid (wrongM m = 3) := by show wrongM m = 3; unfold wrongM; rw [if_neg (by omega), if_pos (by omega)]
    go_enter Try.func34, Try.ntmps34
    go_wp2
    go_ret
    exact ⟨ret_int HE.out.symm, (by repeat (first | with_reducible assumption | with_reducible exact Grow.refl _ | with_reducible apply Grow.drewN | with_reducible apply Grow.drew | with_reducible apply Grow.alloc | (refine Grow.setCell ?_ (by simp; done) _)))⟩
  by_cases h7 : 1 < m.kind
  · by_cases h8 : m.parts = []
    · have HE : Hid (wrongM m = 0) := by show wrongM m = 0; unfold wrongM; rw [if_neg (by omega), if_neg (by omega), if_pos h7, if_pos h8]
      have hl : m.parts.length = 0 := by rw [h8]; rfl
      clear h8
      generalize m.parts.length = n at *
      subst hl
      go_enter Try.func34, Try.ntmps34
      go_wp2
      go_ret
      exact ⟨ret_int HE.out.symm, (by repeat (first | with_reducible assumption | with_reducible exact Grow.refl _ | with_reducible apply Grow.drewN | with_reducible apply Grow.drew | with_reducible apply Grow.alloc | (refine Grow.setCell ?_ (by simp; done) _)))⟩
    · have HE : Hid (wrongM m = 5) := by show wrongM m = 5; unfold wrongM; rw [if_neg (by omega), if_neg (by omega), if_pos h7, if_neg h8]
      have hl : 0 < m.parts.length := List.length_pos_iff.2 h8
      have hb : ((m.parts.length : Int) != 0) = true := by rw [bne_iff_ne]; omega
      clear h8
      go_enter Try.func34, Try.ntmps34
      go_wp2
      go_ret
      exact ⟨ret_int HE.out.symm, (by repeat (first | with_reducible assumption | with_reducible exact Grow.refl _ | with_reducible apply Grow.drewN | with_reducible apply Grow.drew | with_reducible apply Grow.alloc | (refine Grow.setCell ?_ (by simp; done) _)))⟩
  have HB : Hid (wrongM m = if wrongE m.parts 3 = 0 then (if m.parts.all (fun p => p.h == m.house) = true then 0 else 3) else wrongE m.parts 3) := by
    show wrongM m = _
    unfold wrongM
    rw [if_neg (by omega), if_neg (by omega), if_neg h7]
  by_cases h8 : wrongE m.parts 3 = 0
  · have hb : (wrongE m.parts 3 != 0) = false := by simp [h8]
    have HE : Hid (wrongM m = (if m.parts.all (fun p => p.h == m.house) = true then 0 else 3)) := by show wrongM m = _; rw [HB.out, if_pos h8]
    clear h8
    generalize wrongE m.parts 3 = we at *
    have hp := HPL.out
    obtain ⟨ap', cp', he, hp1, hp2, -, hel⟩ := hp
    obtain ⟨rfl, rfl⟩ : ap = ap' ∧ cp = cp' := by simpa using he
    unfold maxLen at hp2
    clear he
    go_enter Try.func34, Try.ntmps34
    go_wp2_with fail
    refine (HW.out _ ((Grow.refl _).alloc _)).mono ?_
    rintro e w1 ⟨rfl, hbw1⟩
    (obtain ⟨cw1, fw1⟩ := bcell hbw1; have zw10 : w.heap.size < w1.heap.size := (by have := hbw1.size; (try simp at this); omega); have Gw1 := Lib.hid hbw1; clear hbw1)
    go_wp2
    go_loopw [5, 48] (fun _ i wr => ∃ k : Nat, k ≤ m.parts.length ∧ i = .int .i64 k ∧ Grow w1 wr ∧ ∀ p ∈ m.parts.take k, (p.h == m.house) = true) (fun _ i _ => m.parts.length - (intOf i).toNat)
    case atStart => exact ⟨0, by omega, rfl, Grow.refl _, by simp⟩
    case round =>
      obtain ⟨k, hk', rfl, hb, hE⟩ := hrel
      have hbw := ((Grow.refl w).alloc (.cells #[.int .i64 m.kind, .int .i64 m.deed, .int .i64 m.house, .slice ap m.parts.length cp] 39)).trans (Gw1.out.trans hb)
      have x2 := hb.sub ⟨w.heap.size, 2, none⟩ (.int .i64 m.house) (by rw [cw1 _ _ (by simp), World.cell?_alloc_new]; rfl)
      have xz : w.heap.size < wr.heap.size := by have := hbw.size; have := hb.size; omega
      by_cases hlt : k < m.parts.length
      · obtain ⟨b, o, rfl, c0, c1, c2, -, -, -⟩ := Pts.at_ hel k hlt
        replace c0 := hbw.sub _ _ c0
        replace c1 := hbw.sub _ _ c1
        replace c2 := hbw.sub _ _ c2
        obtain ⟨s1, s2⟩ := wrong_house hlt hE
        have S1 := Lib.hid s1
        have S2 := Lib.hid s2
        clear hel hE s1 s2
        generalize m.parts[k] = p at *
        cases ht : (p.h == m.house)
        · have hne : (p.h != m.house) = true := by simp [bne, ht]
          have S3 := Lib.hid (S2.out ht)
          clear S1 S2
          go_wp2
          go_ret
          refine ⟨ret_int ?_, hbw.trans (by repeat (first | with_reducible assumption | with_reducible exact Grow.refl _ | with_reducible apply Grow.drewN | with_reducible apply Grow.drew | with_reducible apply Grow.alloc | (refine Grow.trans ?_ (by with_reducible assumption))))⟩
          rw [HE.out, S3.out]; rfl
        · have hne : (p.h != m.house) = false := by simp [bne, ht]
          have S3 := Lib.hid (S1.out ht)
          clear S1 S2
          go_wp2
          go_roundw
          case rel => exact ⟨k + 1, by omega, by go_num, (by repeat (first | with_reducible assumption | with_reducible exact Grow.refl _ | with_reducible apply Grow.drewN | with_reducible apply Grow.drew | with_reducible apply Grow.alloc | (refine Grow.setCell ?_ (by simp; done) _))), S3.out⟩
          case measure => simp [intOf]; omega
      · have HF := Lib.hid hE
        clear hel hE
        go_wp2
        go_ret
        refine ⟨ret_int ?_, hbw⟩
        have h9 := HF.out
        rw [List.take_of_length_le (by omega)] at h9
        rw [HE.out, if_pos (List.all_eq_true.2 h9)]
  · have hb : (wrongE m.parts 3 != 0) = true := by simp [h8]
    have HE : Hid (wrongM m = wrongE m.parts 3) := by show wrongM m = _; rw [HB.out, if_neg h8]
    clear h8
    generalize wrongE m.parts 3 = we at *
    go_enter Try.func34, Try.ntmps34
    go_wp2_with fail
    refine (HW.out _ ((Grow.refl _).alloc _)).mono ?_
    rintro e w1 ⟨rfl, hbw1⟩
    (obtain ⟨cw1, fw1⟩ := bcell hbw1; have zw10 : w.heap.size < w1.heap.size := (by have := hbw1.size; (try simp at this); omega); have Gw1 := Lib.hid hbw1; clear hbw1)
    go_wp2
    go_ret
    exact ⟨ret_int HE.out.symm, ((Grow.refl w).alloc _).trans Gw1.out⟩
end Go.Proofs.Ytgbhpghgohggcaa

/- Walks: Vote of the document's answer. -/
namespace Go.Proofs.Ytgbhpghgohggcaa
open Go.RowKit
theorem vote_locked {l : List Rd} {ps : List Pt} {p : Pt} (hp : p ∈ ps) (h : 0 ≤ whoE l p.k) : freeE l ps = false := by
  unfold freeE
  rw [Bool.not_eq_false', List.any_eq_true]
  exact ⟨p, hp, by simpa using h⟩
theorem vote_open {l : List Rd} {ps : List Pt} (h : ∀ p ∈ ps, whoE l p.k < 0) : freeE l ps = true := by
  unfold freeE
  rw [Bool.not_eq_true', List.any_eq_false]
  intro p hp
  have := h p hp
  simp; omega
set_option maxRecDepth 100000 in
set_option maxHeartbeats 1000000 in
theorem ref_vote {v vp : Value} {h : Hs} {d : Int} {ps : List Pt} (w : World) (hv : Of Ty.hs w.cell? v h) (hp : Pts w.cell? vp ps) (hk : KeysOk ps) :
    Calls Try.prog 52 #[v, .int .i64 d, vp] w fun e w' => e = .returned (.int .i64 (voteE h d ps)) ∧ Grow w w' := by
  have HO := Lib.hid hv
  obtain ⟨al, cl, ar, cr, ad, cd, rfl⟩ := hv.hs_form
  have HIN := Lib.hid (fun (W : World) (hW : Grow w W) => ref_in (n := d) W ((Of.hs_log HO.out).2.2.mono hW.sub))
  have HRD := Lib.hid (fun (W : World) (hW : Grow w W) => ref_ready (d := d) W (HO.out.mono hW.sub))
  have HWH := Lib.hid (fun (W : World) (key : Int) (hW : Grow w W) => ref_who (key := key) W (HO.out.mono hW.sub))
  have HFT := Lib.hid (fun (W : World) (hW : Grow w W) => ref_fits (s0 := h.sums.a) (s1 := h.sums.b) (s2 := h.sums.c) (s3 := h.sums.d) W (hp.mono hW.sub) hk)
  have HP := Lib.hid hp
  obtain ⟨ap, cp, rfl, hp1, hp2, -, hel⟩ := hp
  unfold maxLen at hp2
  clear hv hk
  by_cases hd : d ∈ h.done
  · have HE : Hid (voteE h d ps = 10) := by show voteE h d ps = 10; unfold voteE; rw [if_pos hd]
    have HD := Lib.hid (decide_eq_true hd)
    clear hd
    go_enter Try.func52, Try.ntmps52
    go_wp2_with fail
    refine (HIN.out _ ((Grow.refl _).alloc _)).mono ?_
    rw [HD.out]
    rintro e w1 ⟨rfl, hbw1⟩
    (obtain ⟨cw1, fw1⟩ := bcell hbw1; have zw10 : w.heap.size < w1.heap.size := (by have := hbw1.size; (try simp at this); omega); have Gw1 := Lib.hid hbw1; clear hbw1)
    go_wp2
    go_ret
    exact ⟨ret_int HE.out.symm, ((Grow.refl w).alloc _).trans Gw1.out⟩
  have HD := Lib.hid (decide_eq_false hd)
  by_cases hr : readyE h.ready d = true
  · have HE : Hid (voteE h d ps = 0) := by show voteE h d ps = 0; unfold voteE; rw [if_neg hd, if_pos hr]
    have HR := Lib.hid hr
    clear hd hr
    go_enter Try.func52, Try.ntmps52
    go_wp2_with fail
    refine (HIN.out _ ((Grow.refl _).alloc _)).mono ?_
    rw [HD.out]
    rintro e w1 ⟨rfl, hbw1⟩
    (obtain ⟨cw1, fw1⟩ := bcell hbw1; have zw10 : w.heap.size < w1.heap.size := (by have := hbw1.size; (try simp at this); omega); have Gw1 := Lib.hid hbw1; clear hbw1)
    go_wp2_with fail
    refine (HRD.out _ (((Grow.refl w).alloc _).trans Gw1.out)).mono ?_
    rw [HR.out]
    rintro e w2 ⟨rfl, hbw2⟩
    (obtain ⟨cw2, fw2⟩ := bcell hbw2; have zw20 : w.heap.size < w2.heap.size := (by have := hbw2.size; (try simp at this); omega); have Gw2 := Lib.hid hbw2; clear hbw2)
    go_wp2
    go_ret
    exact ⟨ret_int HE.out.symm, (((Grow.refl w).alloc _).trans Gw1.out).trans Gw2.out⟩
  have HE : Hid (voteE h d ps = if freeE h.ready ps = false then 12 else fitsE h.sums.get ps) := by show voteE h d ps = _; unfold voteE; rw [if_neg hd, if_neg hr]
  have HR : Hid (readyE h.ready d = false) := by show readyE h.ready d = false; simpa using hr
  clear hd hr
  go_enter Try.func52, Try.ntmps52
  go_wp2_with fail
  refine (HIN.out _ ((Grow.refl _).alloc _)).mono ?_
  rw [HD.out]
  rintro e w1 ⟨rfl, hbw1⟩
  (obtain ⟨cw1, fw1⟩ := bcell hbw1; have zw10 : w.heap.size < w1.heap.size := (by have := hbw1.size; (try simp at this); omega); have Gw1 := Lib.hid hbw1; clear hbw1)
  go_wp2_with fail
  refine (HRD.out _ (((Grow.refl w).alloc _).trans Gw1.out)).mono ?_
  rw [HR.out]
  rintro e w2 ⟨rfl, hbw2⟩
  have HG := Lib.hid (Gw1.out.trans hbw2)
  clear hbw2 cw1 fw1 zw10
  go_wp2
  go_loopw [8, 18] (fun _ i wr => ∃ k : Nat, k ≤ ps.length ∧ i = .int .i64 k ∧ Grow w2 wr ∧ ∀ p ∈ ps.take k, whoE h.ready p.k < 0) (fun _ i _ => ps.length - (intOf i).toNat)
  case atStart => exact ⟨0, by omega, rfl, Grow.refl _, by simp⟩
  case round =>
    obtain ⟨k, hk', rfl, hb, hE⟩ := hrel
    have hg := HG.out.trans hb
    have hbw := ((Grow.refl w).alloc (.cells #[.slice al h.log.length cl, .int .i64 h.sums.a, .int .i64 h.sums.b, .int .i64 h.sums.c, .int .i64 h.sums.d, .slice ar h.ready.length cr, .slice ad h.done.length cd] 29)).trans hg
    obtain ⟨cr1, fr1⟩ := bcell hg
    have xz : w.heap.size < wr.heap.size := by have := hg.size; simp at this; omega
    by_cases hlt : k < ps.length
    · obtain ⟨b, o, rfl, c0, c1, c2, -, -, -⟩ := Pts.at_ hel k hlt
      replace c0 := hbw.sub _ _ c0
      replace c1 := hbw.sub _ _ c1
      replace c2 := hbw.sub _ _ c2
      have H1 : Hid (0 ≤ whoE h.ready ps[k].k → freeE h.ready ps = false) := fun h2 => vote_locked (List.getElem_mem hlt) h2
      have H2 : Hid (whoE h.ready ps[k].k < 0 → ∀ p ∈ ps.take (k + 1), whoE h.ready p.k < 0) := fun h2 p hp => by
        rw [List.take_succ_eq_append_getElem hlt] at hp
        rcases List.mem_append.1 hp with h' | h'
        · exact hE p h'
        · simp at h'; subst h'; exact h2
      have HBW := Lib.hid hbw
      have HG2 := Lib.hid hg
      have HB := Lib.hid hb
      clear hel hE hbw hg hb
      generalize ps[k] = p at *
      go_wp2_with fail
      refine (HWH.out _ p.k (HBW.out.alloc _)).mono ?_
      rintro e w3 ⟨rfl, hb3⟩
      have HB3 := Lib.hid (((Grow.refl wr).alloc _).trans hb3)
      clear hb3
      by_cases hw : 0 ≤ whoE h.ready p.k
      · have H3 := Lib.hid (H1.out hw)
        clear H1 H2
        generalize whoE h.ready p.k = wk at *
        go_wp2
        go_ret
        refine ⟨ret_int ?_, HBW.out.trans HB3.out⟩
        rw [HE.out, if_pos H3.out]
      · have H3 := Lib.hid (H2.out (by omega))
        clear H1 H2
        generalize whoE h.ready p.k = wk at *
        go_wp2
        go_roundw
        case rel => exact ⟨k + 1, by omega, by go_num, HB.out.trans HB3.out, H3.out⟩
        case measure => simp [intOf]; omega
    · have HF := Lib.hid hE
      have HBW := Lib.hid hbw
      clear hel hE hbw hb hg
      go_wp2_with fail
      refine (HFT.out _ HBW.out).mono ?_
      rintro e w3 ⟨rfl, hb3⟩
      have HB3 := Lib.hid hb3
      clear hb3
      go_wp2
      go_ret
      refine ⟨ret_int ?_, HBW.out.trans HB3.out⟩
      have h9 := HF.out
      rw [List.take_of_length_le (by omega)] at h9
      rw [HE.out, if_neg (by rw [vote_open h9]; simp)]
      rfl
end Go.Proofs.Ytgbhpghgohggcaa

/- Results that lie behind the boxes of a call; a map of the call's own that is filled at once. -/
namespace Go.Proofs.Ytgbhpghgohggcaa
open Go.RowKit
/-- memory without k blocks from B on: a call's own boxes -/
def wk (B k : Nat) (c : CM) : CM := fun a => if B ≤ a.block ∧ a.block < B + k then none else c a
theorem wk_sub (B k : Nat) (c : CM) : Sub (wk B k c) c := fun a v e => by
  unfold wk at e
  split at e
  · cases e
  · exact e
theorem wk_in {c : CM} {w W : World} (hc : Sub c w.cell?) (k : Nat) : Sub c (wk w.heap.size k (ov c w W)) := fun a v e => by
  have hl := World.block_lt_of_cell? w a (hc a v e)
  unfold wk
  rw [if_neg (by omega)]
  exact ov_in hc a v e
theorem wk_ov {c : CM} {w W : World} (hc : Sub c w.cell?) (hg : Grow w W) (k : Nat) : Sub (wk w.heap.size k (ov c w W)) W.cell? := (wk_sub _ _ _).trans (ov_sub hc hg)
theorem wk_new {c : CM} {w W : World} {k : Nat} {a : Addr} (h : w.heap.size + k ≤ a.block) : wk w.heap.size k (ov c w W) a = W.cell? a := by
  unfold wk
  rw [if_neg (by omega), ov_new (by omega)]
/-- what a callee gives reads behind the call, whatever is written into the boxes -/
theorem ov_boxes {c : CM} {w W w1 w' : World} {k : Nat} (hW : Grow w W) (h1 : Grow W w1) (hk : w.heap.size + k ≤ W.heap.size) (hs : ∀ a v, w.heap.size + k ≤ a.block → w1.cell? a = some v → w'.cell? a = some v) : Sub (ov (wk w.heap.size k (ov c w W)) W w1) (ov c w w') :=
  ov_ov hW (wk_sub _ _ _) (fun a v hl e => hs a v (by omega) e) fun a v hl hl2 e => by
    have hne : w.heap.size + k ≤ a.block := by
      apply Classical.byContradiction
      intro hb
      unfold wk at e
      rw [if_pos ⟨hl, by omega⟩] at e
      cases e
    have e2 := wk_sub _ _ _ a v e
    rw [ov_new hl] at e2
    exact hs a v hne (h1.sub _ _ e2)
theorem at_ov {c : CM} {w W : World} {q : Nat} {cs : List Value} (h : At W.cell? q 0 cs) (hq : w.heap.size ≤ q) : At (ov c w W) q 0 cs := fun j v e => by
  rw [ov_new (by exact hq)]
  exact h j v e
theorem by_set7 (w : World) (B : Nat) (u0 u1 u2 u3 u4 u5 u6 : Value) : w.grownBy (((((((w.setCell ⟨B, 0, none⟩ u0).setCell ⟨B, 1, none⟩ u1).setCell ⟨B, 2, none⟩ u2).setCell ⟨B, 3, none⟩ u3).setCell ⟨B, 4, none⟩ u4).setCell ⟨B, 5, none⟩ u5).setCell ⟨B, 6, none⟩ u6) (some B) :=
  grownBy_trans (grownBy_setCell w ⟨B, 0, none⟩ u0) (grownBy_trans (grownBy_setCell _ ⟨B, 1, none⟩ u1) (grownBy_trans (grownBy_setCell _ ⟨B, 2, none⟩ u2) (grownBy_trans (grownBy_setCell _ ⟨B, 3, none⟩ u3) (grownBy_trans (grownBy_setCell _ ⟨B, 4, none⟩ u4) (grownBy_trans (grownBy_setCell _ ⟨B, 5, none⟩ u5) (grownBy_setCell _ ⟨B, 6, none⟩ u6))))))
/-- a row that was written: all else reads as before -/
theorem by_cell {w w' : World} {B : Nat} (h : w.grownBy w' (some B)) {a : Addr} (hl : a.block < w.heap.size) (hb : a.block ≠ B) : w'.cell? a = w.cell? a :=
  World.cell?_of_block (h.block a.block hl (fun e => hb (Option.some.inj e)))
theorem at_new' {w : World} {c : Array Value} {t : TypeId} {q : Nat} (hq : q = w.heap.size) : At (w.alloc (.cells c t)).cell? q 0 c.toList := by
  subst hq
  exact at_new w c t
/-- a box of seven cells, written anew -/
theorem row_set7 {w : World} {B : Nat} {a b c d e f g : Value} {t : TypeId} (h : w.heap[B]? = some (.cells #[a, b, c, d, e, f, g] t (0, 0))) (u0 u1 u2 u3 u4 u5 u6 : Value) :
    (((((((w.setCell ⟨B, 0, none⟩ u0).setCell ⟨B, 1, none⟩ u1).setCell ⟨B, 2, none⟩ u2).setCell ⟨B, 3, none⟩ u3).setCell ⟨B, 4, none⟩ u4).setCell ⟨B, 5, none⟩ u5).setCell ⟨B, 6, none⟩ u6).heap[B]? = some (.cells #[u0, u1, u2, u3, u4, u5, u6] t (0, 0)) := by
  simp only [World.setCell, Array.getElem?_modify, h]
  simp
theorem cells7 {w : World} {B : Nat} {a b c d e f g : Value} {t : TypeId} (h : w.heap[B]? = some (.cells #[a, b, c, d, e, f, g] t (0, 0))) :
    w.cell? ⟨B, 0, none⟩ = some a ∧ w.cell? ⟨B, 1, none⟩ = some b ∧ w.cell? ⟨B, 2, none⟩ = some c ∧ w.cell? ⟨B, 3, none⟩ = some d ∧ w.cell? ⟨B, 4, none⟩ = some e ∧ w.cell? ⟨B, 5, none⟩ = some f ∧ w.cell? ⟨B, 6, none⟩ = some g := by
  refine ⟨?_, ?_, ?_, ?_, ?_, ?_, ?_⟩ <;> simp [World.cell?, h]
theorem cells4 {w : World} {B : Nat} {a b c d : Value} {t : TypeId} (h : w.heap[B]? = some (.cells #[a, b, c, d] t (0, 0))) :
    w.cell? ⟨B, 0, none⟩ = some a ∧ w.cell? ⟨B, 1, none⟩ = some b ∧ w.cell? ⟨B, 2, none⟩ = some c ∧ w.cell? ⟨B, 3, none⟩ = some d := by
  refine ⟨?_, ?_, ?_, ?_⟩ <;> simp [World.cell?, h]
theorem info_hs : (Try.prog.info? 29).map (·.size) = some 7 := by kernel_rfl
theorem row_free {w : World} {B : Nat} {cs : Array Value} {t : TypeId} (h : w.heap[B]? = some (.cells cs t (0, 0))) (o : Nat) : w.frozen? ⟨B, o, none⟩ = false := by simp [World.frozen?, h]
/-- a row stays what it is while other things are written -/
theorem row_by {w w' : World} {B : Nat} {o : Obj} {row : Option Nat} (h : w.heap[B]? = some o) (hg : w.grownBy w' row) (hne : some B ≠ row) : w'.heap[B]? = some o := by
  rw [hg.block B (Array.getElem?_eq_some_iff.1 h).1 hne]; exact h
theorem row_grow {w w' : World} {B : Nat} {o : Obj} (h : w.heap[B]? = some o) (hg : Grow w w') : w'.heap[B]? = some o := by
  rw [hg.block B (Array.getElem?_eq_some_iff.1 h).1]; exact h
theorem row_new (w : World) (o : Obj) : (w.alloc o).heap[w.heap.size]? = some o := heap_alloc_new w o
/-- an operation of a region that has no guard -/
theorem wanted_go {o : Oper} {y : Nat → Option Bool} {X E : Prop} {inst : Decidable (Region.wanted o y = true)} (hgd : o.guard = none) (h : X) : @ite Prop (Region.wanted o y = true) inst X E := by
  rw [if_pos (by simp [Region.wanted, hgd])]
  exact h
/-- a struct is stored whole into a box -/
theorem wp_store_row {P : Program} {ty : TypeId} {w : World} {o : Oper} {a : Act} {K : Act → World → Prop} {Q : Exit → Act → World → Prop} (d s : Operand) (ho : o.op = .store ty d s)
    {g : Nat} {t : TypeId} {old cells : Array Value} (hd : a.eval d = .pointer (some ⟨g, 0, none⟩)) (hs : a.eval s = .agg cells) (hrow : w.heap[g]? = some (.cells old t (0, 0)))
    (hi : (P.info? ty).map (·.size) = some cells.size) (hos : old.size = cells.size) (h1 : cells.toList.all (·.oneCell') = true)
    (h : ∀ w', w'.heap[g]? = some (.cells cells t (0, 0)) → w.grownBy w' (some g) → K (a.put o.dst undef) w') : o.wp P a w K Q := by
  have hr := run_storeVar_row (P := P) w g t ty old cells hrow hi hos (by rw [← Array.all_toList]; exact h1)
  unfold Oper.wp execOp
  simp only [ho, hd, hs, Instr.storeAt, Instr.sureAddr, Sem.run_bind, Sem.run_pure, Result.andThen_ok, hr]
  exact h _ (setRow_heap w g old cells t _ hrow) ⟨rfl, rfl, rfl, by simp [World.setRow], fun k hk hne => by
    simp only [World.setRow]
    rw [Array.getElem?_modify]
    rw [if_neg (fun e => hne (by rw [e]))]⟩
theorem wpList_store_row {P : Program} {ty : TypeId} {ops : Array Oper} {rest : List Oper} {w : World} {o : Oper} {a : Act} {Q : Exit → Act → World → Prop} (hgd : o.guard = none) (d s : Operand) (ho : o.op = .store ty d s)
    {g : Nat} {t : TypeId} {old cells : Array Value} (hd : a.eval d = .pointer (some ⟨g, 0, none⟩)) (hs : a.eval s = .agg cells) (hrow : w.heap[g]? = some (.cells old t (0, 0)))
    (hi : (P.info? ty).map (·.size) = some cells.size) (hos : old.size = cells.size) (h1 : cells.toList.all (·.oneCell') = true)
    (h : ∀ w', w'.heap[g]? = some (.cells cells t (0, 0)) → w.grownBy w' (some g) → wpList P ops Q rest (a.put o.dst undef) w') : wpList P ops Q (o :: rest) a w :=
  wpList_plain hgd fun _ hK => wp_store_row d s ho hd hs hrow hi hos h1 fun w' a b => hK _ _ (h w' a b)
theorem step_store_row {P : Program} {ty : TypeId} {ops : Array Oper} {w : World} {o : Oper} {a : Act} {K : Act → World → Prop} {Q : Exit → Act → World → Prop} {E : Prop} (hgd : o.guard = none) (d s : Operand) (ho : o.op = .store ty d s)
    {g : Nat} {t : TypeId} {old cells : Array Value} (hd : a.eval d = .pointer (some ⟨g, 0, none⟩)) (hs : a.eval s = .agg cells) (hrow : w.heap[g]? = some (.cells old t (0, 0)))
    (hi : (P.info? ty).map (·.size) = some cells.size) (hos : old.size = cells.size) (h1 : cells.toList.all (·.oneCell') = true)
    (h : ∀ w', w'.heap[g]? = some (.cells cells t (0, 0)) → w.grownBy w' (some g) → K (a.put o.dst undef) w') : if Region.wanted o (yielded ops a.tmps) = true then Oper.wp P o a w K Q else E := by
  rw [if_pos (by simp [Region.wanted, hgd])]
  exact wp_store_row d s ho hd hs hrow hi hos h1 h
theorem wp_lookup' {κ : Type} [DecidableEq κ] {P : Program} {t K E : TypeId} {enc : κ → Value} (hK : KeyOk P K enc) (ht : P.underlying t = some (.map K E)) {z : Value} (hz : ∀ w, (zeroValue E).run P w = .ok z w) {w : World} {ops : Array Oper} {rest : List Oper} {o : Oper} {a : Act} {Q : Exit → Act → World → Prop} (hg : o.guard = none) (mo x : Operand) (hop : o.op = Op.lookup t mo x false)
    {m : Nat} {kv : List (κ × Value)} (h : MapIs enc w m kv) (k : κ) (v : Value) (hv : (mget kv k).getD z = v) (hm : a.eval mo = .map (some m)) (hx : a.eval x = enc k) (hC : wpList P ops Q rest (a.put o.dst v) w) : wpList P ops Q (o :: rest) a w := by
  subst hv
  exact wp_lookup hK ht hz hg mo x hop h k hm hx hC
theorem wp_insert {κ : Type} [DecidableEq κ] {P : Program} {t K E : TypeId} {enc : κ → Value} (hK : KeyOk P K enc) (ht : P.underlying t = some (.map K E)) {w : World} {ops : Array Oper} {rest : List Oper} {o : Oper} {a : Act} {Q : Exit → Act → World → Prop} (hg : o.guard = none) (mo x y : Operand) (hop : o.op = Op.insert t mo x y)
    {m : Nat} {kv : List (κ × Value)} (h : MapIs enc w m kv) (k : κ) (v : Value) (hm : a.eval mo = .map (some m)) (hx : a.eval x = enc k) (hy : a.eval y = v) (hC : ∀ w', MapIs enc w' m (mput kv k v) → w.grownBy w' (some m) → wpList P ops Q rest (a.put o.dst undef) w') : wpList P ops Q (o :: rest) a w := by
  refine wpList_plain hg fun K' hK' => ?_
  obtain ⟨w', hrun, h1, h2⟩ := run_put hK ht h k v
  unfold Oper.wp
  simp [execOp, hop, hm, hx, hy, hrun, Result.andThen]
  exact hK' _ _ (hC w' h1 h2)
end Go.Proofs.Ytgbhpghgohggcaa

/- Walks: slices.Clone at parts, ints, bytes, sums. -/
namespace Go.Proofs.Ytgbhpghgohggcaa
open Go.RowKit

set_option maxHeartbeats 400000 in
theorem clone_pt {v : Value} {l : List Pt} (w : World) (hv : Sl Ty.pt w.cell? v l) (hm : l.length * 24 ≤ 140737488355328) :
    Calls Try.prog 122 #[v] w fun e w' => ∃ v', e = .returned v' ∧ w'.ownsRow w.heap.size 32 3 v' l.length (l.flatMap Pt.cells) ∧ Grow w w' := by
  obtain ⟨a, cap, rfl, h1, h2, h0, hel⟩ := hv
  have hnil := fun w : World => Go.Lib.run_eql_slice_nil (P := Try.prog) w 23 32 a l.length cap 0 0 ei_pt.ht
  cases a with
  | none =>
    obtain rfl := h0 rfl
    have hl : l = [] := by
      cases l with
      | nil => rfl
      | cons x l => obtain ⟨_, _, _, h, _⟩ := hel 0 x rfl; cases h
    subst hl
    have hnil' := fun w : World => Go.Lib.run_eql_slice_nil (P := Try.prog) w 23 32 none 0 0 0 0 ei_pt.ht
    simp only [Option.isNone_none] at hnil'
    clear hel h0 hm h1 h2 hnil
    show Calls _ _ #[.slice none 0 0] _ _
    go_enter Try.func122, Try.ntmps122
    go_wp2
    go_ret
    exact ⟨_, rfl, World.ownsRow_nil _ _ _ _, (by repeat (first | with_reducible assumption | with_reducible exact Grow.refl _ | with_reducible apply Grow.drewN | with_reducible apply Grow.drew | with_reducible apply Grow.alloc | (refine Grow.setCell ?_ (by simp; done) _)))⟩
  | some ad =>
    have hc := flat_cells (f := Pt.cells) (size := 3) (by decide) (fun _ => rfl) (c := w.cell?) (a := some ad) (l := l) (fun i x e => by
      obtain ⟨b, o, cs, ha, ⟨rfl, -⟩, hA⟩ := hel i x e
      exact ⟨b, o, ha, hA⟩) ad rfl
    have hlen : (l.flatMap Pt.cells).length = l.length * 3 := flat_len (f := Pt.cells) (size := 3) (fun _ => rfl) l
    have h1c : ∀ u ∈ l.flatMap Pt.cells, u.oneCell' = true := flat_one one_pt l
    simp only [Option.isNone_some] at hnil
    have HC := Lib.hid hc
    have HM := Lib.hid hm
    clear hel hc hm h2
    go_enter Try.func122, Try.ntmps122
    go_wp2_with (at_builtin; go_loud (refine app_own (W := w) ei_pt rfl _ _ rfl ((Grow.refl w).alloc _) rfl (World.ownsRow_made w #[] 0 (Nat.le_refl _) (Nat.zero_le _) rfl) ad l.length cap (l.flatMap Pt.cells) rfl hlen ?_ ?_ ?_ ?_ ?_))
    · intro j u hu; exact ((Grow.refl w).alloc _).sub _ _ (HC.out j u hu)
    · exact h1c
    · have := HM.out; unfold maxLen; omega
    · have := HM.out; omega
    · intro v' w' hown hG _
      go_wp2
      go_ret
      exact ⟨_, rfl, by simpa using hown, hG⟩

set_option maxHeartbeats 400000 in
theorem clone_int {v : Value} {l : List Int} (w : World) (hv : Sl Ty.int w.cell? v l) (hm : l.length * 8 ≤ 140737488355328) :
    Calls Try.prog 150 #[v] w fun e w' => ∃ v', e = .returned v' ∧ w'.ownsRow w.heap.size 3 1 v' l.length (l.flatMap intCell) ∧ Grow w w' := by
  obtain ⟨a, cap, rfl, h1, h2, h0, hel⟩ := hv
  have hnil := fun w : World => Go.Lib.run_eql_slice_nil (P := Try.prog) w 27 3 a l.length cap 0 0 ei_int.ht
  cases a with
  | none =>
    obtain rfl := h0 rfl
    have hl : l = [] := by
      cases l with
      | nil => rfl
      | cons x l => obtain ⟨_, _, _, h, _⟩ := hel 0 x rfl; cases h
    subst hl
    have hnil' := fun w : World => Go.Lib.run_eql_slice_nil (P := Try.prog) w 27 3 none 0 0 0 0 ei_int.ht
    simp only [Option.isNone_none] at hnil'
    clear hel h0 hm h1 h2 hnil
    show Calls _ _ #[.slice none 0 0] _ _
    go_enter Try.func150, Try.ntmps150
    go_wp2
    go_ret
    exact ⟨_, rfl, World.ownsRow_nil _ _ _ _, (by repeat (first | with_reducible assumption | with_reducible exact Grow.refl _ | with_reducible apply Grow.drewN | with_reducible apply Grow.drew | with_reducible apply Grow.alloc | (refine Grow.setCell ?_ (by simp; done) _)))⟩
  | some ad =>
    have hc := flat_cells (f := intCell) (size := 1) (by decide) (fun _ => rfl) (c := w.cell?) (a := some ad) (l := l) (fun i x e => by
      obtain ⟨b, o, cs, ha, ⟨rfl, -⟩, hA⟩ := hel i x e
      exact ⟨b, o, ha, hA⟩) ad rfl
    have hlen : (l.flatMap intCell).length = l.length * 1 := flat_len (f := intCell) (size := 1) (fun _ => rfl) l
    have h1c : ∀ u ∈ l.flatMap intCell, u.oneCell' = true := flat_one one_int l
    simp only [Option.isNone_some] at hnil
    have HC := Lib.hid hc
    have HM := Lib.hid hm
    clear hel hc hm h2
    go_enter Try.func150, Try.ntmps150
    go_wp2_with (at_builtin; go_loud (refine app_own (W := w) ei_int rfl _ _ rfl ((Grow.refl w).alloc _) rfl (World.ownsRow_made w #[] 0 (Nat.le_refl _) (Nat.zero_le _) rfl) ad l.length cap (l.flatMap intCell) rfl hlen ?_ ?_ ?_ ?_ ?_))
    · intro j u hu; exact ((Grow.refl w).alloc _).sub _ _ (HC.out j u hu)
    · exact h1c
    · have := HM.out; unfold maxLen; omega
    · have := HM.out; omega
    · intro v' w' hown hG _
      go_wp2
      go_ret
      exact ⟨_, rfl, by simpa using hown, hG⟩

set_option maxHeartbeats 400000 in
theorem clone_byte {v : Value} {l : List UInt8} (w : World) (hv : Sl Ty.byte w.cell? v l) (hm : l.length * 1 ≤ 140737488355328) :
    Calls Try.prog 131 #[v] w fun e w' => ∃ v', e = .returned v' ∧ w'.ownsRow w.heap.size 5 1 v' l.length (l.flatMap byteCell) ∧ Grow w w' := by
  obtain ⟨a, cap, rfl, h1, h2, h0, hel⟩ := hv
  have hnil := fun w : World => Go.Lib.run_eql_slice_nil (P := Try.prog) w 69 5 a l.length cap 0 0 ei_byte.ht
  cases a with
  | none =>
    obtain rfl := h0 rfl
    have hl : l = [] := by
      cases l with
      | nil => rfl
      | cons x l => obtain ⟨_, _, _, h, _⟩ := hel 0 x rfl; cases h
    subst hl
    have hnil' := fun w : World => Go.Lib.run_eql_slice_nil (P := Try.prog) w 69 5 none 0 0 0 0 ei_byte.ht
    simp only [Option.isNone_none] at hnil'
    clear hel h0 hm h1 h2 hnil
    show Calls _ _ #[.slice none 0 0] _ _
    go_enter Try.func131, Try.ntmps131
    go_wp2
    go_ret
    exact ⟨_, rfl, World.ownsRow_nil _ _ _ _, (by repeat (first | with_reducible assumption | with_reducible exact Grow.refl _ | with_reducible apply Grow.drewN | with_reducible apply Grow.drew | with_reducible apply Grow.alloc | (refine Grow.setCell ?_ (by simp; done) _)))⟩
  | some ad =>
    have hc := flat_cells (f := byteCell) (size := 1) (by decide) (fun _ => rfl) (c := w.cell?) (a := some ad) (l := l) (fun i x e => by
      obtain ⟨b, o, cs, ha, rfl, hA⟩ := hel i x e
      exact ⟨b, o, ha, hA⟩) ad rfl
    have hlen : (l.flatMap byteCell).length = l.length * 1 := flat_len (f := byteCell) (size := 1) (fun _ => rfl) l
    have h1c : ∀ u ∈ l.flatMap byteCell, u.oneCell' = true := flat_one one_byte l
    simp only [Option.isNone_some] at hnil
    have HC := Lib.hid hc
    have HM := Lib.hid hm
    clear hel hc hm h2
    go_enter Try.func131, Try.ntmps131
    go_wp2_with (at_builtin; go_loud (refine app_own (W := w) ei_byte rfl _ _ rfl ((Grow.refl w).alloc _) rfl (World.ownsRow_made w #[] 0 (Nat.le_refl _) (Nat.zero_le _) rfl) ad l.length cap (l.flatMap byteCell) rfl hlen ?_ ?_ ?_ ?_ ?_))
    · intro j u hu; exact ((Grow.refl w).alloc _).sub _ _ (HC.out j u hu)
    · exact h1c
    · have := HM.out; unfold maxLen; omega
    · have := HM.out; omega
    · intro v' w' hown hG _
      go_wp2
      go_ret
      exact ⟨_, rfl, by simpa using hown, hG⟩

set_option maxHeartbeats 400000 in
theorem clone_sm {v : Value} {l : List Sm} (w : World) (hv : Sl Ty.sm w.cell? v l) (hm : l.length * 32 ≤ 140737488355328) :
    Calls Try.prog 144 #[v] w fun e w' => ∃ v', e = .returned v' ∧ w'.ownsRow w.heap.size 25 4 v' l.length (l.flatMap Sm.cells) ∧ Grow w w' := by
  obtain ⟨a, cap, rfl, h1, h2, h0, hel⟩ := hv
  have hnil := fun w : World => Go.Lib.run_eql_slice_nil (P := Try.prog) w 98 25 a l.length cap 0 0 ei_sm.ht
  cases a with
  | none =>
    obtain rfl := h0 rfl
    have hl : l = [] := by
      cases l with
      | nil => rfl
      | cons x l => obtain ⟨_, _, _, h, _⟩ := hel 0 x rfl; cases h
    subst hl
    have hnil' := fun w : World => Go.Lib.run_eql_slice_nil (P := Try.prog) w 98 25 none 0 0 0 0 ei_sm.ht
    simp only [Option.isNone_none] at hnil'
    clear hel h0 hm h1 h2 hnil
    show Calls _ _ #[.slice none 0 0] _ _
    go_enter Try.func144, Try.ntmps144
    go_wp2
    go_ret
    exact ⟨_, rfl, World.ownsRow_nil _ _ _ _, (by repeat (first | with_reducible assumption | with_reducible exact Grow.refl _ | with_reducible apply Grow.drewN | with_reducible apply Grow.drew | with_reducible apply Grow.alloc | (refine Grow.setCell ?_ (by simp; done) _)))⟩
  | some ad =>
    have hc := flat_cells (f := Sm.cells) (size := 4) (by decide) (fun _ => rfl) (c := w.cell?) (a := some ad) (l := l) (fun i x e => by
      obtain ⟨b, o, cs, ha, ⟨rfl, -⟩, hA⟩ := hel i x e
      exact ⟨b, o, ha, hA⟩) ad rfl
    have hlen : (l.flatMap Sm.cells).length = l.length * 4 := flat_len (f := Sm.cells) (size := 4) (fun _ => rfl) l
    have h1c : ∀ u ∈ l.flatMap Sm.cells, u.oneCell' = true := flat_one one_sm l
    simp only [Option.isNone_some] at hnil
    have HC := Lib.hid hc
    have HM := Lib.hid hm
    clear hel hc hm h2
    go_enter Try.func144, Try.ntmps144
    go_wp2_with (at_builtin; go_loud (refine app_own (W := w) ei_sm rfl _ _ rfl ((Grow.refl w).alloc _) rfl (World.ownsRow_made w #[] 0 (Nat.le_refl _) (Nat.zero_le _) rfl) ad l.length cap (l.flatMap Sm.cells) rfl hlen ?_ ?_ ?_ ?_ ?_))
    · intro j u hu; exact ((Grow.refl w).alloc _).sub _ _ (HC.out j u hu)
    · exact h1c
    · have := HM.out; unfold maxLen; omega
    · have := HM.out; omega
    · intro v' w' hown hG _
      go_wp2
      go_ret
      exact ⟨_, rfl, by simpa using hown, hG⟩

end Go.Proofs.Ytgbhpghgohggcaa

/- Walks: log.Own of the program: copies that lie in new memory. -/
namespace Go.Proofs.Ytgbhpghgohggcaa
open Go.RowKit
/-- what is newer than W0, but for some blocks -/
def fr (W0 w : World) (X : List (Option Nat)) : CM := fun a => if a.block < W0.heap.size ∨ some a.block ∈ X then none else w.cell? a
theorem fr_sub (W0 w : World) (X : List (Option Nat)) : Sub (fr W0 w X) w.cell? := fun a v e => by
  unfold fr at e
  split at e
  · cases e
  · exact e
theorem fr_ov (c : CM) (W0 w : World) (X : List (Option Nat)) : Sub (fr W0 w X) (ov c W0 w) := fun a v e => by
  unfold fr at e
  split at e
  · cases e
  · rename_i h
    rw [ov_new (by omega)]; exact e
theorem fr_new {W0 w : World} {X : List (Option Nat)} {a : Addr} (h : W0.heap.size ≤ a.block) (hx : some a.block ∉ X) : fr W0 w X a = w.cell? a := by
  unfold fr
  rw [if_neg (by rintro (h1 | h1); omega; exact hx h1)]
theorem fr_step {W0 w w' : World} {X X' : List (Option Nat)} (h : ∀ k, k < w.heap.size → W0.heap.size ≤ k → some k ∉ X → w'.heap[k]? = w.heap[k]? ∧ some k ∉ X') : Sub (fr W0 w X) (fr W0 w' X') := fun a v e => by
  unfold fr at e
  split at e
  · cases e
  · rename_i hn
    have h1 : ¬ a.block < W0.heap.size := fun hx => hn (.inl hx)
    have h2 : some a.block ∉ X := fun hx => hn (.inr hx)
    obtain ⟨h3, h4⟩ := h a.block (World.block_lt_of_cell? w a e) (by omega) h2
    rw [fr_new (by omega) h4, World.cell?_of_block h3]
    exact e
theorem fr_grow {W0 w w' : World} {X : List (Option Nat)} (h : Grow w w') : Sub (fr W0 w X) (fr W0 w' X) := fr_step fun k hk _ hx => ⟨h.block k hk, hx⟩
theorem fr_app {W0 w w' : World} {v v' : Value} (hg : w.grownBy w' v.ownBlock) (hb : v'.ownBlock = v.ownBlock ∨ ∃ g, v'.ownBlock = some g ∧ w.heap.size ≤ g) : Sub (fr W0 w [v.ownBlock]) (fr W0 w' [v'.ownBlock]) :=
  fr_step fun k hk _ hx => ⟨hg.block k hk (by simpa using hx), by
    rcases hb with hb | ⟨g, hb, hge⟩
    · rw [hb]; exact hx
    · rw [hb]; simp; omega⟩
/-- a row that a call gave reads in new memory -/
theorem pts_fr {W0 w1 w : World} {v : Value} {l : List Pt} {X : List (Option Nat)} (h : w.ownsRow w1.heap.size 32 3 v l.length (l.flatMap Pt.cells)) (hok : PtsOk l) (hW : W0.heap.size ≤ w1.heap.size) (hX : ∀ k, w1.heap.size ≤ k → some k ∉ X) : Sl Ty.pt (fr W0 w X) v l :=
  (OwnC.pts (c := fr W0 w X) h hok).slc (by decide) (Sub.refl _) fun a ha => fr_new (by omega) (hX _ ha)
set_option maxRecDepth 100000 in
set_option maxHeartbeats 1000000 in
theorem log_own {v : Value} {l : List Rc} (w : World) (hv : Rcs w.cell? v l) (hm : l.length * 40 ≤ 140737488355328) (hp : ∀ r ∈ l, r.parts.length * 24 ≤ 140737488355328) :
    Calls Try.prog 40 #[v] w fun e w' => ∃ v', e = .returned v' ∧ OwnC Ty.rc (fr w w' [v'.ownBlock]) w' w.heap.size 48 v' l ∧ Grow w w' := by
  obtain ⟨a, cap, rfl, h1, h2, -, hel⟩ := hv
  unfold maxLen at h2
  have HM := Lib.hid hm
  have HP := Lib.hid hp
  clear hm hp
  go_enter Try.func40, Try.ntmps40
  go_wp2
  go_loopw [3, 8] (fun s3 i wr => ∃ k : Nat, k ≤ l.length ∧ i = .int .i64 k ∧ Grow w wr ∧ OwnC Ty.rc (fr w wr [s3.ownBlock]) wr w.heap.size 48 s3 (l.take k)) (fun _ i _ => l.length - (intOf i).toNat)
  case atStart => exact ⟨0, by omega, rfl, Grow.refl _, OwnC.nil _ _ _ _ _⟩
  case round =>
    obtain ⟨k, hk', rfl, hb, hown⟩ := hrel
    by_cases hlt : k < l.length
    · obtain ⟨b, o, vp, rfl, c0, c1, c2, i0, i1, hP⟩ := Rcs.at_ hel k hlt
      obtain ⟨ap, cp, rfl, -⟩ := id hP
      replace c0 := hb.sub _ _ c0
      replace c1 := hb.sub _ _ c1
      replace c2 := hb.sub _ _ c2
      have htk : l.take (k + 1) = l.take k ++ [l[k]] := by rw [List.take_succ_eq_append_getElem hlt]
      have HTK := Lib.hid htk
      have hpl := HP.out l[k] (List.getElem_mem _)
      have hok := Pts.ok (c := w.cell?) hP
      have HCL := Lib.hid (fun (W : World) (hW : Grow wr W) => clone_pt W (hP.mono (hb.trans hW).sub) hpl)
      have hlk : (l.take k).length = k := by simp; omega
      have HOWN := Lib.hid hown
      have HI := Lib.hid (And.intro i0 (And.intro i1 hok))
      obtain ⟨av, cv, rfl⟩ := hown.form
      clear hel hP htk hpl hok hown i0 i1
      generalize l[k] = r at *
      generalize hlt' : l.take k = lk at *
      have HLT := Lib.hid hlt'
      have HLK := Lib.hid hlk
      clear hlt' hlk
      go_wp2_with fail
      refine (HCL.out _ ((Grow.refl _).alloc _)).mono ?_
      rintro e w2 ⟨v2, rfl, ho2, hb2⟩
      obtain ⟨a2, cap2, rfl⟩ := owns_form ho2
      have HO2 := Lib.hid ho2
      have HB2 := Lib.hid hb2
      obtain ⟨cw2, fw2⟩ := bcell hb2
      have z2 : wr.heap.size < w2.heap.size := by have := hb2.size; simp at this; omega
      clear ho2 hb2
      have HG3 : Hid (Grow wr (w2.setCell ⟨wr.heap.size, 2, none⟩ (.slice a2 r.parts.length cap2))) := Lib.hid ((((Grow.refl wr).alloc _).trans HB2.out).setCell (by simp) _)
      go_wp2_with (first | (at_builtin; refine wpList_appc (c := fr w ((w2.setCell ⟨wr.heap.size, 2, none⟩ (.slice a2 r.parts.length cap2)).alloc (.cells #[.int .i64 r.kind, .int .i64 r.deed, .slice a2 r.parts.length cap2] 48)) [(Value.slice av lk.length cv).ownBlock]) (base := w.heap.size) (l := lk) (m := [r]) ei_rc rfl one_Trc (by decide) rfl (.tmp 16) (.tmp 18) rfl rfl ?own rfl (Src.of_new (cs := #[.int .i64 r.kind, .int .i64 r.deed, .slice a2 r.parts.length cap2]) ?d0 _ _ ?d1) ?d2 ?d3 ?_))
      case own => exact (HOWN.out.mono (fr_grow (HG3.out.alloc _))).grow (HG3.out.alloc _)
      case d0 =>
        refine ⟨_, rfl, HI.out.1, HI.out.2.1, ?_⟩
        have hlt2 := HOWN.out.lt
        refine pts_fr (w1 := wr.alloc (.cells #[.int .i64 r.kind, .int .i64 r.deed, .slice ap r.parts.length cp] 48)) ?_ HI.out.2.2 ?_ ?_
        · exact (HO2.out.kept (grownBy_setCell w2 ⟨wr.heap.size, 2, none⟩ _) (by
            cases e : (Value.slice a2 r.parts.length cap2).ownBlock with
            | none => exact .inl rfl
            | some q => right; have := (HO2.out.lt q e).1; simp at this ⊢; omega)).alloc _
        · have := hb.size; simp; omega
        · intro q hq
          simp only [List.mem_singleton]
          intro e
          have := (hlt2 q e.symm).2
          simp at hq; omega
      case d1 => simp
      case d2 => have := HM.out; have := HLK.out; simp; omega
      case d3 => have := (HG3.out.alloc (.cells #[.int .i64 r.kind, .int .i64 r.deed, .slice a2 r.parts.length cap2] 48)).size; have := hb.size; omega
      intro a5 c5 w5 hown5 hg5 hb5
      have hG5 : Grow w w5 := grow_by (w0 := w) (hb.trans (HG3.out.alloc _)) hg5 (fun q hq => (HOWN.out.lt q hq).1)
      have HO5 := Lib.hid (hown5.mono (fr_app hg5 (hb5.imp_right fun ⟨g, e, hge⟩ => ⟨g, e, by simpa using hge⟩)))
      have HG5 := Lib.hid hG5
      clear hown5 hg5 hb5 hG5 cw2 fw2
      go_wp2
      go_roundw
      case rel => exact ⟨k + 1, by omega, by go_num, HG5.out, by rw [HTK.out]; exact HO5.out⟩
      case measure => simp [intOf]; omega
    · clear hel
      go_wp2
      go_ret
      have h9 := hown
      rw [List.take_of_length_le (by omega)] at h9
      exact ⟨_, rfl, h9, hb⟩
end Go.Proofs.Ytgbhpghgohggcaa

/- Plain: LogStill's and LogDone's laws. -/
namespace Go.Proofs.Ytgbhpghgohggcaa
theorem step_done (h : Hs) (r : Rc) : (refStep h r).done = (match h.ready.find? (isD r.deed) with | none => h.done | some _ => if r.kind = 2 then h.done ++ [r.deed] else h.done) := by
  unfold refStep
  rw [in_fold]
  cases hf : h.ready.find? (isD r.deed) with
  | none => simp
  | some x => simp
theorem step_sums (h : Hs) (r : Rc) : (refStep h r).sums = (match h.ready.find? (isD r.deed) with | none => h.sums | some x => if r.kind = 2 then doP h.sums x.parts else h.sums) := by
  unfold refStep
  rw [in_fold]
  cases hf : h.ready.find? (isD r.deed) with
  | none => simp
  | some x => simp
theorem done_grows (h : Hs) (r : Rc) : ∃ t, (refStep h r).done = h.done ++ t := by
  rw [step_done]
  split
  · exact ⟨[], by simp⟩
  · split
    · exact ⟨_, rfl⟩
    · exact ⟨[], by simp⟩
theorem fold_done : ∀ (l : List Rc) (h : Hs), ∃ t, (l.foldl refStep h).done = h.done ++ t
  | [], h => ⟨[], by simp⟩
  | r :: l, h => by
    obtain ⟨t, e⟩ := done_grows h r
    obtain ⟨t', e'⟩ := fold_done l (refStep h r)
    exact ⟨t ++ t', by rw [List.foldl_cons, e', e, List.append_assoc]⟩
theorem house_app (l more : List Rc) : houseR (l ++ more) = { (more.foldl refStep (houseR l)) with log := l ++ more } := by
  unfold houseR
  rw [List.foldl_append]
  have := fold_log l ⟨l, ⟨0, 0, 0, 0⟩, [], []⟩ (l ++ more)
  simp only at this
  rw [this, fold_log]
theorem done_app (l more : List Rc) : ∃ t, (houseR (l ++ more)).done = (houseR l).done ++ t := by
  rw [house_app]
  exact fold_done more _
theorem fine_zero : Fine ([] : List Rd) := ⟨by simp, by simp⟩
theorem house_fine {l : List Rc} (h : ∀ r ∈ l, 0 ≤ r.deed) : Fine (houseR l).ready := fold_fine l _ fine_zero h
/-- LogStill's own loop -/
def stillF (r : Rc) (s : Sm) (l : List Rd) : Sm := l.foldl (fun s q => if q.deed = r.deed ∧ r.kind = 2 then doP s q.parts else s) s
theorem still_none {r : Rc} : ∀ {l : List Rd} (s : Sm), (∀ x ∈ l, x.deed ≠ r.deed) → stillF r s l = s
  | [], _, _ => rfl
  | x :: l, s, h => by
    unfold stillF
    rw [List.foldl_cons, if_neg (fun e => h x List.mem_cons_self e.1)]
    exact still_none s fun y hy => h y (List.mem_cons_of_mem _ hy)
theorem still_find {r : Rc} : ∀ {l : List Rd} (s : Sm), (l.map (·.deed)).Nodup → stillF r s l = (match l.find? (isD r.deed) with | none => s | some x => if r.kind = 2 then doP s x.parts else s)
  | [], _, _ => rfl
  | x :: l, s, hn => by
    rw [List.map_cons, List.nodup_cons] at hn
    unfold stillF
    rw [List.foldl_cons]
    by_cases h : x.deed = r.deed
    · rw [List.find?_cons_of_pos (by simp [isD, h])]
      have := still_none (r := r) (l := l) (if x.deed = r.deed ∧ r.kind = 2 then doP s x.parts else s) fun y hy e => hn.1 (List.mem_map.2 ⟨y, hy, by rw [e, h]⟩)
      unfold stillF at this
      rw [this]
      simp [h]
    · rw [List.find?_cons_of_neg (by simp [isD, h]), if_neg (fun e => h e.1)]
      exact still_find s hn.2
theorem still_law {l : List Rc} (r : Rc) (h : ∀ r ∈ l, 0 ≤ r.deed) : (houseR (l ++ [r])).sums = stillF r (houseR l).sums (houseR l).ready := by
  rw [house_snoc, still_find _ (house_fine h).nodup]
  exact step_sums _ _
end Go.Proofs.Ytgbhpghgohggcaa

/- Plain: what a log's records make, as the program goes through them. -/
namespace Go.Proofs.Ytgbhpghgohggcaa
theorem idx_none {l : List Rd} {d : Int} (h : l.findIdx? (isD d) = none) : l.find? (isD d) = none := by
  rw [List.findIdx?_eq_none_iff] at h
  rw [List.find?_eq_none]
  intro x hx
  rw [h x hx]; simp
theorem idx_some {d : Int} : ∀ {l : List Rd} {i : Nat}, l.findIdx? (isD d) = some i → ∃ hi : i < l.length, l.find? (isD d) = some l[i] ∧ l.eraseP (isD d) = l.eraseIdx i
  | [], i, h => by simp at h
  | x :: l, i, h => by
    rw [List.findIdx?_cons] at h
    by_cases hx : isD d x = true
    · rw [if_pos hx] at h
      obtain rfl : 0 = i := by simpa using h
      exact ⟨by simp, by rw [List.find?_cons_of_pos hx]; rfl, by rw [List.eraseP_cons_of_pos hx]; rfl⟩
    · rw [if_neg hx] at h
      cases hk : l.findIdx? (isD d) with
      | none => rw [hk] at h; simp at h
      | some k =>
        rw [hk] at h
        obtain rfl : k + 1 = i := by simpa using h
        obtain ⟨h1, h2, h3⟩ := idx_some hk
        exact ⟨by simp; omega, by rw [List.find?_cons_of_neg hx, h2]; rfl, by rw [List.eraseP_cons_of_neg hx, h3]; rfl⟩
theorem step_out {h : Hs} {r : Rc} (e : h.ready.find? (isD r.deed) = none) : refStep h r = if r.kind = 1 then { h with ready := h.ready ++ [⟨r.deed, r.parts⟩] } else h := by
  unfold refStep
  rw [in_fold, e]
  by_cases hk : r.kind = 1 <;> simp [hk]
theorem step_in {h : Hs} {r : Rc} {x : Rd} (e : h.ready.find? (isD r.deed) = some x) : refStep h r =
    if r.kind = 2 then { h with sums := doP h.sums x.parts, ready := h.ready.eraseP (isD r.deed), done := h.done ++ [r.deed] }
    else if r.kind = 3 then { h with ready := h.ready.eraseP (isD r.deed) } else h := by
  unfold refStep
  rw [in_fold, e]
  by_cases h2 : r.kind = 2
  · simp [h2]
  · by_cases h3 : r.kind = 3 <;> simp [h2, h3]
/-- one record, where nothing of its deed is ready -/
theorem step_idx_none {h : Hs} {r : Rc} (e : h.ready.findIdx? (isD r.deed) = none) : refStep h r = if r.kind = 1 then { h with ready := h.ready ++ [⟨r.deed, r.parts⟩] } else h := step_out (idx_none e)
/-- one record of a deed that is ready -/
theorem step_idx_some {h : Hs} {r : Rc} {i : Nat} (e : h.ready.findIdx? (isD r.deed) = some i) : ∃ hi : i < h.ready.length, refStep h r =
    if r.kind = 2 then { h with sums := doP h.sums h.ready[i].parts, ready := h.ready.eraseIdx i, done := h.done ++ [r.deed] }
    else if r.kind = 3 then { h with ready := h.ready.eraseIdx i } else h := by
  obtain ⟨hi, h1, h2⟩ := idx_some e
  exact ⟨hi, by rw [step_in h1, h2]⟩
end Go.Proofs.Ytgbhpghgohggcaa

/- Walks: log.ready; a house in its box, as its log is walked. -/
namespace Go.Proofs.Ytgbhpghgohggcaa
open Go.RowKit
theorem lready_lit (w : World) (B : Nat) (d : Int) (wx : World) (cs : List Value) (x : Rd) (hc : w.cell? ⟨B, 0, none⟩ = some (.int .i64 d)) (hg : Grow w wx) (hR : Ty.rd.R wx.cell? cs x) :
    Calls Try.prog 162 #[.agg cs.toArray, .pointer (some ⟨B, 0, none⟩)] wx fun e w' => e = .returned (.bool (isD d x)) ∧ Grow wx w' := by
  obtain ⟨vp, rfl, -, hp⟩ := hR
  obtain ⟨ap, cp, rfl, -⟩ := hp
  have hB := World.block_lt_of_cell? w _ hc
  simp only at hB
  have hBx : B < wx.heap.size := Nat.lt_of_lt_of_le hB hg.size
  replace hc := hg.sub _ _ hc
  go_enter Try.func162, Try.ntmps162
  go_wp2
  go_ret
  exact ⟨rfl, (by repeat (first | with_reducible assumption | with_reducible exact Grow.refl _ | with_reducible apply Grow.drewN | with_reducible apply Grow.drew | with_reducible apply Grow.alloc | (refine Grow.setCell ?_ (by simp; done) _)))⟩
theorem lready_tells (w : World) (B : Nat) (d : Int) (l : List Rd) (hc : w.cell? ⟨B, 0, none⟩ = some (.int .i64 d)) : Tells Try.prog Ty.rd aggOf w 162 #[.pointer (some ⟨B, 0, none⟩)] l (isD d) where
  ent := fun args w => by kernel_rfl
  say := fun wx cs x hg _ hR => lready_lit w B d wx cs x hc hg hR
theorem log_ready {v : Value} {l : List Rd} {d : Int} (w : World) (hv : Sl Ty.rd w.cell? v l) :
    Calls Try.prog 121 #[v, .int .i64 d] w fun e w' => e = .returned (.int .i64 (idxOf (isD d) l)) ∧ Grow w w' := by
  have HX := Lib.hid (indexFunc_rd (w.alloc (.cells #[.int .i64 d] 3)) (hv.mono ((Grow.refl w).alloc _).sub) (lready_tells (w.alloc (.cells #[.int .i64 d] 3)) w.heap.size d l (by rw [World.cell?_alloc_new]; rfl)))
  obtain ⟨a, cap, rfl, -⟩ := hv
  go_enter Try.func121, Try.ntmps121
  go_wp2_with fail
  refine HX.out.mono ?_
  rintro e w1 ⟨rfl, hb1⟩
  have HB := Lib.hid hb1
  clear hb1
  go_wp2
  go_ret
  exact ⟨rfl, ((Grow.refl w).alloc _).trans HB.out⟩
end Go.Proofs.Ytgbhpghgohggcaa

/- A house in its box, as the program walks its log: what stays and what changes. -/
namespace Go.Proofs.Ytgbhpghgohggcaa
open Go.RowKit
abbrev zrow : Array Value := #[.slice none 0 0, .int .i64 0, .int .i64 0, .int .i64 0, .int .i64 0, .slice none 0 0, .slice none 0 0]
/-- new memory, but for the call's boxes and own rows -/
def hmem (w w1 wr : World) (vl vr vd : Value) : CM := fr w wr [vl.ownBlock, vr.ownBlock, vd.ownBlock, some w.heap.size, some w1.heap.size]
structure LBox (w w1 wr : World) (vl vr vd : Value) (l : List Rc) (h : Hs) : Prop where
  res : wr.heap[w.heap.size]? = some (.cells zrow 29 (0, 0))
  row : wr.heap[w1.heap.size]? = some (.cells #[vl, .int .i64 h.sums.a, .int .i64 h.sums.b, .int .i64 h.sums.c, .int .i64 h.sums.d, vr, vd] 29 (0, 0))
  log : OwnC Ty.rc (hmem w w1 wr vl vr vd) wr (w.heap.size + 1) 48 vl l
  ready : OwnC Ty.rd (hmem w w1 wr vl vr vd) wr (w1.heap.size + 1) 45 vr h.ready
  done : wr.ownsRow (w1.heap.size + 1) 3 1 vd h.done.length (h.done.flatMap intCell)
  grow : Grow w wr
  size : w1.heap.size + 1 ≤ wr.heap.size
  lt : ∀ k, vl.ownBlock = some k → k < w1.heap.size
  w1 : w.heap.size + 1 ≤ w1.heap.size
  disj : vr.ownBlock = none ∨ vr.ownBlock ≠ vd.ownBlock
/-- blocks that a round may change: the box and the two rows -/
structure Chg (w1 wr w' : World) (vr vd vr' vd' : Value) : Prop where
  size : wr.heap.size ≤ w'.heap.size
  block : ∀ k, k < wr.heap.size → k ≠ w1.heap.size → vr.ownBlock ≠ some k → vd.ownBlock ≠ some k → w'.heap[k]? = wr.heap[k]?
  ready : vr'.ownBlock = vr.ownBlock ∨ ∃ g, vr'.ownBlock = some g ∧ wr.heap.size ≤ g
  done : vd'.ownBlock = vd.ownBlock ∨ ∃ g, vd'.ownBlock = some g ∧ wr.heap.size ≤ g
theorem Chg.mem {w w1 wr w' : World} {vl vr vd vr' vd' : Value} (c : Chg w1 wr w' vr vd vr' vd') : Sub (hmem w w1 wr vl vr vd) (hmem w w1 w' vl vr' vd') := by
  refine fr_step fun k hk _ hx => ?_
  simp only [List.mem_cons, List.not_mem_nil, or_false, not_or] at hx ⊢
  obtain ⟨x1, x2, x3, x4, x5⟩ := hx
  refine ⟨c.block k hk (fun e => x5 (by rw [e])) (fun e => x2 e.symm) (fun e => x3 e.symm), x1, ?_, ?_, x4, x5⟩
  · rcases c.ready with e | ⟨g, e, hg⟩
    · rw [e]; exact x2
    · rw [e]; simp; omega
  · rcases c.done with e | ⟨g, e, hg⟩
    · rw [e]; exact x3
    · rw [e]; simp; omega
theorem owns_block {w w' : World} {base e size n : Nat} {v : Value} {xs : List Value} (h : w.ownsRow base e size v n xs) (hb : ∀ k, v.ownBlock = some k → w'.heap[k]? = w.heap[k]?) : w'.ownsRow base e size v n xs := by
  obtain ⟨hl, h' | ⟨g, cap, cur, rfl, hg, hrow, hrest⟩⟩ := h
  · exact ⟨hl, .inl h'⟩
  · exact ⟨hl, .inr ⟨g, cap, cur, rfl, hg, by rw [hb g rfl]; exact hrow, hrest⟩⟩
theorem OwnC.block {α : Type} {T : Ty α} {c : CM} {w w' : World} {base e : Nat} {v : Value} {l : List α} (h : OwnC T c w base e v l) (hb : ∀ k, v.ownBlock = some k → w'.heap[k]? = w.heap[k]?) : OwnC T c w' base e v l := by
  obtain ⟨css, k1, k2, k3⟩ := h
  exact ⟨css, owns_block k1 hb, k2, k3⟩
theorem LBox.put {w w1 wr w' : World} {vl vr vd vr' vd' : Value} {l : List Rc} {h h' : Hs} (b : LBox w w1 wr vl vr vd l h) (c : Chg w1 wr w' vr vd vr' vd') (hG : Grow w w')
    (row : w'.heap[w1.heap.size]? = some (.cells #[vl, .int .i64 h'.sums.a, .int .i64 h'.sums.b, .int .i64 h'.sums.c, .int .i64 h'.sums.d, vr', vd'] 29 (0, 0)))
    (ready : OwnC Ty.rd (hmem w w1 w' vl vr' vd') w' (w1.heap.size + 1) 45 vr' h'.ready) (done : w'.ownsRow (w1.heap.size + 1) 3 1 vd' h'.done.length (h'.done.flatMap intCell)) (disj : vr'.ownBlock = none ∨ vr'.ownBlock ≠ vd'.ownBlock) : LBox w w1 w' vl vr' vd' l h' where
  res := by
    have h1 := b.w1
    have h2 := b.size
    rw [c.block _ (by omega) (by omega) (fun e => by have := (b.ready.lt _ e).1; omega) (fun e => by have := (b.done.lt _ e).1; omega)]; exact b.res
  row := row
  log := by
    refine (b.log.mono c.mem).block fun k hk => ?_
    have h1 := b.lt k hk
    have h2 := b.size
    exact c.block k (by omega) (by omega) (fun e => by have := (b.ready.lt _ e).1; omega) (fun e => by have := (b.done.lt _ e).1; omega)
  ready := ready
  done := done
  grow := hG
  size := Nat.le_trans b.size c.size
  lt := b.lt
  w1 := b.w1
  disj := disj
theorem LBox.later {w w1 wr w' : World} {vl vr vd : Value} {l : List Rc} {h : Hs} (b : LBox w w1 wr vl vr vd l h) (hg : Grow wr w') : LBox w w1 w' vl vr vd l h :=
  have c : Chg w1 wr w' vr vd vr vd := ⟨hg.size, fun k hk _ _ _ => hg.block k hk, .inl rfl, .inl rfl⟩
  b.put c (b.grow.trans hg) (row_grow b.row hg) ((b.ready.mono c.mem).grow hg) (b.done.kept (grownBy_of_grow hg none) (by cases vd.ownBlock <;> simp)) b.disj
theorem row_set5' {w : World} {B : Nat} {a b c d e f g : Value} {t : TypeId} (h : w.heap[B]? = some (.cells #[a, b, c, d, e, f, g] t (0, 0))) (u : Value) : (w.setCell ⟨B, 5, none⟩ u).heap[B]? = some (.cells #[a, b, c, d, e, u, g] t (0, 0)) := by
  simp only [World.setCell, Array.getElem?_modify, h]; simp
theorem row_set6' {w : World} {B : Nat} {a b c d e f g : Value} {t : TypeId} (h : w.heap[B]? = some (.cells #[a, b, c, d, e, f, g] t (0, 0))) (u : Value) : (w.setCell ⟨B, 6, none⟩ u).heap[B]? = some (.cells #[a, b, c, d, e, f, u] t (0, 0)) := by
  simp only [World.setCell, Array.getElem?_modify, h]; simp
theorem row_set1234 {w : World} {B : Nat} {a b c d e f g : Value} {t : TypeId} (h : w.heap[B]? = some (.cells #[a, b, c, d, e, f, g] t (0, 0))) (u1 u2 u3 u4 : Value) :
    ((((w.setCell ⟨B, 1, none⟩ u1).setCell ⟨B, 2, none⟩ u2).setCell ⟨B, 3, none⟩ u3).setCell ⟨B, 4, none⟩ u4).heap[B]? = some (.cells #[a, u1, u2, u3, u4, f, g] t (0, 0)) := by
  simp only [World.setCell, Array.getElem?_modify, h]; simp
/-- something is ready -/
theorem LBox.appR {w w1 wr wq w' : World} {vl vr vd : Value} {l : List Rc} {h : Hs} {x : Rd} {a' : Option Addr} {n c' : Nat} (b : LBox w w1 wr vl vr vd l h) (hG : Grow wr wq)
    (ho : OwnC Ty.rd (hmem w w1 wq vl vr vd) w' (w1.heap.size + 1) 45 (.slice a' n c') (h.ready ++ [x])) (hg : wq.grownBy w' vr.ownBlock) (hb : (Value.slice a' n c').ownBlock = vr.ownBlock ∨ ∃ g, (Value.slice a' n c').ownBlock = some g ∧ wq.heap.size ≤ g) :
    LBox w w1 (w'.setCell ⟨w1.heap.size, 5, none⟩ (.slice a' n c')) vl (.slice a' n c') vd l { h with ready := h.ready ++ [x] } ∧ Chg w1 wr (w'.setCell ⟨w1.heap.size, 5, none⟩ (.slice a' n c')) vr vd (.slice a' n c') vd := by
  have bq := b.later hG
  have hs := hG.size
  have hs1 := b.size
  have hw1 := b.w1
  have hlt := bq.ready.lt
  have hdl := bq.done.lt
  have hB : ∀ k, k ≠ w1.heap.size → (w'.setCell ⟨w1.heap.size, 5, none⟩ (.slice a' n c')).heap[k]? = w'.heap[k]? := fun k hk => Below.heap_setCell _ _ _ _ (fun e => hk e)
  have c1 : Chg w1 wq (w'.setCell ⟨w1.heap.size, 5, none⟩ (.slice a' n c')) vr vd (.slice a' n c') vd := ⟨by simpa using hg.size, fun k hk h1 h2 _ => by rw [hB k h1, hg.block k hk (fun e => h2 e.symm)], hb, .inl rfl⟩
  have hGw : Grow w (w'.setCell ⟨w1.heap.size, 5, none⟩ (.slice a' n c')) := (bq.grow.grown hg (fun k hk => by have := (hlt k hk).1; omega)).setCell (by simp; omega) _
  have hdj : ∀ k, vd.ownBlock = some k → vr.ownBlock ≠ some k := fun k hk e => by
    rcases b.disj with d | d
    · rw [d] at e; cases e
    · exact d (e.trans hk.symm)
  refine ⟨bq.put c1 hGw (row_set5' (row_by bq.row hg (fun e => by have := (hlt _ e.symm).1; omega)) _) ((ho.mono c1.mem).block fun k hk => ?_) (owns_block bq.done fun k hk => ?_) ?_, ?_⟩
  · exact hB k (by have := (ho.lt k hk).1; omega)
  · have := hdl k hk
    rw [hB k (by omega), hg.block k this.2 (fun e => hdj k hk e.symm)]
  · rcases hb with e | ⟨g, e, hge⟩
    · rw [e]; exact b.disj
    · right; rw [e]; intro e'
      have := hdl g e'.symm; omega
  · exact ⟨Nat.le_trans hs c1.size, fun k hk h1 h2 h3 => (c1.block k (by omega) h1 h2 h3).trans (hG.block k hk), by
      rcases hb with e | ⟨g, e, hge⟩
      · exact .inl e
      · exact .inr ⟨g, e, by omega⟩, .inl rfl⟩
/-- something is done -/
theorem LBox.appD {w w1 wr wq w' : World} {vl vr vd : Value} {l : List Rc} {h : Hs} {x : Int} {a' : Option Addr} {n c' : Nat} (b : LBox w w1 wr vl vr vd l h) (hG : Grow wr wq)
    (ho : w'.ownsRow (w1.heap.size + 1) 3 1 (.slice a' n c') (h.done ++ [x]).length ((h.done ++ [x]).flatMap intCell)) (hg : wq.grownBy w' vd.ownBlock) (hb : (Value.slice a' n c').ownBlock = vd.ownBlock ∨ ∃ g, (Value.slice a' n c').ownBlock = some g ∧ wq.heap.size ≤ g) :
    LBox w w1 (w'.setCell ⟨w1.heap.size, 6, none⟩ (.slice a' n c')) vl vr (.slice a' n c') l { h with done := h.done ++ [x] } ∧ Chg w1 wr (w'.setCell ⟨w1.heap.size, 6, none⟩ (.slice a' n c')) vr vd vr (.slice a' n c') := by
  have bq := b.later hG
  have hs := hG.size
  have hs1 := b.size
  have hw1 := b.w1
  have hlt := bq.ready.lt
  have hdl := bq.done.lt
  have hB : ∀ k, k ≠ w1.heap.size → (w'.setCell ⟨w1.heap.size, 6, none⟩ (.slice a' n c')).heap[k]? = w'.heap[k]? := fun k hk => Below.heap_setCell _ _ _ _ (fun e => hk e)
  have c1 : Chg w1 wq (w'.setCell ⟨w1.heap.size, 6, none⟩ (.slice a' n c')) vr vd vr (.slice a' n c') := ⟨by simpa using hg.size, fun k hk h1 _ h2 => by rw [hB k h1, hg.block k hk (fun e => h2 e.symm)], .inl rfl, hb⟩
  have hGw : Grow w (w'.setCell ⟨w1.heap.size, 6, none⟩ (.slice a' n c')) := (bq.grow.grown hg (fun k hk => by have := (hdl k hk).1; omega)).setCell (by simp; omega) _
  have hdj : ∀ k, vr.ownBlock = some k → vd.ownBlock ≠ some k := fun k hk e => by
    rcases b.disj with d | d
    · rw [d] at hk; cases hk
    · exact d (hk.trans e.symm)
  refine ⟨bq.put c1 hGw (row_set6' (row_by bq.row hg (fun e => by have := (hdl _ e.symm).1; omega)) _) ((bq.ready.mono c1.mem).block fun k hk => ?_) (owns_block ho fun k hk => ?_) ?_, ?_⟩
  · have := hlt k hk
    rw [hB k (by omega), hg.block k this.2 (fun e => hdj k hk e.symm)]
  · exact hB k (by have := (ho.lt k hk).1; omega)
  · cases e0 : vr.ownBlock with
    | none => exact .inl rfl
    | some q =>
      right
      rcases hb with e | ⟨g, e, hge⟩
      · rw [e]; intro e'; exact hdj q e0 e'.symm
      · rw [e]; intro e'; have := hlt q e0; simp at e'; omega
  · exact ⟨Nat.le_trans hs c1.size, fun k hk h1 h2 h3 => (c1.block k (by omega) h1 h2 h3).trans (hG.block k hk), .inl rfl, by
      rcases hb with e | ⟨g, e, hge⟩
      · exact .inl e
      · exact .inr ⟨g, e, by omega⟩⟩
/-- sums change -/
theorem LBox.sum {w w1 wr wq : World} {vl vr vd : Value} {l : List Rc} {h : Hs} {s : Sm} (b : LBox w w1 wr vl vr vd l h) (hG : Grow wr wq) :
    LBox w w1 ((((wq.setCell ⟨w1.heap.size, 1, none⟩ (.int .i64 s.a)).setCell ⟨w1.heap.size, 2, none⟩ (.int .i64 s.b)).setCell ⟨w1.heap.size, 3, none⟩ (.int .i64 s.c)).setCell ⟨w1.heap.size, 4, none⟩ (.int .i64 s.d)) vl vr vd l { h with sums := s } ∧
    Chg w1 wr ((((wq.setCell ⟨w1.heap.size, 1, none⟩ (.int .i64 s.a)).setCell ⟨w1.heap.size, 2, none⟩ (.int .i64 s.b)).setCell ⟨w1.heap.size, 3, none⟩ (.int .i64 s.c)).setCell ⟨w1.heap.size, 4, none⟩ (.int .i64 s.d)) vr vd vr vd := by
  have bq := b.later hG
  have hs := hG.size
  have hs1 := b.size
  have hw1 := b.w1
  have hB : ∀ k, k ≠ w1.heap.size → ((((wq.setCell ⟨w1.heap.size, 1, none⟩ (.int .i64 s.a)).setCell ⟨w1.heap.size, 2, none⟩ (.int .i64 s.b)).setCell ⟨w1.heap.size, 3, none⟩ (.int .i64 s.c)).setCell ⟨w1.heap.size, 4, none⟩ (.int .i64 s.d)).heap[k]? = wq.heap[k]? := fun k hk => by
    rw [Below.heap_setCell _ _ _ _ (fun e => hk e), Below.heap_setCell _ _ _ _ (fun e => hk e), Below.heap_setCell _ _ _ _ (fun e => hk e), Below.heap_setCell _ _ _ _ (fun e => hk e)]
  have c1 : Chg w1 wq ((((wq.setCell ⟨w1.heap.size, 1, none⟩ (.int .i64 s.a)).setCell ⟨w1.heap.size, 2, none⟩ (.int .i64 s.b)).setCell ⟨w1.heap.size, 3, none⟩ (.int .i64 s.c)).setCell ⟨w1.heap.size, 4, none⟩ (.int .i64 s.d)) vr vd vr vd := ⟨by simp, fun k hk h1 _ _ => hB k h1, .inl rfl, .inl rfl⟩
  have hGw : Grow w ((((wq.setCell ⟨w1.heap.size, 1, none⟩ (.int .i64 s.a)).setCell ⟨w1.heap.size, 2, none⟩ (.int .i64 s.b)).setCell ⟨w1.heap.size, 3, none⟩ (.int .i64 s.c)).setCell ⟨w1.heap.size, 4, none⟩ (.int .i64 s.d)) := (((bq.grow.setCell (by simp; omega) _).setCell (by simp; omega) _).setCell (by simp; omega) _).setCell (by simp; omega) _
  refine ⟨bq.put c1 hGw (row_set1234 bq.row _ _ _ _) ((bq.ready.mono c1.mem).block fun k hk => hB k (by have := (bq.ready.lt k hk).1; omega)) (owns_block bq.done fun k hk => hB k (by have := (bq.done.lt k hk).1; omega)) b.disj, ?_⟩
  exact ⟨Nat.le_trans hs c1.size, fun k hk h1 h2 h3 => (c1.block k (by omega) h1 h2 h3).trans (hG.block k hk), .inl rfl, .inl rfl⟩
/-- something is ready no more -/
theorem LBox.delR {w w1 wr wq w' : World} {vl vd : Value} {l : List Rc} {h : Hs} {g cap i : Nat} (b : LBox w w1 wr vl (.slice (some ⟨g, 0, none⟩) h.ready.length cap) vd l h) (hG : Grow wr wq) (hi : i < h.ready.length)
    {css : List (List Value)} (k2 : css.length = h.ready.length) (k3 : ∀ (i : Nat) (cs : List Value) (x : Rd), css[i]? = some cs → h.ready[i]? = some x → Ty.rd.R (hmem w w1 wq vl (.slice (some ⟨g, 0, none⟩) h.ready.length cap) vd) cs x)
    (hnew : w'.ownsRow (w1.heap.size + 1) 45 2 (.slice (some ⟨g, 0, none⟩) (h.ready.length - 1) cap) (h.ready.length - 1) (css.flatten.take (i * 2) ++ css.flatten.drop ((i + 1) * 2))) (hg : wq.grownBy w' (some g)) :
    LBox w w1 (w'.setCell ⟨w1.heap.size, 5, none⟩ (.slice (some ⟨g, 0, none⟩) (h.ready.length - 1) cap)) vl (.slice (some ⟨g, 0, none⟩) (h.ready.length - 1) cap) vd l { h with ready := h.ready.eraseIdx i } ∧
    Chg w1 wr (w'.setCell ⟨w1.heap.size, 5, none⟩ (.slice (some ⟨g, 0, none⟩) (h.ready.length - 1) cap)) (.slice (some ⟨g, 0, none⟩) h.ready.length cap) vd (.slice (some ⟨g, 0, none⟩) (h.ready.length - 1) cap) vd := by
  have bq := b.later hG
  have hsz := hG.size
  have hs1 := b.size
  have hw1 := b.w1
  have hlt := bq.ready.lt g rfl
  have hdl := bq.done.lt
  have hB : ∀ k, k ≠ w1.heap.size → (w'.setCell ⟨w1.heap.size, 5, none⟩ (.slice (some ⟨g, 0, none⟩) (h.ready.length - 1) cap)).heap[k]? = w'.heap[k]? := fun k hk => Below.heap_setCell _ _ _ _ (fun e => hk e)
  have c1 : Chg w1 wq (w'.setCell ⟨w1.heap.size, 5, none⟩ (.slice (some ⟨g, 0, none⟩) (h.ready.length - 1) cap)) (.slice (some ⟨g, 0, none⟩) h.ready.length cap) vd (.slice (some ⟨g, 0, none⟩) (h.ready.length - 1) cap) vd := ⟨by simpa using hg.size, fun k hk h1 h2 _ => by rw [hB k h1, hg.block k hk (fun e => h2 e.symm)], .inl rfl, .inl rfl⟩
  have hGw : Grow w (w'.setCell ⟨w1.heap.size, 5, none⟩ (.slice (some ⟨g, 0, none⟩) (h.ready.length - 1) cap)) := (bq.grow.grown hg (fun k hk => by simp at hk; omega)).setCell (by simp; omega) _
  have hdj : ∀ k, vd.ownBlock = some k → g ≠ k := fun k hk e => by
    rcases b.disj with d | d
    · cases d
    · exact d (by rw [hk, ← e]; rfl)
  have hcl := css_len k2 k3
  refine ⟨bq.put c1 hGw (row_set5' (row_by bq.row hg (by simp; omega)) _) ⟨css.eraseIdx i, ?_, ?_, ?_⟩ (owns_block bq.done fun k hk => ?_) (.inr fun e => hdj g e.symm rfl), ?_⟩
  · have e : (css.eraseIdx i).flatten = css.flatten.take (i * 2) ++ css.flatten.drop ((i + 1) * 2) := by
      rw [flatten_take (size := 2) css i hcl, flatten_drop (size := 2) css (i + 1) hcl, List.eraseIdx_eq_take_drop_succ, List.flatten_append]
    rw [e]
    have e2 : (h.ready.eraseIdx i).length = h.ready.length - 1 := List.length_eraseIdx_of_lt hi
    rw [e2]
    refine owns_block hnew fun k hk => hB k ?_
    have : g = k := by simpa [Value.ownBlock] using hk
    omega
  · simp only [List.length_eraseIdx_of_lt hi, List.length_eraseIdx_of_lt (by omega : i < css.length)]; omega
  · intro j cs x a e
    rw [List.getElem?_eraseIdx] at a e
    by_cases hj : j < i
    · rw [if_pos hj] at a e
      exact Ty.rd.mono c1.mem (k3 j cs x a e)
    · rw [if_neg hj] at a e
      exact Ty.rd.mono c1.mem (k3 (j + 1) cs x a e)
  · have := hdl k hk
    rw [hB k (by omega), hg.block k this.2 (fun e => hdj k hk (Option.some.inj e).symm)]
  · exact ⟨Nat.le_trans hsz c1.size, fun k hk h1 h2 h3 => (c1.block k (by omega) h1 h2 h3).trans (hG.block k hk), .inl rfl, .inl rfl⟩
end Go.Proofs.Ytgbhpghgohggcaa

/- Walks: log.House of the program. -/
namespace Go.Proofs.Ytgbhpghgohggcaa
open Go.RowKit
theorem cells3 {w : World} {B : Nat} {a b c : Value} {t : TypeId} (h : w.heap[B]? = some (.cells #[a, b, c] t (0, 0))) : w.cell? ⟨B, 0, none⟩ = some a ∧ w.cell? ⟨B, 1, none⟩ = some b ∧ w.cell? ⟨B, 2, none⟩ = some c := by
  refine ⟨?_, ?_, ?_⟩ <;> simp [World.cell?, h]
theorem ints_back {c : CM} {w : World} {base e : Nat} {v : Value} {l : List Int} (h : OwnC Ty.int c w base e v l) : w.ownsRow base e 1 v l.length (l.flatMap intCell) := by
  obtain ⟨css, h1, h2, h3⟩ := h
  have : css.flatten = l.flatMap intCell := by
    rw [List.flatMap_def]
    congr 1
    apply List.ext_getElem?
    intro i
    rw [List.getElem?_map]
    by_cases hi : i < l.length
    · have e1 : css[i]? = some css[i] := List.getElem?_eq_getElem (by omega)
      have e2 : l[i]? = some l[i] := List.getElem?_eq_getElem hi
      rw [e1, e2]
      simp only [Option.map_some, Option.some.injEq]
      exact (h3 i _ _ e1 e2).1
    · rw [List.getElem?_eq_none (by omega), List.getElem?_eq_none (by omega)]; rfl
  rw [← this]; exact h1
theorem hok_step {h : Hs} {n : Nat} (k : HOk h n) {r : Rc} (hd : I64 r.deed) (hr : KeysOk r.parts) : HOk (refStep h r) (n + 1) := by
  have h1 := k.ready
  have h2 := k.done
  cases hf : h.ready.find? (isD r.deed) with
  | none =>
    rw [step_out hf]
    split
    · exact ⟨by simp; omega, by show h.done.length ≤ _; omega, fun x hx => by
        rcases List.mem_append.1 hx with hx | hx
        · exact k.keys x hx
        · rw [List.mem_singleton.1 hx]; exact hr, k.sums, k.ints⟩
    · exact ⟨by omega, by omega, k.keys, k.sums, k.ints⟩
  | some x =>
    rw [step_in hf]
    have hle : (h.ready.eraseP (isD r.deed)).length ≤ h.ready.length := List.eraseP_sublist.length_le
    split
    · exact ⟨by show (h.ready.eraseP _).length ≤ _; omega, by simp; omega, fun y hy => k.keys y (List.eraseP_sublist.subset hy), k.sums.doP _, fun y hy => by
        rcases List.mem_append.1 hy with hy | hy
        · exact k.ints y hy
        · rw [List.mem_singleton.1 hy]; exact hd⟩
    · split
      · exact ⟨by show (h.ready.eraseP _).length ≤ _; omega, by show h.done.length ≤ _; omega, fun y hy => k.keys y (List.eraseP_sublist.subset hy), k.sums, k.ints⟩
      · exact ⟨by omega, by omega, k.keys, k.sums, k.ints⟩
set_option maxRecDepth 100000 in
set_option maxHeartbeats 4000000 in
theorem wlog_house {v : Value} {l : List Rc} (w : World) (hv : Rcs w.cell? v l) (hk : ∀ r ∈ l, KeysOk r.parts) (hm : l.length * 40 ≤ 140737488351232) (hp : ∀ r ∈ l, r.parts.length * 24 ≤ 140737488355328) :
    Calls Try.prog 36 #[v] w fun e w' => ∃ v', e = .returned v' ∧ Of Ty.hs (ov (fun _ => none) w w') v' (houseR l) ∧ Grow w w' := by
  have HOWN := Lib.hid (log_own (w.alloc (.cells zrow 29)) (hv.mono ((Grow.refl w).alloc _).sub) (by omega) hp)
  have HK := Lib.hid hk
  have HM := Lib.hid hm
  have HP := Lib.hid hp
  obtain ⟨al0, cl0, rfl, -⟩ := hv
  have hlm : l.length ≤ 3518437208883 := by omega
  clear hk hm hp
  go_enter Try.func36, Try.ntmps36
  go_wp2_with fail
  refine HOWN.out.mono ?_
  rintro e w1 ⟨vl, rfl, hown, hb1⟩
  obtain ⟨al, cl, rfl⟩ := hown.form
  have HOW := Lib.hid hown
  have HB1 := Lib.hid hb1
  have z1 : w.heap.size + 1 ≤ w1.heap.size := by have := hb1.size; simpa using this
  clear hown hb1
  go_wp2
  go_loopw [13] (fun i wr => ∃ (k : Nat) (h : Hs) (vr vd : Value), k ≤ l.length ∧ i = .int .i64 k ∧ (l.take k).foldl refStep ⟨l, ⟨0, 0, 0, 0⟩, [], []⟩ = h ∧ LBox w w1 wr (.slice al l.length cl) vr vd l h ∧ HOk h k) (fun i _ => l.length - (intOf i).toNat)
  case atStart =>
    refine ⟨0, ⟨l, ⟨0, 0, 0, 0⟩, [], []⟩, .slice none 0 0, .slice none 0 0, by omega, rfl, rfl, ?_, ⟨by simp, by simp, by simp, ⟨zero_ok, zero_ok, zero_ok, zero_ok⟩, by simp⟩⟩
    have hl := HOW.out.lt
    refine ⟨row_grow (row_new w _) (HB1.out.alloc _), row_new _ _, ?_, OwnC.nil _ _ _ _ _, World.ownsRow_nil _ _ _ _, ((Grow.refl w).alloc _).trans (HB1.out.alloc _), by simp, fun k hk => (hl k hk).2, z1, .inl rfl⟩
    have hs0 : (w.alloc (.cells zrow 29)).heap.size = w.heap.size + 1 := by simp
    have h2 := HOW.out
    rw [hs0] at h2
    refine (h2.mono fun a u e => ?_).grow ((Grow.refl _).alloc _)
    unfold fr at e
    split at e
    · cases e
    · rename_i hn
      have hlt := World.block_lt_of_cell? w1 a e
      rw [hs0] at hn
      unfold hmem
      rw [fr_new (by omega)]
      · exact ((Grow.refl w1).alloc _).sub _ _ e
      · simp only [List.mem_cons, List.not_mem_nil, or_false, not_or]
        refine ⟨fun e => hn (.inr (by simp [e])), by simp [Value.ownBlock], by simp [Value.ownBlock], fun e => ?_, fun e => ?_⟩
        · have := Option.some.inj e; exact hn (.inl (by omega))
        · have := Option.some.inj e; omega
  case round =>
    obtain ⟨k, h, vr, vd, hk', rfl, hfold, hbox, hok⟩ := hrel
    obtain ⟨ar, cr, rfl⟩ := hbox.ready.form
    obtain ⟨ad, cd, rfl⟩ := owns_form hbox.done
    have HFD := Lib.hid hfold
    have HBX := Lib.hid hbox
    have HOK0 := Lib.hid hok
    have z3 := hbox.size
    have z4 : w1.heap.size < wr.heap.size := by omega
    by_cases hlt : k < l.length
    · obtain ⟨gl, cs, rfl, ⟨vp, rfl, i0, i1, hP⟩, hA⟩ := hbox.log.get (by decide) k hlt
      have hP' := hP.mono (fr_sub _ _ _)
      obtain ⟨ap, cp, rfl, -⟩ := id hP'
      have c0 := hA 0 _ rfl
      have c1 := hA 1 _ rfl
      have c2 := hA 2 _ rfl
      simp only [Nat.add_zero, Ty.rc] at c0 c1 c2
      have htk : (l.take (k + 1)).foldl refStep ⟨l, ⟨0, 0, 0, 0⟩, [], []⟩ = refStep h l[k] := by rw [List.take_succ_eq_append_getElem hlt, List.foldl_append, HFD.out]; rfl
      have HTK := Lib.hid htk
      have hkk := HK.out l[k] (List.getElem_mem _)
      have hpl := HP.out l[k] (List.getElem_mem _)
      have HCL := Lib.hid (fun (W : World) (hW : Grow wr W) => clone_pt W (hP'.mono hW.sub) hpl)
      have HI := Lib.hid (And.intro i0 (And.intro i1 (Pts.ok (c := wr.cell?) hP')))
      have HRDY := Lib.hid (fun (W : World) (hW : Grow wr W) => log_ready (d := l[k].deed) W ((hbox.ready.sl (by decide) (fr_sub _ _ _)).mono hW.sub))
      have HOK1 := Lib.hid (hok_step hok i1 hkk)
      have HRL : Hid (h.ready.length < 3518437208883) := Lib.hid (by have := hok.ready; have := HM.out; omega)
      have HDL : Hid (h.done.length < 3518437208883) := Lib.hid (by have := hok.done; have := HM.out; omega)
      have HINT := Lib.hid hok.ints
      have HKEYS := Lib.hid hok.keys
      have HLT : Hid (∀ q, (Value.slice ar h.ready.length cr).ownBlock = some q → q < wr.heap.size) := fun q hq => (hbox.ready.lt q hq).2
      have HLD : Hid (∀ q, (Value.slice ad h.done.length cd).ownBlock = some q → q < wr.heap.size) := fun q hq => (hbox.done.lt q hq).2
      have HSZ := Lib.hid z3
      clear hfold hok htk hkk hpl hP hP' hA i0 i1 hbox
      generalize l[k] = r at *
      obtain ⟨s0, s1, s2, s3, s4, s5, s6⟩ := cells7 HBX.out.row
      go_wp2_with fail
      refine (HRDY.out _ ((Grow.refl _).alloc _)).mono ?_
      rintro e w2 ⟨rfl, hb2⟩
      have HG2 : Hid (Grow wr w2) := Lib.hid (((Grow.refl wr).alloc _).trans hb2)
      have HB2 := Lib.hid (HBX.out.later HG2.out)
      have HR5 := Lib.hid (row_grow (row_new wr (.cells #[.int .i64 r.kind, .int .i64 r.deed, .slice ap r.parts.length cp] 48)) hb2)
      clear hb2 s0 s1 s2 s3 s4 s5 s6 c0 c1 c2
      obtain ⟨s0, s1, s2, s3, s4, s5, s6⟩ := cells7 HB2.out.row
      obtain ⟨q0, q1, q2⟩ := cells3 HR5.out
      have s9 : w1.heap.size < w2.heap.size := (Array.getElem?_eq_some_iff.1 HB2.out.row).1
      have q9 : wr.heap.size < w2.heap.size := (Array.getElem?_eq_some_iff.1 HR5.out).1
      cases hix : h.ready.findIdx? (isD r.deed) with
      | none =>
        have hid : idxOf (isD r.deed) h.ready = -1 := by unfold idxOf; rw [hix]
        have hst := step_idx_none hix
        rw [hid]
        clear hix hid
        by_cases k1 : r.kind = 1
        · have b1 : (r.kind == 1) = true := by simp [k1]
          rw [if_pos k1] at hst
          have HFO := Lib.hid (HTK.out.trans hst)
          have HOK := Lib.hid (hst ▸ HOK1.out)
          clear hst k1
          have l3 : w1.heap.size < w2.heap.size := by have := HB2.out.size; omega
          have l5 : wr.heap.size < w2.heap.size := (Array.getElem?_eq_some_iff.1 HR5.out).1
          have n3 : (Value.slice ar h.ready.length cr).ownBlock ≠ some w1.heap.size := fun e => by have := (HB2.out.ready.lt _ e).1; omega
          have n5 : (Value.slice ar h.ready.length cr).ownBlock ≠ some wr.heap.size := fun e => by have := HLT.out _ e; omega
          have HS : Hid (∀ W, w2.grownBy W (Value.slice ar h.ready.length cr).ownBlock → W.cell? ⟨w1.heap.size, 5, none⟩ = some (.slice ar h.ready.length cr) ∧ W.cell? ⟨wr.heap.size, 1, none⟩ = some (.int .i64 r.deed) ∧ W.cell? ⟨wr.heap.size, 2, none⟩ = some (.slice ap r.parts.length cp)) := fun W hW => ⟨by rw [World.cell?_of_block (hW.block w1.heap.size l3 (fun e => n3 e.symm))]; exact s5, by rw [World.cell?_of_block (hW.block wr.heap.size l5 (fun e => n5 e.symm))]; exact q1, by rw [World.cell?_of_block (hW.block wr.heap.size l5 (fun e => n5 e.symm))]; exact q2⟩
          go_wp2
          clear s0 s1 s2 s3 s4 s5 s6 q0 q1 q2
          refine but_start (fun w' => w'.cell? ⟨w1.heap.size, 5, none⟩ = some (.slice ar h.ready.length cr) ∧ w'.cell? ⟨wr.heap.size, 1, none⟩ = some (.int .i64 r.deed) ∧ w'.cell? ⟨wr.heap.size, 2, none⟩ = some (.slice ap r.parts.length cp)) 11 (by kernel_rfl) ?_
          obtain ⟨wd, hWd⟩ : ∃ x : World, x = w2.drew := ⟨_, rfl⟩
          rw [← hWd]
          have GD : Grow w2 wd := by rw [hWd]; exact (Grow.refl _).drew
          have zD : w2.heap.size = wd.heap.size := by rw [hWd]; rfl
          have ZD := Lib.hid zD
          clear hWd zD
          refine but_take (i := 0) (v := ?_) 8 rfl (by kernel_rfl) (by kernel_rfl) (by kernel_rfl) (by kernel_rfl) (by kernel_rfl) (fun _ _ _ h => h) (HS.out _ (grownBy_of_grow GD _)) (Or.inl ⟨by rfl, ?_⟩) ?_
          rotate_left
          · (intro w' hSw; (try dsimp only at hSw); obtain ⟨hs0, hs1, hs2⟩ := hSw; go_simp <;> with_reducible rfl)
          try simp only [Act.put, List.getElem_toArray, List.getElem_cons_zero, List.setIfInBounds_toArray, List.set_cons_zero, List.set_cons_succ]
          refine but_take (i := 1) (v := ?_) 8 rfl (by kernel_rfl) (by kernel_rfl) (by kernel_rfl) (by kernel_rfl) (by kernel_rfl) (fun _ _ _ h => h) (HS.out _ (grownBy_of_grow GD _)) (Or.inl ⟨by rfl, ?_⟩) ?_
          rotate_left
          · (intro w' hSw; (try dsimp only at hSw); obtain ⟨hs0, hs1, hs2⟩ := hSw; go_simp <;> with_reducible rfl)
          try simp only [Act.put, List.getElem_toArray, List.getElem_cons_succ, List.getElem_cons_zero, List.setIfInBounds_toArray, List.set_cons_zero, List.set_cons_succ]
          refine but_take (i := 2) (v := ?_) 8 rfl (by kernel_rfl) (by kernel_rfl) (by kernel_rfl) (by kernel_rfl) (by kernel_rfl) (fun _ _ _ h => h) (HS.out _ (grownBy_of_grow GD _)) (Or.inl ⟨by rfl, ?_⟩) ?_
          rotate_left
          · (intro w' hSw; (try dsimp only at hSw); obtain ⟨hs0, hs1, hs2⟩ := hSw; go_simp <;> with_reducible rfl)
          try simp only [Act.put, List.getElem_toArray, List.getElem_cons_succ, List.getElem_cons_zero, List.setIfInBounds_toArray, List.set_cons_zero, List.set_cons_succ]
          refine but_take (i := 3) (v := ?_) 8 rfl (by kernel_rfl) (by kernel_rfl) (by kernel_rfl) (by kernel_rfl) (by kernel_rfl) (fun _ _ _ h => h) (HS.out _ (grownBy_of_grow GD _)) (Or.inl ⟨by rfl, ?_⟩) ?_
          rotate_left
          · (intro w' hSw; (try dsimp only at hSw); obtain ⟨hs0, hs1, hs2⟩ := hSw; go_simp <;> with_reducible rfl)
          try simp only [Act.put, List.getElem_toArray, List.getElem_cons_succ, List.getElem_cons_zero, List.setIfInBounds_toArray, List.set_cons_zero, List.set_cons_succ]
          refine but_take (i := 4) (v := ?_) 8 rfl (by kernel_rfl) (by kernel_rfl) (by kernel_rfl) (by kernel_rfl) (by kernel_rfl) (fun _ _ _ h => h) (HS.out _ (grownBy_of_grow GD _)) (Or.inl ⟨by rfl, ?_⟩) ?_
          rotate_left
          · (intro w' hSw; (try dsimp only at hSw); obtain ⟨hs0, hs1, hs2⟩ := hSw; go_simp <;> with_reducible rfl)
          try simp only [Act.put, List.getElem_toArray, List.getElem_cons_succ, List.getElem_cons_zero, List.setIfInBounds_toArray, List.set_cons_zero, List.set_cons_succ]
          refine but_take (i := 5) (v := ?_) 8 rfl (by kernel_rfl) (by kernel_rfl) (by kernel_rfl) (by kernel_rfl) (by kernel_rfl) (fun _ _ _ h => h) (HS.out _ (grownBy_of_grow GD _)) (Or.inl ⟨by rfl, ?_⟩) ?_
          rotate_left
          · (intro w' hSw; (try dsimp only at hSw); obtain ⟨hs0, hs1, hs2⟩ := hSw; go_simp <;> with_reducible rfl)
          try simp only [Act.put, List.getElem_toArray, List.getElem_cons_succ, List.getElem_cons_zero, List.setIfInBounds_toArray, List.set_cons_zero, List.set_cons_succ]
          refine but_one (i := 6) (by kernel_rfl) rfl ?_
          intro K HK'
          have HK := Lib.hid HK'
          clear HK'
          skip
          try simp only [List.getElem_toArray, List.getElem_cons_succ, List.getElem_cons_zero]
          go_simp
          go_at_call 122
          refine (HCL.out _ (HG2.out.trans GD)).mono ?_
          rintro e w3 ⟨v3, rfl, ho3, hb3⟩
          obtain ⟨a3, c3, rfl⟩ := owns_form ho3
          have HO3 := Lib.hid ho3
          have G3 := GD.trans hb3
          clear ho3 hb3
          refine HK.out _ _ ⟨fun _ => HS.out _ (grownBy_of_grow G3 _), ?_⟩
          clear HK K
          try simp only [Act.put, List.getElem_toArray, List.getElem_cons_succ, List.getElem_cons_zero, List.setIfInBounds_toArray, List.set_cons_zero, List.set_cons_succ]
          refine but_one (i := 7) (by kernel_rfl) rfl ?_
          intro K HK'
          have HK := Lib.hid HK'
          clear HK'
          skip
          try simp only [List.getElem_toArray, List.getElem_cons_succ, List.getElem_cons_zero]
          go_simp
          refine HK.out _ _ ⟨fun _ => HS.out _ (grownBy_of_grow G3 _), ?_⟩
          clear HK K
          try simp only [Act.put, List.getElem_toArray, List.getElem_cons_succ, List.getElem_cons_zero, List.setIfInBounds_toArray, List.set_cons_zero, List.set_cons_succ]
          refine but_one (i := 8) (by kernel_rfl) rfl ?_
          intro K HK'
          have HK := Lib.hid HK'
          clear HK'
          skip
          try simp only [List.getElem_toArray, List.getElem_cons_succ, List.getElem_cons_zero]
          go_simp
          refine HK.out _ _ ⟨fun _ => HS.out _ (grownBy_of_grow (G3.alloc _) _), ?_⟩
          clear HK K
          try simp only [Act.put, List.getElem_toArray, List.getElem_cons_succ, List.getElem_cons_zero, List.setIfInBounds_toArray, List.set_cons_zero, List.set_cons_succ]
          refine but_one (i := 9) (by kernel_rfl) rfl ?_
          intro K HK'
          have HK := Lib.hid HK'
          clear HK'
          refine wanted_go rfl ?_
          try simp only [List.getElem_toArray, List.getElem_cons_succ, List.getElem_cons_zero]
          have bA := HB2.out.later (w' := (w3.alloc (.cells #[.int .i64 r.deed, .slice a3 r.parts.length c3] 45))) (G3.alloc _)
          have hR9 : Ty.rd.R (hmem w w1 (w3.alloc (.cells #[.int .i64 r.deed, .slice a3 r.parts.length c3] 45)) (.slice (some ⟨gl, 0, none⟩) l.length cl) (.slice ar h.ready.length cr) (.slice ad h.done.length cd)) (#[.int .i64 r.deed, .slice a3 r.parts.length c3] : Array Value).toList ⟨r.deed, r.parts⟩ := by
            refine ⟨_, rfl, HI.out.2.1, pts_fr (w1 := wd) ((HO3.out).kept (grownBy_of_grow ((Grow.refl _).alloc _) none) (by cases (Value.slice a3 r.parts.length c3).ownBlock <;> simp)) HI.out.2.2 (by have := HB2.out.grow.size; have := GD.size; omega) fun q hq => ?_⟩
            have z1 := HB2.out.ready.lt
            have z2 := HB2.out.log.lt
            have z3 := HB2.out.done.lt
            have z4 := HB2.out.size
            have z5 := HB2.out.w1
            have z6 := GD.size
            simp only [List.mem_cons, List.not_mem_nil, or_false, not_or]
            exact ⟨fun e => by have := (z2 q e.symm).2; omega, fun e => by have := (z1 q e.symm).2; omega, fun e => by have := (z3 q e.symm).2; omega, fun e => by have := Option.some.inj e; omega, fun e => by have := Option.some.inj e; omega⟩
          have HR9 := Lib.hid hR9
          have HBA := Lib.hid bA
          clear hR9 bA
          refine wp_appc (c := (hmem w w1 (w3.alloc (.cells #[.int .i64 r.deed, .slice a3 r.parts.length c3] 45)) (.slice (some ⟨gl, 0, none⟩) l.length cl) (.slice ar h.ready.length cr) (.slice ad h.done.length cd))) (base := w1.heap.size + 1) (l := h.ready) (m := [⟨r.deed, r.parts⟩]) ei_rd rfl one_Trd (by decide) (.tmp 31) (.tmp 38) rfl rfl HBA.out.ready rfl (Src.of_new (T := Ty.rd) (cs := #[.int .i64 r.deed, .slice a3 r.parts.length c3]) HR9.out _ _ rfl) (by have := HRL.out; simp; omega) HBA.out.size ?_
          intro a9 c9 w9 ho9 hg9 hb9
          have HO9 := Lib.hid ho9
          have HG9 := Lib.hid hg9
          have HB9 := Lib.hid hb9
          have GB9 := Lib.hid (grownBy_trans (grownBy_of_grow (G3.alloc _) _) hg9)
          obtain ⟨t5, -, -⟩ := HS.out _ GB9.out
          have tf : ∀ o, w9.frozen? ⟨w1.heap.size, o, none⟩ = false := row_free (row_by HBA.out.row hg9 (fun e => n3 e.symm))
          have t9 : w1.heap.size < w9.heap.size := World.block_lt_of_cell? w9 _ t5
          clear ho9 hg9 hb9
          refine HK.out _ _ ⟨fun _ => HS.out _ GB9.out, ?_⟩
          clear HK K
          try simp only [Act.put, List.setIfInBounds_toArray, List.set_cons_zero, List.set_cons_succ]
          refine but_one (i := 10) (by kernel_rfl) rfl ?_
          intro K HK'
          have HK := Lib.hid HK'
          clear HK'
          skip
          try simp only [List.getElem_toArray, List.getElem_cons_succ, List.getElem_cons_zero]
          go_simp
          refine HK.out _ _ ⟨fun _ => HS.out _ GB9.out, ?_⟩
          clear HK K
          try simp only [Act.put, List.getElem_toArray, List.getElem_cons_succ, List.getElem_cons_zero, List.setIfInBounds_toArray, List.set_cons_zero, List.set_cons_succ]
          refine but_one (i := 11) (by kernel_rfl) rfl ?_
          intro K HK'
          have HK := Lib.hid HK'
          clear HK'
          skip
          try simp only [List.getElem_toArray, List.getElem_cons_succ, List.getElem_cons_zero]
          go_simp
          refine HK.out _ _ ⟨fun h => absurd rfl h, ?_⟩
          clear HK K
          try simp only [Act.put, List.getElem_toArray, List.getElem_cons_succ, List.getElem_cons_zero, List.setIfInBounds_toArray, List.set_cons_zero, List.set_cons_succ]
          refine but_done (by kernel_rfl) ?_
          have HX := LBox.appR HB2.out (G3.alloc _) HO9.out HG9.out (HB9.out.imp_right fun ⟨g, e, hge⟩ => ⟨g, e, by simpa using hge⟩)
          go_wp2
          go_roundw
          case rel => exact ⟨k + 1, _, _, _, by omega, by go_num, HFO.out, HX.1, HOK.out⟩
          case measure => simp [intOf]; omega
        · rw [if_neg k1] at hst
          have HFO := Lib.hid (HTK.out.trans hst)
          have HOK := Lib.hid (hst ▸ HOK1.out)
          have b1 : (r.kind == 1) = false := by simp [k1]
          clear hst
          by_cases k2 : r.kind = 2
          · have b2 : (r.kind == 2) = true := by simp [k2]
            have b3 : (r.kind == 3) = false := by simp [k2]
            clear k1 k2
            go_wp2
            go_roundw
            case rel => exact ⟨k + 1, _, _, _, by omega, by go_num, HFO.out, HB2.out, HOK.out⟩
            case measure => simp [intOf]; omega
          · have b2 : (r.kind == 2) = false := by simp [k2]
            by_cases k3 : r.kind = 3
            · have b3 : (r.kind == 3) = true := by simp [k3]
              clear k1 k2 k3
              go_wp2
              go_roundw
              case rel => exact ⟨k + 1, _, _, _, by omega, by go_num, HFO.out, HB2.out, HOK.out⟩
              case measure => simp [intOf]; omega
            · have b3 : (r.kind == 3) = false := by simp [k3]
              clear k1 k2 k3
              go_wp2
              go_roundw
              case rel => exact ⟨k + 1, _, _, _, by omega, by go_num, HFO.out, HB2.out, HOK.out⟩
              case measure => simp [intOf]; omega
      | some i =>
        have hid : idxOf (isD r.deed) h.ready = (i : Int) := by unfold idxOf; rw [hix]
        obtain ⟨hi, hst⟩ := step_idx_some hix
        rw [hid]
        clear hix hid
        obtain ⟨gr, csx, rfl, ⟨vx, rfl, -, hX⟩, hAx⟩ := HB2.out.ready.get (by decide) i hi
        have hX' := hX.mono (fr_sub _ _ _)
        obtain ⟨ax, cx, rfl, -⟩ := id hX'
        have x1 := hAx 1 _ rfl
        simp only [Ty.rd] at x1
        have HDO := Lib.hid (fun (W : World) (hW : Grow w2 W) => part_do (s := h.sums) W (hX'.mono hW.sub) (HKEYS.out _ (List.getElem_mem hi)))
        have HII := Lib.hid hi
        have hib : i < 3518437208883 := by have := HRL.out; omega
        have gr9 : gr < w2.heap.size := World.block_lt_of_cell? w2 _ x1
        clear hX hX' hAx
        by_cases k2 : r.kind = 2
        · have b1 : (r.kind == 1) = false := by simp [k2]
          have b2 : (r.kind == 2) = true := by simp [k2]
          rw [if_pos k2] at hst
          have HFO := Lib.hid (HTK.out.trans hst)
          have HOK := Lib.hid (hst ▸ HOK1.out)
          clear hst k2
          generalize h.ready[i] = x at *
          have HS : Hid (∀ W, Grow w2 W → W.cell? ⟨w1.heap.size, 1, none⟩ = some (.int .i64 h.sums.a) ∧ W.cell? ⟨w1.heap.size, 2, none⟩ = some (.int .i64 h.sums.b) ∧ W.cell? ⟨w1.heap.size, 3, none⟩ = some (.int .i64 h.sums.c) ∧ W.cell? ⟨w1.heap.size, 4, none⟩ = some (.int .i64 h.sums.d) ∧ W.cell? ⟨w1.heap.size, 5, none⟩ = some (.slice (some ⟨gr, 0, none⟩) h.ready.length cr) ∧ W.cell? ⟨gr, i * 2 + 1, none⟩ = some (.slice ax x.parts.length cx)) := fun W hW => ⟨hW.sub _ _ s1, hW.sub _ _ s2, hW.sub _ _ s3, hW.sub _ _ s4, hW.sub _ _ s5, hW.sub _ _ x1⟩
          go_wp2
          clear s0 s1 s2 s3 s4 s5 s6 q0 q1 q2
          refine but_start (fun w' => w'.cell? ⟨w1.heap.size, 1, none⟩ = some (.int .i64 h.sums.a) ∧ w'.cell? ⟨w1.heap.size, 2, none⟩ = some (.int .i64 h.sums.b) ∧ w'.cell? ⟨w1.heap.size, 3, none⟩ = some (.int .i64 h.sums.c) ∧ w'.cell? ⟨w1.heap.size, 4, none⟩ = some (.int .i64 h.sums.d) ∧ w'.cell? ⟨w1.heap.size, 5, none⟩ = some (.slice (some ⟨gr, 0, none⟩) h.ready.length cr) ∧ w'.cell? ⟨gr, i * 2 + 1, none⟩ = some (.slice ax x.parts.length cx)) 10 (by kernel_rfl) ?_
          obtain ⟨wd, hWd⟩ : ∃ x : World, x = w2.drew := ⟨_, rfl⟩
          rw [← hWd]
          have GD : Grow w2 wd := by rw [hWd]; exact (Grow.refl _).drew
          have zD : w2.heap.size = wd.heap.size := by rw [hWd]; rfl
          have ZD := Lib.hid zD
          clear hWd zD
          refine but_take (i := 0) (v := ?_) 8 rfl (by kernel_rfl) (by kernel_rfl) (by kernel_rfl) (by kernel_rfl) (by kernel_rfl) (fun _ _ _ h => h) (HS.out _ GD) (Or.inl ⟨by rfl, ?_⟩) ?_
          rotate_left
          · (intro w' hSw; (try dsimp only at hSw); obtain ⟨hs0, hs1, hs2, hs3, hs4, hs5⟩ := hSw; go_simp <;> with_reducible rfl)
          try simp only [Act.put, List.getElem_toArray, List.getElem_cons_zero, List.setIfInBounds_toArray, List.set_cons_zero, List.set_cons_succ]
          refine but_take (i := 1) (v := ?_) 8 rfl (by kernel_rfl) (by kernel_rfl) (by kernel_rfl) (by kernel_rfl) (by kernel_rfl) (fun _ _ _ h => h) (HS.out _ GD) (Or.inl ⟨by rfl, ?_⟩) ?_
          rotate_left
          · (intro w' hSw; (try dsimp only at hSw); obtain ⟨hs0, hs1, hs2, hs3, hs4, hs5⟩ := hSw; go_simp <;> with_reducible rfl)
          try simp only [Act.put, List.getElem_toArray, List.getElem_cons_succ, List.getElem_cons_zero, List.setIfInBounds_toArray, List.set_cons_zero, List.set_cons_succ]
          refine but_take (i := 2) (v := ?_) 8 rfl (by kernel_rfl) (by kernel_rfl) (by kernel_rfl) (by kernel_rfl) (by kernel_rfl) (fun _ _ _ h => h) (HS.out _ GD) (Or.inl ⟨by rfl, ?_⟩) ?_
          rotate_left
          · (intro w' hSw; (try dsimp only at hSw); obtain ⟨hs0, hs1, hs2, hs3, hs4, hs5⟩ := hSw; go_simp <;> with_reducible rfl)
          try simp only [Act.put, List.getElem_toArray, List.getElem_cons_succ, List.getElem_cons_zero, List.setIfInBounds_toArray, List.set_cons_zero, List.set_cons_succ]
          refine but_take (i := 3) (v := ?_) 8 rfl (by kernel_rfl) (by kernel_rfl) (by kernel_rfl) (by kernel_rfl) (by kernel_rfl) (fun _ _ _ h => h) (HS.out _ GD) (Or.inl ⟨by rfl, ?_⟩) ?_
          rotate_left
          · (intro w' hSw; (try dsimp only at hSw); obtain ⟨hs0, hs1, hs2, hs3, hs4, hs5⟩ := hSw; go_simp <;> with_reducible rfl)
          try simp only [Act.put, List.getElem_toArray, List.getElem_cons_succ, List.getElem_cons_zero, List.setIfInBounds_toArray, List.set_cons_zero, List.set_cons_succ]
          refine but_take (i := 4) (v := ?_) 8 rfl (by kernel_rfl) (by kernel_rfl) (by kernel_rfl) (by kernel_rfl) (by kernel_rfl) (fun _ _ _ h => h) (HS.out _ GD) (Or.inl ⟨by rfl, ?_⟩) ?_
          rotate_left
          · (intro w' hSw; (try dsimp only at hSw); obtain ⟨hs0, hs1, hs2, hs3, hs4, hs5⟩ := hSw; go_simp <;> with_reducible rfl)
          try simp only [Act.put, List.getElem_toArray, List.getElem_cons_succ, List.getElem_cons_zero, List.setIfInBounds_toArray, List.set_cons_zero, List.set_cons_succ]
          refine but_take (i := 5) (v := ?_) 8 rfl (by kernel_rfl) (by kernel_rfl) (by kernel_rfl) (by kernel_rfl) (by kernel_rfl) (fun _ _ _ h => h) (HS.out _ GD) (Or.inl ⟨by rfl, ?_⟩) ?_
          rotate_left
          · (intro w' hSw; (try dsimp only at hSw); obtain ⟨hs0, hs1, hs2, hs3, hs4, hs5⟩ := hSw; go_simp <;> with_reducible rfl)
          try simp only [Act.put, List.getElem_toArray, List.getElem_cons_succ, List.getElem_cons_zero, List.setIfInBounds_toArray, List.set_cons_zero, List.set_cons_succ]
          refine but_take (i := 6) (v := ?_) 8 rfl (by kernel_rfl) (by kernel_rfl) (by kernel_rfl) (by kernel_rfl) (by kernel_rfl) (fun _ _ _ h => h) (HS.out _ GD) (Or.inl ⟨by rfl, ?_⟩) ?_
          rotate_left
          · (intro w' hSw; (try dsimp only at hSw); obtain ⟨hs0, hs1, hs2, hs3, hs4, hs5⟩ := hSw; go_simp <;> with_reducible rfl)
          try simp only [Act.put, List.getElem_toArray, List.getElem_cons_succ, List.getElem_cons_zero, List.setIfInBounds_toArray, List.set_cons_zero, List.set_cons_succ]
          refine but_take (i := 7) (v := ?_) 8 rfl (by kernel_rfl) (by kernel_rfl) (by kernel_rfl) (by kernel_rfl) (by kernel_rfl) (fun _ _ _ h => h) (HS.out _ GD) (Or.inl ⟨by rfl, ?_⟩) ?_
          rotate_left
          · (intro w' hSw; (try dsimp only at hSw); obtain ⟨hs0, hs1, hs2, hs3, hs4, hs5⟩ := hSw; go_simp <;> with_reducible rfl)
          try simp only [Act.put, List.getElem_toArray, List.getElem_cons_succ, List.getElem_cons_zero, List.setIfInBounds_toArray, List.set_cons_zero, List.set_cons_succ]
          refine but_one (i := 8) (by kernel_rfl) rfl ?_
          intro K HK'
          have HK := Lib.hid HK'
          clear HK'
          skip
          try simp only [List.getElem_toArray, List.getElem_cons_succ, List.getElem_cons_zero]
          go_simp
          go_at_call 88
          refine (HDO.out _ GD).mono ?_
          rintro e w3 ⟨rfl, hb3⟩
          have G3 := GD.trans hb3
          clear hb3
          obtain ⟨u1, u2, u3, u4, -, -⟩ := HS.out _ G3
          have uf : ∀ o, w3.frozen? ⟨w1.heap.size, o, none⟩ = false := row_free (row_grow HB2.out.row G3)
          have u9 : w1.heap.size < w3.heap.size := World.block_lt_of_cell? w3 _ u1
          refine HK.out _ _ ⟨fun _ => HS.out _ G3, ?_⟩
          clear HK K
          try simp only [Act.put, List.getElem_toArray, List.getElem_cons_succ, List.getElem_cons_zero, List.setIfInBounds_toArray, List.set_cons_zero, List.set_cons_succ]
          refine but_one (i := 9) (by kernel_rfl) rfl ?_
          intro K HK'
          have HK := Lib.hid HK'
          clear HK'
          skip
          try simp only [List.getElem_toArray, List.getElem_cons_succ, List.getElem_cons_zero]
          go_simp
          refine HK.out _ _ ⟨fun _ => HS.out _ G3, ?_⟩
          clear HK K
          try simp only [Act.put, List.getElem_toArray, List.getElem_cons_succ, List.getElem_cons_zero, List.setIfInBounds_toArray, List.set_cons_zero, List.set_cons_succ]
          refine but_one (i := 10) (by kernel_rfl) rfl ?_
          intro K HK'
          have HK := Lib.hid HK'
          clear HK'
          skip
          try simp only [List.getElem_toArray, List.getElem_cons_succ, List.getElem_cons_zero]
          go_simp
          refine HK.out _ _ ⟨fun h => absurd rfl h, ?_⟩
          clear HK K
          try simp only [Act.put, List.getElem_toArray, List.getElem_cons_succ, List.getElem_cons_zero, List.setIfInBounds_toArray, List.set_cons_zero, List.set_cons_succ]
          refine but_done (by kernel_rfl) ?_
          obtain ⟨bs, cs4⟩ := LBox.sum (s := doP h.sums x.parts) HB2.out G3
          have r5 : ((((w3.setCell ⟨w1.heap.size, 1, none⟩ (.int .i64 (doP h.sums x.parts).a)).setCell ⟨w1.heap.size, 2, none⟩ (.int .i64 (doP h.sums x.parts).b)).setCell ⟨w1.heap.size, 3, none⟩ (.int .i64 (doP h.sums x.parts).c)).setCell ⟨w1.heap.size, 4, none⟩ (.int .i64 (doP h.sums x.parts).d)).heap[wr.heap.size]? = some (.cells #[.int .i64 r.kind, .int .i64 r.deed, .slice ap r.parts.length cp] 48 (0, 0)) := by rw [cs4.block _ (Array.getElem?_eq_some_iff.1 HR5.out).1 (by have := HB2.out.size; have := HSZ.out; omega) (fun e => by have := HLT.out _ e; omega) (fun e => by have := HLD.out _ e; omega)]; exact HR5.out
          clear u1 u2 u3 u4 uf u9
          generalize ((((w3.setCell ⟨w1.heap.size, 1, none⟩ (.int .i64 (doP h.sums x.parts).a)).setCell ⟨w1.heap.size, 2, none⟩ (.int .i64 (doP h.sums x.parts).b)).setCell ⟨w1.heap.size, 3, none⟩ (.int .i64 (doP h.sums x.parts).c)).setCell ⟨w1.heap.size, 4, none⟩ (.int .i64 (doP h.sums x.parts).d)) = w4 at *
          have HB4 := Lib.hid bs
          have HR54 := Lib.hid r5
          clear bs cs4 r5
          obtain ⟨s0, s1, s2, s3, s4, s5, s6⟩ := cells7 HB4.out.row
          have sf := row_free HB4.out.row
          have s9 : w1.heap.size < w4.heap.size := (Array.getElem?_eq_some_iff.1 HB4.out.row).1
          obtain ⟨q0, q1, q2⟩ := cells3 HR54.out
          have q9 : wr.heap.size < w4.heap.size := (Array.getElem?_eq_some_iff.1 HR54.out).1
          dsimp only at s0 s1 s2 s3 s4 s5 s6
          go_wp2_with (first | (at_builtin; refine wpList_appc (c := fun _ => none) (base := w1.heap.size + 1) (l := h.done) (m := [r.deed]) ei_int rfl one_Tint (by decide) rfl (.tmp 60) (.tmp 63) rfl rfl ?own rfl (Src.of_new (T := Ty.int) (cs := #[.int .i64 r.deed]) ⟨rfl, HI.out.2.1⟩ _ _ ?d1) ?d2 ?d3 ?_))
          case own => exact (OwnC.ints HB4.out.done HINT.out).grow ((Grow.refl _).alloc _)
          case d1 => rfl
          case d2 => have := HDL.out; simp; omega
          case d3 => have := HB4.out.size; simp; omega
          intro a5 c5 w5 ho5 hg5 hb5
          obtain ⟨bd, cd5⟩ := LBox.appD (x := r.deed) HB4.out ((Grow.refl w4).alloc (.cells #[.int .i64 r.deed] 3)) (ints_back ho5) hg5 (hb5.imp_right fun ⟨g, e, hge⟩ => ⟨g, e, by simpa using hge⟩)
          have HBD := Lib.hid bd
          have HCD := Lib.hid cd5
          have t6 : w5.heap[w1.heap.size]? = _ := row_by (row_grow HB4.out.row ((Grow.refl w4).alloc (.cells #[.int .i64 r.deed] 3))) hg5 (fun e => by have := (HB4.out.done.lt _ e.symm).1; omega)
          clear bd cd5 s0 s1 s2 s3 s4 s5 s6 sf q0 q1 q2
          obtain ⟨s0, s1, s2, s3, s4, s5, s6⟩ := cells7 t6
          have sf := row_free t6
          have s8 : w1.heap.size < w5.heap.size := (Array.getElem?_eq_some_iff.1 t6).1
          dsimp only at s0 s1 s2 s3 s4 s5 s6
          clear t6 ho5 hg5 hb5
          go_wp2_with fail
          generalize w5.setCell ⟨w1.heap.size, 6, none⟩ (.slice a5 (h.done.length + 1) c5) = w6 at *
          obtain ⟨css, k1, k2, k3⟩ := HBD.out.ready
          have h1c : ∀ u ∈ css.flatten, u.oneCell' = true := by
            intro u hu
            obtain ⟨cs, hcs, huc⟩ := List.mem_flatten.1 hu
            obtain ⟨j, hj, rfl⟩ := List.mem_iff_getElem.1 hcs
            exact one_Trd _ _ _ (k3 j css[j] _ (by simp) (List.getElem?_eq_getElem (by omega))) u huc
          have HK1 := Lib.hid k1
          have HK2 := Lib.hid k2
          have HK3 := Lib.hid k3
          have H1C := Lib.hid h1c
          clear k1 k2 k3 h1c
          refine (delete_rd (i := i) HK1.out HII.out H1C.out).mono ?_
          rintro e w7 ⟨rfl, ho7, hg7⟩
          have t7 := row_by HBD.out.row hg7 (fun e => by have := (HBD.out.ready.lt gr rfl).1; have := Option.some.inj e; omega)
          obtain ⟨u0, u1, u2, u3, u4, u5, u6⟩ := cells7 t7
          have uf := row_free t7
          have u9 : w1.heap.size < w7.heap.size := (Array.getElem?_eq_some_iff.1 t7).1
          have HX := Lib.hid (LBox.delR (h := { h with sums := doP h.sums x.parts, done := h.done ++ [r.deed] }) HBD.out (Grow.refl _) HII.out HK2.out HK3.out ho7 hg7)
          clear t7 ho7 hg7
          go_wp2
          go_roundw
          case rel => exact ⟨k + 1, _, _, _, by omega, by go_num, HFO.out, HX.out.1, HOK.out⟩
          case measure => simp [intOf]; omega
        · have b2 : (r.kind == 2) = false := by simp [k2]
          rw [if_neg k2] at hst
          by_cases k3 : r.kind = 3
          · have b1 : (r.kind == 1) = false := by simp [k3]
            have b3 : (r.kind == 3) = true := by simp [k3]
            rw [if_pos k3] at hst
            have HFO := Lib.hid (HTK.out.trans hst)
            have HOK := Lib.hid (hst ▸ HOK1.out)
            clear hst k2 k3
            go_wp2_with fail
            obtain ⟨css, k1, k2, k3⟩ := HB2.out.ready
            have h1c : ∀ u ∈ css.flatten, u.oneCell' = true := by
              intro u hu
              obtain ⟨cs, hcs, huc⟩ := List.mem_flatten.1 hu
              obtain ⟨j, hj, rfl⟩ := List.mem_iff_getElem.1 hcs
              exact one_Trd _ _ _ (k3 j css[j] _ (by simp) (List.getElem?_eq_getElem (by omega))) u huc
            have HK1 := Lib.hid k1
            have HK2 := Lib.hid k2
            have HK3 := Lib.hid k3
            have H1C := Lib.hid h1c
            clear k1 k2 k3 h1c
            refine (delete_rd (i := i) HK1.out HII.out H1C.out).mono ?_
            rintro e w7 ⟨rfl, ho7, hg7⟩
            have t7 := row_by HB2.out.row hg7 (fun e => by have := (HB2.out.ready.lt gr rfl).1; have := Option.some.inj e; omega)
            obtain ⟨u0, u1, u2, u3, u4, u5, u6⟩ := cells7 t7
            have uf := row_free t7
            have u9 : w1.heap.size < w7.heap.size := (Array.getElem?_eq_some_iff.1 t7).1
            have HX := Lib.hid (LBox.delR HB2.out (Grow.refl _) HII.out HK2.out HK3.out ho7 hg7)
            clear t7 ho7 hg7
            go_wp2
            go_roundw
            case rel => exact ⟨k + 1, _, _, _, by omega, by go_num, HFO.out, HX.out.1, HOK.out⟩
            case measure => simp [intOf]; omega
          · have b3 : (r.kind == 3) = false := by simp [k3]
            rw [if_neg k3] at hst
            have HFO := Lib.hid (HTK.out.trans hst)
            have HOK := Lib.hid (hst ▸ HOK1.out)
            by_cases k1 : r.kind = 1
            · have b1 : (r.kind == 1) = true := by simp [k1]
              clear hst k1 k2 k3
              go_wp2
              go_roundw
              case rel => exact ⟨k + 1, _, _, _, by omega, by go_num, HFO.out, HB2.out, HOK.out⟩
              case measure => simp [intOf]; omega
            · have b1 : (r.kind == 1) = false := by simp [k1]
              clear hst k1 k2 k3
              go_wp2
              go_roundw
              case rel => exact ⟨k + 1, _, _, _, by omega, by go_num, HFO.out, HB2.out, HOK.out⟩
              case measure => simp [intOf]; omega
    · have HH : Hid (h = houseR l) := by show h = _; rw [← HFD.out, List.take_of_length_le (by omega)]; rfl
      obtain ⟨s0, s1, s2, s3, s4, s5, s6⟩ := cells7 hbox.row
      clear hfold hok hbox
      go_wp2_with (first | (refine wpList_store_row rfl (.tmp 2) (.tmp 89) rfl rfl rfl HBX.out.res info_hs rfl rfl ?_))
      intro wf r2 g2
      obtain ⟨p0, p1, p2, p3, p4, p5, p6⟩ := cells7 r2
      have pf := row_free r2
      clear s0 s1 s2 s3 s4 s5 s6
      go_wp2
      refine bodyPost_ret (v := .agg #[.slice al l.length cl, .int .i64 h.sums.a, .int .i64 h.sums.b, .int .i64 h.sums.c, .int .i64 h.sums.d, .slice ar h.ready.length cr, .slice ad h.done.length cd]) (by simp [results, Try.results36, go_sem, p0, p1, p2, p3, p4, p5, p6]) rfl ?_
      have hlog : h.log = l := by rw [HH.out]; exact log_house l
      have sub : Sub (hmem w w1 wr (.slice al l.length cl) (.slice ar h.ready.length cr) (.slice ad h.done.length cd)) (ov (fun _ => none) w wf) := fun a u e => by
        unfold hmem fr at e
        split at e
        · cases e
        · rename_i hn
          have hne : a.block ≠ w.heap.size := fun e => hn (.inr (by simp [e]))
          rw [ov_new (by omega), by_cell g2 (World.block_lt_of_cell? wr a e) hne]
          exact e
      have hb : ∀ k, w.heap.size + 1 ≤ k → k < wr.heap.size → wf.heap[k]? = wr.heap[k]? := fun k h1 h2 => g2.block k h2 (by simp; omega)
      have hw1 := HBX.out.w1
      have e1 := ((HBX.out.log.mono sub).block fun k hk => hb k (HBX.out.log.lt k hk).1 (HBX.out.log.lt k hk).2).slc (by decide) (Sub.refl _) fun a ha => ov_new (by omega)
      have e2 := ((HBX.out.ready.mono sub).block fun k hk => hb k (by have := (HBX.out.ready.lt k hk).1; omega) (HBX.out.ready.lt k hk).2).slc (by decide) (Sub.refl _) fun a ha => ov_new (by omega)
      have e3 := (OwnC.ints (c := ov (fun _ => none) w wf) (owns_block HBX.out.done fun k hk => hb k (by have := (HBX.out.done.lt k hk).1; omega) (HBX.out.done.lt k hk).2) HOK0.out.ints).slc (by decide) (Sub.refl _) fun a ha => ov_new (by omega)
      have hs := HOK0.out.sums
      rw [← HH.out]
      refine ⟨_, rfl, ⟨_, rfl, _, _, _, rfl, ?_, hs.1, hs.2.1, hs.2.2.1, hs.2.2.2, e2, e3⟩, HBX.out.grow.grown g2 (fun k hk => by simp at hk; omega)⟩
      rw [hlog]; exact e1
end Go.Proofs.Ytgbhpghgohggcaa

/- Walks: log.Note of the program. -/
namespace Go.Proofs.Ytgbhpghgohggcaa
open Go.RowKit
/-- an own row and a thing from elsewhere, in memory without the row -/
theorem frag_own {W0 w w' : World} {v : Value} (hg : Grow w w') : Sub (fr W0 w [v.ownBlock]) (frag w' v.ownBlock) := fun a u e => by
  unfold fr at e
  split at e
  · cases e
  · rename_i hn
    have h2 : some a.block ≠ v.ownBlock := fun e => hn (.inr (by simp [e]))
    unfold frag
    rw [if_neg h2]
    exact hg.sub _ _ e
theorem frag_app {w w' : World} {row : Option Nat} (hg : w.grownBy w' row) : Sub (frag w row) w'.cell? := fun a u e => by
  unfold frag at e
  split at e
  · cases e
  · rename_i hn
    rw [World.cell?_of_block (hg.block a.block (World.block_lt_of_cell? w a e) hn)]
    exact e
set_option maxRecDepth 100000 in
set_option maxHeartbeats 2000000 in
theorem wlog_note {v vr : Value} {h : Hs} {r : Rc} (w : World) (hv : Of Ty.hs w.cell? v h) (hr : Of Ty.rc w.cell? vr r) (hk : ∀ x ∈ h.log, KeysOk x.parts) (hkr : KeysOk r.parts) (hm : (h.log.length + 1) * 40 ≤ 140737488351232)
    (hp : ∀ x ∈ h.log, x.parts.length * 24 ≤ 140737488355328) (hpr : r.parts.length * 24 ≤ 140737488355328) :
    Calls Try.prog 38 #[v, vr] w fun e w' => ∃ v', e = .returned v' ∧ Of Ty.hs (ov (fun _ => none) w w') v' (noteE h r) ∧ Grow w w' := by
  obtain ⟨al, cl, ar, cr, ad, cd, rfl⟩ := hv.hs_form
  obtain ⟨ap, cp, rfl⟩ := hr.rc_form
  have hl := (Of.hs_log hv).1
  have hr3 : Ty.rc.R w.cell? #[.int .i64 r.kind, .int .i64 r.deed, .slice ap r.parts.length cp].toList r := Of.cells hr
  have HR := Lib.hid hr3
  have HOWN := Lib.hid (fun (W : World) (hW : Grow w W) => log_own W (hl.mono hW.sub) (by omega) hp)
  have hkk : ∀ x ∈ h.log ++ [r], KeysOk x.parts := by
    intro x hx
    rcases List.mem_append.1 hx with hx | hx
    · exact hk x hx
    · rw [List.mem_singleton.1 hx]; exact hkr
  have hpp : ∀ x ∈ h.log ++ [r], x.parts.length * 24 ≤ 140737488355328 := by
    intro x hx
    rcases List.mem_append.1 hx with hx | hx
    · exact hp x hx
    · rw [List.mem_singleton.1 hx]; exact hpr
  have HHS := Lib.hid (fun (v' : Value) (W : World) (hv' : Rcs W.cell? v' (h.log ++ [r])) => wlog_house W hv' hkk (by simpa using hm) hpp)
  have HM := Lib.hid hm
  have HG0 : Hid (Grow w (((w.alloc (.cells #[.slice al h.log.length cl, .int .i64 h.sums.a, .int .i64 h.sums.b, .int .i64 h.sums.c, .int .i64 h.sums.d, .slice ar h.ready.length cr, .slice ad h.done.length cd] 29)).alloc (.cells #[.int .i64 r.kind, .int .i64 r.deed, .slice ap r.parts.length cp] 48)).alloc (.cells zrow 29))) := Lib.hid ((((Grow.refl w).alloc _).alloc _).alloc _)
  have HR2 : Hid ((((w.alloc (.cells #[.slice al h.log.length cl, .int .i64 h.sums.a, .int .i64 h.sums.b, .int .i64 h.sums.c, .int .i64 h.sums.d, .slice ar h.ready.length cr, .slice ad h.done.length cd] 29)).alloc (.cells #[.int .i64 r.kind, .int .i64 r.deed, .slice ap r.parts.length cp] 48)).alloc (.cells zrow 29)).heap[w.heap.size]? = some (.cells #[.slice al h.log.length cl, .int .i64 h.sums.a, .int .i64 h.sums.b, .int .i64 h.sums.c, .int .i64 h.sums.d, .slice ar h.ready.length cr, .slice ad h.done.length cd] 29 (0, 0))) := Lib.hid (heap_later (heap_later (row_new _ _) _) _)
  have HR3 : Hid ((((w.alloc (.cells #[.slice al h.log.length cl, .int .i64 h.sums.a, .int .i64 h.sums.b, .int .i64 h.sums.c, .int .i64 h.sums.d, .slice ar h.ready.length cr, .slice ad h.done.length cd] 29)).alloc (.cells #[.int .i64 r.kind, .int .i64 r.deed, .slice ap r.parts.length cp] 48)).alloc (.cells zrow 29)).heap[w.heap.size + 1]? = some (.cells #[.int .i64 r.kind, .int .i64 r.deed, .slice ap r.parts.length cp] 48 (0, 0))) := Lib.hid (heap_later (by simpa using row_new (w.alloc (.cells #[.slice al h.log.length cl, .int .i64 h.sums.a, .int .i64 h.sums.b, .int .i64 h.sums.c, .int .i64 h.sums.d, .slice ar h.ready.length cr, .slice ad h.done.length cd] 29)) _) _)
  have HR4 : Hid ((((w.alloc (.cells #[.slice al h.log.length cl, .int .i64 h.sums.a, .int .i64 h.sums.b, .int .i64 h.sums.c, .int .i64 h.sums.d, .slice ar h.ready.length cr, .slice ad h.done.length cd] 29)).alloc (.cells #[.int .i64 r.kind, .int .i64 r.deed, .slice ap r.parts.length cp] 48)).alloc (.cells zrow 29)).heap[w.heap.size + 1 + 1]? = some (.cells zrow 29 (0, 0))) := Lib.hid (by simpa using row_new ((w.alloc (.cells #[.slice al h.log.length cl, .int .i64 h.sums.a, .int .i64 h.sums.b, .int .i64 h.sums.c, .int .i64 h.sums.d, .slice ar h.ready.length cr, .slice ad h.done.length cd] 29)).alloc (.cells #[.int .i64 r.kind, .int .i64 r.deed, .slice ap r.parts.length cp] 48)) _)
  clear hv hr hk hkr hm hp hpr hl hr3 hkk hpp
  go_enter Try.func38, Try.ntmps38
  go_wp2
  obtain ⟨w3, hWE⟩ : ∃ x : World, x = (((w.alloc (.cells #[.slice al h.log.length cl, .int .i64 h.sums.a, .int .i64 h.sums.b, .int .i64 h.sums.c, .int .i64 h.sums.d, .slice ar h.ready.length cr, .slice ad h.done.length cd] 29)).alloc (.cells #[.int .i64 r.kind, .int .i64 r.deed, .slice ap r.parts.length cp] 48)).alloc (.cells zrow 29)) := ⟨_, rfl⟩
  rw [← hWE] at HG0 HR2 HR3 HR4
  rw [← hWE]
  clear hWE
  obtain ⟨g0, -, -, -, -, -, -⟩ := cells7 HR2.out
  obtain ⟨g1, g2, g3⟩ := cells3 HR3.out
  have HS : Hid (∀ W, Grow w3 W → W.cell? ⟨w.heap.size, 0, none⟩ = some (.slice al h.log.length cl) ∧ W.cell? ⟨w.heap.size + 1, 0, none⟩ = some (.int .i64 r.kind) ∧ W.cell? ⟨w.heap.size + 1, 1, none⟩ = some (.int .i64 r.deed) ∧ W.cell? ⟨w.heap.size + 1, 2, none⟩ = some (.slice ap r.parts.length cp)) := fun W hW => ⟨hW.sub _ _ g0, hW.sub _ _ g1, hW.sub _ _ g2, hW.sub _ _ g3⟩
  have hz4 : w.heap.size + 1 + 1 < w3.heap.size := (Array.getElem?_eq_some_iff.1 HR4.out).1
  clear g0 g1 g2 g3
  refine but_start (fun w' => w'.cell? ⟨w.heap.size, 0, none⟩ = some (.slice al h.log.length cl) ∧ w'.cell? ⟨w.heap.size + 1, 0, none⟩ = some (.int .i64 r.kind) ∧ w'.cell? ⟨w.heap.size + 1, 1, none⟩ = some (.int .i64 r.deed) ∧ w'.cell? ⟨w.heap.size + 1, 2, none⟩ = some (.slice ap r.parts.length cp)) 7 (by kernel_rfl) ?_
  obtain ⟨wd, hWd⟩ : ∃ x : World, x = w3.drew := ⟨_, rfl⟩
  rw [← hWd]
  have GD : Grow w3 wd := by rw [hWd]; exact (Grow.refl _).drew
  have zD : w3.heap.size = wd.heap.size := by rw [hWd]; rfl
  have ZD := Lib.hid zD
  clear hWd zD
  refine but_take (i := 0) (v := ?_) 8 rfl (by kernel_rfl) (by kernel_rfl) (by kernel_rfl) (by kernel_rfl) (by kernel_rfl) (fun _ _ _ h => h) (HS.out _ GD) (Or.inl ⟨by rfl, ?_⟩) ?_
  rotate_left
  · (intro w' hSw; (try dsimp only at hSw); obtain ⟨hs0, hs1, hs2, hs3⟩ := hSw; go_simp <;> with_reducible rfl)
  try simp only [Act.put, List.getElem_toArray, List.getElem_cons_zero, List.setIfInBounds_toArray, List.set_cons_zero, List.set_cons_succ]
  refine but_take (i := 1) (v := ?_) 8 rfl (by kernel_rfl) (by kernel_rfl) (by kernel_rfl) (by kernel_rfl) (by kernel_rfl) (fun _ _ _ h => h) (HS.out _ GD) (Or.inl ⟨by rfl, ?_⟩) ?_
  rotate_left
  · (intro w' hSw; (try dsimp only at hSw); obtain ⟨hs0, hs1, hs2, hs3⟩ := hSw; go_simp <;> with_reducible rfl)
  try simp only [Act.put, List.getElem_toArray, List.getElem_cons_succ, List.getElem_cons_zero, List.setIfInBounds_toArray, List.set_cons_zero, List.set_cons_succ]
  refine but_take (i := 3) (v := ?_) 8 rfl (by kernel_rfl) (by kernel_rfl) (by kernel_rfl) (by kernel_rfl) (by kernel_rfl) (fun _ _ _ h => h) (HS.out _ GD) (Or.inl ⟨by rfl, ?_⟩) ?_
  rotate_left
  · (intro w' hSw; (try dsimp only at hSw); obtain ⟨hs0, hs1, hs2, hs3⟩ := hSw; go_simp <;> with_reducible rfl)
  try simp only [Act.put, List.getElem_toArray, List.getElem_cons_succ, List.getElem_cons_zero, List.setIfInBounds_toArray, List.set_cons_zero, List.set_cons_succ]
  refine but_two (i := 2) (j := 4) (by kernel_rfl) rfl rfl ?_ ?_
  · skip
    intro K HK'
    have HK := Lib.hid HK'
    clear HK'
    skip
    try simp only [List.getElem_toArray, List.getElem_cons_succ, List.getElem_cons_zero]
    go_simp
    go_at_call 40
    refine (HOWN.out _ (HG0.out.trans GD)).mono ?_
    rintro e wo ⟨vo, rfl, ho, hbo⟩
    obtain ⟨ao, co, rfl⟩ := ho.form
    have HO := Lib.hid ho
    have GO := GD.trans hbo
    have HBO := Lib.hid hbo
    have ZO : Hid (w3.heap.size ≤ (wd).heap.size) := Lib.hid GD.size
    clear ho hbo
    refine HK.out _ _ ⟨fun _ => HS.out _ GO, ?_⟩
    clear HK K
    try simp only [Act.put, List.getElem_toArray, List.getElem_cons_succ, List.getElem_cons_zero, List.setIfInBounds_toArray, List.set_cons_zero, List.set_cons_succ]
    refine but_one (i := 4) (by kernel_rfl) rfl ?_
    intro K HK'
    have HK := Lib.hid HK'
    clear HK'
    skip
    try simp only [List.getElem_toArray, List.getElem_cons_succ, List.getElem_cons_zero]
    go_simp
    refine HK.out _ _ ⟨fun _ => HS.out _ (GO.alloc _), ?_⟩
    clear HK K
    try simp only [Act.put, List.getElem_toArray, List.getElem_cons_succ, List.getElem_cons_zero, List.setIfInBounds_toArray, List.set_cons_zero, List.set_cons_succ]
    refine but_one (i := 5) (by kernel_rfl) rfl ?_
    intro K HK'
    have HK := Lib.hid HK'
    clear HK'
    refine wanted_go rfl ?_
    try simp only [List.getElem_toArray, List.getElem_cons_succ, List.getElem_cons_zero]
    have HFR : Hid (Sub w.cell? (frag (wo.alloc (.cells #[.int .i64 r.kind, .int .i64 r.deed, .slice ap r.parts.length cp] 48)) (Value.slice ao h.log.length co).ownBlock)) := Lib.hid (frag_of_lt (HG0.out.trans (GO.alloc _)) fun q hq => by have := (HO.out.lt q hq).1; have := ZO.out; have := HG0.out.size; omega)
    refine wp_appc (c := (frag (wo.alloc (.cells #[.int .i64 r.kind, .int .i64 r.deed, .slice ap r.parts.length cp] 48)) (Value.slice ao h.log.length co).ownBlock)) (base := wd.heap.size) (l := h.log) (m := [r]) ei_rc rfl one_Trc (by decide) (.tmp 7) (.tmp 9) rfl rfl ((HO.out.mono (frag_own ((Grow.refl wo).alloc _))).grow ((Grow.refl wo).alloc _)) rfl (Src.of_new (T := Ty.rc) (cs := #[.int .i64 r.kind, .int .i64 r.deed, .slice ap r.parts.length cp]) (Ty.rc.mono HFR.out HR.out) _ _ rfl) (by have := HM.out; simp; omega) (by have := HBO.out.size; (try simp at this ⊢); omega) ?_
    intro a5 c5 w5 ho5 hg5 hb5
    have HR5 := Lib.hid (ho5.sl (by decide) (frag_app hg5))
    have G5 : Grow w3 w5 := grow_by (w0 := w3) (GO.alloc _) hg5 (fun q hq => by have := (HO.out.lt q hq).1; have := ZO.out; omega)
    clear ho5 hg5 hb5
    refine HK.out _ _ ⟨fun _ => HS.out _ G5, ?_⟩
    clear HK K
    try simp only [Act.put, List.setIfInBounds_toArray, List.set_cons_zero, List.set_cons_succ]
    refine but_one (i := 6) (by kernel_rfl) rfl ?_
    intro K HK'
    have HK := Lib.hid HK'
    clear HK'
    skip
    try simp only [List.getElem_toArray, List.getElem_cons_succ, List.getElem_cons_zero]
    go_simp
    go_at_call 36
    refine (HHS.out _ w5 HR5.out).mono ?_
    rintro e w6 ⟨vx, rfl, hX, hb6⟩
    change Of Ty.hs _ _ (noteE h r) at hX
    obtain ⟨x, hx⟩ : ∃ x, x = noteE h r := ⟨_, rfl⟩
    rw [← hx] at hX
    have HXE := Lib.hid hx
    clear hx
    obtain ⟨al2, cl2, ar2, cr2, ad2, cd2, rfl⟩ := hX.hs_form
    have HX := Lib.hid hX
    have G6 := G5.trans hb6
    have HB6 := Lib.hid hb6
    clear hX hb6
    refine HK.out _ _ ⟨fun _ => HS.out _ G6, ?_⟩
    clear HK K
    try simp only [Act.put, List.getElem_toArray, List.getElem_cons_succ, List.getElem_cons_zero, List.setIfInBounds_toArray, List.set_cons_zero, List.set_cons_succ]
    refine but_one (i := 7) (by kernel_rfl) rfl ?_
    intro K HK'
    have HK := Lib.hid HK'
    clear HK'
    refine wanted_go rfl ?_
    try simp only [List.getElem_toArray, List.getElem_cons_succ, List.getElem_cons_zero]
    refine wp_store_row (.tmp 4) (.tmp 11) rfl rfl rfl (row_grow HR4.out G6) info_hs rfl rfl ?_
    intro w7 r7 g7
    refine HK.out _ _ ⟨fun h => absurd rfl h, ?_⟩
    clear HK K
    try simp only [Act.put]
    refine but_done (by kernel_rfl) ?_
    obtain ⟨p0, p1, p2, p3, p4, p5, p6⟩ := cells7 r7
    go_wp2
    refine bodyPost_ret (v := .agg #[.slice al2 x.log.length cl2, .int .i64 x.sums.a, .int .i64 x.sums.b, .int .i64 x.sums.c, .int .i64 x.sums.d, .slice ar2 x.ready.length cr2, .slice ad2 x.done.length cd2]) (by simp [results, Try.results38, go_sem, p0, p1, p2, p3, p4, p5, p6]) rfl ?_
    rw [← HXE.out]
    refine ⟨_, rfl, HX.out.mono fun a u e => ?_, (HG0.out.trans G6).grown g7 (fun k hk => by simp at hk; omega)⟩
    have z1 := G5.size
    have z2 := HG0.out.size
    unfold ov at e ⊢
    split at e
    · cases e
    · rw [if_neg (by omega), by_cell g7 (World.block_lt_of_cell? w6 a e) (by omega)]; exact e
  · skip
    intro K HK'
    have HK := Lib.hid HK'
    clear HK'
    skip
    try simp only [List.getElem_toArray, List.getElem_cons_succ, List.getElem_cons_zero]
    go_simp
    refine HK.out _ _ ⟨fun _ => HS.out _ (GD.alloc _), ?_⟩
    clear HK K
    try simp only [Act.put, List.getElem_toArray, List.getElem_cons_succ, List.getElem_cons_zero, List.setIfInBounds_toArray, List.set_cons_zero, List.set_cons_succ]
    refine but_one (i := 2) (by kernel_rfl) rfl ?_
    intro K HK'
    have HK := Lib.hid HK'
    clear HK'
    skip
    try simp only [List.getElem_toArray, List.getElem_cons_succ, List.getElem_cons_zero]
    go_simp
    go_at_call 40
    refine (HOWN.out _ (HG0.out.trans (GD.alloc _))).mono ?_
    rintro e wo ⟨vo, rfl, ho, hbo⟩
    obtain ⟨ao, co, rfl⟩ := ho.form
    have HO := Lib.hid ho
    have GO := (GD.alloc _).trans hbo
    have HBO := Lib.hid hbo
    have ZO : Hid (w3.heap.size ≤ ((wd.alloc (.cells #[.int .i64 r.kind, .int .i64 r.deed, .slice ap r.parts.length cp] 48))).heap.size) := Lib.hid (GD.alloc _).size
    clear ho hbo
    refine HK.out _ _ ⟨fun _ => HS.out _ GO, ?_⟩
    clear HK K
    try simp only [Act.put, List.getElem_toArray, List.getElem_cons_succ, List.getElem_cons_zero, List.setIfInBounds_toArray, List.set_cons_zero, List.set_cons_succ]
    refine but_one (i := 5) (by kernel_rfl) rfl ?_
    intro K HK'
    have HK := Lib.hid HK'
    clear HK'
    refine wanted_go rfl ?_
    try simp only [List.getElem_toArray, List.getElem_cons_succ, List.getElem_cons_zero]
    have HFR : Hid (Sub w.cell? (frag wo (Value.slice ao h.log.length co).ownBlock)) := Lib.hid (frag_of_lt (HG0.out.trans GO) fun q hq => by have := (HO.out.lt q hq).1; have := ZO.out; have := HG0.out.size; omega)
    refine wp_appc (c := (frag wo (Value.slice ao h.log.length co).ownBlock)) (base := (wd.alloc (.cells #[.int .i64 r.kind, .int .i64 r.deed, .slice ap r.parts.length cp] 48)).heap.size) (l := h.log) (m := [r]) ei_rc rfl one_Trc (by decide) (.tmp 7) (.tmp 9) rfl rfl (HO.out.mono (frag_own (Grow.refl wo))) rfl ((Src.of_new (T := Ty.rc) (cs := #[.int .i64 r.kind, .int .i64 r.deed, .slice ap r.parts.length cp]) (Ty.rc.mono HFR.out HR.out) wd 48 rfl).grow HBO.out) (by have := HM.out; simp; omega) (by have := HBO.out.size; (try simp at this ⊢); omega) ?_
    intro a5 c5 w5 ho5 hg5 hb5
    have HR5 := Lib.hid (ho5.sl (by decide) (frag_app hg5))
    have G5 : Grow w3 w5 := grow_by (w0 := w3) GO hg5 (fun q hq => by have := (HO.out.lt q hq).1; have := ZO.out; omega)
    clear ho5 hg5 hb5
    refine HK.out _ _ ⟨fun _ => HS.out _ G5, ?_⟩
    clear HK K
    try simp only [Act.put, List.setIfInBounds_toArray, List.set_cons_zero, List.set_cons_succ]
    refine but_one (i := 6) (by kernel_rfl) rfl ?_
    intro K HK'
    have HK := Lib.hid HK'
    clear HK'
    skip
    try simp only [List.getElem_toArray, List.getElem_cons_succ, List.getElem_cons_zero]
    go_simp
    go_at_call 36
    refine (HHS.out _ w5 HR5.out).mono ?_
    rintro e w6 ⟨vx, rfl, hX, hb6⟩
    change Of Ty.hs _ _ (noteE h r) at hX
    obtain ⟨x, hx⟩ : ∃ x, x = noteE h r := ⟨_, rfl⟩
    rw [← hx] at hX
    have HXE := Lib.hid hx
    clear hx
    obtain ⟨al2, cl2, ar2, cr2, ad2, cd2, rfl⟩ := hX.hs_form
    have HX := Lib.hid hX
    have G6 := G5.trans hb6
    have HB6 := Lib.hid hb6
    clear hX hb6
    refine HK.out _ _ ⟨fun _ => HS.out _ G6, ?_⟩
    clear HK K
    try simp only [Act.put, List.getElem_toArray, List.getElem_cons_succ, List.getElem_cons_zero, List.setIfInBounds_toArray, List.set_cons_zero, List.set_cons_succ]
    refine but_one (i := 7) (by kernel_rfl) rfl ?_
    intro K HK'
    have HK := Lib.hid HK'
    clear HK'
    refine wanted_go rfl ?_
    try simp only [List.getElem_toArray, List.getElem_cons_succ, List.getElem_cons_zero]
    refine wp_store_row (.tmp 4) (.tmp 11) rfl rfl rfl (row_grow HR4.out G6) info_hs rfl rfl ?_
    intro w7 r7 g7
    refine HK.out _ _ ⟨fun h => absurd rfl h, ?_⟩
    clear HK K
    try simp only [Act.put]
    refine but_done (by kernel_rfl) ?_
    obtain ⟨p0, p1, p2, p3, p4, p5, p6⟩ := cells7 r7
    go_wp2
    refine bodyPost_ret (v := .agg #[.slice al2 x.log.length cl2, .int .i64 x.sums.a, .int .i64 x.sums.b, .int .i64 x.sums.c, .int .i64 x.sums.d, .slice ar2 x.ready.length cr2, .slice ad2 x.done.length cd2]) (by simp [results, Try.results38, go_sem, p0, p1, p2, p3, p4, p5, p6]) rfl ?_
    rw [← HXE.out]
    refine ⟨_, rfl, HX.out.mono fun a u e => ?_, (HG0.out.trans G6).grown g7 (fun k hk => by simp at hk; omega)⟩
    have z1 := G5.size
    have z2 := HG0.out.size
    unfold ov at e ⊢
    split at e
    · cases e
    · rw [if_neg (by omega), by_cell g7 (World.block_lt_of_cell? w6 a e) (by omega)]; exact e
end Go.Proofs.Ytgbhpghgohggcaa

/- Plain: what the head answers, as functions on plain data. -/
namespace Go.Proofs.Ytgbhpghgohggcaa
open Go.RowKit
def housesE (l : List Pt) : List Int := [0, 1, 2].filter fun n => l.any fun p => p.h == n
def commitM (o : Opn) (n : Int) : Ms := if o.dec then ⟨4, o.deed, n, []⟩ else ⟨1, o.deed, n, ofL o.parts n⟩
def asksE (o : Opn) : List Ms := ((housesE o.parts).filter fun n => !decide (n ∈ o.heard)).map (commitM o)
def abortsE (d : Int) (l : List Pt) : List Ms := (housesE l).map fun n => ⟨5, d, n, []⟩
def headStep (h : Hd) (r : Rc) : Hd :=
  if r.kind = 4 then { h with boot := wrap64 (h.boot + 1) }
  else if r.kind = 5 then { h with opn := h.opn ++ [⟨r.deed, r.parts, true, []⟩] }
  else if r.kind = 6 then { h with opn := h.opn.filter fun o => !(o.deed == r.deed) }
  else h
/-- the head that a log makes -/
def headR (l : List Rc) : Hd := l.foldl headStep ⟨l, 0, 0, []⟩
def decidedR (l : List Rc) : List Rd := (l.filter fun r => r.kind == 5).map fun r => ⟨r.deed, r.parts⟩
def fallH (h : Hd) : Hd := if 19 < h.boot then h else headR (h.log ++ [⟨4, 0, []⟩])
def fallE (h : Hd) : Int := if 19 < h.boot then 5 else 0
def fullE (h : Hd) : Bool := decide (11 < h.opn.length ∨ 63 < h.next)
def newO (h : Hd) (l : List Pt) : Opn := ⟨64 * h.boot + h.next, l, false, []⟩
def beginH (h : Hd) (l : List Pt) : Hd := if fullE h = true then h else { h with opn := h.opn ++ [newO h l], next := h.next + 1 }
def beginM (h : Hd) (l : List Pt) : List Ms := if fullE h = true then [] else asksE (newO h l)
def beginE (h : Hd) : Int := if fullE h = true then 9 else 0
/-- what stands in an open deed's place behind a message: open ones, records, what is said -/
def hearO (o : Opn) (m : Ms) : List Opn × List Rc × List Ms :=
  if m.kind = 2 ∧ o.dec = false ∧ m.house ∈ housesE o.parts ∧ m.house ∉ o.heard then
    (if o.heard.length + 1 = (housesE o.parts).length then ([{ o with dec := true, heard := [] }], [⟨5, o.deed, o.parts⟩], asksE { o with dec := true, heard := [] })
    else ([{ o with heard := o.heard ++ [m.house] }], [], []))
  else if m.kind = 3 ∧ o.dec = false then ([], [], abortsE o.deed o.parts)
  else if m.kind = 6 ∧ o.dec = true ∧ m.house ∈ housesE o.parts ∧ m.house ∉ o.heard then
    (if o.heard.length + 1 = (housesE o.parts).length then ([], [⟨6, o.deed, []⟩], []) else ([{ o with heard := o.heard ++ [m.house] }], [], []))
  else if m.kind = 7 ∧ o.dec = true then ([o], [], [⟨4, m.deed, m.house, []⟩])
  else ([o], [], [])
def isO (d : Int) (o : Opn) : Bool := o.deed == d
/-- the head behind a message: the open deeds gone through, one by one -/
def hearL (m : Ms) : List Opn → Option (List Opn × List Rc × List Ms)
  | [] => none
  | o :: l => if o.deed = m.deed then some ((hearO o m).1 ++ l, (hearO o m).2) else (hearL m l).map fun x => (o :: x.1, x.2)
def hHearH (h : Hd) (m : Ms) : Hd := match hearL m h.opn with
  | none => h
  | some x => { h with opn := x.1, log := h.log ++ x.2.1 }
def hHearM (h : Hd) (m : Ms) : List Ms := match hearL m h.opn with
  | none => if m.kind = 7 then [⟨5, m.deed, m.house, []⟩] else []
  | some x => x.2.2
def tickE (h : Hd) : List Ms := h.opn.flatMap asksE
def quitH (h : Hd) : Hd := { h with opn := h.opn.filter fun o => o.dec }
def quitM (h : Hd) : List Ms := (h.opn.filter fun o => !o.dec).flatMap fun o => abortsE o.deed o.parts
end Go.Proofs.Ytgbhpghgohggcaa

/- Plain: what a head's log makes, record by record. -/
namespace Go.Proofs.Ytgbhpghgohggcaa
open Go.RowKit
theorem note_log (h : Hs) (r : Rc) : (noteE h r).log = h.log ++ [r] := log_house _
theorem headR_fold : ∀ (l : List Rc) (h : Hd) (x : List Rc), (l.foldl headStep { h with log := x }) = { (l.foldl headStep h) with log := x }
  | [], _, _ => rfl
  | r :: l, h, x => by
    rw [List.foldl_cons, List.foldl_cons, ← headR_fold l]
    congr 1
    unfold headStep
    split
    · rfl
    · split
      · rfl
      · split <;> rfl
theorem head_snoc (l : List Rc) (r : Rc) : headR (l ++ [r]) = { (headStep (headR l) r) with log := l ++ [r] } := by
  unfold headR
  rw [List.foldl_append]
  have := headR_fold l ⟨l, 0, 0, []⟩ (l ++ [r])
  simp only at this
  rw [this]
  show headStep _ r = _
  unfold headStep
  split
  · rfl
  · split
    · rfl
    · split <;> rfl
theorem headR_next (l : List Rc) : (headR l).next = 0 ∧ (headR l).log = l := by
  have : ∀ (k : List Rc) (h : Hd), (k.foldl headStep h).next = h.next ∧ (k.foldl headStep h).log = h.log := by
    intro k
    induction k with
    | nil => intro h; exact ⟨rfl, rfl⟩
    | cons r k ih =>
      intro h
      rw [List.foldl_cons, (ih _).1, (ih _).2]
      unfold headStep
      split
      · exact ⟨rfl, rfl⟩
      · split
        · exact ⟨rfl, rfl⟩
        · split <;> exact ⟨rfl, rfl⟩
  exact this l _
theorem dec_snoc (l : List Rc) (r : Rc) : decidedR (l ++ [r]) = if r.kind = 5 then decidedR l ++ [⟨r.deed, r.parts⟩] else decidedR l := by
  unfold decidedR
  rw [List.filter_append, List.map_append]
  split
  · rename_i h
    rw [List.filter_cons_of_pos (by simp [h])]; rfl
  · rename_i h
    rw [List.filter_cons_of_neg (by simp [h])]; simp
end Go.Proofs.Ytgbhpghgohggcaa

/- Walks: Decided of the program and of the document's answer. -/
namespace Go.Proofs.Ytgbhpghgohggcaa
open Go.RowKit
theorem dec_len (l : List Rc) : (decidedR l).length ≤ l.length := by
  unfold decidedR
  rw [List.length_map]
  exact List.length_filter_le _ _
set_option maxRecDepth 100000 in
set_option maxHeartbeats 2000000 in
theorem wlog_decided {v : Value} {l : List Rc} (w : World) (hv : Rcs w.cell? v l) (hm : l.length * 40 ≤ 140737488355328) (hp : ∀ r ∈ l, r.parts.length * 24 ≤ 140737488355328) :
    Calls Try.prog 45 #[v] w fun e w' => ∃ v', e = .returned v' ∧ OwnC Ty.rd (fr w w' [v'.ownBlock]) w' w.heap.size 45 v' (decidedR l) ∧ Grow w w' := by
  obtain ⟨a, cap, rfl, h1, h2, -, hel⟩ := hv
  unfold maxLen at h2
  have HM := Lib.hid hm
  have HP := Lib.hid hp
  clear hm hp
  go_enter Try.func45, Try.ntmps45
  go_wp2
  go_loopw [3, 8] (fun s3 i wr => ∃ k : Nat, k ≤ l.length ∧ i = .int .i64 k ∧ Grow w wr ∧ OwnC Ty.rd (fr w wr [s3.ownBlock]) wr w.heap.size 45 s3 (decidedR (l.take k))) (fun _ i _ => l.length - (intOf i).toNat)
  case atStart => exact ⟨0, by omega, rfl, Grow.refl _, OwnC.nil _ _ _ _ _⟩
  case round =>
    obtain ⟨k, hk', rfl, hb, hown⟩ := hrel
    by_cases hlt : k < l.length
    · obtain ⟨b, o, vp, rfl, c0, c1, c2, i0, i1, hP⟩ := Rcs.at_ hel k hlt
      obtain ⟨ap, cp, rfl, -⟩ := id hP
      replace c0 := hb.sub _ _ c0
      replace c1 := hb.sub _ _ c1
      replace c2 := hb.sub _ _ c2
      have htk : decidedR (l.take (k + 1)) = if l[k].kind = 5 then decidedR (l.take k) ++ [⟨l[k].deed, l[k].parts⟩] else decidedR (l.take k) := by rw [List.take_succ_eq_append_getElem hlt, dec_snoc]
      have HTK := Lib.hid htk
      have hpl := HP.out l[k] (List.getElem_mem _)
      have hok := Pts.ok (c := w.cell?) hP
      have HCL := Lib.hid (fun (W : World) (hW : Grow wr W) => clone_pt W (hP.mono (hb.trans hW).sub) hpl)
      have hlk : (decidedR (l.take k)).length ≤ l.length := Nat.le_trans (dec_len _) (by simp; omega)
      have HOWN := Lib.hid hown
      have HI := Lib.hid (And.intro i0 (And.intro i1 hok))
      obtain ⟨av, cv, rfl⟩ := hown.form
      have HLK := Lib.hid hlk
      clear hel hP htk hpl hok hown i0 i1 hlk
      generalize l[k] = r at *
      generalize decidedR (l.take k) = ds at *
      by_cases h5 : r.kind = 5
      · have b5 : (r.kind == 5) = true := by simp [h5]
        have HK5 := Lib.hid h5
        clear h5
        go_wp2
        obtain ⟨w2, hWE⟩ : ∃ x : World, x = wr.alloc (.cells #[.int .i64 r.kind, .int .i64 r.deed, .slice ap r.parts.length cp] 48) := ⟨_, rfl⟩
        rw [← hWE]
        have HG2 : Hid (Grow wr w2) := Lib.hid (by rw [hWE]; exact (Grow.refl wr).alloc _)
        have r5 : w2.heap[wr.heap.size]? = some (.cells #[.int .i64 r.kind, .int .i64 r.deed, .slice ap r.parts.length cp] 48 (0, 0)) := by rw [hWE]; exact row_new _ _
        clear hWE
        obtain ⟨-, q1, q2⟩ := cells3 r5
        have l5 : wr.heap.size < w2.heap.size := (Array.getElem?_eq_some_iff.1 r5).1
        have n5 : (Value.slice av ds.length cv).ownBlock ≠ some wr.heap.size := fun e => by have := (HOWN.out.lt _ e).2; omega
        have HS : Hid (∀ W, w2.grownBy W (Value.slice av ds.length cv).ownBlock → W.cell? ⟨wr.heap.size, 1, none⟩ = some (.int .i64 r.deed) ∧ W.cell? ⟨wr.heap.size, 2, none⟩ = some (.slice ap r.parts.length cp)) := fun W hW => ⟨by rw [World.cell?_of_block (hW.block wr.heap.size l5 (fun e => n5 e.symm))]; exact q1, by rw [World.cell?_of_block (hW.block wr.heap.size l5 (fun e => n5 e.symm))]; exact q2⟩
        clear q1 q2 r5
        refine but_start (fun w' => w'.cell? ⟨wr.heap.size, 1, none⟩ = some (.int .i64 r.deed) ∧ w'.cell? ⟨wr.heap.size, 2, none⟩ = some (.slice ap r.parts.length cp)) 9 (by kernel_rfl) ?_
        obtain ⟨wd, hWd⟩ : ∃ x : World, x = w2.drew := ⟨_, rfl⟩
        rw [← hWd]
        have GD : Grow w2 wd := by rw [hWd]; exact (Grow.refl _).drew
        have zD : w2.heap.size = wd.heap.size := by rw [hWd]; rfl
        have ZD := Lib.hid zD
        clear hWd zD
        refine but_take (i := 0) (v := ?_) 8 rfl (by kernel_rfl) (by kernel_rfl) (by kernel_rfl) (by kernel_rfl) (by kernel_rfl) (fun _ _ _ h => h) (HS.out _ (grownBy_of_grow GD _)) (Or.inl ⟨by rfl, ?_⟩) ?_
        rotate_left
        · (intro w' hSw; (try dsimp only at hSw); obtain ⟨hs0, hs1⟩ := hSw; go_simp <;> with_reducible rfl)
        try simp only [Act.put, List.getElem_toArray, List.getElem_cons_zero, List.setIfInBounds_toArray, List.set_cons_zero, List.set_cons_succ]
        refine but_take (i := 1) (v := ?_) 8 rfl (by kernel_rfl) (by kernel_rfl) (by kernel_rfl) (by kernel_rfl) (by kernel_rfl) (fun _ _ _ h => h) (HS.out _ (grownBy_of_grow GD _)) (Or.inl ⟨by rfl, ?_⟩) ?_
        rotate_left
        · (intro w' hSw; (try dsimp only at hSw); obtain ⟨hs0, hs1⟩ := hSw; go_simp <;> with_reducible rfl)
        try simp only [Act.put, List.getElem_toArray, List.getElem_cons_succ, List.getElem_cons_zero, List.setIfInBounds_toArray, List.set_cons_zero, List.set_cons_succ]
        refine but_take (i := 2) (v := ?_) 8 rfl (by kernel_rfl) (by kernel_rfl) (by kernel_rfl) (by kernel_rfl) (by kernel_rfl) (fun _ _ _ h => h) (HS.out _ (grownBy_of_grow GD _)) (Or.inl ⟨by rfl, ?_⟩) ?_
        rotate_left
        · (intro w' hSw; (try dsimp only at hSw); obtain ⟨hs0, hs1⟩ := hSw; go_simp <;> with_reducible rfl)
        try simp only [Act.put, List.getElem_toArray, List.getElem_cons_succ, List.getElem_cons_zero, List.setIfInBounds_toArray, List.set_cons_zero, List.set_cons_succ]
        refine but_take (i := 3) (v := ?_) 8 rfl (by kernel_rfl) (by kernel_rfl) (by kernel_rfl) (by kernel_rfl) (by kernel_rfl) (fun _ _ _ h => h) (HS.out _ (grownBy_of_grow GD _)) (Or.inl ⟨by rfl, ?_⟩) ?_
        rotate_left
        · (intro w' hSw; (try dsimp only at hSw); obtain ⟨hs0, hs1⟩ := hSw; go_simp <;> with_reducible rfl)
        try simp only [Act.put, List.getElem_toArray, List.getElem_cons_succ, List.getElem_cons_zero, List.setIfInBounds_toArray, List.set_cons_zero, List.set_cons_succ]
        refine but_take (i := 4) (v := ?_) 8 rfl (by kernel_rfl) (by kernel_rfl) (by kernel_rfl) (by kernel_rfl) (by kernel_rfl) (fun _ _ _ h => h) (HS.out _ (grownBy_of_grow GD _)) (Or.inl ⟨by rfl, ?_⟩) ?_
        rotate_left
        · (intro w' hSw; (try dsimp only at hSw); obtain ⟨hs0, hs1⟩ := hSw; go_simp <;> with_reducible rfl)
        try simp only [Act.put, List.getElem_toArray, List.getElem_cons_succ, List.getElem_cons_zero, List.setIfInBounds_toArray, List.set_cons_zero, List.set_cons_succ]
        refine but_one (i := 5) (by kernel_rfl) rfl ?_
        intro K HK'
        have HK := Lib.hid HK'
        clear HK'
        skip
        try simp only [List.getElem_toArray, List.getElem_cons_succ, List.getElem_cons_zero]
        go_simp
        go_at_call 122
        refine (HCL.out _ (HG2.out.trans GD)).mono ?_
        rintro e w3 ⟨v3, rfl, ho3, hb3⟩
        obtain ⟨a3, c3, rfl⟩ := owns_form ho3
        have HO3 := Lib.hid ho3
        have G3 := GD.trans hb3
        clear ho3 hb3
        refine HK.out _ _ ⟨fun _ => HS.out _ (grownBy_of_grow G3 _), ?_⟩
        clear HK K
        try simp only [Act.put, List.getElem_toArray, List.getElem_cons_succ, List.getElem_cons_zero, List.setIfInBounds_toArray, List.set_cons_zero, List.set_cons_succ]
        refine but_one (i := 6) (by kernel_rfl) rfl ?_
        intro K HK'
        have HK := Lib.hid HK'
        clear HK'
        skip
        try simp only [List.getElem_toArray, List.getElem_cons_succ, List.getElem_cons_zero]
        go_simp
        refine HK.out _ _ ⟨fun _ => HS.out _ (grownBy_of_grow G3 _), ?_⟩
        clear HK K
        try simp only [Act.put, List.getElem_toArray, List.getElem_cons_succ, List.getElem_cons_zero, List.setIfInBounds_toArray, List.set_cons_zero, List.set_cons_succ]
        refine but_one (i := 7) (by kernel_rfl) rfl ?_
        intro K HK'
        have HK := Lib.hid HK'
        clear HK'
        skip
        try simp only [List.getElem_toArray, List.getElem_cons_succ, List.getElem_cons_zero]
        go_simp
        refine HK.out _ _ ⟨fun _ => HS.out _ (grownBy_of_grow (G3.alloc _) _), ?_⟩
        clear HK K
        try simp only [Act.put, List.getElem_toArray, List.getElem_cons_succ, List.getElem_cons_zero, List.setIfInBounds_toArray, List.set_cons_zero, List.set_cons_succ]
        refine but_one (i := 8) (by kernel_rfl) rfl ?_
        intro K HK'
        have HK := Lib.hid HK'
        clear HK'
        refine wanted_go rfl ?_
        try simp only [List.getElem_toArray, List.getElem_cons_succ, List.getElem_cons_zero]
        have hR9 : Ty.rd.R (fr w (w3.alloc (.cells #[.int .i64 r.deed, .slice a3 r.parts.length c3] 45)) [(Value.slice av ds.length cv).ownBlock]) (#[.int .i64 r.deed, .slice a3 r.parts.length c3] : Array Value).toList ⟨r.deed, r.parts⟩ := by
          refine ⟨_, rfl, HI.out.2.1, pts_fr (w1 := wd) ((HO3.out).kept (grownBy_of_grow ((Grow.refl _).alloc _) none) (by cases (Value.slice a3 r.parts.length c3).ownBlock <;> simp)) HI.out.2.2 (by have := hb.size; have := HG2.out.size; have := GD.size; omega) fun q hq => ?_⟩
          have z1 := HOWN.out.lt
          have z4 := HG2.out.size
          have z6 := GD.size
          simp only [List.mem_cons, List.not_mem_nil, or_false]
          exact fun e => by have := (z1 q e.symm).2; omega
        have HR9 := Lib.hid hR9
        clear hR9
        refine wp_appc (c := (fr w (w3.alloc (.cells #[.int .i64 r.deed, .slice a3 r.parts.length c3] 45)) [(Value.slice av ds.length cv).ownBlock])) (base := w.heap.size) (l := ds) (m := [⟨r.deed, r.parts⟩]) ei_rd rfl one_Trd (by decide) (.tmp 15) (.tmp 22) rfl rfl ((HOWN.out.mono (fr_grow (HG2.out.trans (G3.alloc _)))).grow (HG2.out.trans (G3.alloc _))) rfl (Src.of_new (T := Ty.rd) (cs := #[.int .i64 r.deed, .slice a3 r.parts.length c3]) HR9.out _ _ rfl) (by have := HM.out; have := HLK.out; simp; omega) (by have := hb.size; have := HG2.out.size; have := G3.size; (try simp); omega) ?_
        intro a9 c9 w9 ho9 hg9 hb9
        have HO9 := Lib.hid (ho9.mono (fr_app hg9 (hb9.imp_right fun ⟨g, e, hge⟩ => ⟨g, e, by simpa using hge⟩)))
        have GB9 := Lib.hid (grownBy_trans (grownBy_of_grow (G3.alloc _) _) hg9)
        have HG9 : Hid (Grow w w9) := Lib.hid (grow_by (w0 := w) (hb.trans (HG2.out.trans (G3.alloc _))) hg9 (fun q hq => (HOWN.out.lt q hq).1))
        clear ho9 hg9 hb9
        refine HK.out _ _ ⟨fun _ => HS.out _ GB9.out, ?_⟩
        clear HK K
        try simp only [Act.put, List.setIfInBounds_toArray, List.set_cons_zero, List.set_cons_succ]
        refine but_one (i := 9) (by kernel_rfl) rfl ?_
        intro K HK'
        have HK := Lib.hid HK'
        clear HK'
        skip
        try simp only [List.getElem_toArray, List.getElem_cons_succ, List.getElem_cons_zero]
        go_simp
        refine HK.out _ _ ⟨fun h => absurd rfl h, ?_⟩
        clear HK K
        try simp only [Act.put, List.getElem_toArray, List.getElem_cons_succ, List.getElem_cons_zero, List.setIfInBounds_toArray, List.set_cons_zero, List.set_cons_succ]
        refine but_done (by kernel_rfl) ?_
        go_wp2
        go_roundw
        case rel => exact ⟨k + 1, by omega, by go_num, HG9.out, by rw [HTK.out, if_pos HK5.out]; exact HO9.out⟩
        case measure => simp [intOf]; omega
      · have b5 : (r.kind == 5) = false := by simp [h5]
        have HK5 := Lib.hid h5
        clear h5
        go_wp2
        go_roundw
        case rel => exact ⟨k + 1, by omega, by go_num, hb.alloc _, by rw [HTK.out, if_neg HK5.out]; exact (HOWN.out.mono (fr_grow ((Grow.refl _).alloc _))).grow ((Grow.refl _).alloc _)⟩
        case measure => simp [intOf]; omega
    · clear hel
      go_wp2
      go_ret
      have h9 := hown
      rw [List.take_of_length_le (by omega)] at h9
      exact ⟨_, rfl, h9, hb⟩
set_option maxRecDepth 100000 in
set_option maxHeartbeats 2000000 in
theorem ref_decided {c : CM} {v : Value} {l : List Rc} (w : World) (hc : Sub c w.cell?) (hv : Rcs c v l) (hm : l.length * 40 ≤ 140737488355328) :
    Calls Try.prog 46 #[v] w fun e w' => ∃ v', e = .returned v' ∧ OwnC Ty.rd c w' w.heap.size 45 v' (decidedR l) ∧ Grow w w' := by
  obtain ⟨a, cap, rfl, h1, h2, -, hel⟩ := hv
  unfold maxLen at h2
  have HM := Lib.hid hm
  clear hm
  go_enter Try.func46, Try.ntmps46
  go_wp2
  go_loopw [3, 8] (fun s3 i wr => ∃ k : Nat, k ≤ l.length ∧ i = .int .i64 k ∧ Grow w wr ∧ OwnC Ty.rd c wr w.heap.size 45 s3 (decidedR (l.take k))) (fun _ i _ => l.length - (intOf i).toNat)
  case atStart => exact ⟨0, by omega, rfl, Grow.refl _, OwnC.nil _ _ _ _ _⟩
  case round =>
    obtain ⟨k, hk', rfl, hb, hown⟩ := hrel
    by_cases hlt : k < l.length
    · obtain ⟨b, o, vp, rfl, c0, c1, c2, i0, i1, hP⟩ := Rcs.at_ hel k hlt
      obtain ⟨ap, cp, rfl, -⟩ := id hP
      replace c0 := hb.sub _ _ (hc _ _ c0)
      replace c1 := hb.sub _ _ (hc _ _ c1)
      replace c2 := hb.sub _ _ (hc _ _ c2)
      have htk : decidedR (l.take (k + 1)) = if l[k].kind = 5 then decidedR (l.take k) ++ [⟨l[k].deed, l[k].parts⟩] else decidedR (l.take k) := by rw [List.take_succ_eq_append_getElem hlt, dec_snoc]
      have HTK := Lib.hid htk
      have hlk : (decidedR (l.take k)).length ≤ l.length := Nat.le_trans (dec_len _) (by simp; omega)
      have HOWN := Lib.hid hown
      have HI := Lib.hid (And.intro i1 hP)
      obtain ⟨av, cv, rfl⟩ := hown.form
      have HLK := Lib.hid hlk
      clear hel hP htk hown i0 i1 hlk
      generalize l[k] = r at *
      generalize decidedR (l.take k) = ds at *
      by_cases h5 : r.kind = 5
      · have b5 : (r.kind == 5) = true := by simp [h5]
        have HK5 := Lib.hid h5
        clear h5
        go_wp2_with (first | (at_builtin; refine wpList_appc (c := c) (base := w.heap.size) (l := ds) (m := [⟨r.deed, r.parts⟩]) ei_rd rfl one_Trd (by decide) rfl (.tmp 15) (.tmp 21) rfl rfl ?own rfl (Src.of_new (T := Ty.rd) (cs := #[.int .i64 r.deed, .slice ap r.parts.length cp]) ⟨_, rfl, HI.out.1, HI.out.2⟩ _ _ ?d1) ?d2 ?d3 ?_))
        case own => exact HOWN.out.grow (((Grow.refl _).alloc _).alloc _)
        case d1 => simp
        case d2 => have := HM.out; have := HLK.out; simp; omega
        case d3 => have := hb.size; simp; omega
        intro a9 c9 w9 ho9 hg9 hb9
        have HG9 : Hid (Grow w w9) := Lib.hid (grow_by (w0 := w) ((hb.alloc _).alloc _) hg9 (fun q hq => (HOWN.out.lt q hq).1))
        have HO9 := Lib.hid ho9
        clear ho9 hg9 hb9
        go_wp2
        go_roundw
        case rel => exact ⟨k + 1, by omega, by go_num, HG9.out, by rw [HTK.out, if_pos HK5.out]; exact HO9.out⟩
        case measure => simp [intOf]; omega
      · have b5 : (r.kind == 5) = false := by simp [h5]
        have HK5 := Lib.hid h5
        clear h5
        go_wp2
        go_roundw
        case rel => exact ⟨k + 1, by omega, by go_num, hb.alloc _, by rw [HTK.out, if_neg HK5.out]; exact HOWN.out.grow ((Grow.refl _).alloc _)⟩
        case measure => simp [intOf]; omega
    · clear hel
      go_wp2
      go_ret
      have h9 := hown
      rw [List.take_of_length_le (by omega)] at h9
      exact ⟨_, rfl, h9, hb⟩
end Go.Proofs.Ytgbhpghgohggcaa

/- Walks: slices.DeleteFunc on a row of the call's own. -/
namespace Go.Proofs.Ytgbhpghgohggcaa
open Go.RowKit

/-- a function value that tells p, in whatever world that differs in one block -/
structure TellsG {α : Type} (P : Program) (T : Ty α) (val : List Value → Value) (w : World) (row : Option Nat) (F : FuncId) (caps : Array Value) (l : List α) (p : α → Bool) : Prop where
  ent : ∀ args w, (callFunc F args).run P w = .ok (.enter F args) w
  say : ∀ (wx : World) (cs : List Value) (x : α), w.grownBy wx row → x ∈ l → T.R wx.cell? cs x → Calls P F (#[val cs] ++ caps) wx fun e w' => e = .returned (.bool (p x)) ∧ Grow wx w'
theorem TellsG.tells {α : Type} {P : Program} {T : Ty α} {val : List Value → Value} {w : World} {row : Option Nat} {F : FuncId} {caps : Array Value} {l : List α} {p : α → Bool} (h : TellsG P T val w row F caps l p) : Tells P T val w F caps l p :=
  ⟨h.ent, fun wx cs x hg => h.say wx cs x (grownBy_of_grow hg _)⟩
theorem filter_take_succ {α : Type} (q : α → Bool) {l : List α} {j : Nat} (h : j < l.length) : (l.take (j + 1)).filter q = (l.take j).filter q ++ if q l[j] then [l[j]] else [] := by
  rw [List.take_succ_eq_append_getElem h, List.filter_append]
  by_cases hq : q l[j] <;> simp [hq]
theorem filter_none {α : Type} {p : α → Bool} {l : List α} (h : l.findIdx? p = none) : l.filter (fun x => !p x) = l := by
  rw [List.findIdx?_eq_none_iff] at h
  rw [List.filter_eq_self]
  intro x hx; simp [h x hx]

set_option maxRecDepth 100000 in
set_option maxHeartbeats 1000000 in
theorem deleteFunc_pt {w : World} {base : Nat} {v : Value} {l : List Pt} {F : FuncId} {caps : Array Value} {p : Pt → Bool} (ho : OwnT Ty.pt w base 32 v l) (hp : TellsG Try.prog Ty.pt aggOf w v.ownBlock F caps l p) :
    Calls Try.prog 142 #[v, .func (.func F) #[] caps] w fun e w' => ∃ v', e = .returned v' ∧ OwnT Ty.pt w' base 32 v' (l.filter fun x => !p x) ∧ w.grownBy w' v.ownBlock ∧ v'.ownBlock = v.ownBlock := by
  have hIdx := indexFunc_pt w (ho.sl (by decide)) hp.tells
  cases hfi : l.findIdx? p with
  | none =>
    have hx : idxOf p l = -1 := by rw [idxOf, hfi]
    have HF := Lib.hid (filter_none hfi)
    rw [hx] at hIdx
    have HI := Lib.hid hIdx
    have HO := Lib.hid ho
    clear hIdx hx hfi ho hp
    go_enter Try.func142, Try.ntmps142
    go_wp2_with (go_at_call 161; refine HI.out.mono ?_; rintro e w1 ⟨rfl, hb1⟩)
    go_ret
    exact ⟨_, rfl, by rw [HF.out]; exact HO.out.grow hb1, grownBy_of_grow hb1 _, rfl⟩
  | some k =>
    have hx : idxOf p l = k := by rw [idxOf, hfi]
    rw [hx] at hIdx
    rw [List.findIdx?_eq_some_iff_getElem] at hfi
    obtain ⟨hk, hpk, hbefore⟩ := hfi
    obtain ⟨css, hown, hcl0, hR⟩ := ho
    have hcl := css_len hcl0 hR
    obtain ⟨hl, ⟨rfl, hn⟩ | ⟨g, cap, cur, rfl, hb, hg, hnc, hcm, hcs, htake⟩⟩ := id hown
    · omega
    have hbl : (Value.slice (some (⟨g, 0, none⟩ : Addr)) l.length cap).ownBlock = some g := rfl
    rw [hbl] at hR hp ⊢
    have hf0 : (l.take (k + 1)).filter (fun x => !p x) = l.take k := by
      rw [filter_take_succ _ hk, hpk]
      simp only [Bool.not_true, Bool.false_eq_true, if_false, List.append_nil]
      rw [List.filter_eq_self]
      intro x hx
      obtain ⟨j, hj, rfl⟩ := List.mem_iff_getElem.1 hx
      have := hbefore j (by simp at hj; omega)
      simpa using this
    have hkne : ((k : Int) == -1) = false := by rw [beq_eq_false_iff_ne]; omega
    have hcm' : cap ≤ 9223372036854775807 := by unfold maxLen at hcm; omega
    have HI := Lib.hid hIdx
    have HO := Lib.hid hown
    have HR := Lib.hid hR
    have HP := Lib.hid hp.say
    have eg := hp.ent
    have HF := Lib.hid hf0
    have HC := Lib.hid hcl
    have HC0 := Lib.hid hcl0
    clear hIdx hown hR hp hf0 hcl hcl0 hl hg htake hcs hb hcm hbefore hpk hx
    go_enter Try.func142, Try.ntmps142
    go_wp2_with (go_at_call 161; refine HI.out.mono ?_; rintro e w1 ⟨rfl, hb1⟩)
    go_loopw [5, 6, 7] (fun si sj _ wr => ∃ (i j : Nat) (css' : List (List Value)), i < j ∧ j ≤ l.length ∧ si = .int .i64 i ∧ sj = .int .i64 j ∧ w.grownBy wr (some g) ∧ css'.length = l.length ∧ (∀ cs ∈ css', cs.length = 3) ∧
        wr.ownsRow base 32 3 (.slice (some ⟨g, 0, none⟩) l.length cap) l.length css'.flatten ∧ css'.drop j = css.drop j ∧ ((l.take j).filter fun x => !p x).length = i ∧
        ∀ (a : Nat) (cs : List Value) (x : Pt), a < i → css'[a]? = some cs → ((l.take j).filter fun x => !p x)[a]? = some x → Ty.pt.R (frag w (some g)) cs x) (fun _ sj _ _ => l.length - (intOf sj).toNat)
    case atStart =>
      refine ⟨k, k + 1, css, by omega, by omega, rfl, by go_num, grownBy_of_grow hb1 _, HC0.out, HC.out, HO.out.kept (grownBy_of_grow hb1 none) (by right; simp [Value.ownBlock]), rfl, by rw [HF.out]; simp; omega, fun a cs x ha h1 h2 => ?_⟩
      rw [HF.out, List.getElem?_take, if_pos ha] at h2
      exact HR.out a cs x h1 h2
    case round =>
      obtain ⟨i, j, css', hij, hj', rfl, rfl, hgr, hl', hcs', hown', hdrop, hfl, hRi⟩ := hrel
      have HOWN := Lib.hid hown'
      have HCS := Lib.hid hcs'
      have HD := Lib.hid hdrop
      have HFL := Lib.hid hfl
      have HRI := Lib.hid hRi
      have HL' := Lib.hid hl'
      have HGR := Lib.hid hgr
      clear hown' hcs' hdrop hfl hRi hl' hgr hb1
      by_cases hlt : j < l.length
      · have hjc : css[j]? = some css[j]! := by rw [List.getElem?_eq_getElem (by rw [HC0.out]; exact hlt), getElem!_pos css j (by rw [HC0.out]; exact hlt)]
        obtain ⟨hcsj, hRR⟩ := HR.out j _ l[j] hjc (List.getElem?_eq_getElem hlt)
        skip
        have hjc' : css'[j]? = some css[j]! := by
          have : (css'.drop j)[0]? = (css.drop j)[0]? := by rw [HD.out]
          rw [List.getElem?_drop, List.getElem?_drop, Nat.add_zero, hjc] at this
          exact this
        rw [hcsj] at hjc hjc'
        have hcj : ∀ (t : Nat) (u : Value), (l[j].cells)[t]? = some u → t < 3 → wr.cell? ⟨g, j * 3 + t, none⟩ = some u := by
          intro t u hu ht
          rw [HOWN.out.cellAt _ (by omega), flatten_at (size := 3) (by decide) css' HCS.out, show (j * 3 + t) / 3 = j by omega, show (j * 3 + t) % 3 = t by omega, hjc']
          exact hu
        have hci : ∀ (t : Nat), t < 3 → ∃ u, wr.cell? ⟨g, i * 3 + t, none⟩ = some u := by
          intro t ht
          exact ⟨_, by rw [HOWN.out.cellAt _ (by omega)]; exact List.getElem?_eq_getElem (by rw [HOWN.out.1]; omega)⟩
        have hfz : ∀ o, wr.frozen? ⟨g, o, none⟩ = false := HOWN.out.frozenAt
        have hgl : g < wr.heap.size := (HOWN.out.lt g rfl).2
        have c0 : wr.cell? ⟨g, j * 3, none⟩ = some (.int .i64 l[j].h) := hcj 0 _ rfl (by decide)
        have c1 : wr.cell? ⟨g, j * 3 + 1, none⟩ = some (.int .i64 l[j].k) := hcj 1 _ rfl (by decide)
        have c2 : wr.cell? ⟨g, j * 3 + 2, none⟩ = some (.int .i64 l[j].n) := hcj 2 _ rfl (by decide)
        obtain ⟨u0, hu0⟩ : ∃ u, wr.cell? ⟨g, i * 3, none⟩ = some u := hci 0 (by decide)
        obtain ⟨u1, hu1⟩ : ∃ u, wr.cell? ⟨g, i * 3 + 1, none⟩ = some u := hci 1 (by decide)
        obtain ⟨u2, hu2⟩ : ∃ u, wr.cell? ⟨g, i * 3 + 2, none⟩ = some u := hci 2 (by decide)
        have hRw : Ty.pt.R (frag w (some g)) l[j].cells l[j] := ⟨rfl, hRR⟩
        have hsay := fun (W : World) (hW : Grow wr W) => HP.out W _ l[j] (grownBy_trans HGR.out (grownBy_of_grow hW _)) (List.getElem_mem _) (Ty.pt.mono (Sub.trans (frag_grown (grownBy_trans HGR.out (grownBy_of_grow hW _))) (frag_sub _ _)) hRw)
        have hstep := filter_take_succ (fun x => !p x) hlt
        have HS := Lib.hid hsay
        have HST := Lib.hid hstep
        have HRW := Lib.hid hRw
        clear hsay hstep hcj hci hRw hRR hjc hjc' hcsj
        simp only [Pt.cells, aggOf] at HS
        simp only [Pt.cells] at HRW
        cases hq : p l[j]
        · rw [hq] at HS HST
          generalize l[j] = q at *
          go_wp2_with (go_at_fn F; refine (HS.out _ ((Grow.refl wr).alloc _)).mono ?_; rintro e w1 ⟨rfl, hb1⟩; have e0 := hb1.sub ⟨wr.heap.size, 0, none⟩ _ (World.cell?_alloc_new wr _ _ 0); have e1 := hb1.sub ⟨wr.heap.size, 1, none⟩ _ (World.cell?_alloc_new wr _ _ 1); have e2 := hb1.sub ⟨wr.heap.size, 2, none⟩ _ (World.cell?_alloc_new wr _ _ 2); simp at e0 e1 e2; have d0 := (((Grow.refl wr).alloc _).trans hb1).sub _ _ hu0; have d1 := (((Grow.refl wr).alloc _).trans hb1).sub _ _ hu1; have d2 := (((Grow.refl wr).alloc _).trans hb1).sub _ _ hu2; have df : ∀ o, w1.frozen? ⟨g, o, none⟩ = false := fun o => ((((Grow.refl wr).alloc _).trans hb1).frozen (p := ⟨g, o, none⟩) hgl).trans (hfz o); have dz := hb1.size; have HB1 := Lib.hid hb1; clear hb1)
          obtain ⟨hset, hsg⟩ := owns_set (cs := [.int .i64 q.h, .int .i64 q.k, .int .i64 q.n]) (i := i) HCS.out (HOWN.out.kept (grownBy_of_grow (((Grow.refl wr).alloc _).trans HB1.out) none) (by right; simp [Value.ownBlock])) (by rw [HL'.out]; omega) rfl
          have HSET := Lib.hid hset
          have HSG := Lib.hid hsg
          clear hset hsg
          go_roundw
          case rel =>
            refine ⟨i + 1, j + 1, css'.set i [.int .i64 q.h, .int .i64 q.k, .int .i64 q.n], by omega, by omega, by go_num, by go_num, grownBy_trans (grownBy_trans HGR.out (grownBy_of_grow (((Grow.refl wr).alloc _).trans HB1.out) _)) HSG.out, by simpa using HL'.out, ?_, HSET.out, ?_, ?_, ?_⟩
            · intro cs hc
              rcases List.mem_or_eq_of_mem_set hc with h | rfl
              · exact HCS.out cs h
              · rfl
            · rw [List.drop_set_of_lt (by omega)]
              have : (css'.drop j).drop 1 = (css.drop j).drop 1 := by rw [HD.out]
              simpa [List.drop_drop] using this
            · rw [HST.out]; simp [HFL.out]
            · intro a cs x ha h1 h2
              rw [HST.out] at h2
              simp only [Bool.not_false, if_true] at h2
              by_cases hai : a < i
              · rw [List.getElem?_set_ne (by omega)] at h1
                rw [List.getElem?_append_left (by rw [HFL.out]; exact hai)] at h2
                exact HRI.out a cs x hai h1 h2
              · obtain rfl : a = i := by omega
                rw [List.getElem?_append_right (by rw [HFL.out]; omega), HFL.out, Nat.sub_self] at h2
                rw [List.getElem?_set_self (by rw [HL'.out]; omega)] at h1
                obtain rfl := Option.some.inj h1
                obtain rfl := Option.some.inj h2
                exact HRW.out
          case measure => simp [intOf]; omega
        · rw [hq] at HS HST
          generalize l[j] = q at *
          go_wp2_with (go_at_fn F; refine (HS.out _ ((Grow.refl wr).alloc _)).mono ?_; rintro e w1 ⟨rfl, hb1⟩)
          have HB1 := Lib.hid hb1
          clear hb1
          go_roundw
          case rel =>
            refine ⟨i, j + 1, css', by omega, by omega, rfl, by go_num, grownBy_trans HGR.out (grownBy_of_grow (((Grow.refl wr).alloc _).trans HB1.out) _), HL'.out, HCS.out, HOWN.out.kept (grownBy_of_grow (((Grow.refl wr).alloc _).trans HB1.out) none) (by right; simp [Value.ownBlock]), ?_, ?_, ?_⟩
            · have : (css'.drop j).drop 1 = (css.drop j).drop 1 := by rw [HD.out]
              simpa [List.drop_drop] using this
            · rw [HST.out]; simp [HFL.out]
            · intro a cs x ha h1 h2
              rw [HST.out] at h2
              simp only [Bool.not_true, Bool.false_eq_true, if_false, List.append_nil] at h2
              exact HRI.out a cs x ha h1 h2
          case measure => simp [intOf]; omega
      · obtain rfl : j = l.length := by omega
        have hic : i ≤ cap := by omega
        obtain ⟨w2, hcl, HO2, HG2⟩ := clear_run ei_pt 0 HOWN.out i (l.length - i) (cap - i) (some ⟨g, i * 3, none⟩) (by omega) (fun _ => rfl) (by omega)
        have HCL := Lib.hid hcl
        have HO2' := Lib.hid HO2
        have HG2' := Lib.hid HG2
        clear hcl HO2 HG2 eg
        have hil : i < cap := by omega
        have hil2 : i ≤ l.length := by omega
        go_wp2_with fail
        rw [HCL.out]
        go_wp2
        go_ret
        refine ⟨_, rfl, ?_, grownBy_trans HGR.out HG2'.out, rfl⟩
        have hfin : (l.filter fun x => !p x).length = i := by have := HFL.out; rw [List.take_of_length_le (Nat.le_refl _)] at this; exact this
        refine ⟨css'.take i, ?_, by rw [List.length_take, HL'.out, hfin]; omega, fun a cs x h1 h2 => ?_⟩
        · have h := HO2'.out
          rw [flatten_take css' i HCS.out] at h
          rw [hfin]; exact h
        · rw [List.getElem?_take] at h1
          split at h1
          · rename_i hai
            have h3 := HRI.out a cs x hai h1 (by rw [List.take_of_length_le (Nat.le_refl _)]; exact h2)
            exact Ty.pt.mono (frag_grown (grownBy_trans HGR.out HG2'.out)) h3
          · cases h1

set_option maxRecDepth 100000 in
set_option maxHeartbeats 1000000 in
theorem deleteFunc_opn {w : World} {base : Nat} {v : Value} {l : List Opn} {F : FuncId} {caps : Array Value} {p : Opn → Bool} (ho : OwnT Ty.opn w base 136 v l) (hp : TellsG Try.prog Ty.opn aggOf w v.ownBlock F caps l p) :
    Calls Try.prog 124 #[v, .func (.func F) #[] caps] w fun e w' => ∃ v', e = .returned v' ∧ OwnT Ty.opn w' base 136 v' (l.filter fun x => !p x) ∧ w.grownBy w' v.ownBlock ∧ v'.ownBlock = v.ownBlock := by
  have hIdx := indexFunc_opn w (ho.sl (by decide)) hp.tells
  cases hfi : l.findIdx? p with
  | none =>
    have hx : idxOf p l = -1 := by rw [idxOf, hfi]
    have HF := Lib.hid (filter_none hfi)
    rw [hx] at hIdx
    have HI := Lib.hid hIdx
    have HO := Lib.hid ho
    clear hIdx hx hfi ho hp
    go_enter Try.func124, Try.ntmps124
    go_wp2_with (go_at_call 156; refine HI.out.mono ?_; rintro e w1 ⟨rfl, hb1⟩)
    go_ret
    exact ⟨_, rfl, by rw [HF.out]; exact HO.out.grow hb1, grownBy_of_grow hb1 _, rfl⟩
  | some k =>
    have hx : idxOf p l = k := by rw [idxOf, hfi]
    rw [hx] at hIdx
    rw [List.findIdx?_eq_some_iff_getElem] at hfi
    obtain ⟨hk, hpk, hbefore⟩ := hfi
    obtain ⟨css, hown, hcl0, hR⟩ := ho
    have hcl := css_len hcl0 hR
    obtain ⟨hl, ⟨rfl, hn⟩ | ⟨g, cap, cur, rfl, hb, hg, hnc, hcm, hcs, htake⟩⟩ := id hown
    · omega
    have hbl : (Value.slice (some (⟨g, 0, none⟩ : Addr)) l.length cap).ownBlock = some g := rfl
    rw [hbl] at hR hp ⊢
    have hf0 : (l.take (k + 1)).filter (fun x => !p x) = l.take k := by
      rw [filter_take_succ _ hk, hpk]
      simp only [Bool.not_true, Bool.false_eq_true, if_false, List.append_nil]
      rw [List.filter_eq_self]
      intro x hx
      obtain ⟨j, hj, rfl⟩ := List.mem_iff_getElem.1 hx
      have := hbefore j (by simp at hj; omega)
      simpa using this
    have hkne : ((k : Int) == -1) = false := by rw [beq_eq_false_iff_ne]; omega
    have hcm' : cap ≤ 9223372036854775807 := by unfold maxLen at hcm; omega
    have HI := Lib.hid hIdx
    have HO := Lib.hid hown
    have HR := Lib.hid hR
    have HP := Lib.hid hp.say
    have eg := hp.ent
    have HF := Lib.hid hf0
    have HC := Lib.hid hcl
    have HC0 := Lib.hid hcl0
    clear hIdx hown hR hp hf0 hcl hcl0 hl hg htake hcs hb hcm hbefore hpk hx
    go_enter Try.func124, Try.ntmps124
    go_wp2_with (go_at_call 156; refine HI.out.mono ?_; rintro e w1 ⟨rfl, hb1⟩)
    go_loopw [5, 6, 7] (fun si sj _ wr => ∃ (i j : Nat) (css' : List (List Value)), i < j ∧ j ≤ l.length ∧ si = .int .i64 i ∧ sj = .int .i64 j ∧ w.grownBy wr (some g) ∧ css'.length = l.length ∧ (∀ cs ∈ css', cs.length = 4) ∧
        wr.ownsRow base 136 4 (.slice (some ⟨g, 0, none⟩) l.length cap) l.length css'.flatten ∧ css'.drop j = css.drop j ∧ ((l.take j).filter fun x => !p x).length = i ∧
        ∀ (a : Nat) (cs : List Value) (x : Opn), a < i → css'[a]? = some cs → ((l.take j).filter fun x => !p x)[a]? = some x → Ty.opn.R (frag w (some g)) cs x) (fun _ sj _ _ => l.length - (intOf sj).toNat)
    case atStart =>
      refine ⟨k, k + 1, css, by omega, by omega, rfl, by go_num, grownBy_of_grow hb1 _, HC0.out, HC.out, HO.out.kept (grownBy_of_grow hb1 none) (by right; simp [Value.ownBlock]), rfl, by rw [HF.out]; simp; omega, fun a cs x ha h1 h2 => ?_⟩
      rw [HF.out, List.getElem?_take, if_pos ha] at h2
      exact HR.out a cs x h1 h2
    case round =>
      obtain ⟨i, j, css', hij, hj', rfl, rfl, hgr, hl', hcs', hown', hdrop, hfl, hRi⟩ := hrel
      have HOWN := Lib.hid hown'
      have HCS := Lib.hid hcs'
      have HD := Lib.hid hdrop
      have HFL := Lib.hid hfl
      have HRI := Lib.hid hRi
      have HL' := Lib.hid hl'
      have HGR := Lib.hid hgr
      clear hown' hcs' hdrop hfl hRi hl' hgr hb1
      by_cases hlt : j < l.length
      · have hjc : css[j]? = some css[j]! := by rw [List.getElem?_eq_getElem (by rw [HC0.out]; exact hlt), getElem!_pos css j (by rw [HC0.out]; exact hlt)]
        obtain ⟨v1, v2, hcsj, hRR⟩ := HR.out j _ l[j] hjc (List.getElem?_eq_getElem hlt)
        obtain ⟨sa1, sc1, rfl, -⟩ := id hRR.2.1; obtain ⟨sa2, sc2, rfl, -⟩ := id hRR.2.2
        have hjc' : css'[j]? = some css[j]! := by
          have : (css'.drop j)[0]? = (css.drop j)[0]? := by rw [HD.out]
          rw [List.getElem?_drop, List.getElem?_drop, Nat.add_zero, hjc] at this
          exact this
        rw [hcsj] at hjc hjc'
        have hcj : ∀ (t : Nat) (u : Value), ([.int .i64 l[j].deed, .slice sa1 l[j].parts.length sc1, .bool l[j].dec, .slice sa2 l[j].heard.length sc2])[t]? = some u → t < 4 → wr.cell? ⟨g, j * 4 + t, none⟩ = some u := by
          intro t u hu ht
          rw [HOWN.out.cellAt _ (by omega), flatten_at (size := 4) (by decide) css' HCS.out, show (j * 4 + t) / 4 = j by omega, show (j * 4 + t) % 4 = t by omega, hjc']
          exact hu
        have hci : ∀ (t : Nat), t < 4 → ∃ u, wr.cell? ⟨g, i * 4 + t, none⟩ = some u := by
          intro t ht
          exact ⟨_, by rw [HOWN.out.cellAt _ (by omega)]; exact List.getElem?_eq_getElem (by rw [HOWN.out.1]; omega)⟩
        have hfz : ∀ o, wr.frozen? ⟨g, o, none⟩ = false := HOWN.out.frozenAt
        have hgl : g < wr.heap.size := (HOWN.out.lt g rfl).2
        have c0 : wr.cell? ⟨g, j * 4, none⟩ = some (.int .i64 l[j].deed) := hcj 0 _ rfl (by decide)
        have c1 : wr.cell? ⟨g, j * 4 + 1, none⟩ = some (.slice sa1 l[j].parts.length sc1) := hcj 1 _ rfl (by decide)
        have c2 : wr.cell? ⟨g, j * 4 + 2, none⟩ = some (.bool l[j].dec) := hcj 2 _ rfl (by decide)
        have c3 : wr.cell? ⟨g, j * 4 + 3, none⟩ = some (.slice sa2 l[j].heard.length sc2) := hcj 3 _ rfl (by decide)
        obtain ⟨u0, hu0⟩ : ∃ u, wr.cell? ⟨g, i * 4, none⟩ = some u := hci 0 (by decide)
        obtain ⟨u1, hu1⟩ : ∃ u, wr.cell? ⟨g, i * 4 + 1, none⟩ = some u := hci 1 (by decide)
        obtain ⟨u2, hu2⟩ : ∃ u, wr.cell? ⟨g, i * 4 + 2, none⟩ = some u := hci 2 (by decide)
        obtain ⟨u3, hu3⟩ : ∃ u, wr.cell? ⟨g, i * 4 + 3, none⟩ = some u := hci 3 (by decide)
        have hRw : Ty.opn.R (frag w (some g)) [.int .i64 l[j].deed, .slice sa1 l[j].parts.length sc1, .bool l[j].dec, .slice sa2 l[j].heard.length sc2] l[j] := ⟨_, _, rfl, hRR⟩
        have hsay := fun (W : World) (hW : Grow wr W) => HP.out W _ l[j] (grownBy_trans HGR.out (grownBy_of_grow hW _)) (List.getElem_mem _) (Ty.opn.mono (Sub.trans (frag_grown (grownBy_trans HGR.out (grownBy_of_grow hW _))) (frag_sub _ _)) hRw)
        have hstep := filter_take_succ (fun x => !p x) hlt
        have HS := Lib.hid hsay
        have HST := Lib.hid hstep
        have HRW := Lib.hid hRw
        clear hsay hstep hcj hci hRw hRR hjc hjc' hcsj
        simp only [aggOf] at HS
        skip
        cases hq : p l[j]
        · rw [hq] at HS HST
          generalize l[j] = q at *
          go_wp2_with (go_at_fn F; refine (HS.out _ ((Grow.refl wr).alloc _)).mono ?_; rintro e w1 ⟨rfl, hb1⟩; have e0 := hb1.sub ⟨wr.heap.size, 0, none⟩ _ (World.cell?_alloc_new wr _ _ 0); have e1 := hb1.sub ⟨wr.heap.size, 1, none⟩ _ (World.cell?_alloc_new wr _ _ 1); have e2 := hb1.sub ⟨wr.heap.size, 2, none⟩ _ (World.cell?_alloc_new wr _ _ 2); have e3 := hb1.sub ⟨wr.heap.size, 3, none⟩ _ (World.cell?_alloc_new wr _ _ 3); simp at e0 e1 e2 e3; have d0 := (((Grow.refl wr).alloc _).trans hb1).sub _ _ hu0; have d1 := (((Grow.refl wr).alloc _).trans hb1).sub _ _ hu1; have d2 := (((Grow.refl wr).alloc _).trans hb1).sub _ _ hu2; have d3 := (((Grow.refl wr).alloc _).trans hb1).sub _ _ hu3; have df : ∀ o, w1.frozen? ⟨g, o, none⟩ = false := fun o => ((((Grow.refl wr).alloc _).trans hb1).frozen (p := ⟨g, o, none⟩) hgl).trans (hfz o); have dz := hb1.size; have HB1 := Lib.hid hb1; clear hb1)
          obtain ⟨hset, hsg⟩ := owns_set (cs := [.int .i64 q.deed, .slice sa1 q.parts.length sc1, .bool q.dec, .slice sa2 q.heard.length sc2]) (i := i) HCS.out (HOWN.out.kept (grownBy_of_grow (((Grow.refl wr).alloc _).trans HB1.out) none) (by right; simp [Value.ownBlock])) (by rw [HL'.out]; omega) rfl
          have HSET := Lib.hid hset
          have HSG := Lib.hid hsg
          clear hset hsg
          go_roundw
          case rel =>
            refine ⟨i + 1, j + 1, css'.set i [.int .i64 q.deed, .slice sa1 q.parts.length sc1, .bool q.dec, .slice sa2 q.heard.length sc2], by omega, by omega, by go_num, by go_num, grownBy_trans (grownBy_trans HGR.out (grownBy_of_grow (((Grow.refl wr).alloc _).trans HB1.out) _)) HSG.out, by simpa using HL'.out, ?_, HSET.out, ?_, ?_, ?_⟩
            · intro cs hc
              rcases List.mem_or_eq_of_mem_set hc with h | rfl
              · exact HCS.out cs h
              · rfl
            · rw [List.drop_set_of_lt (by omega)]
              have : (css'.drop j).drop 1 = (css.drop j).drop 1 := by rw [HD.out]
              simpa [List.drop_drop] using this
            · rw [HST.out]; simp [HFL.out]
            · intro a cs x ha h1 h2
              rw [HST.out] at h2
              simp only [Bool.not_false, if_true] at h2
              by_cases hai : a < i
              · rw [List.getElem?_set_ne (by omega)] at h1
                rw [List.getElem?_append_left (by rw [HFL.out]; exact hai)] at h2
                exact HRI.out a cs x hai h1 h2
              · obtain rfl : a = i := by omega
                rw [List.getElem?_append_right (by rw [HFL.out]; omega), HFL.out, Nat.sub_self] at h2
                rw [List.getElem?_set_self (by rw [HL'.out]; omega)] at h1
                obtain rfl := Option.some.inj h1
                obtain rfl := Option.some.inj h2
                exact HRW.out
          case measure => simp [intOf]; omega
        · rw [hq] at HS HST
          generalize l[j] = q at *
          go_wp2_with (go_at_fn F; refine (HS.out _ ((Grow.refl wr).alloc _)).mono ?_; rintro e w1 ⟨rfl, hb1⟩)
          have HB1 := Lib.hid hb1
          clear hb1
          go_roundw
          case rel =>
            refine ⟨i, j + 1, css', by omega, by omega, rfl, by go_num, grownBy_trans HGR.out (grownBy_of_grow (((Grow.refl wr).alloc _).trans HB1.out) _), HL'.out, HCS.out, HOWN.out.kept (grownBy_of_grow (((Grow.refl wr).alloc _).trans HB1.out) none) (by right; simp [Value.ownBlock]), ?_, ?_, ?_⟩
            · have : (css'.drop j).drop 1 = (css.drop j).drop 1 := by rw [HD.out]
              simpa [List.drop_drop] using this
            · rw [HST.out]; simp [HFL.out]
            · intro a cs x ha h1 h2
              rw [HST.out] at h2
              simp only [Bool.not_true, Bool.false_eq_true, if_false, List.append_nil] at h2
              exact HRI.out a cs x ha h1 h2
          case measure => simp [intOf]; omega
      · obtain rfl : j = l.length := by omega
        have hic : i ≤ cap := by omega
        obtain ⟨w2, hcl, HO2, HG2⟩ := clear_run ei_opn 0 HOWN.out i (l.length - i) (cap - i) (some ⟨g, i * 4, none⟩) (by omega) (fun _ => rfl) (by omega)
        have HCL := Lib.hid hcl
        have HO2' := Lib.hid HO2
        have HG2' := Lib.hid HG2
        clear hcl HO2 HG2 eg
        have hil : i < cap := by omega
        have hil2 : i ≤ l.length := by omega
        go_wp2_with fail
        rw [HCL.out]
        go_wp2
        go_ret
        refine ⟨_, rfl, ?_, grownBy_trans HGR.out HG2'.out, rfl⟩
        have hfin : (l.filter fun x => !p x).length = i := by have := HFL.out; rw [List.take_of_length_le (Nat.le_refl _)] at this; exact this
        refine ⟨css'.take i, ?_, by rw [List.length_take, HL'.out, hfin]; omega, fun a cs x h1 h2 => ?_⟩
        · have h := HO2'.out
          rw [flatten_take css' i HCS.out] at h
          rw [hfin]; exact h
        · rw [List.getElem?_take] at h1
          split at h1
          · rename_i hai
            have h3 := HRI.out a cs x hai h1 (by rw [List.take_of_length_le (Nat.le_refl _)]; exact h2)
            exact Ty.opn.mono (frag_grown (grownBy_trans HGR.out HG2'.out)) h3
          · cases h1

end Go.Proofs.Ytgbhpghgohggcaa

/- Walks: slices.DeleteFunc on a row of the call's own, whose elements read in a memory that stays. -/
namespace Go.Proofs.Ytgbhpghgohggcaa
open Go.RowKit
set_option maxRecDepth 100000 in
set_option maxHeartbeats 1000000 in
theorem deleteFunc_opn_c {c : CM} {w : World} {base : Nat} {v : Value} {l : List Opn} {F : FuncId} {caps : Array Value} {p : Opn → Bool} (hc : Sub c (frag w v.ownBlock)) (ho : OwnC Ty.opn c w base 136 v l) (hp : TellsG Try.prog Ty.opn aggOf w v.ownBlock F caps l p) :
    Calls Try.prog 124 #[v, .func (.func F) #[] caps] w fun e w' => ∃ v', e = .returned v' ∧ OwnC Ty.opn c w' base 136 v' (l.filter fun x => !p x) ∧ w.grownBy w' v.ownBlock ∧ v'.ownBlock = v.ownBlock := by
  have hIdx := indexFunc_opn w (OwnC.sl (by decide) (hc.trans (frag_sub _ _)) ho) hp.tells
  cases hfi : l.findIdx? p with
  | none =>
    have hx : idxOf p l = -1 := by rw [idxOf, hfi]
    have HF := Lib.hid (filter_none hfi)
    rw [hx] at hIdx
    have HI := Lib.hid hIdx
    have HO := Lib.hid ho
    clear hIdx hx hfi ho hp
    go_enter Try.func124, Try.ntmps124
    go_wp2_with (go_at_call 156; refine HI.out.mono ?_; rintro e w1 ⟨rfl, hb1⟩)
    go_ret
    exact ⟨_, rfl, by rw [HF.out]; exact HO.out.grow hb1, grownBy_of_grow hb1 _, rfl⟩
  | some k =>
    have hx : idxOf p l = k := by rw [idxOf, hfi]
    rw [hx] at hIdx
    rw [List.findIdx?_eq_some_iff_getElem] at hfi
    obtain ⟨hk, hpk, hbefore⟩ := hfi
    obtain ⟨css, hown, hcl0, hR⟩ := ho
    have hcl := css_len hcl0 hR
    obtain ⟨hl, ⟨rfl, hn⟩ | ⟨g, cap, cur, rfl, hb, hg, hnc, hcm, hcs, htake⟩⟩ := id hown
    · omega
    have hbl : (Value.slice (some (⟨g, 0, none⟩ : Addr)) l.length cap).ownBlock = some g := rfl
    rw [hbl] at hp hc ⊢
    have HCC := Lib.hid hc
    clear hc
    have hf0 : (l.take (k + 1)).filter (fun x => !p x) = l.take k := by
      rw [filter_take_succ _ hk, hpk]
      simp only [Bool.not_true, Bool.false_eq_true, if_false, List.append_nil]
      rw [List.filter_eq_self]
      intro x hx
      obtain ⟨j, hj, rfl⟩ := List.mem_iff_getElem.1 hx
      have := hbefore j (by simp at hj; omega)
      simpa using this
    have hkne : ((k : Int) == -1) = false := by rw [beq_eq_false_iff_ne]; omega
    have hcm' : cap ≤ 9223372036854775807 := by unfold maxLen at hcm; omega
    have HI := Lib.hid hIdx
    have HO := Lib.hid hown
    have HR := Lib.hid hR
    have HP := Lib.hid hp.say
    have eg := hp.ent
    have HF := Lib.hid hf0
    have HC := Lib.hid hcl
    have HC0 := Lib.hid hcl0
    clear hIdx hown hR hp hf0 hcl hcl0 hl hg htake hcs hb hcm hbefore hpk hx
    go_enter Try.func124, Try.ntmps124
    go_wp2_with (go_at_call 156; refine HI.out.mono ?_; rintro e w1 ⟨rfl, hb1⟩)
    go_loopw [5, 6, 7] (fun si sj _ wr => ∃ (i j : Nat) (css' : List (List Value)), i < j ∧ j ≤ l.length ∧ si = .int .i64 i ∧ sj = .int .i64 j ∧ w.grownBy wr (some g) ∧ css'.length = l.length ∧ (∀ cs ∈ css', cs.length = 4) ∧
        wr.ownsRow base 136 4 (.slice (some ⟨g, 0, none⟩) l.length cap) l.length css'.flatten ∧ css'.drop j = css.drop j ∧ ((l.take j).filter fun x => !p x).length = i ∧
        ∀ (a : Nat) (cs : List Value) (x : Opn), a < i → css'[a]? = some cs → ((l.take j).filter fun x => !p x)[a]? = some x → Ty.opn.R c cs x) (fun _ sj _ _ => l.length - (intOf sj).toNat)
    case atStart =>
      refine ⟨k, k + 1, css, by omega, by omega, rfl, by go_num, grownBy_of_grow hb1 _, HC0.out, HC.out, HO.out.kept (grownBy_of_grow hb1 none) (by right; simp [Value.ownBlock]), rfl, by rw [HF.out]; simp; omega, fun a cs x ha h1 h2 => ?_⟩
      rw [HF.out, List.getElem?_take, if_pos ha] at h2
      exact HR.out a cs x h1 h2
    case round =>
      obtain ⟨i, j, css', hij, hj', rfl, rfl, hgr, hl', hcs', hown', hdrop, hfl, hRi⟩ := hrel
      have HOWN := Lib.hid hown'
      have HCS := Lib.hid hcs'
      have HD := Lib.hid hdrop
      have HFL := Lib.hid hfl
      have HRI := Lib.hid hRi
      have HL' := Lib.hid hl'
      have HGR := Lib.hid hgr
      clear hown' hcs' hdrop hfl hRi hl' hgr hb1
      by_cases hlt : j < l.length
      · have hjc : css[j]? = some css[j]! := by rw [List.getElem?_eq_getElem (by rw [HC0.out]; exact hlt), getElem!_pos css j (by rw [HC0.out]; exact hlt)]
        obtain ⟨v1, v2, hcsj, hRR⟩ := HR.out j _ l[j] hjc (List.getElem?_eq_getElem hlt)
        obtain ⟨sa1, sc1, rfl, -⟩ := id hRR.2.1; obtain ⟨sa2, sc2, rfl, -⟩ := id hRR.2.2
        have hjc' : css'[j]? = some css[j]! := by
          have : (css'.drop j)[0]? = (css.drop j)[0]? := by rw [HD.out]
          rw [List.getElem?_drop, List.getElem?_drop, Nat.add_zero, hjc] at this
          exact this
        rw [hcsj] at hjc hjc'
        have hcj : ∀ (t : Nat) (u : Value), ([.int .i64 l[j].deed, .slice sa1 l[j].parts.length sc1, .bool l[j].dec, .slice sa2 l[j].heard.length sc2])[t]? = some u → t < 4 → wr.cell? ⟨g, j * 4 + t, none⟩ = some u := by
          intro t u hu ht
          rw [HOWN.out.cellAt _ (by omega), flatten_at (size := 4) (by decide) css' HCS.out, show (j * 4 + t) / 4 = j by omega, show (j * 4 + t) % 4 = t by omega, hjc']
          exact hu
        have hci : ∀ (t : Nat), t < 4 → ∃ u, wr.cell? ⟨g, i * 4 + t, none⟩ = some u := by
          intro t ht
          exact ⟨_, by rw [HOWN.out.cellAt _ (by omega)]; exact List.getElem?_eq_getElem (by rw [HOWN.out.1]; omega)⟩
        have hfz : ∀ o, wr.frozen? ⟨g, o, none⟩ = false := HOWN.out.frozenAt
        have hgl : g < wr.heap.size := (HOWN.out.lt g rfl).2
        have c0 : wr.cell? ⟨g, j * 4, none⟩ = some (.int .i64 l[j].deed) := hcj 0 _ rfl (by decide)
        have c1 : wr.cell? ⟨g, j * 4 + 1, none⟩ = some (.slice sa1 l[j].parts.length sc1) := hcj 1 _ rfl (by decide)
        have c2 : wr.cell? ⟨g, j * 4 + 2, none⟩ = some (.bool l[j].dec) := hcj 2 _ rfl (by decide)
        have c3 : wr.cell? ⟨g, j * 4 + 3, none⟩ = some (.slice sa2 l[j].heard.length sc2) := hcj 3 _ rfl (by decide)
        obtain ⟨u0, hu0⟩ : ∃ u, wr.cell? ⟨g, i * 4, none⟩ = some u := hci 0 (by decide)
        obtain ⟨u1, hu1⟩ : ∃ u, wr.cell? ⟨g, i * 4 + 1, none⟩ = some u := hci 1 (by decide)
        obtain ⟨u2, hu2⟩ : ∃ u, wr.cell? ⟨g, i * 4 + 2, none⟩ = some u := hci 2 (by decide)
        obtain ⟨u3, hu3⟩ : ∃ u, wr.cell? ⟨g, i * 4 + 3, none⟩ = some u := hci 3 (by decide)
        have hRw : Ty.opn.R c [.int .i64 l[j].deed, .slice sa1 l[j].parts.length sc1, .bool l[j].dec, .slice sa2 l[j].heard.length sc2] l[j] := ⟨_, _, rfl, hRR⟩
        have hsay := fun (W : World) (hW : Grow wr W) => HP.out W _ l[j] (grownBy_trans HGR.out (grownBy_of_grow hW _)) (List.getElem_mem _) (Ty.opn.mono (Sub.trans HCC.out (Sub.trans (frag_grown (grownBy_trans HGR.out (grownBy_of_grow hW _))) (frag_sub _ _))) hRw)
        have hstep := filter_take_succ (fun x => !p x) hlt
        have HS := Lib.hid hsay
        have HST := Lib.hid hstep
        have HRW := Lib.hid hRw
        clear hsay hstep hcj hci hRw hRR hjc hjc' hcsj
        simp only [aggOf] at HS
        skip
        cases hq : p l[j]
        · rw [hq] at HS HST
          generalize l[j] = q at *
          go_wp2_with (go_at_fn F; refine (HS.out _ ((Grow.refl wr).alloc _)).mono ?_; rintro e w1 ⟨rfl, hb1⟩; have e0 := hb1.sub ⟨wr.heap.size, 0, none⟩ _ (World.cell?_alloc_new wr _ _ 0); have e1 := hb1.sub ⟨wr.heap.size, 1, none⟩ _ (World.cell?_alloc_new wr _ _ 1); have e2 := hb1.sub ⟨wr.heap.size, 2, none⟩ _ (World.cell?_alloc_new wr _ _ 2); have e3 := hb1.sub ⟨wr.heap.size, 3, none⟩ _ (World.cell?_alloc_new wr _ _ 3); simp at e0 e1 e2 e3; have d0 := (((Grow.refl wr).alloc _).trans hb1).sub _ _ hu0; have d1 := (((Grow.refl wr).alloc _).trans hb1).sub _ _ hu1; have d2 := (((Grow.refl wr).alloc _).trans hb1).sub _ _ hu2; have d3 := (((Grow.refl wr).alloc _).trans hb1).sub _ _ hu3; have df : ∀ o, w1.frozen? ⟨g, o, none⟩ = false := fun o => ((((Grow.refl wr).alloc _).trans hb1).frozen (p := ⟨g, o, none⟩) hgl).trans (hfz o); have dz := hb1.size; have HB1 := Lib.hid hb1; clear hb1)
          obtain ⟨hset, hsg⟩ := owns_set (cs := [.int .i64 q.deed, .slice sa1 q.parts.length sc1, .bool q.dec, .slice sa2 q.heard.length sc2]) (i := i) HCS.out (HOWN.out.kept (grownBy_of_grow (((Grow.refl wr).alloc _).trans HB1.out) none) (by right; simp [Value.ownBlock])) (by rw [HL'.out]; omega) rfl
          have HSET := Lib.hid hset
          have HSG := Lib.hid hsg
          clear hset hsg
          go_roundw
          case rel =>
            refine ⟨i + 1, j + 1, css'.set i [.int .i64 q.deed, .slice sa1 q.parts.length sc1, .bool q.dec, .slice sa2 q.heard.length sc2], by omega, by omega, by go_num, by go_num, grownBy_trans (grownBy_trans HGR.out (grownBy_of_grow (((Grow.refl wr).alloc _).trans HB1.out) _)) HSG.out, by simpa using HL'.out, ?_, HSET.out, ?_, ?_, ?_⟩
            · intro cs hc
              rcases List.mem_or_eq_of_mem_set hc with h | rfl
              · exact HCS.out cs h
              · rfl
            · rw [List.drop_set_of_lt (by omega)]
              have : (css'.drop j).drop 1 = (css.drop j).drop 1 := by rw [HD.out]
              simpa [List.drop_drop] using this
            · rw [HST.out]; simp [HFL.out]
            · intro a cs x ha h1 h2
              rw [HST.out] at h2
              simp only [Bool.not_false, if_true] at h2
              by_cases hai : a < i
              · rw [List.getElem?_set_ne (by omega)] at h1
                rw [List.getElem?_append_left (by rw [HFL.out]; exact hai)] at h2
                exact HRI.out a cs x hai h1 h2
              · obtain rfl : a = i := by omega
                rw [List.getElem?_append_right (by rw [HFL.out]; omega), HFL.out, Nat.sub_self] at h2
                rw [List.getElem?_set_self (by rw [HL'.out]; omega)] at h1
                obtain rfl := Option.some.inj h1
                obtain rfl := Option.some.inj h2
                exact HRW.out
          case measure => simp [intOf]; omega
        · rw [hq] at HS HST
          generalize l[j] = q at *
          go_wp2_with (go_at_fn F; refine (HS.out _ ((Grow.refl wr).alloc _)).mono ?_; rintro e w1 ⟨rfl, hb1⟩)
          have HB1 := Lib.hid hb1
          clear hb1
          go_roundw
          case rel =>
            refine ⟨i, j + 1, css', by omega, by omega, rfl, by go_num, grownBy_trans HGR.out (grownBy_of_grow (((Grow.refl wr).alloc _).trans HB1.out) _), HL'.out, HCS.out, HOWN.out.kept (grownBy_of_grow (((Grow.refl wr).alloc _).trans HB1.out) none) (by right; simp [Value.ownBlock]), ?_, ?_, ?_⟩
            · have : (css'.drop j).drop 1 = (css.drop j).drop 1 := by rw [HD.out]
              simpa [List.drop_drop] using this
            · rw [HST.out]; simp [HFL.out]
            · intro a cs x ha h1 h2
              rw [HST.out] at h2
              simp only [Bool.not_true, Bool.false_eq_true, if_false, List.append_nil] at h2
              exact HRI.out a cs x ha h1 h2
          case measure => simp [intOf]; omega
      · obtain rfl : j = l.length := by omega
        have hic : i ≤ cap := by omega
        obtain ⟨w2, hcl, HO2, HG2⟩ := clear_run ei_opn 0 HOWN.out i (l.length - i) (cap - i) (some ⟨g, i * 4, none⟩) (by omega) (fun _ => rfl) (by omega)
        have HCL := Lib.hid hcl
        have HO2' := Lib.hid HO2
        have HG2' := Lib.hid HG2
        clear hcl HO2 HG2 eg
        have hil : i < cap := by omega
        have hil2 : i ≤ l.length := by omega
        go_wp2_with fail
        rw [HCL.out]
        go_wp2
        go_ret
        refine ⟨_, rfl, ?_, grownBy_trans HGR.out HG2'.out, rfl⟩
        have hfin : (l.filter fun x => !p x).length = i := by have := HFL.out; rw [List.take_of_length_le (Nat.le_refl _)] at this; exact this
        refine ⟨css'.take i, ?_, by rw [List.length_take, HL'.out, hfin]; omega, fun a cs x h1 h2 => ?_⟩
        · have h := HO2'.out
          rw [flatten_take css' i HCS.out] at h
          rw [hfin]; exact h
        · rw [List.getElem?_take] at h1
          split at h1
          · rename_i hai
            have h3 := HRI.out a cs x hai h1 (by rw [List.take_of_length_le (Nat.le_refl _)]; exact h2)
            exact h3
          · cases h1

end Go.Proofs.Ytgbhpghgohggcaa

/- A head in its box, as the program walks its log: what stays and what changes. -/
namespace Go.Proofs.Ytgbhpghgohggcaa
open Go.RowKit
theorem info_hd : (Try.prog.info? 57).map (·.size) = some 4 := by kernel_rfl
abbrev zhead : Array Value := #[.slice none 0 0, .int .i64 0, .int .i64 0, .slice none 0 0]
def kmem (w w1 wr : World) (vl vo : Value) : CM := fr w wr [vl.ownBlock, vo.ownBlock, some w.heap.size, some w1.heap.size]
structure KBox (w w1 wr : World) (vl vo : Value) (l : List Rc) (h : Hd) : Prop where
  res : wr.heap[w.heap.size]? = some (.cells zhead 57 (0, 0))
  row : wr.heap[w1.heap.size]? = some (.cells #[vl, .int .i64 h.boot, .int .i64 h.next, vo] 57 (0, 0))
  log : OwnC Ty.rc (kmem w w1 wr vl vo) wr (w.heap.size + 1) 48 vl l
  opn : OwnC Ty.opn (kmem w w1 wr vl vo) wr (w1.heap.size + 1) 136 vo h.opn
  grow : Grow w wr
  size : w1.heap.size + 1 ≤ wr.heap.size
  lt : ∀ k, vl.ownBlock = some k → k < w1.heap.size
  w1 : w.heap.size + 1 ≤ w1.heap.size
structure KChg (w1 wr w' : World) (vo vo' : Value) : Prop where
  size : wr.heap.size ≤ w'.heap.size
  block : ∀ k, k < wr.heap.size → k ≠ w1.heap.size → vo.ownBlock ≠ some k → w'.heap[k]? = wr.heap[k]?
  opn : vo'.ownBlock = vo.ownBlock ∨ ∃ g, vo'.ownBlock = some g ∧ wr.heap.size ≤ g
theorem KChg.mem {w w1 wr w' : World} {vl vo vo' : Value} (c : KChg w1 wr w' vo vo') : Sub (kmem w w1 wr vl vo) (kmem w w1 w' vl vo') := by
  refine fr_step fun k hk _ hx => ?_
  simp only [List.mem_cons, List.not_mem_nil, or_false, not_or] at hx ⊢
  obtain ⟨x1, x2, x4, x5⟩ := hx
  refine ⟨c.block k hk (fun e => x5 (by rw [e])) (fun e => x2 e.symm), x1, ?_, x4, x5⟩
  rcases c.opn with e | ⟨g, e, hg⟩
  · rw [e]; exact x2
  · rw [e]; simp; omega
theorem KBox.put {w w1 wr w' : World} {vl vo vo' : Value} {l : List Rc} {h h' : Hd} (b : KBox w w1 wr vl vo l h) (c : KChg w1 wr w' vo vo') (hG : Grow w w')
    (row : w'.heap[w1.heap.size]? = some (.cells #[vl, .int .i64 h'.boot, .int .i64 h'.next, vo'] 57 (0, 0))) (opn : OwnC Ty.opn (kmem w w1 w' vl vo') w' (w1.heap.size + 1) 136 vo' h'.opn) : KBox w w1 w' vl vo' l h' where
  res := by
    have h1 := b.w1
    have h2 := b.size
    rw [c.block _ (by omega) (by omega) (fun e => by have := (b.opn.lt _ e).1; omega)]; exact b.res
  row := row
  log := by
    refine (b.log.mono c.mem).block fun k hk => ?_
    have h1 := b.lt k hk
    have h2 := b.size
    exact c.block k (by omega) (by omega) (fun e => by have := (b.opn.lt _ e).1; omega)
  opn := opn
  grow := hG
  size := Nat.le_trans b.size c.size
  lt := b.lt
  w1 := b.w1
theorem KBox.later {w w1 wr w' : World} {vl vo : Value} {l : List Rc} {h : Hd} (b : KBox w w1 wr vl vo l h) (hg : Grow wr w') : KBox w w1 w' vl vo l h :=
  have c : KChg w1 wr w' vo vo := ⟨hg.size, fun k hk _ _ => hg.block k hk, .inl rfl⟩
  b.put c (b.grow.trans hg) (row_grow b.row hg) ((b.opn.mono c.mem).grow hg)
theorem row_set4_3 {w : World} {B : Nat} {a b c d : Value} {t : TypeId} (h : w.heap[B]? = some (.cells #[a, b, c, d] t (0, 0))) (u : Value) : (w.setCell ⟨B, 3, none⟩ u).heap[B]? = some (.cells #[a, b, c, u] t (0, 0)) := by
  simp only [World.setCell, Array.getElem?_modify, h]; simp
theorem row_set4_1 {w : World} {B : Nat} {a b c d : Value} {t : TypeId} (h : w.heap[B]? = some (.cells #[a, b, c, d] t (0, 0))) (u : Value) : (w.setCell ⟨B, 1, none⟩ u).heap[B]? = some (.cells #[a, u, c, d] t (0, 0)) := by
  simp only [World.setCell, Array.getElem?_modify, h]; simp
/-- the open ones change: whatever an append or a deletion leaves -/
theorem KBox.opns {w w1 wr wq w' : World} {vl vo vo' : Value} {l : List Rc} {h : Hd} {os : List Opn} (b : KBox w w1 wr vl vo l h) (hG : Grow wr wq)
    (ho : OwnC Ty.opn (kmem w w1 wq vl vo) w' (w1.heap.size + 1) 136 vo' os) (hg : wq.grownBy w' vo.ownBlock) (hb : vo'.ownBlock = vo.ownBlock ∨ ∃ g, vo'.ownBlock = some g ∧ wq.heap.size ≤ g) :
    KBox w w1 (w'.setCell ⟨w1.heap.size, 3, none⟩ vo') vl vo' l { h with opn := os } := by
  have bq := b.later hG
  have hs := hG.size
  have hs1 := b.size
  have hw1 := b.w1
  have hlt := bq.opn.lt
  have hB : ∀ k, k ≠ w1.heap.size → (w'.setCell ⟨w1.heap.size, 3, none⟩ vo').heap[k]? = w'.heap[k]? := fun k hk => Below.heap_setCell _ _ _ _ (fun e => hk e)
  have c1 : KChg w1 wq (w'.setCell ⟨w1.heap.size, 3, none⟩ vo') vo vo' := ⟨by simpa using hg.size, fun k hk h1 h2 => by rw [hB k h1, hg.block k hk (fun e => h2 e.symm)], hb⟩
  have hGw : Grow w (w'.setCell ⟨w1.heap.size, 3, none⟩ vo') := (bq.grow.grown hg (fun k hk => by have := (hlt k hk).1; omega)).setCell (by simp; omega) _
  exact bq.put c1 hGw (row_set4_3 (row_by bq.row hg (fun e => by have := (hlt _ e.symm).1; omega)) _) ((ho.mono c1.mem).block fun k hk => hB k (by have := (ho.lt k hk).1; omega))
theorem KBox.boot {w w1 wr wq : World} {vl vo : Value} {l : List Rc} {h : Hd} (b : KBox w w1 wr vl vo l h) (hG : Grow wr wq) (x : Int) : KBox w w1 (wq.setCell ⟨w1.heap.size, 1, none⟩ (.int .i64 x)) vl vo l { h with boot := x } := by
  have bq := b.later hG
  have hs := hG.size
  have hs1 := b.size
  have hw1 := b.w1
  have hB : ∀ k, k ≠ w1.heap.size → (wq.setCell ⟨w1.heap.size, 1, none⟩ (.int .i64 x)).heap[k]? = wq.heap[k]? := fun k hk => Below.heap_setCell _ _ _ _ (fun e => hk e)
  have c1 : KChg w1 wq (wq.setCell ⟨w1.heap.size, 1, none⟩ (.int .i64 x)) vo vo := ⟨by simp, fun k hk h1 _ => hB k h1, .inl rfl⟩
  exact bq.put c1 (bq.grow.setCell (by simp; omega) _) (row_set4_1 bq.row _) ((bq.opn.mono c1.mem).block fun k hk => hB k (by have := (bq.opn.lt k hk).1; omega))
theorem lhead_tells (w : World) (row : Option Nat) (B : Nat) (d : Int) (l : List Opn) (hc : w.cell? ⟨B, 1, none⟩ = some (.int .i64 d)) (hB : B < w.heap.size) (hr : row ≠ some B) : TellsG Try.prog Ty.opn aggOf w row 125 #[.pointer (some ⟨B, 0, none⟩)] l (fun o => o.deed == d) where
  ent := fun args w => by kernel_rfl
  say := fun wx cs x hg _ hR => by
    obtain ⟨vp, vh, rfl, -, hp, hh⟩ := hR
    obtain ⟨ap, cp, rfl, -⟩ := hp
    obtain ⟨ah, ch, rfl, -⟩ := hh
    have hBx : B < wx.heap.size := Nat.lt_of_lt_of_le hB hg.size
    have hc2 : wx.cell? ⟨B, 1, none⟩ = some (.int .i64 d) := by rw [World.cell?_of_block (hg.block B hB (fun e => hr e.symm))]; exact hc
    clear hc
    show Calls _ _ #[.agg #[.int .i64 x.deed, .slice ap x.parts.length cp, .bool x.dec, .slice ah x.heard.length ch], .pointer (some ⟨B, 0, none⟩)] _ _
    go_enter Try.func125, Try.ntmps125
    go_wp2
    go_ret
    exact ⟨rfl, (by repeat (first | with_reducible assumption | with_reducible exact Grow.refl _ | with_reducible apply Grow.drewN | with_reducible apply Grow.drew | with_reducible apply Grow.alloc | (refine Grow.setCell ?_ (by simp; done) _)))⟩
end Go.Proofs.Ytgbhpghgohggcaa

/- Walks: log.Head of the program. -/
namespace Go.Proofs.Ytgbhpghgohggcaa
open Go.RowKit
/-- how large a head that a log makes may be -/
structure KOk (h : Hd) (n : Nat) : Prop where
  opn : h.opn.length ≤ n
  boot : I64 h.boot
  next : I64 h.next
theorem kok_step {h : Hd} {n : Nat} (k : KOk h n) (r : Rc) : KOk (headStep h r) (n + 1) := by
  have h1 := k.opn
  unfold headStep
  split
  · exact ⟨by show h.opn.length ≤ _; omega, wrap_ok _, k.next⟩
  · split
    · exact ⟨by simp; omega, k.boot, k.next⟩
    · split
      · exact ⟨Nat.le_trans (List.length_filter_le _ _) (by omega), k.boot, k.next⟩
      · exact ⟨by omega, k.boot, k.next⟩
set_option maxRecDepth 100000 in
set_option maxHeartbeats 4000000 in
theorem wlog_head {v : Value} {l : List Rc} (w : World) (hv : Rcs w.cell? v l) (hm : l.length * 64 ≤ 140737488351232) (hp : ∀ r ∈ l, r.parts.length * 24 ≤ 140737488355328) :
    Calls Try.prog 42 #[v] w fun e w' => ∃ v', e = .returned v' ∧ Of Ty.hd (ov (fun _ => none) w w') v' (headR l) ∧ Grow w w' := by
  have HOWN := Lib.hid (log_own (w.alloc (.cells zhead 57)) (hv.mono ((Grow.refl w).alloc _).sub) (by omega) hp)
  have HM := Lib.hid hm
  have HP := Lib.hid hp
  obtain ⟨al0, cl0, rfl, -⟩ := hv
  have hlm : l.length ≤ 2199023255489 := by omega
  clear hm hp
  go_enter Try.func42, Try.ntmps42
  go_wp2_with fail
  refine HOWN.out.mono ?_
  rintro e w1 ⟨vl, rfl, hown, hb1⟩
  obtain ⟨al, cl, rfl⟩ := hown.form
  have HOW := Lib.hid hown
  have HB1 := Lib.hid hb1
  have z1 : w.heap.size + 1 ≤ w1.heap.size := by have := hb1.size; simpa using this
  clear hown hb1
  go_wp2
  go_loopw [12] (fun i wr => ∃ (k : Nat) (h : Hd) (vo : Value), k ≤ l.length ∧ i = .int .i64 k ∧ (l.take k).foldl headStep ⟨l, 0, 0, []⟩ = h ∧ KBox w w1 wr (.slice al l.length cl) vo l h ∧ KOk h k) (fun i _ => l.length - (intOf i).toNat)
  case atStart =>
    refine ⟨0, ⟨l, 0, 0, []⟩, .slice none 0 0, by omega, rfl, rfl, ?_, ⟨by simp, zero_ok, zero_ok⟩⟩
    have hl := HOW.out.lt
    refine ⟨row_grow (row_new w _) (HB1.out.alloc _), row_new _ _, ?_, OwnC.nil _ _ _ _ _, ((Grow.refl w).alloc _).trans (HB1.out.alloc _), by simp, fun k hk => (hl k hk).2, z1⟩
    have hs0 : (w.alloc (.cells zhead 57)).heap.size = w.heap.size + 1 := by simp
    have h2 := HOW.out
    rw [hs0] at h2
    refine (h2.mono fun a u e => ?_).grow ((Grow.refl _).alloc _)
    unfold fr at e
    split at e
    · cases e
    · rename_i hn
      have hlt := World.block_lt_of_cell? w1 a e
      rw [hs0] at hn
      unfold kmem
      rw [fr_new (by omega)]
      · exact ((Grow.refl w1).alloc _).sub _ _ e
      · simp only [List.mem_cons, List.not_mem_nil, or_false, not_or]
        refine ⟨fun e => hn (.inr (by simp [e])), by simp [Value.ownBlock], fun e => ?_, fun e => ?_⟩
        · have := Option.some.inj e; exact hn (.inl (by omega))
        · have := Option.some.inj e; omega
  case round =>
    obtain ⟨k, h, vo, hk', rfl, hfold, hbox, hok⟩ := hrel
    obtain ⟨ar, cr, rfl⟩ := hbox.opn.form
    have HFD := Lib.hid hfold
    have HBX := Lib.hid hbox
    have HOK0 := Lib.hid hok
    have z3 := hbox.size
    have z4 : w1.heap.size < wr.heap.size := by omega
    by_cases hlt : k < l.length
    · obtain ⟨gl, cs, rfl, ⟨vp, rfl, i0, i1, hP⟩, hA⟩ := hbox.log.get (by decide) k hlt
      have hP' := hP.mono (fr_sub _ _ _)
      obtain ⟨ap, cp, rfl, -⟩ := id hP'
      have c0 := hA 0 _ rfl
      have c1 := hA 1 _ rfl
      have c2 := hA 2 _ rfl
      simp only [Nat.add_zero, Ty.rc] at c0 c1 c2
      have htk : (l.take (k + 1)).foldl headStep ⟨l, 0, 0, []⟩ = headStep h l[k] := by rw [List.take_succ_eq_append_getElem hlt, List.foldl_append, HFD.out]; rfl
      have HTK := Lib.hid htk
      have hpl := HP.out l[k] (List.getElem_mem _)
      have HCL := Lib.hid (fun (W : World) (hW : Grow wr W) => clone_pt W (hP'.mono hW.sub) hpl)
      have HI := Lib.hid (And.intro i0 (And.intro i1 (Pts.ok (c := wr.cell?) hP')))
      have HOK1 := Lib.hid (kok_step hok l[k])
      have HRL : Hid (h.opn.length < 2199023255489) := Lib.hid (by have := hok.opn; omega)
      have HLT : Hid (∀ q, (Value.slice ar h.opn.length cr).ownBlock = some q → q < wr.heap.size) := fun q hq => (hbox.opn.lt q hq).2
      clear hfold hok htk hpl hP hP' hA i0 i1 hbox
      generalize l[k] = r at *
      obtain ⟨s0, s1, s2, s3⟩ := cells4 HBX.out.row
      have sf := row_free HBX.out.row
      by_cases k4 : r.kind = 4
      · have b4 : (r.kind == 4) = true := by simp [k4]
        have b5 : (r.kind == 5) = false := by simp [k4]
        have b6 : (r.kind == 6) = false := by simp [k4]
        have hst : headStep h r = { h with boot := wrap64 (h.boot + 1) } := by unfold headStep; rw [if_pos k4]
        have HFO := Lib.hid (HTK.out.trans hst)
        have HOK := Lib.hid (hst ▸ HOK1.out)
        clear hst k4
        have HX := (KBox.boot HBX.out (Grow.refl wr) (wrap64 (h.boot + 1))).later ((Grow.refl _).alloc (.cells #[.int .i64 r.kind, .int .i64 r.deed, .slice ap r.parts.length cp] 48))
        go_wp2
        go_roundw
        case rel => exact ⟨k + 1, _, _, by omega, by go_num, HFO.out, HX, HOK.out⟩
        case measure => simp [intOf]; omega
      · have b4 : (r.kind == 4) = false := by simp [k4]
        by_cases k5 : r.kind = 5
        · have b5 : (r.kind == 5) = true := by simp [k5]
          have b6 : (r.kind == 6) = false := by simp [k5]
          have hst : headStep h r = { h with opn := h.opn ++ [⟨r.deed, r.parts, true, []⟩] } := by unfold headStep; rw [if_neg k4, if_pos k5]
          have HFO := Lib.hid (HTK.out.trans hst)
          have HOK := Lib.hid (hst ▸ HOK1.out)
          clear hst k4 k5
          go_wp2
          obtain ⟨w2, hWE⟩ : ∃ x : World, x = wr.alloc (.cells #[.int .i64 r.kind, .int .i64 r.deed, .slice ap r.parts.length cp] 48) := ⟨_, rfl⟩
          rw [← hWE]
          have HG2 : Hid (Grow wr w2) := Lib.hid (by rw [hWE]; exact (Grow.refl wr).alloc _)
          have r5 : w2.heap[wr.heap.size]? = some (.cells #[.int .i64 r.kind, .int .i64 r.deed, .slice ap r.parts.length cp] 48 (0, 0)) := by rw [hWE]; exact row_new _ _
          have HR5 := Lib.hid r5
          clear hWE r5 s0 s1 s2 s3
          have HB2 := Lib.hid (HBX.out.later HG2.out)
          obtain ⟨s0, s1, s2, s3⟩ := cells4 HB2.out.row
          obtain ⟨q0, q1, q2⟩ := cells3 HR5.out
          have l3 : w1.heap.size < w2.heap.size := by have := HB2.out.size; omega
          have l5 : wr.heap.size < w2.heap.size := (Array.getElem?_eq_some_iff.1 HR5.out).1
          have n3 : (Value.slice ar h.opn.length cr).ownBlock ≠ some w1.heap.size := fun e => by have := (HB2.out.opn.lt _ e).1; omega
          have n5 : (Value.slice ar h.opn.length cr).ownBlock ≠ some wr.heap.size := fun e => by have := HLT.out _ e; omega
          have HS : Hid (∀ W, w2.grownBy W (Value.slice ar h.opn.length cr).ownBlock → W.cell? ⟨w1.heap.size, 3, none⟩ = some (.slice ar h.opn.length cr) ∧ W.cell? ⟨wr.heap.size, 1, none⟩ = some (.int .i64 r.deed) ∧ W.cell? ⟨wr.heap.size, 2, none⟩ = some (.slice ap r.parts.length cp)) := fun W hW => ⟨by rw [World.cell?_of_block (hW.block w1.heap.size l3 (fun e => n3 e.symm))]; exact s3, by rw [World.cell?_of_block (hW.block wr.heap.size l5 (fun e => n5 e.symm))]; exact q1, by rw [World.cell?_of_block (hW.block wr.heap.size l5 (fun e => n5 e.symm))]; exact q2⟩
          clear s0 s1 s2 s3 q0 q1 q2
          refine but_start (fun w' => w'.cell? ⟨w1.heap.size, 3, none⟩ = some (.slice ar h.opn.length cr) ∧ w'.cell? ⟨wr.heap.size, 1, none⟩ = some (.int .i64 r.deed) ∧ w'.cell? ⟨wr.heap.size, 2, none⟩ = some (.slice ap r.parts.length cp)) 11 (by kernel_rfl) ?_
          obtain ⟨wd, hWd⟩ : ∃ x : World, x = w2.drew := ⟨_, rfl⟩
          rw [← hWd]
          have GD : Grow w2 wd := by rw [hWd]; exact (Grow.refl _).drew
          have zD : w2.heap.size = wd.heap.size := by rw [hWd]; rfl
          have ZD := Lib.hid zD
          clear hWd zD
          refine but_take (i := 0) (v := ?_) 8 rfl (by kernel_rfl) (by kernel_rfl) (by kernel_rfl) (by kernel_rfl) (by kernel_rfl) (fun _ _ _ h => h) (HS.out _ (grownBy_of_grow GD _)) (Or.inl ⟨by rfl, ?_⟩) ?_
          rotate_left
          · (intro w' hSw; (try dsimp only at hSw); obtain ⟨hs0, hs1, hs2⟩ := hSw; go_simp <;> with_reducible rfl)
          try simp only [Act.put, List.getElem_toArray, List.getElem_cons_zero, List.setIfInBounds_toArray, List.set_cons_zero, List.set_cons_succ]
          refine but_take (i := 1) (v := ?_) 8 rfl (by kernel_rfl) (by kernel_rfl) (by kernel_rfl) (by kernel_rfl) (by kernel_rfl) (fun _ _ _ h => h) (HS.out _ (grownBy_of_grow GD _)) (Or.inl ⟨by rfl, ?_⟩) ?_
          rotate_left
          · (intro w' hSw; (try dsimp only at hSw); obtain ⟨hs0, hs1, hs2⟩ := hSw; go_simp <;> with_reducible rfl)
          try simp only [Act.put, List.getElem_toArray, List.getElem_cons_succ, List.getElem_cons_zero, List.setIfInBounds_toArray, List.set_cons_zero, List.set_cons_succ]
          refine but_take (i := 2) (v := ?_) 8 rfl (by kernel_rfl) (by kernel_rfl) (by kernel_rfl) (by kernel_rfl) (by kernel_rfl) (fun _ _ _ h => h) (HS.out _ (grownBy_of_grow GD _)) (Or.inl ⟨by rfl, ?_⟩) ?_
          rotate_left
          · (intro w' hSw; (try dsimp only at hSw); obtain ⟨hs0, hs1, hs2⟩ := hSw; go_simp <;> with_reducible rfl)
          try simp only [Act.put, List.getElem_toArray, List.getElem_cons_succ, List.getElem_cons_zero, List.setIfInBounds_toArray, List.set_cons_zero, List.set_cons_succ]
          refine but_take (i := 3) (v := ?_) 8 rfl (by kernel_rfl) (by kernel_rfl) (by kernel_rfl) (by kernel_rfl) (by kernel_rfl) (fun _ _ _ h => h) (HS.out _ (grownBy_of_grow GD _)) (Or.inl ⟨by rfl, ?_⟩) ?_
          rotate_left
          · (intro w' hSw; (try dsimp only at hSw); obtain ⟨hs0, hs1, hs2⟩ := hSw; go_simp <;> with_reducible rfl)
          try simp only [Act.put, List.getElem_toArray, List.getElem_cons_succ, List.getElem_cons_zero, List.setIfInBounds_toArray, List.set_cons_zero, List.set_cons_succ]
          refine but_take (i := 4) (v := ?_) 8 rfl (by kernel_rfl) (by kernel_rfl) (by kernel_rfl) (by kernel_rfl) (by kernel_rfl) (fun _ _ _ h => h) (HS.out _ (grownBy_of_grow GD _)) (Or.inl ⟨by rfl, ?_⟩) ?_
          rotate_left
          · (intro w' hSw; (try dsimp only at hSw); obtain ⟨hs0, hs1, hs2⟩ := hSw; go_simp <;> with_reducible rfl)
          try simp only [Act.put, List.getElem_toArray, List.getElem_cons_succ, List.getElem_cons_zero, List.setIfInBounds_toArray, List.set_cons_zero, List.set_cons_succ]
          refine but_take (i := 5) (v := ?_) 8 rfl (by kernel_rfl) (by kernel_rfl) (by kernel_rfl) (by kernel_rfl) (by kernel_rfl) (fun _ _ _ h => h) (HS.out _ (grownBy_of_grow GD _)) (Or.inl ⟨by rfl, ?_⟩) ?_
          rotate_left
          · (intro w' hSw; (try dsimp only at hSw); obtain ⟨hs0, hs1, hs2⟩ := hSw; go_simp <;> with_reducible rfl)
          try simp only [Act.put, List.getElem_toArray, List.getElem_cons_succ, List.getElem_cons_zero, List.setIfInBounds_toArray, List.set_cons_zero, List.set_cons_succ]
          refine but_one (i := 6) (by kernel_rfl) rfl ?_
          intro K HK'
          have HK := Lib.hid HK'
          clear HK'
          skip
          try simp only [List.getElem_toArray, List.getElem_cons_succ, List.getElem_cons_zero]
          go_simp
          go_at_call 122
          refine (HCL.out _ (HG2.out.trans GD)).mono ?_
          rintro e w3 ⟨v3, rfl, ho3, hb3⟩
          obtain ⟨a3, c3, rfl⟩ := owns_form ho3
          have HO3 := Lib.hid ho3
          have G3 := GD.trans hb3
          clear ho3 hb3
          refine HK.out _ _ ⟨fun _ => HS.out _ (grownBy_of_grow G3 _), ?_⟩
          clear HK K
          try simp only [Act.put, List.getElem_toArray, List.getElem_cons_succ, List.getElem_cons_zero, List.setIfInBounds_toArray, List.set_cons_zero, List.set_cons_succ]
          refine but_one (i := 7) (by kernel_rfl) rfl ?_
          intro K HK'
          have HK := Lib.hid HK'
          clear HK'
          skip
          try simp only [List.getElem_toArray, List.getElem_cons_succ, List.getElem_cons_zero]
          go_simp
          refine HK.out _ _ ⟨fun _ => HS.out _ (grownBy_of_grow G3 _), ?_⟩
          clear HK K
          try simp only [Act.put, List.getElem_toArray, List.getElem_cons_succ, List.getElem_cons_zero, List.setIfInBounds_toArray, List.set_cons_zero, List.set_cons_succ]
          refine but_one (i := 8) (by kernel_rfl) rfl ?_
          intro K HK'
          have HK := Lib.hid HK'
          clear HK'
          skip
          try simp only [List.getElem_toArray, List.getElem_cons_succ, List.getElem_cons_zero]
          go_simp
          refine HK.out _ _ ⟨fun _ => HS.out _ (grownBy_of_grow (G3.alloc _) _), ?_⟩
          clear HK K
          try simp only [Act.put, List.getElem_toArray, List.getElem_cons_succ, List.getElem_cons_zero, List.setIfInBounds_toArray, List.set_cons_zero, List.set_cons_succ]
          refine but_one (i := 9) (by kernel_rfl) rfl ?_
          intro K HK'
          have HK := Lib.hid HK'
          clear HK'
          refine wanted_go rfl ?_
          try simp only [List.getElem_toArray, List.getElem_cons_succ, List.getElem_cons_zero]
          have bA := HB2.out.later (w' := (w3.alloc (.cells #[.int .i64 r.deed, .slice a3 r.parts.length c3, .bool true, .slice none 0 0] 136))) (G3.alloc _)
          have hR9 : Ty.opn.R (kmem w w1 (w3.alloc (.cells #[.int .i64 r.deed, .slice a3 r.parts.length c3, .bool true, .slice none 0 0] 136)) (.slice (some ⟨gl, 0, none⟩) l.length cl) (Value.slice ar h.opn.length cr)) (#[.int .i64 r.deed, .slice a3 r.parts.length c3, .bool true, .slice none 0 0] : Array Value).toList ⟨r.deed, r.parts, true, []⟩ := by
            refine ⟨_, _, rfl, HI.out.2.1, pts_fr (w1 := wd) ((HO3.out).kept (grownBy_of_grow ((Grow.refl _).alloc _) none) (by cases (Value.slice a3 r.parts.length c3).ownBlock <;> simp)) HI.out.2.2 (by have := HB2.out.grow.size; have := GD.size; omega) fun q hq => ?_, Sl.nil _ _⟩
            have z1 := HB2.out.opn.lt
            have z2 := HB2.out.log.lt
            have z4 := HB2.out.size
            have z5 := HB2.out.w1
            have z6 := GD.size
            simp only [List.mem_cons, List.not_mem_nil, or_false, not_or]
            exact ⟨fun e => by have := (z2 q e.symm).2; omega, fun e => by have := (z1 q e.symm).2; omega, fun e => by have := Option.some.inj e; omega, fun e => by have := Option.some.inj e; omega⟩
          have HR9 := Lib.hid hR9
          have HBA := Lib.hid bA
          clear hR9 bA
          refine wp_appc (c := (kmem w w1 (w3.alloc (.cells #[.int .i64 r.deed, .slice a3 r.parts.length c3, .bool true, .slice none 0 0] 136)) (.slice (some ⟨gl, 0, none⟩) l.length cl) (Value.slice ar h.opn.length cr))) (base := w1.heap.size + 1) (l := h.opn) (m := [⟨r.deed, r.parts, true, []⟩]) ei_opn rfl one_Topn (by decide) (.tmp 27) (.tmp 34) rfl rfl HBA.out.opn rfl (Src.of_new (T := Ty.opn) (cs := #[.int .i64 r.deed, .slice a3 r.parts.length c3, .bool true, .slice none 0 0]) HR9.out _ _ rfl) (by have := HRL.out; simp; omega) HBA.out.size ?_
          intro a9 c9 w9 ho9 hg9 hb9
          have HO9 := Lib.hid ho9
          have HG9 := Lib.hid hg9
          have HB9 := Lib.hid hb9
          have GB9 := Lib.hid (grownBy_trans (grownBy_of_grow (G3.alloc _) _) hg9)
          obtain ⟨t5, -, -⟩ := HS.out _ GB9.out
          have tf : ∀ o, w9.frozen? ⟨w1.heap.size, o, none⟩ = false := row_free (row_by HBA.out.row hg9 (fun e => n3 e.symm))
          have t9 : w1.heap.size < w9.heap.size := World.block_lt_of_cell? w9 _ t5
          clear ho9 hg9 hb9
          refine HK.out _ _ ⟨fun _ => HS.out _ GB9.out, ?_⟩
          clear HK K
          try simp only [Act.put, List.setIfInBounds_toArray, List.set_cons_zero, List.set_cons_succ]
          refine but_one (i := 10) (by kernel_rfl) rfl ?_
          intro K HK'
          have HK := Lib.hid HK'
          clear HK'
          skip
          try simp only [List.getElem_toArray, List.getElem_cons_succ, List.getElem_cons_zero]
          go_simp
          refine HK.out _ _ ⟨fun _ => HS.out _ GB9.out, ?_⟩
          clear HK K
          try simp only [Act.put, List.getElem_toArray, List.getElem_cons_succ, List.getElem_cons_zero, List.setIfInBounds_toArray, List.set_cons_zero, List.set_cons_succ]
          refine but_one (i := 11) (by kernel_rfl) rfl ?_
          intro K HK'
          have HK := Lib.hid HK'
          clear HK'
          skip
          try simp only [List.getElem_toArray, List.getElem_cons_succ, List.getElem_cons_zero]
          go_simp
          refine HK.out _ _ ⟨fun h => absurd rfl h, ?_⟩
          clear HK K
          try simp only [Act.put, List.getElem_toArray, List.getElem_cons_succ, List.getElem_cons_zero, List.setIfInBounds_toArray, List.set_cons_zero, List.set_cons_succ]
          refine but_done (by kernel_rfl) ?_
          have HX := KBox.opns HB2.out (G3.alloc _) HO9.out HG9.out (HB9.out.imp_right fun ⟨g, e, hge⟩ => ⟨g, e, by simpa using hge⟩)
          go_wp2
          go_roundw
          case rel => exact ⟨k + 1, _, _, by omega, by go_num, HFO.out, HX, HOK.out⟩
          case measure => simp [intOf]; omega
        · have b5 : (r.kind == 5) = false := by simp [k5]
          by_cases k6 : r.kind = 6
          · have b6 : (r.kind == 6) = true := by simp [k6]
            have hst : headStep h r = { h with opn := h.opn.filter fun o => !(o.deed == r.deed) } := by unfold headStep; rw [if_neg k4, if_neg k5, if_pos k6]
            have HFO := Lib.hid (HTK.out.trans hst)
            have HOK := Lib.hid (hst ▸ HOK1.out)
            clear hst k4 k5 k6
            go_wp2_with fail
            have HG2 : Hid (Grow wr (wr.alloc (.cells #[.int .i64 r.kind, .int .i64 r.deed, .slice ap r.parts.length cp] 48))) := Lib.hid ((Grow.refl wr).alloc _)
            have HB2 := Lib.hid (HBX.out.later HG2.out)
            have n3 : (Value.slice ar h.opn.length cr).ownBlock ≠ some w1.heap.size := fun e => by have := (HB2.out.opn.lt _ e).1; omega
            refine (deleteFunc_opn_c (p := fun o => o.deed == r.deed) (c := kmem w w1 (wr.alloc (.cells #[.int .i64 r.kind, .int .i64 r.deed, .slice ap r.parts.length cp] 48)) (.slice (some ⟨gl, 0, none⟩) l.length cl) (Value.slice ar h.opn.length cr)) ?_ HB2.out.opn (lhead_tells _ _ wr.heap.size r.deed _ (by rw [World.cell?_alloc_new]; rfl) (by simp) (fun e => by have := HLT.out _ e; omega))).mono ?_
            · intro a u e
              unfold kmem fr at e
              split at e
              · cases e
              · rename_i hn
                unfold frag
                rw [if_neg (fun e => hn (.inr (by simp [e])))]
                exact e
            rintro e w7 ⟨v7, rfl, ho7, hg7, hb7⟩
            obtain ⟨a7, c7, rfl⟩ := ho7.form
            have t7 := row_by HB2.out.row hg7 (fun e => n3 e.symm)
            have HX := Lib.hid (KBox.opns HB2.out (Grow.refl _) ho7 hg7 (.inl hb7))
            clear s0 s1 s2 s3 sf ho7 hg7 hb7
            obtain ⟨u0, u1, u2, u3⟩ := cells4 t7
            have uf := row_free t7
            have u9 : w1.heap.size < w7.heap.size := (Array.getElem?_eq_some_iff.1 t7).1
            clear t7
            go_wp2
            go_roundw
            case rel => exact ⟨k + 1, _, _, by omega, by go_num, HFO.out, HX.out, HOK.out⟩
            case measure => simp [intOf]; omega
          · have b6 : (r.kind == 6) = false := by simp [k6]
            have hst : headStep h r = h := by unfold headStep; rw [if_neg k4, if_neg k5, if_neg k6]
            have HFO := Lib.hid (HTK.out.trans hst)
            have HOK := Lib.hid (hst ▸ HOK1.out)
            clear hst k4 k5 k6
            go_wp2
            go_roundw
            case rel => exact ⟨k + 1, _, _, by omega, by go_num, HFO.out, HBX.out.later ((Grow.refl wr).alloc _), HOK.out⟩
            case measure => simp [intOf]; omega
    · have HH : Hid (h = headR l) := by show h = _; rw [← HFD.out, List.take_of_length_le (by omega)]; rfl
      obtain ⟨s0, s1, s2, s3⟩ := cells4 hbox.row
      clear hfold hok hbox
      go_wp2_with (first | (refine wpList_store_row rfl (.tmp 2) (.tmp 45) rfl rfl rfl HBX.out.res info_hd rfl rfl ?_))
      intro wf r2 g2
      obtain ⟨p0, p1, p2, p3⟩ := cells4 r2
      have pf := row_free r2
      clear s0 s1 s2 s3
      go_wp2
      refine bodyPost_ret (v := .agg #[.slice al l.length cl, .int .i64 h.boot, .int .i64 h.next, .slice ar h.opn.length cr]) (by simp [results, Try.results42, go_sem, p0, p1, p2, p3]) rfl ?_
      have hlog : h.log = l := by rw [HH.out]; exact (headR_next l).2
      have sub : Sub (kmem w w1 wr (.slice al l.length cl) (.slice ar h.opn.length cr)) (ov (fun _ => none) w wf) := fun a u e => by
        unfold kmem fr at e
        split at e
        · cases e
        · rename_i hn
          have hne : a.block ≠ w.heap.size := fun e => hn (.inr (by simp [e]))
          rw [ov_new (by omega), by_cell g2 (World.block_lt_of_cell? wr a e) hne]
          exact e
      have hb : ∀ k, w.heap.size + 1 ≤ k → k < wr.heap.size → wf.heap[k]? = wr.heap[k]? := fun k h1 h2 => g2.block k h2 (by simp; omega)
      have hw1 := HBX.out.w1
      have e1 := ((HBX.out.log.mono sub).block fun k hk => hb k (HBX.out.log.lt k hk).1 (HBX.out.log.lt k hk).2).slc (by decide) (Sub.refl _) fun a ha => ov_new (by omega)
      have e2 := ((HBX.out.opn.mono sub).block fun k hk => hb k (by have := (HBX.out.opn.lt k hk).1; omega) (HBX.out.opn.lt k hk).2).slc (by decide) (Sub.refl _) fun a ha => ov_new (by omega)
      rw [← HH.out]
      refine ⟨_, rfl, ⟨_, rfl, _, _, rfl, ?_, HOK0.out.boot, HOK0.out.next, e2⟩, HBX.out.grow.grown g2 (fun k hk => by simp at hk; omega)⟩
      rw [hlog]; exact e1
end Go.Proofs.Ytgbhpghgohggcaa

/- The closed fact that chapter 5's laws ask first, walked. -/
namespace Go.Proofs.Ytgbhpghgohggcaa
open Go.RowKit
def r70a : Rc := ⟨1, 70, [⟨0, 1, 5⟩]⟩
def r70b : Rc := ⟨2, 70, []⟩
def l70 : List Rc := [⟨4, 0, []⟩, ⟨5, 70, [⟨0, 1, 5⟩]⟩]
def h70 : Hs := noteE (noteE (houseR []) r70a) r70b
/-- a slice of two things -/
theorem sl_two {α : Type} {T : Ty α} {c : CM} {B n : Nat} {cs cs' : List Value} {x y : α} (hR : T.R c cs x) (hR' : T.R c cs' y) (hA : At c B 0 (cs ++ cs')) (hn : 2 ≤ n) (hm : n ≤ maxLen) : Sl T c (.slice (some ⟨B, 0, none⟩) 2 n) [x, y] := by
  refine ⟨_, n, rfl, hn, hm, by simp, fun i z hz => ?_⟩
  have hl := T.len hR
  have hl' := T.len hR'
  have hi := (List.getElem?_eq_some_iff.1 hz).1
  simp at hi
  by_cases h0 : i = 0
  · subst h0
    obtain rfl : x = z := by simpa using hz
    refine ⟨B, 0, cs, rfl, hR, fun j u hu => ?_⟩
    rw [Nat.zero_mul]
    exact hA j u (by rw [List.getElem?_append_left (List.getElem?_eq_some_iff.1 hu).1]; exact hu)
  · obtain rfl : i = 1 := by omega
    obtain rfl : y = z := by simpa using hz
    refine ⟨B, 0, cs', rfl, hR', fun j u hu => ?_⟩
    have := hA (T.size + j) u (by rw [List.getElem?_append_right (by omega), hl, Nat.add_sub_cancel_left]; exact hu)
    rw [Nat.one_mul, Nat.zero_add]
    rw [Nat.zero_add] at this
    exact this
theorem ov_none {w w' : World} (hg : Grow w w') : Sub (ov (fun _ => none) w w') w'.cell? := ov_sub (fun _ _ e => by cases e) hg
set_option maxRecDepth 100000 in
set_option maxHeartbeats 4000000 in
theorem alive5 (w : World) : Calls Try.prog 47 #[] w fun e w' => e = .returned (.bool true) ∧ Grow w w' := by
  have i0 : I64 0 := zero_ok
  have i1 : I64 1 := by unfold I64; decide
  have i2 : I64 2 := by unfold I64; decide
  have i4 : I64 4 := by unfold I64; decide
  have i5 : I64 5 := by unfold I64; decide
  have i70 : I64 70 := by unfold I64; decide
  have HP := Lib.hid (pts_one 0 1 5 i0 i1 i5 w)
  have HI := Lib.hid (show I64 0 ∧ I64 1 ∧ I64 2 ∧ I64 4 ∧ I64 5 ∧ I64 70 from ⟨i0, i1, i2, i4, i5, i70⟩)
  clear i0 i1 i2 i4 i5 i70
  go_enter Try.func47, Try.ntmps47
  go_wp2_with fail
  refine (wlog_house (l := []) _ (Sl.nil _ _) (by simp) (by decide) (by simp)).mono ?_
  rintro e w1 ⟨v1, rfl, hO1, hb1⟩
  have HB1 := Lib.hid (((Grow.refl w).alloc (.cells #[.int .i64 0, .int .i64 1, .int .i64 5] 32)).trans hb1)
  have HP1 := Lib.hid (fun (W : World) (hW : Grow w1 W) => HP.out W 32 (hb1.trans hW))
  have HO1 := Lib.hid (hO1.mono (ov_none hb1))
  clear hO1 hb1
  go_wp2_with fail
  refine (wlog_note (h := houseR []) (r := r70a) w1 HO1.out ⟨_, rfl, _, rfl, HI.out.2.1, HI.out.2.2.2.2.2, HP1.out _ (Grow.refl _)⟩ (by intro x hx; cases hx) (by intro p hp; simp [r70a] at hp; subst hp; decide) (by decide) (by intro x hx; cases hx) (by decide)).mono ?_
  rintro e w2 ⟨v2, rfl, hO2, hb2⟩
  have HB2 := Lib.hid (HB1.out.trans hb2)
  have HP2 := Lib.hid (fun (W : World) (hW : Grow w2 W) => HP1.out W (hb2.trans hW))
  have HO2 := Lib.hid (hO2.mono (ov_none hb2))
  clear hO2 hb2
  go_wp2_with fail
  refine (wlog_note (h := noteE (houseR []) r70a) (r := r70b) w2 HO2.out ⟨_, rfl, _, rfl, HI.out.2.2.1, HI.out.2.2.2.2.2, Sl.nil _ _⟩ (by intro x hx; rw [note_log] at hx; obtain rfl : x = r70a := (by simpa [houseR] using hx); intro p hp; simp [r70a] at hp; subst hp; decide) (by intro p hp; simp [r70b] at hp) (by decide) (by intro x hx; rw [note_log] at hx; obtain rfl : x = r70a := (by simpa [houseR] using hx); decide) (by decide)).mono ?_
  rintro e w3 ⟨v3, rfl, hO3, hb3⟩
  change Of Ty.hs _ _ h70 at hO3
  obtain ⟨al, cl, ar, cr, ad, cd, hf⟩ := hO3.hs_form
  rw [show h70.log.length = 2 by decide, show h70.sums.b = 5 by kernel_rfl, show h70.ready.length = 0 by decide, show h70.done.length = 1 by decide] at hf
  subst hf
  generalize h70.sums.a = sa at *
  generalize h70.sums.c = sc at *
  generalize h70.sums.d = sd at *
  have HB3 := Lib.hid (HB2.out.trans hb3)
  have HP3 := Lib.hid (fun (W : World) (hW : Grow w3 W) => HP2.out W (hb3.trans hW))
  clear hO3 hb3
  go_wp2_with fail
  have hl : ∀ W : World, Grow ((w3.alloc (.cells #[.slice al 2 cl, .int .i64 sa, .int .i64 5, .int .i64 sc, .int .i64 sd, .slice ar 0 cr, .slice ad 1 cd] 29)).alloc (.cells #[.int .i64 4, .int .i64 0, .slice none 0 0, .int .i64 5, .int .i64 70, .slice (some ⟨w.heap.size, 0, none⟩) 1 1] 48)) W → Rcs W.cell? (.slice (some ⟨w3.heap.size + 1, 0, none⟩) 2 2) l70 := fun W hW =>
    sl_two (T := Ty.rc) (cs := [.int .i64 4, .int .i64 0, .slice none 0 0]) (cs' := [.int .i64 5, .int .i64 70, .slice (some ⟨w.heap.size, 0, none⟩) 1 1]) ⟨_, rfl, HI.out.2.2.2.1, HI.out.1, Sl.nil _ _⟩ ⟨_, rfl, HI.out.2.2.2.2.1, HI.out.2.2.2.2.2, HP3.out _ ((((Grow.refl w3).alloc _).alloc _).trans hW)⟩ (At.mono hW.sub (at_new' (by simp))) (by decide) (by decide)
  have HL := Lib.hid hl
  have hp70 : ∀ r ∈ l70, r.parts.length * 24 ≤ 140737488355328 := by decide
  have HD := Lib.hid (fun (W : World) hW => wlog_decided W (HL.out W hW) (by decide) hp70)
  have HO := Lib.hid (fun (W : World) hW => log_own W (HL.out W hW) (by decide) hp70)
  refine (wlog_head (l := l70) _ (HL.out _ (Grow.refl _)) (by decide) hp70).mono ?_
  rintro e w4 ⟨v4, rfl, hO4, hb4⟩
  obtain ⟨cs4, rfl, vl4, vo4, rfl, hlg, -, -, hop⟩ := hO4
  obtain ⟨ag, cg, rfl, -⟩ := id hlg
  obtain ⟨ao, co, rfl, -, -, -, hel⟩ := hop.mono (ov_none hb4)
  obtain ⟨b, o, vp, vh, rfl, -, -, c2, -, -, -, -⟩ := Opns.at_ hel 0 (by decide)
  rw [show (headR l70).opn[0].dec = true by decide] at c2
  rw [show (headR l70).boot = 1 by kernel_rfl, show (headR l70).opn.length = 1 by decide]
  generalize (headR l70).next = nx at *
  generalize (headR l70).log.length = nl at *
  have c2z : b < w4.heap.size := World.block_lt_of_cell? w4 _ c2
  have HB4 := Lib.hid hb4
  obtain ⟨cw4, fw4⟩ := bcell hb4
  have z4 : w3.heap.size < w4.heap.size := by have := hb4.size; simp at this; omega
  have hd1 : (decidedR l70).length = 1 := by decide
  have hd2 : l70.length = 2 := by decide
  clear hl hp70 hlg hop hel hb4
  go_wp2_with fail
  refine (HD.out _ (HB4.out.trans ((Grow.refl _).alloc _))).mono ?_
  rintro e w5 ⟨v5, rfl, ho5, hb5⟩
  obtain ⟨a5, c5, rfl⟩ := ho5.form
  rw [hd1]
  have HB5 := Lib.hid ((HB4.out.trans ((Grow.refl _).alloc _)).trans hb5)
  clear ho5 hb5
  go_wp2_with fail
  refine (HO.out _ HB5.out).mono ?_
  rintro e w6 ⟨v6, rfl, ho6, hb6⟩
  obtain ⟨a6, c6, rfl⟩ := ho6.form
  rw [hd2]
  have HB6 := Lib.hid (HB5.out.trans hb6)
  clear ho6 hb6
  go_wp2
  go_ret
  exact ⟨rfl, (HB3.out.trans (((Grow.refl _).alloc _).alloc _)).trans HB6.out⟩
end Go.Proofs.Ytgbhpghgohggcaa
