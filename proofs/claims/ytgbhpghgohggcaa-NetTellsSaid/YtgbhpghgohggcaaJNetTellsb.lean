/- The parts that NetTells is proved of, joined: K1, A6, N1, N2, E1, N3, N4, N5, Clone, M1, S2, W4, S3, W5, S5, Q1, QA, C1, R2, B1, B5, Y0, Z1, Str, Z2, Y2, Y1, S4, M2, V1, V2, M3. No condition beside those that each theorem names. -/
import Derived.Laws.BitsAllLaws
import Derived.Laws.Bits64
import Derived.Laws.BytesArg
import Derived.Lib.SlBytesRow
import Derived.Test.YtgbhpghgohggcaaJNetTellsa
/- The law LocksTells, walked. -/
namespace Go.Proofs.Ytgbhpghgohggcaa
open Go.RowKit
theorem keys_of_right {l : List Rc} (h : rightLog l = true) : (∀ r ∈ l, KeysOk r.parts) ∧ l.length ≤ 60 := by
  unfold rightLog at h
  have h := of_decide_eq_true h
  refine ⟨fun r hr => ?_, h.2⟩
  have h2 := of_decide_eq_true (h.1 r hr)
  by_cases hp : r.parts = []
  · rw [hp]; intro p hp; simp at hp
  · exact wrong_keys (h2.2.1 hp)
theorem free_all (l : List Rd) (ps : List Pt) : freeE l ps = ps.all fun p => decide (whoE l p.k < 0) := by
  unfold freeE
  induction ps with
  | nil => rfl
  | cons p ps ih =>
    rw [List.any_cons, List.all_cons, ← ih, Bool.not_or]
    congr 1
    by_cases h : 0 ≤ whoE l p.k
    · simp [h, Int.not_lt.2 h]
    · simp [h, Int.not_le.1 h]
set_option maxRecDepth 100000 in
set_option maxHeartbeats 1000000 in
theorem locksTells_walk {v v' : Value} {l : List Rc} {ps : List Pt} {key : Int} (w : World) (hv : Rcs w.cell? v l) (hv' : Pts w.cell? v' ps) :
    Calls Try.prog 3 #[v, v', .int .i64 key] w fun e w' => e = .returned (.bool true) ∧ Grow w w' := by
  have HRL := Lib.hid (ref_rightLog w hv)
  have HH : Hid (rightLog l = true → ∀ W, Grow w W → Calls Try.prog 29 #[v] W fun e w' => ∃ v', e = .returned v' ∧ Of Ty.hs w'.cell? v' (houseR l) ∧ Grow W w') := fun hr W hW => ref_house W (hv.mono hW.sub) (keys_of_right hr).1 (by have := (keys_of_right hr).2; omega)
  have HP := Lib.hid hv'
  obtain ⟨al, cl, rfl, -⟩ := hv
  obtain ⟨ap, cp, rfl, hp1, hp2, -, hpel⟩ := hv'
  unfold maxLen at hp2
  cases hok : rightLog l with
  | false =>
    go_enter Try.func3, Try.ntmps3
    go_wp2_with (go_at_call 28; refine HRL.out.mono ?_; rintro e w1 ⟨rfl, hb1⟩)
    go_ret
    exact ⟨rfl, hb1⟩
  | true =>
    have HC := Lib.hid (HH.out hok)
    generalize houseR l = h at *
    go_enter Try.func3, Try.ntmps3
    go_wp2_with (go_at_call 28; refine HRL.out.mono ?_; rintro e w1 ⟨rfl, hb1⟩; have HB1 := Lib.hid hb1; clear hb1)
    refine (HC.out _ HB1.out).mono ?_
    rintro e w2 ⟨vh, rfl, ⟨cs, rfl, hR⟩, hb2⟩
    have hR0 := hR
    obtain ⟨vl, vr, vd, rfl, hl, -, -, -, -, hr, hd⟩ := hR
    obtain ⟨ah, ch, rfl, -⟩ := id hl
    obtain ⟨ad, cd, rfl, -⟩ := id hd
    obtain ⟨ar, cr, rfl, -⟩ := id hr
    have HR := Lib.hid hR0
    have HB2 := Lib.hid (HB1.out.trans hb2)
    clear hl hd hr hR0 hb2
    go_wp2
    go_loopw [8, 18] (fun f i wr => ∃ k : Nat, k ≤ ps.length ∧ i = .int .i64 k ∧ f = .bool ((ps.take k).all fun p => decide (whoE h.ready p.k < 0)) ∧ Grow w2 wr ∧
      At wr.cell? w2.heap.size 0 [.slice ah h.log.length ch, .int .i64 h.sums.a, .int .i64 h.sums.b, .int .i64 h.sums.c, .int .i64 h.sums.d, .slice ar h.ready.length cr, .slice ad h.done.length cd]) (fun _ i _ => ps.length - (intOf i).toNat)
    case atStart => exact ⟨0, by omega, rfl, rfl, (Grow.refl w2).alloc _, fun j u hu => by rw [Nat.zero_add, World.cell?_alloc_new]; simpa using hu⟩
    case round =>
      obtain ⟨k, hk', rfl, rfl, hb, hA⟩ := hrel
      have g0 := hA 0 _ rfl
      have g1 := hA 1 _ rfl
      have g2 := hA 2 _ rfl
      have g3 := hA 3 _ rfl
      have g4 := hA 4 _ rfl
      have g5 := hA 5 _ rfl
      have g6 := hA 6 _ rfl
      have gs := World.block_lt_of_cell? wr _ g0
      simp only [Nat.zero_add] at g0 g1 g2 g3 g4 g5 g6 gs
      by_cases hlt : k < ps.length
      · obtain ⟨b, o, rfl, c0, c1, c2, -, hkk, -⟩ := Pts.at_ hpel k hlt
        replace c0 := (HB2.out.trans hb).sub _ _ c0
        replace c1 := (HB2.out.trans hb).sub _ _ c1
        replace c2 := (HB2.out.trans hb).sub _ _ c2
        have hall : (ps.take (k + 1)).all (fun p => decide (whoE h.ready p.k < 0)) = ((ps.take k).all (fun p => decide (whoE h.ready p.k < 0)) && decide (whoE h.ready ps[k].k < 0)) := by
          rw [List.take_succ_eq_append_getElem hlt, List.all_append]; simp
        have HAL := Lib.hid hall
        have HW : Hid (∀ W, Grow wr W → Calls Try.prog 30 #[.agg #[.slice ah h.log.length ch, .int .i64 h.sums.a, .int .i64 h.sums.b, .int .i64 h.sums.c, .int .i64 h.sums.d, .slice ar h.ready.length cr, .slice ad h.done.length cd], .int .i64 ps[k].k] W fun e w' => e = .returned (.int .i64 (whoE h.ready ps[k].k)) ∧ Grow W w') := fun W hW => ref_who W ⟨_, rfl, Ty.hs.mono (hb.trans hW).sub HR.out⟩
        have HA := Lib.hid hA
        have HLEN : Hid (k < ps.length) := Lib.hid hlt
        clear hpel hA hall hkk
        generalize ps[k] = p at *
        generalize (ps.take k).all (fun p => decide (whoE h.ready p.k < 0)) = acc at *
        cases acc
        · go_wp2_with fail
          go_roundw
          case rel => exact ⟨k + 1, by omega, by go_num, by rw [HAL.out]; rfl, hb.alloc _, HA.out.mono ((Grow.refl _).alloc _).sub⟩
          case measure => simp [intOf]; omega
        · go_wp2_with (go_at_call 30; refine (HW.out _ ((Grow.refl _).alloc _)).mono ?_; rintro e w4 ⟨rfl, hb4⟩)
          go_roundw
          case rel => exact ⟨k + 1, by omega, by go_num, by rw [HAL.out]; rfl, (hb.alloc _).trans hb4, HA.out.mono (((Grow.refl _).alloc _).trans hb4).sub⟩
          case measure => simp [intOf]; omega
      · obtain rfl : k = ps.length := by omega
        rw [List.take_of_length_le (Nat.le_refl _), ← free_all]
        have hO : ∀ W, Grow wr W → Of Ty.hs W.cell? (.agg #[.slice ah h.log.length ch, .int .i64 h.sums.a, .int .i64 h.sums.b, .int .i64 h.sums.c, .int .i64 h.sums.d, .slice ar h.ready.length cr, .slice ad h.done.length cd]) h := fun W hW => ⟨_, rfl, Ty.hs.mono (hb.trans hW).sub HR.out⟩
        have hW1 := fun (W : World) (hW : Grow wr W) => locks_who (key := key) W (hO W hW)
        have hW2 := fun (W : World) (hW : Grow wr W) => ref_who (key := key) W (hO W hW)
        have hW3 := fun (W : World) (hW : Grow wr W) => locks_free W (hO W hW) (HP.out.mono ((HB2.out.trans hb).trans hW).sub)
        have HW1 := Lib.hid hW1
        have HW2 := Lib.hid hW2
        have HW3 := Lib.hid hW3
        have HS : Hid (∀ W, Grow wr W → W.cell? ⟨w2.heap.size, 0, none⟩ = some (.slice ah h.log.length ch) ∧ W.cell? ⟨w2.heap.size, 1, none⟩ = some (.int .i64 h.sums.a) ∧ W.cell? ⟨w2.heap.size, 2, none⟩ = some (.int .i64 h.sums.b) ∧ W.cell? ⟨w2.heap.size, 3, none⟩ = some (.int .i64 h.sums.c) ∧ W.cell? ⟨w2.heap.size, 4, none⟩ = some (.int .i64 h.sums.d) ∧ W.cell? ⟨w2.heap.size, 5, none⟩ = some (.slice ar h.ready.length cr) ∧ W.cell? ⟨w2.heap.size, 6, none⟩ = some (.slice ad h.done.length cd)) := fun W hW => ⟨hW.sub _ _ g0, hW.sub _ _ g1, hW.sub _ _ g2, hW.sub _ _ g3, hW.sub _ _ g4, hW.sub _ _ g5, hW.sub _ _ g6⟩
        clear hW1 hW2 hW3 hA hpel
        generalize whoE h.ready key = wh at *
        generalize freeE h.ready ps = fr at *
        go_wp2
        go_region_held3 (fun w' => w'.cell? ⟨w2.heap.size, 0, none⟩ = some (.slice ah h.log.length ch) ∧ w'.cell? ⟨w2.heap.size, 1, none⟩ = some (.int .i64 h.sums.a) ∧ w'.cell? ⟨w2.heap.size, 2, none⟩ = some (.int .i64 h.sums.b) ∧ w'.cell? ⟨w2.heap.size, 3, none⟩ = some (.int .i64 h.sums.c) ∧ w'.cell? ⟨w2.heap.size, 4, none⟩ = some (.int .i64 h.sums.d) ∧ w'.cell? ⟨w2.heap.size, 5, none⟩ = some (.slice ar h.ready.length cr) ∧ w'.cell? ⟨w2.heap.size, 6, none⟩ = some (.slice ad h.done.length cd)) (first | assumption | exact HS.out _ (by repeat (first | with_reducible assumption | with_reducible exact Grow.refl _ | with_reducible apply Grow.drewN | with_reducible apply Grow.drew | with_reducible apply Grow.alloc | (refine Grow.trans ?_ (by with_reducible assumption))))) (first | (go_at_call 31; refine (HW1.out _ (by repeat (first | with_reducible assumption | with_reducible exact Grow.refl _ | with_reducible apply Grow.drewN | with_reducible apply Grow.drew | with_reducible apply Grow.alloc | (refine Grow.trans ?_ (by with_reducible assumption))))).mono ?_; rintro e wa ⟨rfl, hba⟩) | (go_at_call 30; refine (HW2.out _ (by repeat (first | with_reducible assumption | with_reducible exact Grow.refl _ | with_reducible apply Grow.drewN | with_reducible apply Grow.drew | with_reducible apply Grow.alloc | (refine Grow.trans ?_ (by with_reducible assumption))))).mono ?_; rintro e wb ⟨rfl, hbb⟩) | (go_at_call 32; refine (HW3.out _ (by repeat (first | with_reducible assumption | with_reducible exact Grow.refl _ | with_reducible apply Grow.drewN | with_reducible apply Grow.drew | with_reducible apply Grow.alloc | (refine Grow.trans ?_ (by with_reducible assumption))))).mono ?_; rintro e wc ⟨rfl, hbc⟩))
        go_wp2
        go_ret
        exact ⟨rfl, HB2.out.trans (by repeat (first | with_reducible assumption | with_reducible exact Grow.refl _ | with_reducible apply Grow.drewN | with_reducible apply Grow.drew | with_reducible apply Grow.alloc | (refine Grow.trans ?_ (by with_reducible assumption))))⟩
end Go.Proofs.Ytgbhpghgohggcaa

/- The closed fact that chapter 6's laws ask first, walked. -/
namespace Go.Proofs.Ytgbhpghgohggcaa
open Go.RowKit
/-- a slice of one thing -/
theorem sl_one {α : Type} {T : Ty α} {c : CM} {B n : Nat} {cs : List Value} {x : α} (hR : T.R c cs x) (hA : At c B 0 cs) (hn : 1 ≤ n) (hm : n ≤ maxLen) : Sl T c (.slice (some ⟨B, 0, none⟩) 1 n) [x] :=
  ⟨_, n, rfl, hn, hm, by simp, fun i y hy => by
    have hi := (List.getElem?_eq_some_iff.1 hy).1
    obtain rfl : i = 0 := by simpa using hi
    obtain rfl : x = y := by simpa using hy
    exact ⟨B, 0, cs, rfl, hR, by simpa using hA⟩⟩
theorem at_new (w : World) (c : Array Value) (t : TypeId) : At (w.alloc (.cells c t)).cell? w.heap.size 0 c.toList := fun j u hu => by
  rw [Nat.zero_add, World.cell?_alloc_new]; simpa using hu
/-- one part in a new array -/
theorem pts_one (a b c : Int) (ha : I64 a) (hb : I64 b) (hc : I64 c) (w W : World) (t : TypeId) (hW : Grow (w.alloc (.cells #[.int .i64 a, .int .i64 b, .int .i64 c] t)) W) : Pts W.cell? (.slice (some ⟨w.heap.size, 0, none⟩) 1 1) [⟨a, b, c⟩] :=
  Sl.mono hW.sub (sl_one (T := Ty.pt) ⟨rfl, ha, hb, hc⟩ (at_new _ _ _) (by decide) (by decide))
theorem Of.hs_form {c : CM} {v : Value} {h : Hs} (hv : Of Ty.hs c v h) : ∃ al cl ar cr ad cd, v = .agg #[.slice al h.log.length cl, .int .i64 h.sums.a, .int .i64 h.sums.b, .int .i64 h.sums.c, .int .i64 h.sums.d, .slice ar h.ready.length cr, .slice ad h.done.length cd] := by
  obtain ⟨cs, rfl, hR⟩ := hv
  obtain ⟨vl, vr, vd, rfl, hl, -, -, -, -, hr, hd⟩ := hR
  obtain ⟨ah, ch, rfl, -⟩ := id hl
  obtain ⟨ad, cd, rfl, -⟩ := id hd
  obtain ⟨ar, cr, rfl, -⟩ := id hr
  exact ⟨_, _, _, _, _, _, rfl⟩
def hs70 : Hs := houseR [⟨1, 70, [⟨0, 1, 5⟩]⟩]
set_option maxRecDepth 100000 in
set_option maxHeartbeats 1000000 in
theorem alive6 (w : World) : Calls Try.prog 33 #[] w fun e w' => e = .returned (.bool true) ∧ Grow w w' := by
  have i0 : I64 0 := by unfold I64; decide
  have i1 : I64 1 := by unfold I64; decide
  have i2 : I64 2 := by unfold I64; decide
  have i5 : I64 5 := by unfold I64; decide
  have i70 : I64 70 := by unfold I64; decide
  have HP := Lib.hid (pts_one 0 1 5 i0 i1 i5 w)
  have HQ := Lib.hid (pts_one 0 2 0 i0 i2 i0)
  have HI := Lib.hid (And.intro i1 i70)
  clear i0 i1 i2 i5 i70
  go_enter Try.func33, Try.ntmps33
  go_wp2_with fail
  refine (ref_house (l := [⟨1, 70, [⟨0, 1, 5⟩]⟩]) _ (sl_one (T := Ty.rc) ⟨_, rfl, HI.out.1, HI.out.2, HP.out _ 32 (by repeat (first | with_reducible assumption | with_reducible exact Grow.refl _ | with_reducible apply Grow.drewN | with_reducible apply Grow.drew | with_reducible apply Grow.alloc | (refine Grow.trans ?_ (by with_reducible assumption))))⟩ (by simpa using at_new (w.alloc _) #[.int .i64 1, .int .i64 70, .slice (some ⟨w.heap.size, 0, none⟩) 1 1] 48) (by decide) (by decide)) (by intro r hr p hp; simp at hr; subst hr; simp at hp; subst hp; decide) (by decide)).mono ?_
  have e1 : whoE hs70.ready 1 = 70 := by decide
  have e2 : whoE hs70.ready 2 = -1 := by decide
  have e3 : freeE hs70.ready [⟨0, 1, 5⟩] = false := by decide
  have e4 : freeE hs70.ready [⟨0, 2, 0⟩] = true := by decide
  rintro e w2 ⟨vh, rfl, hO, hb2⟩
  change Of Ty.hs _ _ hs70 at hO
  have H1 := fun (W : World) (hW : Grow w2 W) => locks_who (key := 1) W (hO.mono hW.sub)
  have H2 := fun (W : World) (hW : Grow w2 W) => locks_who (key := 2) W (hO.mono hW.sub)
  have H3 := fun (v' : Value) (W : World) (hW : Grow w2 W) => locks_free (v' := v') (ps := [⟨0, 1, 5⟩]) W (hO.mono hW.sub)
  have H4 := fun (v' : Value) (W : World) (hW : Grow w2 W) => locks_free (v' := v') (ps := [⟨0, 2, 0⟩]) W (hO.mono hW.sub)
  rw [e1] at H1
  rw [e2] at H2
  rw [e3] at H3
  rw [e4] at H4
  obtain ⟨al, cl, ar, cr, ad, cd, rfl⟩ := hO.hs_form
  generalize hs70.log.length = nl at *
  generalize hs70.ready.length = nr at *
  generalize hs70.done.length = nd at *
  generalize hs70.sums.a = sa at *
  generalize hs70.sums.b = sb at *
  generalize hs70.sums.c = sc at *
  generalize hs70.sums.d = sd at *
  have H1' := Lib.hid H1
  have H2' := Lib.hid H2
  have H3' := Lib.hid H3
  have H4' := Lib.hid H4
  have hs2 := hb2.size
  simp at hs2
  have HB := Lib.hid ((((Grow.refl w).alloc (.cells #[.int .i64 0, .int .i64 1, .int .i64 5] 32)).alloc (.cells #[.int .i64 1, .int .i64 70, .slice (some ⟨w.heap.size, 0, none⟩) 1 1] 48)).trans hb2)
  have HB2' := Lib.hid (((Grow.refl (w.alloc (.cells #[.int .i64 0, .int .i64 1, .int .i64 5] 32))).alloc (.cells #[.int .i64 1, .int .i64 70, .slice (some ⟨w.heap.size, 0, none⟩) 1 1] 48)).trans hb2)
  clear e1 e2 e3 e4 H1 H2 H3 H4 hO hb2
  go_wp2_with fail
  refine (H1'.out _ ((Grow.refl _).alloc _)).mono ?_
  rintro e wa ⟨rfl, hbwa⟩
  (obtain ⟨cwa, fwa⟩ := bcell hbwa; have zwa0 : w2.heap.size < wa.heap.size := (by have := hbwa.size; (try simp at this); omega); have Gwa := Lib.hid hbwa; clear hbwa)
  have K1 := Lib.hid (((Grow.refl w2).alloc _).trans Gwa.out)
  go_wp2_with fail
  refine (H2'.out _ K1.out).mono ?_
  rintro e wb ⟨rfl, hbwb⟩
  (obtain ⟨cwb, fwb⟩ := bcell hbwb; have zwb0 : w2.heap.size < wb.heap.size := (by have := hbwb.size; (try simp at this); omega); have Gwb := Lib.hid hbwb; clear hbwb)
  have K2 := Lib.hid (K1.out.trans Gwb.out)
  go_wp2_with fail
  refine (H3'.out _ _ K2.out (HP.out _ _ (HB2'.out.trans K2.out))).mono ?_
  rintro e wc ⟨rfl, hbwc⟩
  (obtain ⟨cwc, fwc⟩ := bcell hbwc; have zwc0 : w2.heap.size < wc.heap.size := (by have := hbwc.size; (try simp at this); omega); have Gwc := Lib.hid hbwc; clear hbwc)
  have K3 := Lib.hid (K2.out.trans Gwc.out)
  go_wp2_with fail
  refine (H4'.out _ _ (K3.out.alloc _) (HQ.out _ _ _ (Grow.refl _))).mono ?_
  rintro e wd ⟨rfl, hbwd⟩
  (obtain ⟨cwd, fwd⟩ := bcell hbwd; have zwd0 : w2.heap.size < wd.heap.size := (by have := hbwd.size; (try simp at this); omega); have Gwd := Lib.hid hbwd; clear hbwd)
  go_wp2_with fail
  go_ret
  exact ⟨rfl, HB.out.trans ((K3.out.alloc _).trans Gwd.out)⟩
end Go.Proofs.Ytgbhpghgohggcaa

/- Walks: in, ready, Vote, note of the document's answer to chapter 7. -/
namespace Go.Proofs.Ytgbhpghgohggcaa
open Go.RowKit
theorem in_take {l : List Int} {k : Nat} {n : Int} (hlt : k < l.length) (h : ∀ x ∈ l.take k, x ≠ n) (hne : l[k] ≠ n) : ∀ x ∈ l.take (k + 1), x ≠ n := by
  intro x hx
  rw [List.take_succ_eq_append_getElem hlt] at hx
  rcases List.mem_append.1 hx with h' | h'
  · exact h x h'
  · simp at h'; subst h'; exact hne
set_option maxHeartbeats 400000 in
theorem ref_in {v : Value} {l : List Int} {n : Int} (w : World) (hv : Ints w.cell? v l) :
    Calls Try.prog 120 #[v, .int .i64 n] w fun e w' => e = .returned (.bool (decide (n ∈ l))) ∧ Grow w w' := by
  obtain ⟨a, cap, rfl, h1, h2, -, hel⟩ := hv
  unfold maxLen at h2
  go_enter Try.func120, Try.ntmps120
  go_wp2
  go_loopw [6, 9] (fun _ i wr => ∃ k : Nat, k ≤ l.length ∧ i = .int .i64 k ∧ Grow w wr ∧ ∀ x ∈ l.take k, x ≠ n) (fun _ i _ => l.length - (intOf i).toNat)
  case atStart => exact ⟨0, by omega, rfl, (by repeat (first | with_reducible assumption | with_reducible exact Grow.refl _ | with_reducible apply Grow.drewN | with_reducible apply Grow.drew | with_reducible apply Grow.alloc | (refine Grow.setCell ?_ (by simp; done) _))), by simp⟩
  case round =>
    obtain ⟨k, hk', rfl, hb, hE⟩ := hrel
    have HE := Lib.hid hE
    clear hE
    by_cases hlt : k < l.length
    · obtain ⟨b, o, rfl, c0, -⟩ := intAt hel k hlt
      replace c0 := hb.sub _ _ c0
      have H1 : Hid (l[k] = n → n ∈ l) := fun h => h ▸ List.getElem_mem _
      have H2 : Hid (l[k] ≠ n → ∀ x ∈ l.take (k + 1), x ≠ n) := fun h => in_take hlt HE.out h
      clear hel
      generalize l[k] = x at *
      cases ht : (x == n)
      · have H3 := Lib.hid (H2.out (by simpa using ht))
        clear H1 H2
        go_wp2
        go_roundw
        case rel => exact ⟨k + 1, by omega, by go_num, (by repeat (first | with_reducible assumption | with_reducible exact Grow.refl _ | with_reducible apply Grow.drewN | with_reducible apply Grow.drew | with_reducible apply Grow.alloc | (refine Grow.setCell ?_ (by simp; done) _))), H3.out⟩
        case measure => simp [intOf]; omega
      · have H3 := Lib.hid (H1.out (by simpa using ht))
        clear H1 H2
        go_wp2
        go_ret
        exact ⟨ret_bool (by simp [H3.out]), (by repeat (first | with_reducible assumption | with_reducible exact Grow.refl _ | with_reducible apply Grow.drewN | with_reducible apply Grow.drew | with_reducible apply Grow.alloc | (refine Grow.setCell ?_ (by simp; done) _)))⟩
    · clear hel
      go_wp2
      go_ret
      refine ⟨ret_bool ?_, hb⟩
      have h := HE.out
      rw [List.take_of_length_le (by omega)] at h
      symm
      rw [decide_eq_false_iff_not]
      exact fun hm => h n hm rfl
set_option maxHeartbeats 400000 in
theorem ref_ready {v : Value} {h : Hs} {d : Int} (w : World) (hv : Of Ty.hs w.cell? v h) :
    Calls Try.prog 118 #[v, .int .i64 d] w fun e w' => e = .returned (.bool (readyE h.ready d)) ∧ Grow w w' := by
  obtain ⟨cs, rfl, vl, vr, vd, rfl, hl, -, -, -, -, hr, hd⟩ := hv
  obtain ⟨al, cl, rfl, -⟩ := id hl
  obtain ⟨ad, cd, rfl, -⟩ := id hd
  obtain ⟨a, cap, rfl, h1, h2, -, hel⟩ := hr
  unfold maxLen at h2
  go_enter Try.func118, Try.ntmps118
  go_wp2
  go_loopw [6, 10] (fun _ i wr => ∃ k : Nat, k ≤ h.ready.length ∧ i = .int .i64 k ∧ Grow w wr ∧ ∀ r ∈ h.ready.take k, isD d r = false) (fun _ i _ => h.ready.length - (intOf i).toNat)
  case atStart => exact ⟨0, by omega, rfl, (by repeat (first | with_reducible assumption | with_reducible exact Grow.refl _ | with_reducible apply Grow.drewN | with_reducible apply Grow.drew | with_reducible apply Grow.alloc | (refine Grow.setCell ?_ (by simp; done) _))), by simp⟩
  case round =>
    obtain ⟨k, hk', rfl, hb, hE⟩ := hrel
    have HE := Lib.hid hE
    clear hE
    by_cases hlt : k < h.ready.length
    · obtain ⟨b, o, vp, rfl, c0, c1, -, hP⟩ := Rds.at_ hel k hlt
      obtain ⟨ap, cp, rfl, -⟩ := id hP
      replace c0 := hb.sub _ _ c0
      replace c1 := hb.sub _ _ c1
      have H1 : Hid (isD d h.ready[k] = true → readyE h.ready d = true) := fun h2 => List.any_eq_true.2 ⟨_, List.getElem_mem _, h2⟩
      have H2 : Hid (isD d h.ready[k] = false → ∀ r ∈ h.ready.take (k + 1), isD d r = false) := fun h2 r hr => by
        rw [List.take_succ_eq_append_getElem hlt] at hr
        rcases List.mem_append.1 hr with h' | h'
        · exact HE.out r h'
        · simp at h'; subst h'; exact h2
      clear hel hP
      generalize h.ready[k] = r at *
      cases ht : (r.deed == d)
      · have H3 := Lib.hid (H2.out ht)
        clear H1 H2
        go_wp2
        go_roundw
        case rel => exact ⟨k + 1, by omega, by go_num, (by repeat (first | with_reducible assumption | with_reducible exact Grow.refl _ | with_reducible apply Grow.drewN | with_reducible apply Grow.drew | with_reducible apply Grow.alloc | (refine Grow.setCell ?_ (by simp; done) _))), H3.out⟩
        case measure => simp [intOf]; omega
      · have H3 := Lib.hid (H1.out ht)
        clear H1 H2
        go_wp2
        go_ret
        exact ⟨ret_bool H3.out.symm, (by repeat (first | with_reducible assumption | with_reducible exact Grow.refl _ | with_reducible apply Grow.drewN | with_reducible apply Grow.drew | with_reducible apply Grow.alloc | (refine Grow.setCell ?_ (by simp; done) _)))⟩
    · clear hel
      go_wp2
      go_ret
      refine ⟨ret_bool ?_, hb⟩
      have h3 := HE.out
      rw [List.take_of_length_le (by omega)] at h3
      symm
      rw [readyE, List.any_eq_false]
      intro x hx
      rw [h3 x hx]; simp
end Go.Proofs.Ytgbhpghgohggcaa

/- Walks: note of the document's answer. -/
namespace Go.Proofs.Ytgbhpghgohggcaa
open Go.RowKit
theorem Of.rc_form {c : CM} {v : Value} {r : Rc} (hv : Of Ty.rc c v r) : ∃ ap cp, v = .agg #[.int .i64 r.kind, .int .i64 r.deed, .slice ap r.parts.length cp] := by
  obtain ⟨cs, rfl, vp, rfl, -, -, hp⟩ := hv
  obtain ⟨ap, cp, rfl, -⟩ := id hp
  exact ⟨_, _, rfl⟩
theorem Of.cells {α : Type} {T : Ty α} {c : CM} {cs : Array Value} {x : α} (h : Of T c (.agg cs) x) : T.R c cs.toList x := by
  obtain ⟨cs', he, hR⟩ := h
  simp only [Value.agg.injEq] at he
  subst he
  exact hR
theorem Of.hs_log {c : CM} {al ar ad : Option Addr} {nl cl nr cr nd cd : Nat} {sa sb sc sd : Value} {h : Hs} (hv : Of Ty.hs c (.agg #[.slice al nl cl, sa, sb, sc, sd, .slice ar nr cr, .slice ad nd cd]) h) : Sl Ty.rc c (.slice al nl cl) h.log ∧ Sl Ty.rd c (.slice ar nr cr) h.ready ∧ Sl Ty.int c (.slice ad nd cd) h.done := by
  obtain ⟨vl, vr, vd, he, hl, -, -, -, -, hr, hd⟩ := hv.cells
  simp at he
  obtain ⟨rfl, -, -, -, -, rfl, rfl⟩ := he
  exact ⟨hl, hr, hd⟩
set_option maxRecDepth 100000 in
set_option maxHeartbeats 1000000 in
theorem ref_note {c : CM} {v vr : Value} {h : Hs} {r : Rc} (w : World) (hc : Sub c w.cell?) (hv : Of Ty.hs c v h) (hr : Of Ty.rc c vr r) (hk : ∀ x ∈ h.log, KeysOk x.parts) (hkr : KeysOk r.parts) (hm : (h.log.length + 1) * 40 ≤ 140737488355328) :
    Calls Try.prog 119 #[v, vr] w fun e w' => ∃ v', e = .returned v' ∧ Of Ty.hs (ov c w w') v' (noteE h r) ∧ Grow w w' := by
  obtain ⟨al, cl, ar, cr, ad, cd, rfl⟩ := hv.hs_form
  obtain ⟨ap, cp, rfl⟩ := hr.rc_form
  have hll := (Of.hs_log hv).1
  have HR := Lib.hid hr.cells
  have HONE : Hid (OwnC Ty.rc c w w.heap.size 48 (.slice none 0 0) []) := Lib.hid (OwnC.nil _ _ _ _ _)
  have HSRC := Lib.hid (fun (W : World) (hW : Grow w W) => (Src.of_sl_c (T := Ty.rc) (by decide) hc hll).grow hW)
  have HM := Lib.hid hm
  have HK0 := Lib.hid hk
  have HKR := Lib.hid hkr
  have HC := Lib.hid hc
  clear hv hr hll hm hk hkr hc HONE
  generalize hne : noteE h r = x
  have HNE : Hid (houseR (h.log ++ [r]) = x) := hne
  clear hne
  go_enter Try.func119, Try.ntmps119
  go_wp2_with fail
  have hGW : Grow w (((w.alloc (.cells #[.slice al h.log.length cl, .int .i64 h.sums.a, .int .i64 h.sums.b, .int .i64 h.sums.c, .int .i64 h.sums.d, .slice ar h.ready.length cr, .slice ad h.done.length cd] 29)).alloc (.cells #[.int .i64 r.kind, .int .i64 r.deed, .slice ap r.parts.length cp] 48)).alloc (.cells #[.slice none 0 0, .int .i64 0, .int .i64 0, .int .i64 0, .int .i64 0, .slice none 0 0, .slice none 0 0] 29)) := (((Grow.refl w).alloc _).alloc _).alloc _
  have hS : (((w.alloc (.cells #[.slice al h.log.length cl, .int .i64 h.sums.a, .int .i64 h.sums.b, .int .i64 h.sums.c, .int .i64 h.sums.d, .slice ar h.ready.length cr, .slice ad h.done.length cd] 29)).alloc (.cells #[.int .i64 r.kind, .int .i64 r.deed, .slice ap r.parts.length cp] 48)).alloc (.cells #[.slice none 0 0, .int .i64 0, .int .i64 0, .int .i64 0, .int .i64 0, .slice none 0 0, .slice none 0 0] 29)).cell? ⟨w.heap.size, 0, none⟩ = some (.slice al h.log.length cl) ∧ (((w.alloc (.cells #[.slice al h.log.length cl, .int .i64 h.sums.a, .int .i64 h.sums.b, .int .i64 h.sums.c, .int .i64 h.sums.d, .slice ar h.ready.length cr, .slice ad h.done.length cd] 29)).alloc (.cells #[.int .i64 r.kind, .int .i64 r.deed, .slice ap r.parts.length cp] 48)).alloc (.cells #[.slice none 0 0, .int .i64 0, .int .i64 0, .int .i64 0, .int .i64 0, .slice none 0 0, .slice none 0 0] 29)).cell? ⟨w.heap.size + 1, 0, none⟩ = some (.int .i64 r.kind) ∧ (((w.alloc (.cells #[.slice al h.log.length cl, .int .i64 h.sums.a, .int .i64 h.sums.b, .int .i64 h.sums.c, .int .i64 h.sums.d, .slice ar h.ready.length cr, .slice ad h.done.length cd] 29)).alloc (.cells #[.int .i64 r.kind, .int .i64 r.deed, .slice ap r.parts.length cp] 48)).alloc (.cells #[.slice none 0 0, .int .i64 0, .int .i64 0, .int .i64 0, .int .i64 0, .slice none 0 0, .slice none 0 0] 29)).cell? ⟨w.heap.size + 1, 1, none⟩ = some (.int .i64 r.deed) ∧ (((w.alloc (.cells #[.slice al h.log.length cl, .int .i64 h.sums.a, .int .i64 h.sums.b, .int .i64 h.sums.c, .int .i64 h.sums.d, .slice ar h.ready.length cr, .slice ad h.done.length cd] 29)).alloc (.cells #[.int .i64 r.kind, .int .i64 r.deed, .slice ap r.parts.length cp] 48)).alloc (.cells #[.slice none 0 0, .int .i64 0, .int .i64 0, .int .i64 0, .int .i64 0, .slice none 0 0, .slice none 0 0] 29)).cell? ⟨w.heap.size + 1, 2, none⟩ = some (.slice ap r.parts.length cp) := by refine ⟨?_, ?_, ?_, ?_⟩ <;> go_simp
  have hZ : (((w.alloc (.cells #[.slice al h.log.length cl, .int .i64 h.sums.a, .int .i64 h.sums.b, .int .i64 h.sums.c, .int .i64 h.sums.d, .slice ar h.ready.length cr, .slice ad h.done.length cd] 29)).alloc (.cells #[.int .i64 r.kind, .int .i64 r.deed, .slice ap r.parts.length cp] 48)).alloc (.cells #[.slice none 0 0, .int .i64 0, .int .i64 0, .int .i64 0, .int .i64 0, .slice none 0 0, .slice none 0 0] 29)).cell? ⟨w.heap.size + 1 + 1, 0, none⟩ = some (.slice none 0 0) ∧ (((w.alloc (.cells #[.slice al h.log.length cl, .int .i64 h.sums.a, .int .i64 h.sums.b, .int .i64 h.sums.c, .int .i64 h.sums.d, .slice ar h.ready.length cr, .slice ad h.done.length cd] 29)).alloc (.cells #[.int .i64 r.kind, .int .i64 r.deed, .slice ap r.parts.length cp] 48)).alloc (.cells #[.slice none 0 0, .int .i64 0, .int .i64 0, .int .i64 0, .int .i64 0, .slice none 0 0, .slice none 0 0] 29)).cell? ⟨w.heap.size + 1 + 1, 1, none⟩ = some (.int .i64 0) ∧ (((w.alloc (.cells #[.slice al h.log.length cl, .int .i64 h.sums.a, .int .i64 h.sums.b, .int .i64 h.sums.c, .int .i64 h.sums.d, .slice ar h.ready.length cr, .slice ad h.done.length cd] 29)).alloc (.cells #[.int .i64 r.kind, .int .i64 r.deed, .slice ap r.parts.length cp] 48)).alloc (.cells #[.slice none 0 0, .int .i64 0, .int .i64 0, .int .i64 0, .int .i64 0, .slice none 0 0, .slice none 0 0] 29)).cell? ⟨w.heap.size + 1 + 1, 2, none⟩ = some (.int .i64 0) ∧ (((w.alloc (.cells #[.slice al h.log.length cl, .int .i64 h.sums.a, .int .i64 h.sums.b, .int .i64 h.sums.c, .int .i64 h.sums.d, .slice ar h.ready.length cr, .slice ad h.done.length cd] 29)).alloc (.cells #[.int .i64 r.kind, .int .i64 r.deed, .slice ap r.parts.length cp] 48)).alloc (.cells #[.slice none 0 0, .int .i64 0, .int .i64 0, .int .i64 0, .int .i64 0, .slice none 0 0, .slice none 0 0] 29)).cell? ⟨w.heap.size + 1 + 1, 3, none⟩ = some (.int .i64 0) ∧ (((w.alloc (.cells #[.slice al h.log.length cl, .int .i64 h.sums.a, .int .i64 h.sums.b, .int .i64 h.sums.c, .int .i64 h.sums.d, .slice ar h.ready.length cr, .slice ad h.done.length cd] 29)).alloc (.cells #[.int .i64 r.kind, .int .i64 r.deed, .slice ap r.parts.length cp] 48)).alloc (.cells #[.slice none 0 0, .int .i64 0, .int .i64 0, .int .i64 0, .int .i64 0, .slice none 0 0, .slice none 0 0] 29)).cell? ⟨w.heap.size + 1 + 1, 4, none⟩ = some (.int .i64 0) ∧ (((w.alloc (.cells #[.slice al h.log.length cl, .int .i64 h.sums.a, .int .i64 h.sums.b, .int .i64 h.sums.c, .int .i64 h.sums.d, .slice ar h.ready.length cr, .slice ad h.done.length cd] 29)).alloc (.cells #[.int .i64 r.kind, .int .i64 r.deed, .slice ap r.parts.length cp] 48)).alloc (.cells #[.slice none 0 0, .int .i64 0, .int .i64 0, .int .i64 0, .int .i64 0, .slice none 0 0, .slice none 0 0] 29)).cell? ⟨w.heap.size + 1 + 1, 5, none⟩ = some (.slice none 0 0) ∧ (((w.alloc (.cells #[.slice al h.log.length cl, .int .i64 h.sums.a, .int .i64 h.sums.b, .int .i64 h.sums.c, .int .i64 h.sums.d, .slice ar h.ready.length cr, .slice ad h.done.length cd] 29)).alloc (.cells #[.int .i64 r.kind, .int .i64 r.deed, .slice ap r.parts.length cp] 48)).alloc (.cells #[.slice none 0 0, .int .i64 0, .int .i64 0, .int .i64 0, .int .i64 0, .slice none 0 0, .slice none 0 0] 29)).cell? ⟨w.heap.size + 1 + 1, 6, none⟩ = some (.slice none 0 0) := by refine ⟨?_, ?_, ?_, ?_, ?_, ?_, ?_⟩ <;> go_simp
  have hZF : ∀ o, (((w.alloc (.cells #[.slice al h.log.length cl, .int .i64 h.sums.a, .int .i64 h.sums.b, .int .i64 h.sums.c, .int .i64 h.sums.d, .slice ar h.ready.length cr, .slice ad h.done.length cd] 29)).alloc (.cells #[.int .i64 r.kind, .int .i64 r.deed, .slice ap r.parts.length cp] 48)).alloc (.cells #[.slice none 0 0, .int .i64 0, .int .i64 0, .int .i64 0, .int .i64 0, .slice none 0 0, .slice none 0 0] 29)).frozen? ⟨w.heap.size + 1 + 1, o, none⟩ = false := by intro o; go_simp
  have hsz : w.heap.size + 1 + 1 < (((w.alloc (.cells #[.slice al h.log.length cl, .int .i64 h.sums.a, .int .i64 h.sums.b, .int .i64 h.sums.c, .int .i64 h.sums.d, .slice ar h.ready.length cr, .slice ad h.done.length cd] 29)).alloc (.cells #[.int .i64 r.kind, .int .i64 r.deed, .slice ap r.parts.length cp] 48)).alloc (.cells #[.slice none 0 0, .int .i64 0, .int .i64 0, .int .i64 0, .int .i64 0, .slice none 0 0, .slice none 0 0] 29)).heap.size := by simp
  generalize hW3 : (((w.alloc (.cells #[.slice al h.log.length cl, .int .i64 h.sums.a, .int .i64 h.sums.b, .int .i64 h.sums.c, .int .i64 h.sums.d, .slice ar h.ready.length cr, .slice ad h.done.length cd] 29)).alloc (.cells #[.int .i64 r.kind, .int .i64 r.deed, .slice ap r.parts.length cp] 48)).alloc (.cells #[.slice none 0 0, .int .i64 0, .int .i64 0, .int .i64 0, .int .i64 0, .slice none 0 0, .slice none 0 0] 29)) = w3 at *
  have HW3 := Lib.hid hW3
  have HGW := Lib.hid hGW
  have HS : Hid (∀ W, Grow w3 W → W.cell? ⟨w.heap.size, 0, none⟩ = some (.slice al h.log.length cl) ∧ W.cell? ⟨w.heap.size + 1, 0, none⟩ = some (.int .i64 r.kind) ∧ W.cell? ⟨w.heap.size + 1, 1, none⟩ = some (.int .i64 r.deed) ∧ W.cell? ⟨w.heap.size + 1, 2, none⟩ = some (.slice ap r.parts.length cp)) := fun W hW => ⟨hW.sub _ _ hS.1, hW.sub _ _ hS.2.1, hW.sub _ _ hS.2.2.1, hW.sub _ _ hS.2.2.2⟩
  have HSB : Hid (∀ W, w3.grownBy W (some (w.heap.size + 1 + 1)) → W.cell? ⟨w.heap.size, 0, none⟩ = some (.slice al h.log.length cl) ∧ W.cell? ⟨w.heap.size + 1, 0, none⟩ = some (.int .i64 r.kind) ∧ W.cell? ⟨w.heap.size + 1, 1, none⟩ = some (.int .i64 r.deed) ∧ W.cell? ⟨w.heap.size + 1, 2, none⟩ = some (.slice ap r.parts.length cp)) := fun W hW => by
    have k : ∀ (b o : Nat) (u : Value), b < w.heap.size + 1 + 1 → w3.cell? ⟨b, o, none⟩ = some u → W.cell? ⟨b, o, none⟩ = some u := fun b o u hb e => by
      rw [World.cell?_of_block (w := w3) (hW.block b (World.block_lt_of_cell? w3 _ e) (by simp; omega))]; exact e
    exact ⟨k _ _ _ (by omega) hS.1, k _ _ _ (by omega) hS.2.1, k _ _ _ (by omega) hS.2.2.1, k _ _ _ (by omega) hS.2.2.2⟩
  have HSR := Lib.hid (fun (W : World) (hW : Grow w3 W) => HSRC.out W (HGW.out.trans hW))
  have HL : Hid (h.log.length + 1 ≤ 3518437208883) := by show _ ≤ _; have := HM.out; omega
  have HZ : Hid (∀ W, Grow w3 W → W.cell? ⟨w.heap.size + 1 + 1, 0, none⟩ = some (.slice none 0 0) ∧ W.cell? ⟨w.heap.size + 1 + 1, 1, none⟩ = some (.int .i64 0) ∧ W.cell? ⟨w.heap.size + 1 + 1, 2, none⟩ = some (.int .i64 0) ∧ W.cell? ⟨w.heap.size + 1 + 1, 3, none⟩ = some (.int .i64 0) ∧ W.cell? ⟨w.heap.size + 1 + 1, 4, none⟩ = some (.int .i64 0) ∧ W.cell? ⟨w.heap.size + 1 + 1, 5, none⟩ = some (.slice none 0 0) ∧ W.cell? ⟨w.heap.size + 1 + 1, 6, none⟩ = some (.slice none 0 0) ∧ ∀ o, W.frozen? ⟨w.heap.size + 1 + 1, o, none⟩ = false) := fun W hW => ⟨hW.sub _ _ hZ.1, hW.sub _ _ hZ.2.1, hW.sub _ _ hZ.2.2.1, hW.sub _ _ hZ.2.2.2.1, hW.sub _ _ hZ.2.2.2.2.1, hW.sub _ _ hZ.2.2.2.2.2.1, hW.sub _ _ hZ.2.2.2.2.2.2, fun o => by rw [hW.frozen (p := ⟨w.heap.size + 1 + 1, o, none⟩) hsz]; exact hZF o⟩
  clear hW3 hGW hS hZ hZF
  refine but_start (fun w' => w'.cell? ⟨w.heap.size, 0, none⟩ = some (.slice al h.log.length cl) ∧ w'.cell? ⟨w.heap.size + 1, 0, none⟩ = some (.int .i64 r.kind) ∧ w'.cell? ⟨w.heap.size + 1, 1, none⟩ = some (.int .i64 r.deed) ∧ w'.cell? ⟨w.heap.size + 1, 2, none⟩ = some (.slice ap r.parts.length cp)) 8 (by kernel_rfl) ?_
  obtain ⟨wd, hWd⟩ : ∃ x : World, x = w3.drew := ⟨_, rfl⟩
  rw [← hWd]
  have GD : Grow w3 wd := by rw [hWd]; exact (Grow.refl _).drew
  have zD : w3.heap.size = wd.heap.size := by rw [hWd]; rfl
  have ZD := Lib.hid zD
  clear hWd zD
  refine but_take (i := 1) (v := ?_) 8 rfl (by kernel_rfl) (by kernel_rfl) (by kernel_rfl) (by kernel_rfl) (by kernel_rfl) (fun _ _ _ h => h) (HS.out _ GD) (Or.inl ⟨by rfl, ?_⟩) ?_
  rotate_left
  · (intro w' hSw; (try dsimp only at hSw); obtain ⟨hs0, hs1, hs2, hs3⟩ := hSw; go_simp <;> with_reducible rfl)
  try simp only [Act.put, List.setIfInBounds_toArray]
  refine but_take (i := 2) (v := ?_) 8 rfl (by kernel_rfl) (by kernel_rfl) (by kernel_rfl) (by kernel_rfl) (by kernel_rfl) (fun _ _ _ h => h) (HS.out _ GD) (Or.inl ⟨by rfl, ?_⟩) ?_
  rotate_left
  · (intro w' hSw; (try dsimp only at hSw); obtain ⟨hs0, hs1, hs2, hs3⟩ := hSw; go_simp <;> with_reducible rfl)
  try simp only [Act.put]
  refine but_take (i := 4) (v := ?_) 8 rfl (by kernel_rfl) (by kernel_rfl) (by kernel_rfl) (by kernel_rfl) (by kernel_rfl) (fun _ _ _ h => h) (HS.out _ GD) (Or.inl ⟨by rfl, ?_⟩) ?_
  rotate_left
  · (intro w' hSw; (try dsimp only at hSw); obtain ⟨hs0, hs1, hs2, hs3⟩ := hSw; go_simp <;> with_reducible rfl)
  try simp only [Act.put]
  refine but_two (i := 0) (j := 5) (by kernel_rfl) rfl rfl (fun K HK' => ?_) (fun K HK' => ?_)
  · skip
    have HK := Lib.hid HK'
    clear HK'
    go_simp
    refine HK.out _ _ ⟨fun _ => HS.out _ (GD.alloc _), ?_⟩
    clear HK K
    try simp only [Act.put, List.setIfInBounds_toArray, List.set_cons_zero, List.set_cons_succ]
    refine but_two (i := 3) (j := 5) (by kernel_rfl) rfl rfl (fun K HK' => ?_) (fun K HK' => ?_)
    · skip
      have HK := Lib.hid HK'
      clear HK'
      refine step_appc (v := .slice (some ⟨wd.heap.size, 0, none⟩) 0 0) ei_rc rfl one_Trc (by decide) rfl (.tmp 5) (.tmp 7) rfl rfl ((OwnC.made0 Ty.rc c _ w3.heap.size _ (by have := ZD.out; (try simp); omega) (by simp))) rfl (HSR.out _ (GD.alloc _)) (by have := HL.out; simp; omega) (GD.alloc _).size ?_
      intro a3 c3 q3 ho3 hg3 hb3
      try simp only [List.length_nil, Nat.zero_add, List.nil_append] at ho3
      try simp only [List.length_nil, Nat.zero_add] at hb3
      try simp only [List.length_nil, Nat.zero_add]
      have G3 := grow_by (w0 := w3) (GD.alloc _) hg3 (own_at (by have := ZD.out; (try simp); omega))
      have B3 := Lib.hid (own_new (B := w3.heap.size) (GD.alloc _).size hb3 (own_at (by have := ZD.out; (try simp); omega)))
      have HO3 := Lib.hid ho3
      have HG3 := Lib.hid hg3
      clear ho3 hg3 hb3
      refine HK.out _ _ ⟨fun _ => HS.out _ G3, ?_⟩
      clear HK K
      try simp only [Act.put, List.setIfInBounds_toArray]
      refine but_one (i := 5) (by kernel_rfl) rfl (fun K HK' => ?_)
      have HK := Lib.hid HK'
      clear HK'
      go_simp
      refine HK.out _ _ ⟨fun _ => HS.out _ (G3.alloc _), ?_⟩
      clear HK K
      try simp only [Act.put, List.setIfInBounds_toArray, List.set_cons_zero, List.set_cons_succ]
      refine but_one (i := 6) (by kernel_rfl) rfl (fun K HK' => ?_)
      have HK := Lib.hid HK'
      clear HK'
      refine step_appc (v := .slice a3 (h.log.length) c3) ei_rc rfl one_Trc (by decide) rfl (.tmp 8) (.tmp 10) rfl rfl ((HO3.out).grow ((Grow.refl _).alloc _)) rfl ((Src.of_new (T := Ty.rc) (c := c) (cs := #[.int .i64 r.kind, .int .i64 r.deed, .slice ap r.parts.length cp]) HR.out _ _ (by simp))) (by have := HL.out; simp; omega) (G3.alloc _).size ?_
      intro a6 c6 q6 ho6 hg6 hb6
      try simp only [List.length_nil, List.length_cons, Nat.zero_add] at ho6
      try simp only [List.length_nil, List.length_cons, Nat.zero_add] at hb6
      try simp only [List.length_nil, List.length_cons, Nat.zero_add]
      have G6 := grow_by (w0 := w3) (G3.alloc _) hg6 B3.out
      have B6 := Lib.hid (own_new (B := w3.heap.size) (G3.alloc _).size hb6 B3.out)
      have HO6 := Lib.hid ho6
      have HG6 := Lib.hid hg6
      clear ho6 hg6 hb6
      refine HK.out _ _ ⟨fun _ => HS.out _ G6, ?_⟩
      clear HK K
      try simp only [Act.put, List.setIfInBounds_toArray]
      refine but_one (i := 7) (by kernel_rfl) rfl (fun K HK' => ?_)
      have HK := Lib.hid HK'
      clear HK'
      go_simp
      go_at_call 29
      refine (ref_house_c (c := wo (w.heap.size + 1 + 1) (ov c w q6)) (l := h.log ++ [r]) q6 (wo_ov_sub HC.out (HGW.out.trans G6)) (HO6.out.slc (by decide) (wo_ov_in HC.out (by omega)) fun a ha => wo_ov_new (by omega) (by omega)) (by intro x hx; rcases List.mem_append.1 hx with hx | hx; exact HK0.out x hx; simp at hx; subst hx; exact HKR.out) (by have := HL.out; simp; omega)).mono ?_
      rw [HNE.out]
      rintro e q7 ⟨vx, rfl, hX, hb7⟩
      obtain ⟨al2, cl2, ar2, cr2, ad2, cd2, rfl⟩ := hX.hs_form
      have HX := Lib.hid hX
      have G7 := G6.trans hb7
      have HB7 := Lib.hid hb7
      obtain ⟨p0, p1, p2, p3, p4, p5, p6, pf⟩ := HZ.out _ G7
      have z7 : w.heap.size + 1 + 1 < q7.heap.size := by have := G7.size; omega
      clear hX hb7
      refine HK.out _ _ ⟨fun _ => HS.out _ G7, ?_⟩
      clear HK K
      try simp only [Act.put, List.setIfInBounds_toArray, List.set_cons_zero, List.set_cons_succ]
      refine but_one (i := 8) (by kernel_rfl) rfl (fun K HK' => ?_)
      have HK := Lib.hid HK'
      clear HK'
      go_simp
      refine HK.out _ _ ⟨fun h => absurd rfl h, ?_⟩
      clear HK K
      try simp only [Act.put, List.setIfInBounds_toArray, List.set_cons_zero, List.set_cons_succ]
      refine but_done (by kernel_rfl) ?_
      go_wp2
      refine bodyPost_ret (v := .agg #[.slice al2 x.log.length cl2, .int .i64 x.sums.a, .int .i64 x.sums.b, .int .i64 x.sums.c, .int .i64 x.sums.d, .slice ar2 x.ready.length cr2, .slice ad2 x.done.length cd2]) (by simp [results, Try.results119, go_sem, p0, p1, p2, p3, p4, p5, p6]) rfl ?_
      refine ⟨_, rfl, ?_, ?_⟩
      · refine HX.out.mono (ov_box (B := w.heap.size + 1 + 1) (HGW.out.trans G6) HB7.out (by have := G6.size; omega) fun a ha => ?_)
        rw [setCell_ne ha, setCell_ne ha, setCell_ne ha, setCell_ne ha, setCell_ne ha, setCell_ne ha, setCell_ne ha]
      · (repeat (with_reducible refine Grow.setCell ?_ (by first | (simp; done) | (simp; omega) | omega) _))
        exact HGW.out.trans G7
    · skip
      have HK := Lib.hid HK'
      clear HK'
      go_simp
      refine HK.out _ _ ⟨fun _ => HS.out _ ((GD.alloc _).alloc _), ?_⟩
      clear HK K
      try simp only [Act.put, List.setIfInBounds_toArray, List.set_cons_zero, List.set_cons_succ]
      refine but_one (i := 3) (by kernel_rfl) rfl (fun K HK' => ?_)
      have HK := Lib.hid HK'
      clear HK'
      refine step_appc (v := .slice (some ⟨wd.heap.size, 0, none⟩) 0 0) ei_rc rfl one_Trc (by decide) rfl (.tmp 5) (.tmp 7) rfl rfl (((OwnC.made0 Ty.rc c _ w3.heap.size _ (by have := ZD.out; (try simp); omega) (by simp))).grow ((Grow.refl _).alloc _)) rfl (HSR.out _ ((GD.alloc _).alloc _)) (by have := HL.out; simp; omega) ((GD.alloc _).alloc _).size ?_
      intro a3 c3 q3 ho3 hg3 hb3
      try simp only [List.length_nil, Nat.zero_add, List.nil_append] at ho3
      try simp only [List.length_nil, Nat.zero_add] at hb3
      try simp only [List.length_nil, Nat.zero_add]
      have G3 := grow_by (w0 := w3) ((GD.alloc _).alloc _) hg3 (own_at (by have := ZD.out; (try simp); omega))
      have B3 := Lib.hid (own_new (B := w3.heap.size) ((GD.alloc _).alloc _).size hb3 (own_at (by have := ZD.out; (try simp); omega)))
      have HO3 := Lib.hid ho3
      have HG3 := Lib.hid hg3
      clear ho3 hg3 hb3
      refine HK.out _ _ ⟨fun _ => HS.out _ G3, ?_⟩
      clear HK K
      try simp only [Act.put, List.setIfInBounds_toArray]
      refine but_one (i := 6) (by kernel_rfl) rfl (fun K HK' => ?_)
      have HK := Lib.hid HK'
      clear HK'
      refine step_appc (v := .slice a3 (h.log.length) c3) ei_rc rfl one_Trc (by decide) rfl (.tmp 8) (.tmp 10) rfl rfl (HO3.out) rfl (((Src.of_new (T := Ty.rc) (c := c) (cs := #[.int .i64 r.kind, .int .i64 r.deed, .slice ap r.parts.length cp]) HR.out _ _ (by simp))).kept HG3.out (by simp [Value.ownBlock])) (by have := HL.out; simp; omega) G3.size ?_
      intro a6 c6 q6 ho6 hg6 hb6
      try simp only [List.length_nil, List.length_cons, Nat.zero_add] at ho6
      try simp only [List.length_nil, List.length_cons, Nat.zero_add] at hb6
      try simp only [List.length_nil, List.length_cons, Nat.zero_add]
      have G6 := grow_by (w0 := w3) G3 hg6 B3.out
      have B6 := Lib.hid (own_new (B := w3.heap.size) G3.size hb6 B3.out)
      have HO6 := Lib.hid ho6
      have HG6 := Lib.hid hg6
      clear ho6 hg6 hb6
      refine HK.out _ _ ⟨fun _ => HS.out _ G6, ?_⟩
      clear HK K
      try simp only [Act.put]
      refine but_one (i := 7) (by kernel_rfl) rfl (fun K HK' => ?_)
      have HK := Lib.hid HK'
      clear HK'
      go_simp
      go_at_call 29
      refine (ref_house_c (c := wo (w.heap.size + 1 + 1) (ov c w q6)) (l := h.log ++ [r]) q6 (wo_ov_sub HC.out (HGW.out.trans G6)) (HO6.out.slc (by decide) (wo_ov_in HC.out (by omega)) fun a ha => wo_ov_new (by omega) (by omega)) (by intro x hx; rcases List.mem_append.1 hx with hx | hx; exact HK0.out x hx; simp at hx; subst hx; exact HKR.out) (by have := HL.out; simp; omega)).mono ?_
      rw [HNE.out]
      rintro e q7 ⟨vx, rfl, hX, hb7⟩
      obtain ⟨al2, cl2, ar2, cr2, ad2, cd2, rfl⟩ := hX.hs_form
      have HX := Lib.hid hX
      have G7 := G6.trans hb7
      have HB7 := Lib.hid hb7
      obtain ⟨p0, p1, p2, p3, p4, p5, p6, pf⟩ := HZ.out _ G7
      have z7 : w.heap.size + 1 + 1 < q7.heap.size := by have := G7.size; omega
      clear hX hb7
      refine HK.out _ _ ⟨fun _ => HS.out _ G7, ?_⟩
      clear HK K
      try simp only [Act.put, List.setIfInBounds_toArray, List.set_cons_zero, List.set_cons_succ]
      refine but_one (i := 8) (by kernel_rfl) rfl (fun K HK' => ?_)
      have HK := Lib.hid HK'
      clear HK'
      go_simp
      refine HK.out _ _ ⟨fun h => absurd rfl h, ?_⟩
      clear HK K
      try simp only [Act.put, List.setIfInBounds_toArray, List.set_cons_zero, List.set_cons_succ]
      refine but_done (by kernel_rfl) ?_
      go_wp2
      refine bodyPost_ret (v := .agg #[.slice al2 x.log.length cl2, .int .i64 x.sums.a, .int .i64 x.sums.b, .int .i64 x.sums.c, .int .i64 x.sums.d, .slice ar2 x.ready.length cr2, .slice ad2 x.done.length cd2]) (by simp [results, Try.results119, go_sem, p0, p1, p2, p3, p4, p5, p6]) rfl ?_
      refine ⟨_, rfl, ?_, ?_⟩
      · refine HX.out.mono (ov_box (B := w.heap.size + 1 + 1) (HGW.out.trans G6) HB7.out (by have := G6.size; omega) fun a ha => ?_)
        rw [setCell_ne ha, setCell_ne ha, setCell_ne ha, setCell_ne ha, setCell_ne ha, setCell_ne ha, setCell_ne ha]
      · (repeat (with_reducible refine Grow.setCell ?_ (by first | (simp; done) | (simp; omega) | omega) _))
        exact HGW.out.trans G7
  · skip
    have HK := Lib.hid HK'
    clear HK'
    go_simp
    refine HK.out _ _ ⟨fun _ => HS.out _ (GD.alloc _), ?_⟩
    clear HK K
    try simp only [Act.put, List.setIfInBounds_toArray, List.set_cons_zero, List.set_cons_succ]
    refine but_one (i := 0) (by kernel_rfl) rfl (fun K HK' => ?_)
    have HK := Lib.hid HK'
    clear HK'
    go_simp
    refine HK.out _ _ ⟨fun _ => HS.out _ ((GD.alloc _).alloc _), ?_⟩
    clear HK K
    try simp only [Act.put, List.setIfInBounds_toArray, List.set_cons_zero, List.set_cons_succ]
    refine but_one (i := 3) (by kernel_rfl) rfl (fun K HK' => ?_)
    have HK := Lib.hid HK'
    clear HK'
    refine step_appc (v := .slice (some ⟨wd.heap.size + 1, 0, none⟩) 0 0) ei_rc rfl one_Trc (by decide) rfl (.tmp 5) (.tmp 7) rfl rfl ((OwnC.made0 Ty.rc c _ w3.heap.size _ (by have := ZD.out; (try simp); omega) (by simp))) rfl (HSR.out _ ((GD.alloc _).alloc _)) (by have := HL.out; simp; omega) ((GD.alloc _).alloc _).size ?_
    intro a3 c3 q3 ho3 hg3 hb3
    try simp only [List.length_nil, Nat.zero_add, List.nil_append] at ho3
    try simp only [List.length_nil, Nat.zero_add] at hb3
    try simp only [List.length_nil, Nat.zero_add]
    have G3 := grow_by (w0 := w3) ((GD.alloc _).alloc _) hg3 (own_at (by have := ZD.out; (try simp); omega))
    have B3 := Lib.hid (own_new (B := w3.heap.size) ((GD.alloc _).alloc _).size hb3 (own_at (by have := ZD.out; (try simp); omega)))
    have HO3 := Lib.hid ho3
    have HG3 := Lib.hid hg3
    clear ho3 hg3 hb3
    refine HK.out _ _ ⟨fun _ => HS.out _ G3, ?_⟩
    clear HK K
    try simp only [Act.put, List.setIfInBounds_toArray]
    refine but_one (i := 6) (by kernel_rfl) rfl (fun K HK' => ?_)
    have HK := Lib.hid HK'
    clear HK'
    refine step_appc (v := .slice a3 (h.log.length) c3) ei_rc rfl one_Trc (by decide) rfl (.tmp 8) (.tmp 10) rfl rfl (HO3.out) rfl ((((Src.of_new (T := Ty.rc) (c := c) (cs := #[.int .i64 r.kind, .int .i64 r.deed, .slice ap r.parts.length cp]) HR.out _ _ (by simp))).grow ((Grow.refl _).alloc _)).kept HG3.out (by simp [Value.ownBlock])) (by have := HL.out; simp; omega) G3.size ?_
    intro a6 c6 q6 ho6 hg6 hb6
    try simp only [List.length_nil, List.length_cons, Nat.zero_add] at ho6
    try simp only [List.length_nil, List.length_cons, Nat.zero_add] at hb6
    try simp only [List.length_nil, List.length_cons, Nat.zero_add]
    have G6 := grow_by (w0 := w3) G3 hg6 B3.out
    have B6 := Lib.hid (own_new (B := w3.heap.size) G3.size hb6 B3.out)
    have HO6 := Lib.hid ho6
    have HG6 := Lib.hid hg6
    clear ho6 hg6 hb6
    refine HK.out _ _ ⟨fun _ => HS.out _ G6, ?_⟩
    clear HK K
    try simp only [Act.put]
    refine but_one (i := 7) (by kernel_rfl) rfl (fun K HK' => ?_)
    have HK := Lib.hid HK'
    clear HK'
    go_simp
    go_at_call 29
    refine (ref_house_c (c := wo (w.heap.size + 1 + 1) (ov c w q6)) (l := h.log ++ [r]) q6 (wo_ov_sub HC.out (HGW.out.trans G6)) (HO6.out.slc (by decide) (wo_ov_in HC.out (by omega)) fun a ha => wo_ov_new (by omega) (by omega)) (by intro x hx; rcases List.mem_append.1 hx with hx | hx; exact HK0.out x hx; simp at hx; subst hx; exact HKR.out) (by have := HL.out; simp; omega)).mono ?_
    rw [HNE.out]
    rintro e q7 ⟨vx, rfl, hX, hb7⟩
    obtain ⟨al2, cl2, ar2, cr2, ad2, cd2, rfl⟩ := hX.hs_form
    have HX := Lib.hid hX
    have G7 := G6.trans hb7
    have HB7 := Lib.hid hb7
    obtain ⟨p0, p1, p2, p3, p4, p5, p6, pf⟩ := HZ.out _ G7
    have z7 : w.heap.size + 1 + 1 < q7.heap.size := by have := G7.size; omega
    clear hX hb7
    refine HK.out _ _ ⟨fun _ => HS.out _ G7, ?_⟩
    clear HK K
    try simp only [Act.put, List.setIfInBounds_toArray, List.set_cons_zero, List.set_cons_succ]
    refine but_one (i := 8) (by kernel_rfl) rfl (fun K HK' => ?_)
    have HK := Lib.hid HK'
    clear HK'
    go_simp
    refine HK.out _ _ ⟨fun h => absurd rfl h, ?_⟩
    clear HK K
    try simp only [Act.put, List.setIfInBounds_toArray, List.set_cons_zero, List.set_cons_succ]
    refine but_done (by kernel_rfl) ?_
    go_wp2
    refine bodyPost_ret (v := .agg #[.slice al2 x.log.length cl2, .int .i64 x.sums.a, .int .i64 x.sums.b, .int .i64 x.sums.c, .int .i64 x.sums.d, .slice ar2 x.ready.length cr2, .slice ad2 x.done.length cd2]) (by simp [results, Try.results119, go_sem, p0, p1, p2, p3, p4, p5, p6]) rfl ?_
    refine ⟨_, rfl, ?_, ?_⟩
    · refine HX.out.mono (ov_box (B := w.heap.size + 1 + 1) (HGW.out.trans G6) HB7.out (by have := G6.size; omega) fun a ha => ?_)
      rw [setCell_ne ha, setCell_ne ha, setCell_ne ha, setCell_ne ha, setCell_ne ha, setCell_ne ha, setCell_ne ha]
    · (repeat (with_reducible refine Grow.setCell ?_ (by first | (simp; done) | (simp; omega) | omega) _))
      exact HGW.out.trans G7
end Go.Proofs.Ytgbhpghgohggcaa

/- Walks: SameInts, SameReady, SameLog of the document's answer. -/
namespace Go.Proofs.Ytgbhpghgohggcaa
open Go.RowKit
theorem same_all {α : Type} {l l' : List α} {k : Nat} (hl : l.length = l'.length) (hk : l.length ≤ k) (h : ∀ j, j < k → l[j]? = l'[j]?) : l = l' := by
  apply List.ext_getElem?
  intro j
  by_cases hj : j < k
  · exact h j hj
  · rw [List.getElem?_eq_none (by omega), List.getElem?_eq_none (by omega)]
theorem same_next {α : Type} {l l' : List α} {k : Nat} (h1 : k < l.length) (h2 : k < l'.length) (h : ∀ j, j < k → l[j]? = l'[j]?) (he : l[k] = l'[k]) : ∀ j, j < k + 1 → l[j]? = l'[j]? := by
  intro j hj
  by_cases e : j = k
  · subst e; rw [List.getElem?_eq_getElem h1, List.getElem?_eq_getElem h2, he]
  · exact h j (by omega)
theorem same_not {α : Type} [DecidableEq α] {l l' : List α} {k : Nat} (h1 : k < l.length) (h2 : k < l'.length) (he : ¬ l[k] = l'[k]) : decide (l = l') = false := by
  rw [decide_eq_false_iff_not]
  rintro rfl
  exact he rfl
set_option maxHeartbeats 400000 in
theorem ref_sameInts {v v' : Value} {l l' : List Int} (w : World) (hv : Ints w.cell? v l) (hv' : Ints w.cell? v' l') :
    Calls Try.prog 48 #[v, v'] w fun e w' => e = .returned (.bool (decide (l = l'))) ∧ Grow w w' := by
  obtain ⟨a, cap, rfl, h1, h2, -, hel⟩ := hv
  obtain ⟨a', cap', rfl, h1', h2', -, hel'⟩ := hv'
  unfold maxLen at h2 h2'
  by_cases hlen : l.length = l'.length
  · have hb : ((l.length : Int) != l'.length) = false := by simp [hlen]
    have HL := Lib.hid hlen
    clear hlen
    go_enter Try.func48, Try.ntmps48
    go_wp2
    go_loopw [4, 5, 13] (fun _ _ i wr => ∃ k : Nat, k ≤ l.length ∧ i = .int .i64 k ∧ Grow w wr ∧ ∀ j, j < k → l[j]? = l'[j]?) (fun _ _ i _ => l.length - (intOf i).toNat)
    case atStart => exact ⟨0, by omega, rfl, (by repeat (first | with_reducible assumption | with_reducible exact Grow.refl _ | with_reducible apply Grow.drewN | with_reducible apply Grow.drew | with_reducible apply Grow.alloc | (refine Grow.setCell ?_ (by simp; done) _))), fun j h => by omega⟩
    case round =>
      obtain ⟨k, hk', rfl, hb, hE⟩ := hrel
      by_cases hlt : k < l.length
      · have hlt' : k < l'.length := by have := HL.out; omega
        have H1 := Lib.hid (same_next hlt hlt' hE)
        have H2 : Hid (¬ l[k] = l'[k] → decide (l = l') = false) := fun h => same_not hlt hlt' h
        clear hE
        obtain ⟨b, o, rfl, c0, -⟩ := intAt hel k hlt
        obtain ⟨b', o', rfl, c0', -⟩ := intAt hel' k hlt'
        replace c0 := hb.sub _ _ c0
        replace c0' := hb.sub _ _ c0'
        clear hel hel'
        generalize l[k] = p at *
        generalize l'[k] = p' at *
        by_cases hpp : p = p'
        · have H3 := Lib.hid (H1.out hpp)
          have hne : (p != p') = false := by simp [hpp]
          clear hpp H1 H2
          go_wp2_with (go_quiet (fail))
          go_roundw
          case rel => exact ⟨k + 1, by omega, by go_num, (by repeat (first | with_reducible assumption | with_reducible exact Grow.refl _ | with_reducible apply Grow.drewN | with_reducible apply Grow.drew | with_reducible apply Grow.alloc | (refine Grow.setCell ?_ (by simp; done) _))), H3.out⟩
          case measure => simp [intOf]; omega
        · have H3 := Lib.hid (H2.out hpp)
          have hne : (p != p') = true := by simp [hpp]
          clear hpp H1 H2
          go_wp2_with (go_quiet (fail))
          go_ret
          exact ⟨ret_bool H3.out.symm, (by repeat (first | with_reducible assumption | with_reducible exact Grow.refl _ | with_reducible apply Grow.drewN | with_reducible apply Grow.drew | with_reducible apply Grow.alloc | (refine Grow.setCell ?_ (by simp; done) _)))⟩
      · have HE := Lib.hid hE
        clear hel hel' hE
        go_wp2
        go_ret
        refine ⟨ret_bool ?_, hb⟩
        rw [eq_comm, decide_eq_true_eq]
        exact same_all HL.out (by omega) HE.out
  · have hb : ((l.length : Int) != l'.length) = true := by simp; omega
    have HE : Hid (decide (l = l') = false) := by show _ = _; rw [decide_eq_false_iff_not]; rintro rfl; exact hlen rfl
    clear hlen hel hel'
    go_enter Try.func48, Try.ntmps48
    go_wp2
    go_ret
    exact ⟨ret_bool HE.out.symm, (by repeat (first | with_reducible assumption | with_reducible exact Grow.refl _ | with_reducible apply Grow.drewN | with_reducible apply Grow.drew | with_reducible apply Grow.alloc | (refine Grow.setCell ?_ (by simp; done) _)))⟩
set_option maxRecDepth 100000 in
set_option maxHeartbeats 1000000 in
theorem ref_sameReady {v v' : Value} {l l' : List Rd} (w : World) (hv : Sl Ty.rd w.cell? v l) (hv' : Sl Ty.rd w.cell? v' l') :
    Calls Try.prog 44 #[v, v'] w fun e w' => e = .returned (.bool (decide (l = l'))) ∧ Grow w w' := by
  obtain ⟨a, cap, rfl, h1, h2, -, hel⟩ := hv
  obtain ⟨a', cap', rfl, h1', h2', -, hel'⟩ := hv'
  unfold maxLen at h2 h2'
  by_cases hlen : l.length = l'.length
  · have hb : ((l.length : Int) != l'.length) = false := by simp [hlen]
    have HL := Lib.hid hlen
    clear hlen
    go_enter Try.func44, Try.ntmps44
    go_wp2
    go_loopw [4, 5, 13] (fun _ _ i wr => ∃ k : Nat, k ≤ l.length ∧ i = .int .i64 k ∧ Grow w wr ∧ ∀ j, j < k → l[j]? = l'[j]?) (fun _ _ i _ => l.length - (intOf i).toNat)
    case atStart => exact ⟨0, by omega, rfl, (by repeat (first | with_reducible assumption | with_reducible exact Grow.refl _ | with_reducible apply Grow.drewN | with_reducible apply Grow.drew | with_reducible apply Grow.alloc | (refine Grow.setCell ?_ (by simp; done) _))), fun j h => by omega⟩
    case round =>
      obtain ⟨k, hk', rfl, hb, hE⟩ := hrel
      by_cases hlt : k < l.length
      · have hlt' : k < l'.length := by have := HL.out; omega
        have H1 := Lib.hid (same_next hlt hlt' hE)
        have H2 : Hid (¬ l[k] = l'[k] → decide (l = l') = false) := fun h => same_not hlt hlt' h
        clear hE
        obtain ⟨b, o, vp, rfl, c0, c1, -, hp⟩ := Rds.at_ hel k hlt
        obtain ⟨b', o', vp', rfl, c0', c1', -, hp'⟩ := Rds.at_ hel' k hlt'
        obtain ⟨ap, cp, rfl, -⟩ := id hp
        obtain ⟨ap', cp', rfl, -⟩ := id hp'
        have HSP := Lib.hid (fun (W : World) (hW : Grow wr W) => ref_sameParts W (hp.mono (hb.trans hW).sub) (hp'.mono (hb.trans hW).sub))
        replace c0 := hb.sub _ _ c0
        replace c0' := hb.sub _ _ c0'
        replace c1 := hb.sub _ _ c1
        replace c1' := hb.sub _ _ c1'
        clear hel hel' hp hp'
        generalize l[k] = p at *
        generalize l'[k] = p' at *
        have HS : Hid (∀ W, Grow wr W → W.cell? ⟨b, o + k * 2, none⟩ = some (.int .i64 p.deed) ∧ W.cell? ⟨b, o + k * 2 + 1, none⟩ = some (.slice ap p.parts.length cp) ∧ W.cell? ⟨b', o' + k * 2, none⟩ = some (.int .i64 p'.deed) ∧ W.cell? ⟨b', o' + k * 2 + 1, none⟩ = some (.slice ap' p'.parts.length cp')) := fun W hW => ⟨hW.sub _ _ c0, hW.sub _ _ c1, hW.sub _ _ c0', hW.sub _ _ c1'⟩
        by_cases hd : p.deed = p'.deed
        · have hne : (p.deed != p'.deed) = false := by simp [hd]
          by_cases hpp : p.parts = p'.parts
          · have hpe : p = p' := by cases p; cases p'; simp_all
            have H3 := Lib.hid (H1.out hpe)
            have hdec := decide_eq_true hpp
            rw [hdec] at HSP
            clear hd hpp hpe H1 H2 hdec
            go_wp2
            go_region_held3 (fun w' => w'.cell? ⟨b, o + k * 2, none⟩ = some (.int .i64 p.deed) ∧ w'.cell? ⟨b, o + k * 2 + 1, none⟩ = some (.slice ap p.parts.length cp) ∧ w'.cell? ⟨b', o' + k * 2, none⟩ = some (.int .i64 p'.deed) ∧ w'.cell? ⟨b', o' + k * 2 + 1, none⟩ = some (.slice ap' p'.parts.length cp')) (first | assumption | exact HS.out _ (by repeat (first | with_reducible assumption | with_reducible exact Grow.refl _ | with_reducible apply Grow.drewN | with_reducible apply Grow.drew | with_reducible apply Grow.alloc | (refine Grow.trans ?_ (by with_reducible assumption))))) (first | (go_at_call 84; refine (HSP.out _ (by repeat (first | with_reducible assumption | with_reducible exact Grow.refl _ | with_reducible apply Grow.drewN | with_reducible apply Grow.drew | with_reducible apply Grow.alloc | (refine Grow.trans ?_ (by with_reducible assumption))))).mono ?_; rintro e w4 ⟨rfl, hb4⟩))
            go_wp2
            go_roundw
            case rel => exact ⟨k + 1, by omega, by go_num, hb.trans (by repeat (first | with_reducible assumption | with_reducible exact Grow.refl _ | with_reducible apply Grow.drewN | with_reducible apply Grow.drew | with_reducible apply Grow.alloc | (refine Grow.trans ?_ (by with_reducible assumption)))), H3.out⟩
            case measure => simp [intOf]; omega
          · have H3 := Lib.hid (H2.out (fun e => hpp (by rw [e])))
            have hdec := decide_eq_false hpp
            rw [hdec] at HSP
            clear hd hpp H1 H2 hdec
            go_wp2
            go_region_held3 (fun w' => w'.cell? ⟨b, o + k * 2, none⟩ = some (.int .i64 p.deed) ∧ w'.cell? ⟨b, o + k * 2 + 1, none⟩ = some (.slice ap p.parts.length cp) ∧ w'.cell? ⟨b', o' + k * 2, none⟩ = some (.int .i64 p'.deed) ∧ w'.cell? ⟨b', o' + k * 2 + 1, none⟩ = some (.slice ap' p'.parts.length cp')) (first | assumption | exact HS.out _ (by repeat (first | with_reducible assumption | with_reducible exact Grow.refl _ | with_reducible apply Grow.drewN | with_reducible apply Grow.drew | with_reducible apply Grow.alloc | (refine Grow.trans ?_ (by with_reducible assumption))))) (first | (go_at_call 84; refine (HSP.out _ (by repeat (first | with_reducible assumption | with_reducible exact Grow.refl _ | with_reducible apply Grow.drewN | with_reducible apply Grow.drew | with_reducible apply Grow.alloc | (refine Grow.trans ?_ (by with_reducible assumption))))).mono ?_; rintro e w4 ⟨rfl, hb4⟩))
            go_wp2
            go_ret
            exact ⟨ret_bool H3.out.symm, hb.trans (by repeat (first | with_reducible assumption | with_reducible exact Grow.refl _ | with_reducible apply Grow.drewN | with_reducible apply Grow.drew | with_reducible apply Grow.alloc | (refine Grow.trans ?_ (by with_reducible assumption))))⟩
        · have H3 := Lib.hid (H2.out (fun e => hd (by rw [e])))
          have hne : (p.deed != p'.deed) = true := by simp [hd]
          clear hd H1 H2
          go_wp2_with (go_quiet (fail))
          go_ret
          exact ⟨ret_bool H3.out.symm, (by repeat (first | with_reducible assumption | with_reducible exact Grow.refl _ | with_reducible apply Grow.drewN | with_reducible apply Grow.drew | with_reducible apply Grow.alloc | (refine Grow.setCell ?_ (by simp; done) _)))⟩
      · have HE := Lib.hid hE
        clear hel hel' hE
        go_wp2
        go_ret
        refine ⟨ret_bool ?_, hb⟩
        rw [eq_comm, decide_eq_true_eq]
        exact same_all HL.out (by omega) HE.out
  · have hb : ((l.length : Int) != l'.length) = true := by simp; omega
    have HE : Hid (decide (l = l') = false) := by show _ = _; rw [decide_eq_false_iff_not]; rintro rfl; exact hlen rfl
    clear hlen hel hel'
    go_enter Try.func44, Try.ntmps44
    go_wp2
    go_ret
    exact ⟨ret_bool HE.out.symm, (by repeat (first | with_reducible assumption | with_reducible exact Grow.refl _ | with_reducible apply Grow.drewN | with_reducible apply Grow.drew | with_reducible apply Grow.alloc | (refine Grow.setCell ?_ (by simp; done) _)))⟩
end Go.Proofs.Ytgbhpghgohggcaa

/- Walks: Wrong of the document's answer to chapter 2. -/
namespace Go.Proofs.Ytgbhpghgohggcaa
open Go.RowKit
theorem Of.ms_form {c : CM} {v : Value} {m : Ms} (hv : Of Ty.ms c v m) : ∃ ap cp, v = .agg #[.int .i64 m.kind, .int .i64 m.deed, .int .i64 m.house, .slice ap m.parts.length cp] := by
  obtain ⟨cs, rfl, vp, rfl, -, -, -, hp⟩ := hv
  obtain ⟨ap, cp, rfl, -⟩ := id hp
  exact ⟨_, _, rfl⟩
theorem Of.ms_parts {c : CM} {a b d : Value} {ap : Option Addr} {n cp : Nat} {m : Ms} (hv : Of Ty.ms c (.agg #[a, b, d, .slice ap n cp]) m) : Sl Ty.pt c (.slice ap n cp) m.parts ∧ I64 m.kind ∧ I64 m.deed ∧ I64 m.house := by
  obtain ⟨cs, he, vp, rfl, h1, h2, h3, hp⟩ := hv
  simp at he
  obtain ⟨-, -, -, rfl⟩ := he
  exact ⟨hp, h1, h2, h3⟩
theorem wrong_house {ps : List Pt} {h : Int} {k : Nat} (hlt : k < ps.length) (hE : ∀ p ∈ ps.take k, (p.h == h) = true) :
    ((ps[k].h == h) = true → ∀ p ∈ ps.take (k + 1), (p.h == h) = true) ∧ ((ps[k].h == h) = false → ps.all (fun p => p.h == h) = false) := by
  constructor
  · intro e p hp
    rw [List.take_succ_eq_append_getElem hlt] at hp
    rcases List.mem_append.1 hp with h' | h'
    · exact hE p h'
    · simp at h'; subst h'; exact e
  · intro e
    rw [List.all_eq_false]
    exact ⟨_, List.getElem_mem hlt, by simp [e]⟩
set_option maxRecDepth 100000 in
set_option maxHeartbeats 1000000 in
theorem ref_wrong {v : Value} {m : Ms} (w : World) (hv : Of Ty.ms w.cell? v m) :
    Calls Try.prog 34 #[v] w fun e w' => e = .returned (.int .i64 (wrongM m)) ∧ Grow w w' := by
  obtain ⟨ap, cp, rfl⟩ := hv.ms_form
  obtain ⟨hp, -⟩ := hv.ms_parts
  have HW := Lib.hid (fun (W : World) (hW : Grow w W) => ref_wrongParts (h := 3) W (hp.mono hW.sub))
  have HPL := Lib.hid hp
  clear hv hp
  by_cases h1 : m.kind < 1
  · have HE : Hid (wrongM m = 1) := by show wrongM m = 1; unfold wrongM; rw [if_pos (.inl h1)]
    go_enter Try.func34, Try.ntmps34
    go_wp2
    go_ret
    exact ⟨ret_int HE.out.symm, (by repeat (first | with_reducible assumption | with_reducible exact Grow.refl _ | with_reducible apply Grow.drewN | with_reducible apply Grow.drew | with_reducible apply Grow.alloc | (refine Grow.setCell ?_ (by simp; done) _)))⟩
  by_cases h2 : 7 < m.kind
  · have HE : Hid (wrongM m = 1) := by show wrongM m = 1; unfold wrongM; rw [if_pos (.inr h2)]
    go_enter Try.func34, Try.ntmps34
    go_wp2
    go_ret
    exact ⟨ret_int HE.out.symm, (by repeat (first | with_reducible assumption | with_reducible exact Grow.refl _ | with_reducible apply Grow.drewN | with_reducible apply Grow.drew | with_reducible apply Grow.alloc | (refine Grow.setCell ?_ (by simp; done) _)))⟩
  by_cases h3 : m.deed < 0
  · have HE : Hid (wrongM m = 3) := by show wrongM m = 3; unfold wrongM; rw [if_neg (by omega), if_pos (.inl h3)]
    go_enter Try.func34, Try.ntmps34
    go_wp2
    go_ret
    exact ⟨ret_int HE.out.symm, (by repeat (first | with_reducible assumption | with_reducible exact Grow.refl _ | with_reducible apply Grow.drewN | with_reducible apply Grow.drew | with_reducible apply Grow.alloc | (refine Grow.setCell ?_ (by simp; done) _)))⟩
  by_cases h4 : 1343 < m.deed
  · have HE : Hid (wrongM m = 3) := by show wrongM m = 3; unfold wrongM; rw [if_neg (by omega), if_pos (by omega)]
    go_enter Try.func34, Try.ntmps34
    go_wp2
    go_ret
    exact ⟨ret_int HE.out.symm, (by repeat (first | with_reducible assumption | with_reducible exact Grow.refl _ | with_reducible apply Grow.drewN | with_reducible apply Grow.drew | with_reducible apply Grow.alloc | (refine Grow.setCell ?_ (by simp; done) _)))⟩
  by_cases h5 : m.house < 0
  · have HE : Hid (wrongM m = 3) := by show wrongM m = 3; unfold wrongM; rw [if_neg (by omega), if_pos (by omega)]
    go_enter Try.func34, Try.ntmps34
    go_wp2
    go_ret
    exact ⟨ret_int HE.out.symm, (by repeat (first | with_reducible assumption | with_reducible exact Grow.refl _ | with_reducible apply Grow.drewN | with_reducible apply Grow.drew | with_reducible apply Grow.alloc | (refine Grow.setCell ?_ (by simp; done) _)))⟩
  by_cases h6 : 2 < m.house
  · have HE : Hid (wrongM m = 3) := by show wrongM m = 3; unfold wrongM; rw [if_neg (by omega), if_pos (by omega)]
    go_enter Try.func34, Try.ntmps34
    go_wp2
    go_ret
    exact ⟨ret_int HE.out.symm, (by repeat (first | with_reducible assumption | with_reducible exact Grow.refl _ | with_reducible apply Grow.drewN | with_reducible apply Grow.drew | with_reducible apply Grow.alloc | (refine Grow.setCell ?_ (by simp; done) _)))⟩
  by_cases h7 : 1 < m.kind
  · by_cases h8 : m.parts = []
    · have HE : Hid (wrongM m = 0) := by show wrongM m = 0; unfold wrongM; rw [if_neg (by omega), if_neg (by omega), if_pos h7, if_pos h8]
      have hl : m.parts.length = 0 := by rw [h8]; rfl
      clear h8
      generalize m.parts.length = n at *
      subst hl
      go_enter Try.func34, Try.ntmps34
      go_wp2
      go_ret
      exact ⟨ret_int HE.out.symm, (by repeat (first | with_reducible assumption | with_reducible exact Grow.refl _ | with_reducible apply Grow.drewN | with_reducible apply Grow.drew | with_reducible apply Grow.alloc | (refine Grow.setCell ?_ (by simp; done) _)))⟩
    · have HE : Hid (wrongM m = 5) := by show wrongM m = 5; unfold wrongM; rw [if_neg (by omega), if_neg (by omega), if_pos h7, if_neg h8]
      have hl : 0 < m.parts.length := List.length_pos_iff.2 h8
      have hb : ((m.parts.length : Int) != 0) = true := by rw [bne_iff_ne]; omega
      clear h8
      go_enter Try.func34, Try.ntmps34
      go_wp2
      go_ret
      exact ⟨ret_int HE.out.symm, (by repeat (first | with_reducible assumption | with_reducible exact Grow.refl _ | with_reducible apply Grow.drewN | with_reducible apply Grow.drew | with_reducible apply Grow.alloc | (refine Grow.setCell ?_ (by simp; done) _)))⟩
  have HB : Hid (wrongM m = if wrongE m.parts 3 = 0 then (if m.parts.all (fun p => p.h == m.house) = true then 0 else 3) else wrongE m.parts 3) := by
    show wrongM m = _
    unfold wrongM
    rw [if_neg (by omega), if_neg (by omega), if_neg h7]
  by_cases h8 : wrongE m.parts 3 = 0
  · have hb : (wrongE m.parts 3 != 0) = false := by simp [h8]
    have HE : Hid (wrongM m = (if m.parts.all (fun p => p.h == m.house) = true then 0 else 3)) := by show wrongM m = _; rw [HB.out, if_pos h8]
    clear h8
    generalize wrongE m.parts 3 = we at *
    have hp := HPL.out
    obtain ⟨ap', cp', he, hp1, hp2, -, hel⟩ := hp
    obtain ⟨rfl, rfl⟩ : ap = ap' ∧ cp = cp' := by simpa using he
    unfold maxLen at hp2
    clear he
    go_enter Try.func34, Try.ntmps34
    go_wp2_with fail
    refine (HW.out _ ((Grow.refl _).alloc _)).mono ?_
    rintro e w1 ⟨rfl, hbw1⟩
    (obtain ⟨cw1, fw1⟩ := bcell hbw1; have zw10 : w.heap.size < w1.heap.size := (by have := hbw1.size; (try simp at this); omega); have Gw1 := Lib.hid hbw1; clear hbw1)
    go_wp2
    go_loopw [5, 48] (fun _ i wr => ∃ k : Nat, k ≤ m.parts.length ∧ i = .int .i64 k ∧ Grow w1 wr ∧ ∀ p ∈ m.parts.take k, (p.h == m.house) = true) (fun _ i _ => m.parts.length - (intOf i).toNat)
    case atStart => exact ⟨0, by omega, rfl, Grow.refl _, by simp⟩
    case round =>
      obtain ⟨k, hk', rfl, hb, hE⟩ := hrel
      have hbw := ((Grow.refl w).alloc (.cells #[.int .i64 m.kind, .int .i64 m.deed, .int .i64 m.house, .slice ap m.parts.length cp] 39)).trans (Gw1.out.trans hb)
      have x2 := hb.sub ⟨w.heap.size, 2, none⟩ (.int .i64 m.house) (by rw [cw1 _ _ (by simp), World.cell?_alloc_new]; rfl)
      have xz : w.heap.size < wr.heap.size := by have := hbw.size; have := hb.size; omega
      by_cases hlt : k < m.parts.length
      · obtain ⟨b, o, rfl, c0, c1, c2, -, -, -⟩ := Pts.at_ hel k hlt
        replace c0 := hbw.sub _ _ c0
        replace c1 := hbw.sub _ _ c1
        replace c2 := hbw.sub _ _ c2
        obtain ⟨s1, s2⟩ := wrong_house hlt hE
        have S1 := Lib.hid s1
        have S2 := Lib.hid s2
        clear hel hE s1 s2
        generalize m.parts[k] = p at *
        cases ht : (p.h == m.house)
        · have hne : (p.h != m.house) = true := by simp [bne, ht]
          have S3 := Lib.hid (S2.out ht)
          clear S1 S2
          go_wp2
          go_ret
          refine ⟨ret_int ?_, hbw.trans (by repeat (first | with_reducible assumption | with_reducible exact Grow.refl _ | with_reducible apply Grow.drewN | with_reducible apply Grow.drew | with_reducible apply Grow.alloc | (refine Grow.trans ?_ (by with_reducible assumption))))⟩
          rw [HE.out, S3.out]; rfl
        · have hne : (p.h != m.house) = false := by simp [bne, ht]
          have S3 := Lib.hid (S1.out ht)
          clear S1 S2
          go_wp2
          go_roundw
          case rel => exact ⟨k + 1, by omega, by go_num, (by repeat (first | with_reducible assumption | with_reducible exact Grow.refl _ | with_reducible apply Grow.drewN | with_reducible apply Grow.drew | with_reducible apply Grow.alloc | (refine Grow.setCell ?_ (by simp; done) _))), S3.out⟩
          case measure => simp [intOf]; omega
      · have HF := Lib.hid hE
        clear hel hE
        go_wp2
        go_ret
        refine ⟨ret_int ?_, hbw⟩
        have h9 := HF.out
        rw [List.take_of_length_le (by omega)] at h9
        rw [HE.out, if_pos (List.all_eq_true.2 h9)]
  · have hb : (wrongE m.parts 3 != 0) = true := by simp [h8]
    have HE : Hid (wrongM m = wrongE m.parts 3) := by show wrongM m = _; rw [HB.out, if_neg h8]
    clear h8
    generalize wrongE m.parts 3 = we at *
    go_enter Try.func34, Try.ntmps34
    go_wp2_with fail
    refine (HW.out _ ((Grow.refl _).alloc _)).mono ?_
    rintro e w1 ⟨rfl, hbw1⟩
    (obtain ⟨cw1, fw1⟩ := bcell hbw1; have zw10 : w.heap.size < w1.heap.size := (by have := hbw1.size; (try simp at this); omega); have Gw1 := Lib.hid hbw1; clear hbw1)
    go_wp2
    go_ret
    exact ⟨ret_int HE.out.symm, ((Grow.refl w).alloc _).trans Gw1.out⟩
end Go.Proofs.Ytgbhpghgohggcaa

/- Walks: Vote of the document's answer. -/
namespace Go.Proofs.Ytgbhpghgohggcaa
open Go.RowKit
theorem vote_locked {l : List Rd} {ps : List Pt} {p : Pt} (hp : p ∈ ps) (h : 0 ≤ whoE l p.k) : freeE l ps = false := by
  unfold freeE
  rw [Bool.not_eq_false', List.any_eq_true]
  exact ⟨p, hp, by simpa using h⟩
theorem vote_open {l : List Rd} {ps : List Pt} (h : ∀ p ∈ ps, whoE l p.k < 0) : freeE l ps = true := by
  unfold freeE
  rw [Bool.not_eq_true', List.any_eq_false]
  intro p hp
  have := h p hp
  simp; omega
set_option maxRecDepth 100000 in
set_option maxHeartbeats 1000000 in
theorem ref_vote {v vp : Value} {h : Hs} {d : Int} {ps : List Pt} (w : World) (hv : Of Ty.hs w.cell? v h) (hp : Pts w.cell? vp ps) (hk : KeysOk ps) :
    Calls Try.prog 52 #[v, .int .i64 d, vp] w fun e w' => e = .returned (.int .i64 (voteE h d ps)) ∧ Grow w w' := by
  have HO := Lib.hid hv
  obtain ⟨al, cl, ar, cr, ad, cd, rfl⟩ := hv.hs_form
  have HIN := Lib.hid (fun (W : World) (hW : Grow w W) => ref_in (n := d) W ((Of.hs_log HO.out).2.2.mono hW.sub))
  have HRD := Lib.hid (fun (W : World) (hW : Grow w W) => ref_ready (d := d) W (HO.out.mono hW.sub))
  have HWH := Lib.hid (fun (W : World) (key : Int) (hW : Grow w W) => ref_who (key := key) W (HO.out.mono hW.sub))
  have HFT := Lib.hid (fun (W : World) (hW : Grow w W) => ref_fits (s0 := h.sums.a) (s1 := h.sums.b) (s2 := h.sums.c) (s3 := h.sums.d) W (hp.mono hW.sub) hk)
  have HP := Lib.hid hp
  obtain ⟨ap, cp, rfl, hp1, hp2, -, hel⟩ := hp
  unfold maxLen at hp2
  clear hv hk
  by_cases hd : d ∈ h.done
  · have HE : Hid (voteE h d ps = 10) := by show voteE h d ps = 10; unfold voteE; rw [if_pos hd]
    have HD := Lib.hid (decide_eq_true hd)
    clear hd
    go_enter Try.func52, Try.ntmps52
    go_wp2_with fail
    refine (HIN.out _ ((Grow.refl _).alloc _)).mono ?_
    rw [HD.out]
    rintro e w1 ⟨rfl, hbw1⟩
    (obtain ⟨cw1, fw1⟩ := bcell hbw1; have zw10 : w.heap.size < w1.heap.size := (by have := hbw1.size; (try simp at this); omega); have Gw1 := Lib.hid hbw1; clear hbw1)
    go_wp2
    go_ret
    exact ⟨ret_int HE.out.symm, ((Grow.refl w).alloc _).trans Gw1.out⟩
  have HD := Lib.hid (decide_eq_false hd)
  by_cases hr : readyE h.ready d = true
  · have HE : Hid (voteE h d ps = 0) := by show voteE h d ps = 0; unfold voteE; rw [if_neg hd, if_pos hr]
    have HR := Lib.hid hr
    clear hd hr
    go_enter Try.func52, Try.ntmps52
    go_wp2_with fail
    refine (HIN.out _ ((Grow.refl _).alloc _)).mono ?_
    rw [HD.out]
    rintro e w1 ⟨rfl, hbw1⟩
    (obtain ⟨cw1, fw1⟩ := bcell hbw1; have zw10 : w.heap.size < w1.heap.size := (by have := hbw1.size; (try simp at this); omega); have Gw1 := Lib.hid hbw1; clear hbw1)
    go_wp2_with fail
    refine (HRD.out _ (((Grow.refl w).alloc _).trans Gw1.out)).mono ?_
    rw [HR.out]
    rintro e w2 ⟨rfl, hbw2⟩
    (obtain ⟨cw2, fw2⟩ := bcell hbw2; have zw20 : w.heap.size < w2.heap.size := (by have := hbw2.size; (try simp at this); omega); have Gw2 := Lib.hid hbw2; clear hbw2)
    go_wp2
    go_ret
    exact ⟨ret_int HE.out.symm, (((Grow.refl w).alloc _).trans Gw1.out).trans Gw2.out⟩
  have HE : Hid (voteE h d ps = if freeE h.ready ps = false then 12 else fitsE h.sums.get ps) := by show voteE h d ps = _; unfold voteE; rw [if_neg hd, if_neg hr]
  have HR : Hid (readyE h.ready d = false) := by show readyE h.ready d = false; simpa using hr
  clear hd hr
  go_enter Try.func52, Try.ntmps52
  go_wp2_with fail
  refine (HIN.out _ ((Grow.refl _).alloc _)).mono ?_
  rw [HD.out]
  rintro e w1 ⟨rfl, hbw1⟩
  (obtain ⟨cw1, fw1⟩ := bcell hbw1; have zw10 : w.heap.size < w1.heap.size := (by have := hbw1.size; (try simp at this); omega); have Gw1 := Lib.hid hbw1; clear hbw1)
  go_wp2_with fail
  refine (HRD.out _ (((Grow.refl w).alloc _).trans Gw1.out)).mono ?_
  rw [HR.out]
  rintro e w2 ⟨rfl, hbw2⟩
  have HG := Lib.hid (Gw1.out.trans hbw2)
  clear hbw2 cw1 fw1 zw10
  go_wp2
  go_loopw [8, 18] (fun _ i wr => ∃ k : Nat, k ≤ ps.length ∧ i = .int .i64 k ∧ Grow w2 wr ∧ ∀ p ∈ ps.take k, whoE h.ready p.k < 0) (fun _ i _ => ps.length - (intOf i).toNat)
  case atStart => exact ⟨0, by omega, rfl, Grow.refl _, by simp⟩
  case round =>
    obtain ⟨k, hk', rfl, hb, hE⟩ := hrel
    have hg := HG.out.trans hb
    have hbw := ((Grow.refl w).alloc (.cells #[.slice al h.log.length cl, .int .i64 h.sums.a, .int .i64 h.sums.b, .int .i64 h.sums.c, .int .i64 h.sums.d, .slice ar h.ready.length cr, .slice ad h.done.length cd] 29)).trans hg
    obtain ⟨cr1, fr1⟩ := bcell hg
    have xz : w.heap.size < wr.heap.size := by have := hg.size; simp at this; omega
    by_cases hlt : k < ps.length
    · obtain ⟨b, o, rfl, c0, c1, c2, -, -, -⟩ := Pts.at_ hel k hlt
      replace c0 := hbw.sub _ _ c0
      replace c1 := hbw.sub _ _ c1
      replace c2 := hbw.sub _ _ c2
      have H1 : Hid (0 ≤ whoE h.ready ps[k].k → freeE h.ready ps = false) := fun h2 => vote_locked (List.getElem_mem hlt) h2
      have H2 : Hid (whoE h.ready ps[k].k < 0 → ∀ p ∈ ps.take (k + 1), whoE h.ready p.k < 0) := fun h2 p hp => by
        rw [List.take_succ_eq_append_getElem hlt] at hp
        rcases List.mem_append.1 hp with h' | h'
        · exact hE p h'
        · simp at h'; subst h'; exact h2
      have HBW := Lib.hid hbw
      have HG2 := Lib.hid hg
      have HB := Lib.hid hb
      clear hel hE hbw hg hb
      generalize ps[k] = p at *
      go_wp2_with fail
      refine (HWH.out _ p.k (HBW.out.alloc _)).mono ?_
      rintro e w3 ⟨rfl, hb3⟩
      have HB3 := Lib.hid (((Grow.refl wr).alloc _).trans hb3)
      clear hb3
      by_cases hw : 0 ≤ whoE h.ready p.k
      · have H3 := Lib.hid (H1.out hw)
        clear H1 H2
        generalize whoE h.ready p.k = wk at *
        go_wp2
        go_ret
        refine ⟨ret_int ?_, HBW.out.trans HB3.out⟩
        rw [HE.out, if_pos H3.out]
      · have H3 := Lib.hid (H2.out (by omega))
        clear H1 H2
        generalize whoE h.ready p.k = wk at *
        go_wp2
        go_roundw
        case rel => exact ⟨k + 1, by omega, by go_num, HB.out.trans HB3.out, H3.out⟩
        case measure => simp [intOf]; omega
    · have HF := Lib.hid hE
      have HBW := Lib.hid hbw
      clear hel hE hbw hb hg
      go_wp2_with fail
      refine (HFT.out _ HBW.out).mono ?_
      rintro e w3 ⟨rfl, hb3⟩
      have HB3 := Lib.hid hb3
      clear hb3
      go_wp2
      go_ret
      refine ⟨ret_int ?_, HBW.out.trans HB3.out⟩
      have h9 := HF.out
      rw [List.take_of_length_le (by omega)] at h9
      rw [HE.out, if_neg (by rw [vote_open h9]; simp)]
      rfl
end Go.Proofs.Ytgbhpghgohggcaa

/- Results that lie behind the boxes of a call; a map of the call's own that is filled at once. -/
namespace Go.Proofs.Ytgbhpghgohggcaa
open Go.RowKit
/-- memory without k blocks from B on: a call's own boxes -/
def wk (B k : Nat) (c : CM) : CM := fun a => if B ≤ a.block ∧ a.block < B + k then none else c a
theorem wk_sub (B k : Nat) (c : CM) : Sub (wk B k c) c := fun a v e => by
  unfold wk at e
  split at e
  · cases e
  · exact e
theorem wk_in {c : CM} {w W : World} (hc : Sub c w.cell?) (k : Nat) : Sub c (wk w.heap.size k (ov c w W)) := fun a v e => by
  have hl := World.block_lt_of_cell? w a (hc a v e)
  unfold wk
  rw [if_neg (by omega)]
  exact ov_in hc a v e
theorem wk_ov {c : CM} {w W : World} (hc : Sub c w.cell?) (hg : Grow w W) (k : Nat) : Sub (wk w.heap.size k (ov c w W)) W.cell? := (wk_sub _ _ _).trans (ov_sub hc hg)
theorem wk_new {c : CM} {w W : World} {k : Nat} {a : Addr} (h : w.heap.size + k ≤ a.block) : wk w.heap.size k (ov c w W) a = W.cell? a := by
  unfold wk
  rw [if_neg (by omega), ov_new (by omega)]
/-- what a callee gives reads behind the call, whatever is written into the boxes -/
theorem ov_boxes {c : CM} {w W w1 w' : World} {k : Nat} (hW : Grow w W) (h1 : Grow W w1) (hk : w.heap.size + k ≤ W.heap.size) (hs : ∀ a v, w.heap.size + k ≤ a.block → w1.cell? a = some v → w'.cell? a = some v) : Sub (ov (wk w.heap.size k (ov c w W)) W w1) (ov c w w') :=
  ov_ov hW (wk_sub _ _ _) (fun a v hl e => hs a v (by omega) e) fun a v hl hl2 e => by
    have hne : w.heap.size + k ≤ a.block := by
      apply Classical.byContradiction
      intro hb
      unfold wk at e
      rw [if_pos ⟨hl, by omega⟩] at e
      cases e
    have e2 := wk_sub _ _ _ a v e
    rw [ov_new hl] at e2
    exact hs a v hne (h1.sub _ _ e2)
theorem at_ov {c : CM} {w W : World} {q : Nat} {cs : List Value} (h : At W.cell? q 0 cs) (hq : w.heap.size ≤ q) : At (ov c w W) q 0 cs := fun j v e => by
  rw [ov_new (by exact hq)]
  exact h j v e
theorem by_set7 (w : World) (B : Nat) (u0 u1 u2 u3 u4 u5 u6 : Value) : w.grownBy (((((((w.setCell ⟨B, 0, none⟩ u0).setCell ⟨B, 1, none⟩ u1).setCell ⟨B, 2, none⟩ u2).setCell ⟨B, 3, none⟩ u3).setCell ⟨B, 4, none⟩ u4).setCell ⟨B, 5, none⟩ u5).setCell ⟨B, 6, none⟩ u6) (some B) :=
  grownBy_trans (grownBy_setCell w ⟨B, 0, none⟩ u0) (grownBy_trans (grownBy_setCell _ ⟨B, 1, none⟩ u1) (grownBy_trans (grownBy_setCell _ ⟨B, 2, none⟩ u2) (grownBy_trans (grownBy_setCell _ ⟨B, 3, none⟩ u3) (grownBy_trans (grownBy_setCell _ ⟨B, 4, none⟩ u4) (grownBy_trans (grownBy_setCell _ ⟨B, 5, none⟩ u5) (grownBy_setCell _ ⟨B, 6, none⟩ u6))))))
/-- a row that was written: all else reads as before -/
theorem by_cell {w w' : World} {B : Nat} (h : w.grownBy w' (some B)) {a : Addr} (hl : a.block < w.heap.size) (hb : a.block ≠ B) : w'.cell? a = w.cell? a :=
  World.cell?_of_block (h.block a.block hl (fun e => hb (Option.some.inj e)))
theorem at_new' {w : World} {c : Array Value} {t : TypeId} {q : Nat} (hq : q = w.heap.size) : At (w.alloc (.cells c t)).cell? q 0 c.toList := by
  subst hq
  exact at_new w c t
/-- a box of seven cells, written anew -/
theorem row_set7 {w : World} {B : Nat} {a b c d e f g : Value} {t : TypeId} (h : w.heap[B]? = some (.cells #[a, b, c, d, e, f, g] t (0, 0))) (u0 u1 u2 u3 u4 u5 u6 : Value) :
    (((((((w.setCell ⟨B, 0, none⟩ u0).setCell ⟨B, 1, none⟩ u1).setCell ⟨B, 2, none⟩ u2).setCell ⟨B, 3, none⟩ u3).setCell ⟨B, 4, none⟩ u4).setCell ⟨B, 5, none⟩ u5).setCell ⟨B, 6, none⟩ u6).heap[B]? = some (.cells #[u0, u1, u2, u3, u4, u5, u6] t (0, 0)) := by
  simp only [World.setCell, Array.getElem?_modify, h]
  simp
theorem cells7 {w : World} {B : Nat} {a b c d e f g : Value} {t : TypeId} (h : w.heap[B]? = some (.cells #[a, b, c, d, e, f, g] t (0, 0))) :
    w.cell? ⟨B, 0, none⟩ = some a ∧ w.cell? ⟨B, 1, none⟩ = some b ∧ w.cell? ⟨B, 2, none⟩ = some c ∧ w.cell? ⟨B, 3, none⟩ = some d ∧ w.cell? ⟨B, 4, none⟩ = some e ∧ w.cell? ⟨B, 5, none⟩ = some f ∧ w.cell? ⟨B, 6, none⟩ = some g := by
  refine ⟨?_, ?_, ?_, ?_, ?_, ?_, ?_⟩ <;> simp [World.cell?, h]
theorem cells4 {w : World} {B : Nat} {a b c d : Value} {t : TypeId} (h : w.heap[B]? = some (.cells #[a, b, c, d] t (0, 0))) :
    w.cell? ⟨B, 0, none⟩ = some a ∧ w.cell? ⟨B, 1, none⟩ = some b ∧ w.cell? ⟨B, 2, none⟩ = some c ∧ w.cell? ⟨B, 3, none⟩ = some d := by
  refine ⟨?_, ?_, ?_, ?_⟩ <;> simp [World.cell?, h]
theorem info_hs : (Try.prog.info? 29).map (·.size) = some 7 := by kernel_rfl
theorem row_free {w : World} {B : Nat} {cs : Array Value} {t : TypeId} (h : w.heap[B]? = some (.cells cs t (0, 0))) (o : Nat) : w.frozen? ⟨B, o, none⟩ = false := by simp [World.frozen?, h]
/-- a row stays what it is while other things are written -/
theorem row_by {w w' : World} {B : Nat} {o : Obj} {row : Option Nat} (h : w.heap[B]? = some o) (hg : w.grownBy w' row) (hne : some B ≠ row) : w'.heap[B]? = some o := by
  rw [hg.block B (Array.getElem?_eq_some_iff.1 h).1 hne]; exact h
theorem row_grow {w w' : World} {B : Nat} {o : Obj} (h : w.heap[B]? = some o) (hg : Grow w w') : w'.heap[B]? = some o := by
  rw [hg.block B (Array.getElem?_eq_some_iff.1 h).1]; exact h
theorem row_new (w : World) (o : Obj) : (w.alloc o).heap[w.heap.size]? = some o := heap_alloc_new w o
/-- an operation of a region that has no guard -/
theorem wanted_go {o : Oper} {y : Nat → Option Bool} {X E : Prop} {inst : Decidable (Region.wanted o y = true)} (hgd : o.guard = none) (h : X) : @ite Prop (Region.wanted o y = true) inst X E := by
  rw [if_pos (by simp [Region.wanted, hgd])]
  exact h
/-- a struct is stored whole into a box -/
theorem wp_store_row {P : Program} {ty : TypeId} {w : World} {o : Oper} {a : Act} {K : Act → World → Prop} {Q : Exit → Act → World → Prop} (d s : Operand) (ho : o.op = .store ty d s)
    {g : Nat} {t : TypeId} {old cells : Array Value} (hd : a.eval d = .pointer (some ⟨g, 0, none⟩)) (hs : a.eval s = .agg cells) (hrow : w.heap[g]? = some (.cells old t (0, 0)))
    (hi : (P.info? ty).map (·.size) = some cells.size) (hos : old.size = cells.size) (h1 : cells.toList.all (·.oneCell') = true)
    (h : ∀ w', w'.heap[g]? = some (.cells cells t (0, 0)) → w.grownBy w' (some g) → K (a.put o.dst undef) w') : o.wp P a w K Q := by
  have hr := run_storeVar_row (P := P) w g t ty old cells hrow hi hos (by rw [← Array.all_toList]; exact h1)
  unfold Oper.wp execOp
  simp only [ho, hd, hs, Instr.storeAt, Instr.sureAddr, Sem.run_bind, Sem.run_pure, Result.andThen_ok, hr]
  exact h _ (setRow_heap w g old cells t _ hrow) ⟨rfl, rfl, rfl, by simp [World.setRow], fun k hk hne => by
    simp only [World.setRow]
    rw [Array.getElem?_modify]
    rw [if_neg (fun e => hne (by rw [e]))]⟩
theorem wpList_store_row {P : Program} {ty : TypeId} {ops : Array Oper} {rest : List Oper} {w : World} {o : Oper} {a : Act} {Q : Exit → Act → World → Prop} (hgd : o.guard = none) (d s : Operand) (ho : o.op = .store ty d s)
    {g : Nat} {t : TypeId} {old cells : Array Value} (hd : a.eval d = .pointer (some ⟨g, 0, none⟩)) (hs : a.eval s = .agg cells) (hrow : w.heap[g]? = some (.cells old t (0, 0)))
    (hi : (P.info? ty).map (·.size) = some cells.size) (hos : old.size = cells.size) (h1 : cells.toList.all (·.oneCell') = true)
    (h : ∀ w', w'.heap[g]? = some (.cells cells t (0, 0)) → w.grownBy w' (some g) → wpList P ops Q rest (a.put o.dst undef) w') : wpList P ops Q (o :: rest) a w :=
  wpList_plain hgd fun _ hK => wp_store_row d s ho hd hs hrow hi hos h1 fun w' a b => hK _ _ (h w' a b)
theorem step_store_row {P : Program} {ty : TypeId} {ops : Array Oper} {w : World} {o : Oper} {a : Act} {K : Act → World → Prop} {Q : Exit → Act → World → Prop} {E : Prop} (hgd : o.guard = none) (d s : Operand) (ho : o.op = .store ty d s)
    {g : Nat} {t : TypeId} {old cells : Array Value} (hd : a.eval d = .pointer (some ⟨g, 0, none⟩)) (hs : a.eval s = .agg cells) (hrow : w.heap[g]? = some (.cells old t (0, 0)))
    (hi : (P.info? ty).map (·.size) = some cells.size) (hos : old.size = cells.size) (h1 : cells.toList.all (·.oneCell') = true)
    (h : ∀ w', w'.heap[g]? = some (.cells cells t (0, 0)) → w.grownBy w' (some g) → K (a.put o.dst undef) w') : if Region.wanted o (yielded ops a.tmps) = true then Oper.wp P o a w K Q else E := by
  rw [if_pos (by simp [Region.wanted, hgd])]
  exact wp_store_row d s ho hd hs hrow hi hos h1 h
theorem wp_lookup' {κ : Type} [DecidableEq κ] {P : Program} {t K E : TypeId} {enc : κ → Value} (hK : KeyOk P K enc) (ht : P.underlying t = some (.map K E)) {z : Value} (hz : ∀ w, (zeroValue E).run P w = .ok z w) {w : World} {ops : Array Oper} {rest : List Oper} {o : Oper} {a : Act} {Q : Exit → Act → World → Prop} (hg : o.guard = none) (mo x : Operand) (hop : o.op = Op.lookup t mo x false)
    {m : Nat} {kv : List (κ × Value)} (h : MapIs enc w m kv) (k : κ) (v : Value) (hv : (mget kv k).getD z = v) (hm : a.eval mo = .map (some m)) (hx : a.eval x = enc k) (hC : wpList P ops Q rest (a.put o.dst v) w) : wpList P ops Q (o :: rest) a w := by
  subst hv
  exact wp_lookup hK ht hz hg mo x hop h k hm hx hC
theorem wp_insert {κ : Type} [DecidableEq κ] {P : Program} {t K E : TypeId} {enc : κ → Value} (hK : KeyOk P K enc) (ht : P.underlying t = some (.map K E)) {w : World} {ops : Array Oper} {rest : List Oper} {o : Oper} {a : Act} {Q : Exit → Act → World → Prop} (hg : o.guard = none) (mo x y : Operand) (hop : o.op = Op.insert t mo x y)
    {m : Nat} {kv : List (κ × Value)} (h : MapIs enc w m kv) (k : κ) (v : Value) (hm : a.eval mo = .map (some m)) (hx : a.eval x = enc k) (hy : a.eval y = v) (hC : ∀ w', MapIs enc w' m (mput kv k v) → w.grownBy w' (some m) → wpList P ops Q rest (a.put o.dst undef) w') : wpList P ops Q (o :: rest) a w := by
  refine wpList_plain hg fun K' hK' => ?_
  obtain ⟨w', hrun, h1, h2⟩ := run_put hK ht h k v
  unfold Oper.wp
  simp [execOp, hop, hm, hx, hy, hrun, Result.andThen]
  exact hK' _ _ (hC w' h1 h2)
end Go.Proofs.Ytgbhpghgohggcaa

/- Walks: slices.Clone at parts, ints, bytes, sums. -/
namespace Go.Proofs.Ytgbhpghgohggcaa
open Go.RowKit

set_option maxHeartbeats 400000 in
theorem clone_pt {v : Value} {l : List Pt} (w : World) (hv : Sl Ty.pt w.cell? v l) (hm : l.length * 24 ≤ 140737488355328) :
    Calls Try.prog 122 #[v] w fun e w' => ∃ v', e = .returned v' ∧ w'.ownsRow w.heap.size 32 3 v' l.length (l.flatMap Pt.cells) ∧ Grow w w' := by
  obtain ⟨a, cap, rfl, h1, h2, h0, hel⟩ := hv
  have hnil := fun w : World => Go.Lib.run_eql_slice_nil (P := Try.prog) w 23 32 a l.length cap 0 0 ei_pt.ht
  cases a with
  | none =>
    obtain rfl := h0 rfl
    have hl : l = [] := by
      cases l with
      | nil => rfl
      | cons x l => obtain ⟨_, _, _, h, _⟩ := hel 0 x rfl; cases h
    subst hl
    have hnil' := fun w : World => Go.Lib.run_eql_slice_nil (P := Try.prog) w 23 32 none 0 0 0 0 ei_pt.ht
    simp only [Option.isNone_none] at hnil'
    clear hel h0 hm h1 h2 hnil
    show Calls _ _ #[.slice none 0 0] _ _
    go_enter Try.func122, Try.ntmps122
    go_wp2
    go_ret
    exact ⟨_, rfl, World.ownsRow_nil _ _ _ _, (by repeat (first | with_reducible assumption | with_reducible exact Grow.refl _ | with_reducible apply Grow.drewN | with_reducible apply Grow.drew | with_reducible apply Grow.alloc | (refine Grow.setCell ?_ (by simp; done) _)))⟩
  | some ad =>
    have hc := flat_cells (f := Pt.cells) (size := 3) (by decide) (fun _ => rfl) (c := w.cell?) (a := some ad) (l := l) (fun i x e => by
      obtain ⟨b, o, cs, ha, ⟨rfl, -⟩, hA⟩ := hel i x e
      exact ⟨b, o, ha, hA⟩) ad rfl
    have hlen : (l.flatMap Pt.cells).length = l.length * 3 := flat_len (f := Pt.cells) (size := 3) (fun _ => rfl) l
    have h1c : ∀ u ∈ l.flatMap Pt.cells, u.oneCell' = true := flat_one one_pt l
    simp only [Option.isNone_some] at hnil
    have HC := Lib.hid hc
    have HM := Lib.hid hm
    clear hel hc hm h2
    go_enter Try.func122, Try.ntmps122
    go_wp2_with (at_builtin; go_loud (refine app_own (W := w) ei_pt rfl _ _ rfl ((Grow.refl w).alloc _) rfl (World.ownsRow_made w #[] 0 (Nat.le_refl _) (Nat.zero_le _) rfl) ad l.length cap (l.flatMap Pt.cells) rfl hlen ?_ ?_ ?_ ?_ ?_))
    · intro j u hu; exact ((Grow.refl w).alloc _).sub _ _ (HC.out j u hu)
    · exact h1c
    · have := HM.out; unfold maxLen; omega
    · have := HM.out; omega
    · intro v' w' hown hG _
      go_wp2
      go_ret
      exact ⟨_, rfl, by simpa using hown, hG⟩

set_option maxHeartbeats 400000 in
theorem clone_int {v : Value} {l : List Int} (w : World) (hv : Sl Ty.int w.cell? v l) (hm : l.length * 8 ≤ 140737488355328) :
    Calls Try.prog 150 #[v] w fun e w' => ∃ v', e = .returned v' ∧ w'.ownsRow w.heap.size 3 1 v' l.length (l.flatMap intCell) ∧ Grow w w' := by
  obtain ⟨a, cap, rfl, h1, h2, h0, hel⟩ := hv
  have hnil := fun w : World => Go.Lib.run_eql_slice_nil (P := Try.prog) w 27 3 a l.length cap 0 0 ei_int.ht
  cases a with
  | none =>
    obtain rfl := h0 rfl
    have hl : l = [] := by
      cases l with
      | nil => rfl
      | cons x l => obtain ⟨_, _, _, h, _⟩ := hel 0 x rfl; cases h
    subst hl
    have hnil' := fun w : World => Go.Lib.run_eql_slice_nil (P := Try.prog) w 27 3 none 0 0 0 0 ei_int.ht
    simp only [Option.isNone_none] at hnil'
    clear hel h0 hm h1 h2 hnil
    show Calls _ _ #[.slice none 0 0] _ _
    go_enter Try.func150, Try.ntmps150
    go_wp2
    go_ret
    exact ⟨_, rfl, World.ownsRow_nil _ _ _ _, (by repeat (first | with_reducible assumption | with_reducible exact Grow.refl _ | with_reducible apply Grow.drewN | with_reducible apply Grow.drew | with_reducible apply Grow.alloc | (refine Grow.setCell ?_ (by simp; done) _)))⟩
  | some ad =>
    have hc := flat_cells (f := intCell) (size := 1) (by decide) (fun _ => rfl) (c := w.cell?) (a := some ad) (l := l) (fun i x e => by
      obtain ⟨b, o, cs, ha, ⟨rfl, -⟩, hA⟩ := hel i x e
      exact ⟨b, o, ha, hA⟩) ad rfl
    have hlen : (l.flatMap intCell).length = l.length * 1 := flat_len (f := intCell) (size := 1) (fun _ => rfl) l
    have h1c : ∀ u ∈ l.flatMap intCell, u.oneCell' = true := flat_one one_int l
    simp only [Option.isNone_some] at hnil
    have HC := Lib.hid hc
    have HM := Lib.hid hm
    clear hel hc hm h2
    go_enter Try.func150, Try.ntmps150
    go_wp2_with (at_builtin; go_loud (refine app_own (W := w) ei_int rfl _ _ rfl ((Grow.refl w).alloc _) rfl (World.ownsRow_made w #[] 0 (Nat.le_refl _) (Nat.zero_le _) rfl) ad l.length cap (l.flatMap intCell) rfl hlen ?_ ?_ ?_ ?_ ?_))
    · intro j u hu; exact ((Grow.refl w).alloc _).sub _ _ (HC.out j u hu)
    · exact h1c
    · have := HM.out; unfold maxLen; omega
    · have := HM.out; omega
    · intro v' w' hown hG _
      go_wp2
      go_ret
      exact ⟨_, rfl, by simpa using hown, hG⟩

set_option maxHeartbeats 400000 in
theorem clone_byte {v : Value} {l : List UInt8} (w : World) (hv : Sl Ty.byte w.cell? v l) (hm : l.length * 1 ≤ 140737488355328) :
    Calls Try.prog 131 #[v] w fun e w' => ∃ v', e = .returned v' ∧ w'.ownsRow w.heap.size 5 1 v' l.length (l.flatMap byteCell) ∧ Grow w w' := by
  obtain ⟨a, cap, rfl, h1, h2, h0, hel⟩ := hv
  have hnil := fun w : World => Go.Lib.run_eql_slice_nil (P := Try.prog) w 69 5 a l.length cap 0 0 ei_byte.ht
  cases a with
  | none =>
    obtain rfl := h0 rfl
    have hl : l = [] := by
      cases l with
      | nil => rfl
      | cons x l => obtain ⟨_, _, _, h, _⟩ := hel 0 x rfl; cases h
    subst hl
    have hnil' := fun w : World => Go.Lib.run_eql_slice_nil (P := Try.prog) w 69 5 none 0 0 0 0 ei_byte.ht
    simp only [Option.isNone_none] at hnil'
    clear hel h0 hm h1 h2 hnil
    show Calls _ _ #[.slice none 0 0] _ _
    go_enter Try.func131, Try.ntmps131
    go_wp2
    go_ret
    exact ⟨_, rfl, World.ownsRow_nil _ _ _ _, (by repeat (first | with_reducible assumption | with_reducible exact Grow.refl _ | with_reducible apply Grow.drewN | with_reducible apply Grow.drew | with_reducible apply Grow.alloc | (refine Grow.setCell ?_ (by simp; done) _)))⟩
  | some ad =>
    have hc := flat_cells (f := byteCell) (size := 1) (by decide) (fun _ => rfl) (c := w.cell?) (a := some ad) (l := l) (fun i x e => by
      obtain ⟨b, o, cs, ha, rfl, hA⟩ := hel i x e
      exact ⟨b, o, ha, hA⟩) ad rfl
    have hlen : (l.flatMap byteCell).length = l.length * 1 := flat_len (f := byteCell) (size := 1) (fun _ => rfl) l
    have h1c : ∀ u ∈ l.flatMap byteCell, u.oneCell' = true := flat_one one_byte l
    simp only [Option.isNone_some] at hnil
    have HC := Lib.hid hc
    have HM := Lib.hid hm
    clear hel hc hm h2
    go_enter Try.func131, Try.ntmps131
    go_wp2_with (at_builtin; go_loud (refine app_own (W := w) ei_byte rfl _ _ rfl ((Grow.refl w).alloc _) rfl (World.ownsRow_made w #[] 0 (Nat.le_refl _) (Nat.zero_le _) rfl) ad l.length cap (l.flatMap byteCell) rfl hlen ?_ ?_ ?_ ?_ ?_))
    · intro j u hu; exact ((Grow.refl w).alloc _).sub _ _ (HC.out j u hu)
    · exact h1c
    · have := HM.out; unfold maxLen; omega
    · have := HM.out; omega
    · intro v' w' hown hG _
      go_wp2
      go_ret
      exact ⟨_, rfl, by simpa using hown, hG⟩

set_option maxHeartbeats 400000 in
theorem clone_sm {v : Value} {l : List Sm} (w : World) (hv : Sl Ty.sm w.cell? v l) (hm : l.length * 32 ≤ 140737488355328) :
    Calls Try.prog 144 #[v] w fun e w' => ∃ v', e = .returned v' ∧ w'.ownsRow w.heap.size 25 4 v' l.length (l.flatMap Sm.cells) ∧ Grow w w' := by
  obtain ⟨a, cap, rfl, h1, h2, h0, hel⟩ := hv
  have hnil := fun w : World => Go.Lib.run_eql_slice_nil (P := Try.prog) w 98 25 a l.length cap 0 0 ei_sm.ht
  cases a with
  | none =>
    obtain rfl := h0 rfl
    have hl : l = [] := by
      cases l with
      | nil => rfl
      | cons x l => obtain ⟨_, _, _, h, _⟩ := hel 0 x rfl; cases h
    subst hl
    have hnil' := fun w : World => Go.Lib.run_eql_slice_nil (P := Try.prog) w 98 25 none 0 0 0 0 ei_sm.ht
    simp only [Option.isNone_none] at hnil'
    clear hel h0 hm h1 h2 hnil
    show Calls _ _ #[.slice none 0 0] _ _
    go_enter Try.func144, Try.ntmps144
    go_wp2
    go_ret
    exact ⟨_, rfl, World.ownsRow_nil _ _ _ _, (by repeat (first | with_reducible assumption | with_reducible exact Grow.refl _ | with_reducible apply Grow.drewN | with_reducible apply Grow.drew | with_reducible apply Grow.alloc | (refine Grow.setCell ?_ (by simp; done) _)))⟩
  | some ad =>
    have hc := flat_cells (f := Sm.cells) (size := 4) (by decide) (fun _ => rfl) (c := w.cell?) (a := some ad) (l := l) (fun i x e => by
      obtain ⟨b, o, cs, ha, ⟨rfl, -⟩, hA⟩ := hel i x e
      exact ⟨b, o, ha, hA⟩) ad rfl
    have hlen : (l.flatMap Sm.cells).length = l.length * 4 := flat_len (f := Sm.cells) (size := 4) (fun _ => rfl) l
    have h1c : ∀ u ∈ l.flatMap Sm.cells, u.oneCell' = true := flat_one one_sm l
    simp only [Option.isNone_some] at hnil
    have HC := Lib.hid hc
    have HM := Lib.hid hm
    clear hel hc hm h2
    go_enter Try.func144, Try.ntmps144
    go_wp2_with (at_builtin; go_loud (refine app_own (W := w) ei_sm rfl _ _ rfl ((Grow.refl w).alloc _) rfl (World.ownsRow_made w #[] 0 (Nat.le_refl _) (Nat.zero_le _) rfl) ad l.length cap (l.flatMap Sm.cells) rfl hlen ?_ ?_ ?_ ?_ ?_))
    · intro j u hu; exact ((Grow.refl w).alloc _).sub _ _ (HC.out j u hu)
    · exact h1c
    · have := HM.out; unfold maxLen; omega
    · have := HM.out; omega
    · intro v' w' hown hG _
      go_wp2
      go_ret
      exact ⟨_, rfl, by simpa using hown, hG⟩

end Go.Proofs.Ytgbhpghgohggcaa

/- Walks: log.Own of the program: copies that lie in new memory. -/
namespace Go.Proofs.Ytgbhpghgohggcaa
open Go.RowKit
/-- what is newer than W0, but for some blocks -/
def fr (W0 w : World) (X : List (Option Nat)) : CM := fun a => if a.block < W0.heap.size ∨ some a.block ∈ X then none else w.cell? a
theorem fr_sub (W0 w : World) (X : List (Option Nat)) : Sub (fr W0 w X) w.cell? := fun a v e => by
  unfold fr at e
  split at e
  · cases e
  · exact e
theorem fr_ov (c : CM) (W0 w : World) (X : List (Option Nat)) : Sub (fr W0 w X) (ov c W0 w) := fun a v e => by
  unfold fr at e
  split at e
  · cases e
  · rename_i h
    rw [ov_new (by omega)]; exact e
theorem fr_new {W0 w : World} {X : List (Option Nat)} {a : Addr} (h : W0.heap.size ≤ a.block) (hx : some a.block ∉ X) : fr W0 w X a = w.cell? a := by
  unfold fr
  rw [if_neg (by rintro (h1 | h1); omega; exact hx h1)]
theorem fr_step {W0 w w' : World} {X X' : List (Option Nat)} (h : ∀ k, k < w.heap.size → W0.heap.size ≤ k → some k ∉ X → w'.heap[k]? = w.heap[k]? ∧ some k ∉ X') : Sub (fr W0 w X) (fr W0 w' X') := fun a v e => by
  unfold fr at e
  split at e
  · cases e
  · rename_i hn
    have h1 : ¬ a.block < W0.heap.size := fun hx => hn (.inl hx)
    have h2 : some a.block ∉ X := fun hx => hn (.inr hx)
    obtain ⟨h3, h4⟩ := h a.block (World.block_lt_of_cell? w a e) (by omega) h2
    rw [fr_new (by omega) h4, World.cell?_of_block h3]
    exact e
theorem fr_grow {W0 w w' : World} {X : List (Option Nat)} (h : Grow w w') : Sub (fr W0 w X) (fr W0 w' X) := fr_step fun k hk _ hx => ⟨h.block k hk, hx⟩
theorem fr_app {W0 w w' : World} {v v' : Value} (hg : w.grownBy w' v.ownBlock) (hb : v'.ownBlock = v.ownBlock ∨ ∃ g, v'.ownBlock = some g ∧ w.heap.size ≤ g) : Sub (fr W0 w [v.ownBlock]) (fr W0 w' [v'.ownBlock]) :=
  fr_step fun k hk _ hx => ⟨hg.block k hk (by simpa using hx), by
    rcases hb with hb | ⟨g, hb, hge⟩
    · rw [hb]; exact hx
    · rw [hb]; simp; omega⟩
/-- a row that a call gave reads in new memory -/
theorem pts_fr {W0 w1 w : World} {v : Value} {l : List Pt} {X : List (Option Nat)} (h : w.ownsRow w1.heap.size 32 3 v l.length (l.flatMap Pt.cells)) (hok : PtsOk l) (hW : W0.heap.size ≤ w1.heap.size) (hX : ∀ k, w1.heap.size ≤ k → some k ∉ X) : Sl Ty.pt (fr W0 w X) v l :=
  (OwnC.pts (c := fr W0 w X) h hok).slc (by decide) (Sub.refl _) fun a ha => fr_new (by omega) (hX _ ha)
set_option maxRecDepth 100000 in
set_option maxHeartbeats 1000000 in
theorem log_own {v : Value} {l : List Rc} (w : World) (hv : Rcs w.cell? v l) (hm : l.length * 40 ≤ 140737488355328) (hp : ∀ r ∈ l, r.parts.length * 24 ≤ 140737488355328) :
    Calls Try.prog 40 #[v] w fun e w' => ∃ v', e = .returned v' ∧ OwnC Ty.rc (fr w w' [v'.ownBlock]) w' w.heap.size 48 v' l ∧ Grow w w' := by
  obtain ⟨a, cap, rfl, h1, h2, -, hel⟩ := hv
  unfold maxLen at h2
  have HM := Lib.hid hm
  have HP := Lib.hid hp
  clear hm hp
  go_enter Try.func40, Try.ntmps40
  go_wp2
  go_loopw [3, 8] (fun s3 i wr => ∃ k : Nat, k ≤ l.length ∧ i = .int .i64 k ∧ Grow w wr ∧ OwnC Ty.rc (fr w wr [s3.ownBlock]) wr w.heap.size 48 s3 (l.take k)) (fun _ i _ => l.length - (intOf i).toNat)
  case atStart => exact ⟨0, by omega, rfl, Grow.refl _, OwnC.nil _ _ _ _ _⟩
  case round =>
    obtain ⟨k, hk', rfl, hb, hown⟩ := hrel
    by_cases hlt : k < l.length
    · obtain ⟨b, o, vp, rfl, c0, c1, c2, i0, i1, hP⟩ := Rcs.at_ hel k hlt
      obtain ⟨ap, cp, rfl, -⟩ := id hP
      replace c0 := hb.sub _ _ c0
      replace c1 := hb.sub _ _ c1
      replace c2 := hb.sub _ _ c2
      have htk : l.take (k + 1) = l.take k ++ [l[k]] := by rw [List.take_succ_eq_append_getElem hlt]
      have HTK := Lib.hid htk
      have hpl := HP.out l[k] (List.getElem_mem _)
      have hok := Pts.ok (c := w.cell?) hP
      have HCL := Lib.hid (fun (W : World) (hW : Grow wr W) => clone_pt W (hP.mono (hb.trans hW).sub) hpl)
      have hlk : (l.take k).length = k := by simp; omega
      have HOWN := Lib.hid hown
      have HI := Lib.hid (And.intro i0 (And.intro i1 hok))
      obtain ⟨av, cv, rfl⟩ := hown.form
      clear hel hP htk hpl hok hown i0 i1
      generalize l[k] = r at *
      generalize hlt' : l.take k = lk at *
      have HLT := Lib.hid hlt'
      have HLK := Lib.hid hlk
      clear hlt' hlk
      go_wp2_with fail
      refine (HCL.out _ ((Grow.refl _).alloc _)).mono ?_
      rintro e w2 ⟨v2, rfl, ho2, hb2⟩
      obtain ⟨a2, cap2, rfl⟩ := owns_form ho2
      have HO2 := Lib.hid ho2
      have HB2 := Lib.hid hb2
      obtain ⟨cw2, fw2⟩ := bcell hb2
      have z2 : wr.heap.size < w2.heap.size := by have := hb2.size; simp at this; omega
      clear ho2 hb2
      have HG3 : Hid (Grow wr (w2.setCell ⟨wr.heap.size, 2, none⟩ (.slice a2 r.parts.length cap2))) := Lib.hid ((((Grow.refl wr).alloc _).trans HB2.out).setCell (by simp) _)
      go_wp2_with (first | (at_builtin; refine wpList_appc (c := fr w ((w2.setCell ⟨wr.heap.size, 2, none⟩ (.slice a2 r.parts.length cap2)).alloc (.cells #[.int .i64 r.kind, .int .i64 r.deed, .slice a2 r.parts.length cap2] 48)) [(Value.slice av lk.length cv).ownBlock]) (base := w.heap.size) (l := lk) (m := [r]) ei_rc rfl one_Trc (by decide) rfl (.tmp 16) (.tmp 18) rfl rfl ?own rfl (Src.of_new (cs := #[.int .i64 r.kind, .int .i64 r.deed, .slice a2 r.parts.length cap2]) ?d0 _ _ ?d1) ?d2 ?d3 ?_))
      case own => exact (HOWN.out.mono (fr_grow (HG3.out.alloc _))).grow (HG3.out.alloc _)
      case d0 =>
        refine ⟨_, rfl, HI.out.1, HI.out.2.1, ?_⟩
        have hlt2 := HOWN.out.lt
        refine pts_fr (w1 := wr.alloc (.cells #[.int .i64 r.kind, .int .i64 r.deed, .slice ap r.parts.length cp] 48)) ?_ HI.out.2.2 ?_ ?_
        · exact (HO2.out.kept (grownBy_setCell w2 ⟨wr.heap.size, 2, none⟩ _) (by
            cases e : (Value.slice a2 r.parts.length cap2).ownBlock with
            | none => exact .inl rfl
            | some q => right; have := (HO2.out.lt q e).1; simp at this ⊢; omega)).alloc _
        · have := hb.size; simp; omega
        · intro q hq
          simp only [List.mem_singleton]
          intro e
          have := (hlt2 q e.symm).2
          simp at hq; omega
      case d1 => simp
      case d2 => have := HM.out; have := HLK.out; simp; omega
      case d3 => have := (HG3.out.alloc (.cells #[.int .i64 r.kind, .int .i64 r.deed, .slice a2 r.parts.length cap2] 48)).size; have := hb.size; omega
      intro a5 c5 w5 hown5 hg5 hb5
      have hG5 : Grow w w5 := grow_by (w0 := w) (hb.trans (HG3.out.alloc _)) hg5 (fun q hq => (HOWN.out.lt q hq).1)
      have HO5 := Lib.hid (hown5.mono (fr_app hg5 (hb5.imp_right fun ⟨g, e, hge⟩ => ⟨g, e, by simpa using hge⟩)))
      have HG5 := Lib.hid hG5
      clear hown5 hg5 hb5 hG5 cw2 fw2
      go_wp2
      go_roundw
      case rel => exact ⟨k + 1, by omega, by go_num, HG5.out, by rw [HTK.out]; exact HO5.out⟩
      case measure => simp [intOf]; omega
    · clear hel
      go_wp2
      go_ret
      have h9 := hown
      rw [List.take_of_length_le (by omega)] at h9
      exact ⟨_, rfl, h9, hb⟩
end Go.Proofs.Ytgbhpghgohggcaa

/- Plain: what the head answers, as functions on plain data. -/
namespace Go.Proofs.Ytgbhpghgohggcaa
open Go.RowKit
def housesE (l : List Pt) : List Int := [0, 1, 2].filter fun n => l.any fun p => p.h == n
def commitM (o : Opn) (n : Int) : Ms := if o.dec then ⟨4, o.deed, n, []⟩ else ⟨1, o.deed, n, ofL o.parts n⟩
def asksE (o : Opn) : List Ms := ((housesE o.parts).filter fun n => !decide (n ∈ o.heard)).map (commitM o)
def abortsE (d : Int) (l : List Pt) : List Ms := (housesE l).map fun n => ⟨5, d, n, []⟩
def headStep (h : Hd) (r : Rc) : Hd :=
  if r.kind = 4 then { h with boot := wrap64 (h.boot + 1) }
  else if r.kind = 5 then { h with opn := h.opn ++ [⟨r.deed, r.parts, true, []⟩] }
  else if r.kind = 6 then { h with opn := h.opn.filter fun o => !(o.deed == r.deed) }
  else h
/-- the head that a log makes -/
def headR (l : List Rc) : Hd := l.foldl headStep ⟨l, 0, 0, []⟩
def decidedR (l : List Rc) : List Rd := (l.filter fun r => r.kind == 5).map fun r => ⟨r.deed, r.parts⟩
def fallH (h : Hd) : Hd := if 19 < h.boot then h else headR (h.log ++ [⟨4, 0, []⟩])
def fallE (h : Hd) : Int := if 19 < h.boot then 5 else 0
def fullE (h : Hd) : Bool := decide (11 < h.opn.length ∨ 63 < h.next)
def newO (h : Hd) (l : List Pt) : Opn := ⟨64 * h.boot + h.next, l, false, []⟩
def beginH (h : Hd) (l : List Pt) : Hd := if fullE h = true then h else { h with opn := h.opn ++ [newO h l], next := h.next + 1 }
def beginM (h : Hd) (l : List Pt) : List Ms := if fullE h = true then [] else asksE (newO h l)
def beginE (h : Hd) : Int := if fullE h = true then 9 else 0
/-- what stands in an open deed's place behind a message: open ones, records, what is said -/
def hearO (o : Opn) (m : Ms) : List Opn × List Rc × List Ms :=
  if m.kind = 2 ∧ o.dec = false ∧ m.house ∈ housesE o.parts ∧ m.house ∉ o.heard then
    (if o.heard.length + 1 = (housesE o.parts).length then ([{ o with dec := true, heard := [] }], [⟨5, o.deed, o.parts⟩], asksE { o with dec := true, heard := [] })
    else ([{ o with heard := o.heard ++ [m.house] }], [], []))
  else if m.kind = 3 ∧ o.dec = false then ([], [], abortsE o.deed o.parts)
  else if m.kind = 6 ∧ o.dec = true ∧ m.house ∈ housesE o.parts ∧ m.house ∉ o.heard then
    (if o.heard.length + 1 = (housesE o.parts).length then ([], [⟨6, o.deed, []⟩], []) else ([{ o with heard := o.heard ++ [m.house] }], [], []))
  else if m.kind = 7 ∧ o.dec = true then ([o], [], [⟨4, m.deed, m.house, []⟩])
  else ([o], [], [])
def isO (d : Int) (o : Opn) : Bool := o.deed == d
/-- the head behind a message: the open deeds gone through, one by one -/
def hearL (m : Ms) : List Opn → Option (List Opn × List Rc × List Ms)
  | [] => none
  | o :: l => if o.deed = m.deed then some ((hearO o m).1 ++ l, (hearO o m).2) else (hearL m l).map fun x => (o :: x.1, x.2)
def hHearH (h : Hd) (m : Ms) : Hd := match hearL m h.opn with
  | none => h
  | some x => { h with opn := x.1, log := h.log ++ x.2.1 }
def hHearM (h : Hd) (m : Ms) : List Ms := match hearL m h.opn with
  | none => if m.kind = 7 then [⟨5, m.deed, m.house, []⟩] else []
  | some x => x.2.2
def tickE (h : Hd) : List Ms := h.opn.flatMap asksE
def quitH (h : Hd) : Hd := { h with opn := h.opn.filter fun o => o.dec }
def quitM (h : Hd) : List Ms := (h.opn.filter fun o => !o.dec).flatMap fun o => abortsE o.deed o.parts
end Go.Proofs.Ytgbhpghgohggcaa

/- Plain: LocksOne's law. -/
namespace Go.Proofs.Ytgbhpghgohggcaa
def keysOf (l : List Rd) : List Int := l.flatMap fun r => r.parts.map (·.k)
theorem keysOf_cons (x : Rd) (l : List Rd) : keysOf (x :: l) = x.parts.map (·.k) ++ keysOf l := by simp [keysOf]
theorem keysOf_snoc (l : List Rd) (x : Rd) : keysOf (l ++ [x]) = keysOf l ++ x.parts.map (·.k) := by simp [keysOf]
theorem hasKey_mem {key : Int} {x : Rd} : hasKey key x = true ↔ key ∈ x.parts.map (·.k) := by
  unfold hasKey
  rw [List.any_eq_true, List.mem_map]
  constructor
  · rintro ⟨p, hp, h⟩; exact ⟨p, hp, by simpa using h⟩
  · rintro ⟨p, hp, h⟩; exact ⟨p, hp, by simpa using h⟩
theorem who_keys {key : Int} : ∀ {l : List Rd}, (∀ x ∈ l, 0 ≤ x.deed) → (whoE l key < 0 ↔ key ∉ keysOf l)
  | [], _ => by simp [whoE, keysOf]
  | x :: l, hp => by
    have ih := who_keys (l := l) (key := key) fun y hy => hp y (List.mem_cons_of_mem _ hy)
    have hx := hp x List.mem_cons_self
    rw [who_cons, keysOf_cons, List.mem_append, ← hasKey_mem]
    by_cases h : hasKey key x = true
    · simp [h]; exact hx
    · simp only [h, if_false, false_or, Bool.false_eq_true]; exact ih
theorem keysOf_erase (p : Rd → Bool) : ∀ l : List Rd, (keysOf (l.eraseP p)).Sublist (keysOf l)
  | [] => List.Sublist.refl _
  | x :: l => by
    by_cases h : p x = true
    · rw [List.eraseP_cons_of_pos h, keysOf_cons]; exact List.sublist_append_right _ _
    · rw [List.eraseP_cons_of_neg h, keysOf_cons, keysOf_cons]; exact (keysOf_erase p l).append_left _
theorem who_deed {key : Int} : ∀ {l : List Rd}, (keysOf l).Nodup → ∀ r ∈ l, key ∈ r.parts.map (·.k) → whoE l key = r.deed
  | x :: l, hn, r, hr, hk => by
    rw [keysOf_cons, List.nodup_append] at hn
    obtain ⟨h1, h2, h3⟩ := hn
    rw [who_cons]
    rcases List.mem_cons.1 hr with rfl | hr
    · rw [if_pos (hasKey_mem.2 hk)]
    · have hk2 : key ∈ keysOf l := List.mem_flatMap.2 ⟨r, hr, hk⟩
      rw [if_neg (fun h => h3 _ (hasKey_mem.1 h) _ hk2 rfl)]
      exact who_deed h2 r hr hk
/-- deeds that a house is ready for are apart -/
structure Calm (h : Hs) : Prop where
  made : Made h
  fine : Fine h.ready
  apart : (keysOf h.ready).Nodup
theorem calm_zero : Calm ⟨[], ⟨0, 0, 0, 0⟩, [], []⟩ := ⟨rfl, ⟨by simp, by simp⟩, by simp [keysOf]⟩
theorem nodup_keys {l : List Pt} {h : Int} (hn : (l.map fun p => (p.h, p.k)).Nodup) (ha : ∀ p ∈ l, p.h = h) : (l.map (·.k)).Nodup := by
  have e : (l.map fun p => (p.h, p.k)) = (l.map (·.k)).map fun k => (h, k) := by
    rw [List.map_map]
    exact List.map_congr_left fun p hp => by simp [ha p hp]
  rw [e] at hn
  refine List.Pairwise.of_map _ (fun a b hab he => hab (by rw [he])) hn
theorem free_none {l : List Rd} (hp : ∀ x ∈ l, 0 ≤ x.deed) {ps : List Pt} (h : freeE l ps = true) : ∀ p ∈ ps, p.k ∉ keysOf l := by
  rw [free_all, List.all_eq_true] at h
  intro p hm
  exact (who_keys hp).1 (by simpa using h p hm)
/-- right messages, in parts -/
structure RightM (m : Ms) : Prop where
  kind : 1 ≤ m.kind ∧ m.kind ≤ 7
  deed : 0 ≤ m.deed ∧ m.deed ≤ 1343
  house : 0 ≤ m.house ∧ m.house ≤ 2
  none : m.kind ≠ 1 → m.parts = []
  parts : m.kind = 1 → wrongE m.parts 3 = 0 ∧ ∀ p ∈ m.parts, p.h = m.house
theorem wrongE_pos (l : List Pt) (h : Int) : 0 ≤ wrongE l h := by
  have : ∀ (l : List Pt) had, 0 ≤ wrongGo h had l := by
    intro l
    induction l with
    | nil => intro had; simp [wrongGo]
    | cons p l ih => intro had; unfold wrongGo; split; omega; split; omega; exact ih _
  unfold wrongE
  split
  · omega
  · exact this _ _
theorem right_m {m : Ms} : wrongM m = 0 ↔ RightM m := by
  unfold wrongM
  constructor
  · intro h
    split at h
    · cases h
    split at h
    · cases h
    split at h
    · split at h
      · exact ⟨by omega, by omega, by omega, fun _ => ‹_›, fun _ => by omega⟩
      · cases h
    · split at h
      · split at h
        · rename_i h1 h2
          exact ⟨by omega, by omega, by omega, fun _ => by omega, fun _ => ⟨h1, fun p hp => by simpa using List.all_eq_true.1 h2 p hp⟩⟩
        · cases h
      · rename_i h1; exact absurd h h1
  · rintro ⟨h1, h2, h3, h4, h5⟩
    rw [if_neg (by omega), if_neg (by omega)]
    split
    · rw [if_pos (h4 (by omega))]
    · obtain ⟨h6, h7⟩ := h5 (by omega)
      rw [if_pos h6, if_pos (List.all_eq_true.2 fun p hp => by simpa using h7 p hp)]
theorem RightM.keys {m : Ms} (h : RightM m) : KeysOk m.parts := by
  by_cases hk : m.kind = 1
  · exact wrong_keys (h.parts hk).1
  · rw [h.none hk]; intro p hp; simp at hp
theorem calm_note {h : Hs} (hc : Calm h) {r : Rc} (hr : 0 ≤ r.deed) (h1 : r.kind = 1 → (r.parts.map (·.k)).Nodup ∧ ∀ p ∈ r.parts, p.k ∉ keysOf h.ready) : Calm (noteE h r) := by
  have e := note_ready hc.made r
  refine ⟨note_made _ _, by rw [e]; exact fine_step hc.fine hr, ?_⟩
  rw [e, step_ready]
  split
  · split
    · exact hc.apart.sublist (keysOf_erase _ _)
    · exact hc.apart
  · split
    · rename_i hk
      obtain ⟨h2, h3⟩ := h1 hk
      rw [keysOf_snoc, List.nodup_append]
      refine ⟨hc.apart, h2, fun a ha b hb e => ?_⟩
      obtain ⟨p, hp, rfl⟩ := List.mem_map.1 hb
      exact h3 p hp (e ▸ ha)
    · exact hc.apart
theorem vote_free {h : Hs} {d : Int} {ps : List Pt} (hv : voteE h d ps = 0) (hr : readyE h.ready d = false) : freeE h.ready ps = true := by
  unfold voteE at hv
  split at hv
  · cases hv
  · rw [if_neg (by simp [hr])] at hv
    split at hv
    · cases hv
    · rename_i h2; simpa using h2
theorem calm_hear {h : Hs} (hc : Calm h) {m : Ms} (hm : RightM m) : Calm (hearH h m) := by
  unfold hearH
  split
  · rename_i hk
    obtain ⟨hw, hh⟩ := hm.parts hk
    split
    · rename_i hv
      exact calm_note hc hm.deed.1 fun _ => ⟨nodup_keys (wrong_ok hw).2.2.2 hh, free_none hc.fine.pos (vote_free hv.1 hv.2)⟩
    · exact hc
  · split
    · split
      · exact calm_note hc hm.deed.1 (by simp)
      · exact hc
    · split
      · split
        · exact calm_note hc hm.deed.1 (by simp)
        · exact hc
      · exact hc
/-- how often a key occurs -/
def cntKey (key : Int) (l : List Rd) : Nat := (keysOf l).count key
theorem cnt_le {h : Hs} (hc : Calm h) (key : Int) : cntKey key h.ready ≤ 1 := List.nodup_iff_count.1 hc.apart key
theorem cnt_free {h : Hs} (hc : Calm h) (key : Int) : decide (cntKey key h.ready = 1) = !freeE h.ready [⟨0, key, 0⟩] := by
  have h1 := cnt_le hc key
  have h2 : 0 < cntKey key h.ready ↔ key ∈ keysOf h.ready := List.count_pos_iff
  have h3 := who_keys (key := key) hc.fine.pos
  rw [free_all]
  simp only [List.all_cons, List.all_nil, Bool.and_true]
  rw [Bool.eq_iff_iff]
  simp only [decide_eq_true_eq, Bool.not_eq_true', decide_eq_false_iff_not]
  rw [h3, Decidable.not_not, ← h2]
  omega
end Go.Proofs.Ytgbhpghgohggcaa

/- Plain: worlds with messages in place of bytes, and what steps make of them. -/
namespace Go.Proofs.Ytgbhpghgohggcaa
structure AW where
  head : Hd
  houses : List Hs
  net : List Ms
def sendA (net ms : List Ms) : List Ms := net ++ ms.take (24 - net.length)
def hs0 : Hs := houseR []
def newA (n : Nat) : AW := ⟨headR [⟨4, 0, []⟩], List.replicate n hs0, []⟩
def forHouse (m : Ms) : Bool := decide (m.kind = 1 ∨ m.kind = 4 ∨ m.kind = 5)
/-- a message, that was on its way, comes -/
def comeA (w : AW) (m : Ms) : AW :=
  match w.houses[m.house.toNat]? with
  | none => w
  | some h => if forHouse m = true then { w with houses := w.houses.set m.house.toNat (hearH h m), net := sendA w.net (hearM h m.house m) }
    else { w with head := hHearH w.head m, net := sendA w.net (hHearM w.head m) }
def tickA (w : AW) (n : Nat) : AW :=
  if n = 3 then { w with net := sendA w.net (tickE w.head) }
  else match w.houses[n]? with
    | none => w
    | some h => { w with net := sendA w.net (hTickE h n) }
def there (w : AW) (n : Int) : Bool := decide (0 ≤ n ∧ n < w.net.length)
def hereN (w : AW) (n : Int) : Bool := decide (0 ≤ n ∧ n < w.houses.length)
def doA (w : AW) (s : St) : AW :=
  if s.kind = 1 then (if wrongE s.parts w.houses.length = 0 then { w with head := beginH w.head s.parts, net := sendA w.net (beginM w.head s.parts) } else w)
  else if s.kind = 2 then (if there w s.n = true then comeA { w with net := w.net.eraseIdx s.n.toNat } (w.net.getD s.n.toNat ⟨0, 0, 0, []⟩) else w)
  else if s.kind = 3 then (if there w s.n = true then { w with net := w.net.eraseIdx s.n.toNat } else w)
  else if s.kind = 4 then (if there w s.n = true ∧ w.net.length < 24 then { w with net := w.net ++ [w.net.getD s.n.toNat ⟨0, 0, 0, []⟩] } else w)
  else if s.kind = 5 then (if s.n = 3 then { w with head := fallH w.head } else w)
  else if s.kind = 6 then (if s.n = 3 ∨ hereN w s.n = true then tickA w s.n.toNat else w)
  else if s.kind = 7 then { w with head := quitH w.head, net := sendA w.net (quitM w.head) }
  else w
def doErr (w : AW) (s : St) : Int :=
  if s.kind = 1 then (if wrongE s.parts w.houses.length = 0 then beginE w.head else wrongE s.parts w.houses.length)
  else if s.kind = 2 ∨ s.kind = 3 ∨ s.kind = 4 then (if there w s.n = true then 0 else 6)
  else if s.kind = 5 then (if s.n = 3 then fallE w.head else if hereN w s.n = true then 0 else 6)
  else if s.kind = 6 then (if s.n = 3 ∨ hereN w s.n = true then 0 else 6)
  else if s.kind = 7 then 0
  else 1
def playA (w : AW) (l : List St) : AW := l.foldl doA w
/-- deeds that were begun: numbers and parts -/
abbrev Reg := List (Int × List Pt)
end Go.Proofs.Ytgbhpghgohggcaa

/- Plain: LogStill's and LogDone's laws. -/
namespace Go.Proofs.Ytgbhpghgohggcaa
theorem step_done (h : Hs) (r : Rc) : (refStep h r).done = (match h.ready.find? (isD r.deed) with | none => h.done | some _ => if r.kind = 2 then h.done ++ [r.deed] else h.done) := by
  unfold refStep
  rw [in_fold]
  cases hf : h.ready.find? (isD r.deed) with
  | none => simp
  | some x => simp
theorem step_sums (h : Hs) (r : Rc) : (refStep h r).sums = (match h.ready.find? (isD r.deed) with | none => h.sums | some x => if r.kind = 2 then doP h.sums x.parts else h.sums) := by
  unfold refStep
  rw [in_fold]
  cases hf : h.ready.find? (isD r.deed) with
  | none => simp
  | some x => simp
theorem done_grows (h : Hs) (r : Rc) : ∃ t, (refStep h r).done = h.done ++ t := by
  rw [step_done]
  split
  · exact ⟨[], by simp⟩
  · split
    · exact ⟨_, rfl⟩
    · exact ⟨[], by simp⟩
theorem fold_done : ∀ (l : List Rc) (h : Hs), ∃ t, (l.foldl refStep h).done = h.done ++ t
  | [], h => ⟨[], by simp⟩
  | r :: l, h => by
    obtain ⟨t, e⟩ := done_grows h r
    obtain ⟨t', e'⟩ := fold_done l (refStep h r)
    exact ⟨t ++ t', by rw [List.foldl_cons, e', e, List.append_assoc]⟩
theorem house_app (l more : List Rc) : houseR (l ++ more) = { (more.foldl refStep (houseR l)) with log := l ++ more } := by
  unfold houseR
  rw [List.foldl_append]
  have := fold_log l ⟨l, ⟨0, 0, 0, 0⟩, [], []⟩ (l ++ more)
  simp only at this
  rw [this, fold_log]
theorem done_app (l more : List Rc) : ∃ t, (houseR (l ++ more)).done = (houseR l).done ++ t := by
  rw [house_app]
  exact fold_done more _
theorem fine_zero : Fine ([] : List Rd) := ⟨by simp, by simp⟩
theorem house_fine {l : List Rc} (h : ∀ r ∈ l, 0 ≤ r.deed) : Fine (houseR l).ready := fold_fine l _ fine_zero h
/-- LogStill's own loop -/
def stillF (r : Rc) (s : Sm) (l : List Rd) : Sm := l.foldl (fun s q => if q.deed = r.deed ∧ r.kind = 2 then doP s q.parts else s) s
theorem still_none {r : Rc} : ∀ {l : List Rd} (s : Sm), (∀ x ∈ l, x.deed ≠ r.deed) → stillF r s l = s
  | [], _, _ => rfl
  | x :: l, s, h => by
    unfold stillF
    rw [List.foldl_cons, if_neg (fun e => h x List.mem_cons_self e.1)]
    exact still_none s fun y hy => h y (List.mem_cons_of_mem _ hy)
theorem still_find {r : Rc} : ∀ {l : List Rd} (s : Sm), (l.map (·.deed)).Nodup → stillF r s l = (match l.find? (isD r.deed) with | none => s | some x => if r.kind = 2 then doP s x.parts else s)
  | [], _, _ => rfl
  | x :: l, s, hn => by
    rw [List.map_cons, List.nodup_cons] at hn
    unfold stillF
    rw [List.foldl_cons]
    by_cases h : x.deed = r.deed
    · rw [List.find?_cons_of_pos (by simp [isD, h])]
      have := still_none (r := r) (l := l) (if x.deed = r.deed ∧ r.kind = 2 then doP s x.parts else s) fun y hy e => hn.1 (List.mem_map.2 ⟨y, hy, by rw [e, h]⟩)
      unfold stillF at this
      rw [this]
      simp [h]
    · rw [List.find?_cons_of_neg (by simp [isD, h]), if_neg (fun e => h e.1)]
      exact still_find s hn.2
theorem still_law {l : List Rc} (r : Rc) (h : ∀ r ∈ l, 0 ≤ r.deed) : (houseR (l ++ [r])).sums = stillF r (houseR l).sums (houseR l).ready := by
  rw [house_snoc, still_find _ (house_fine h).nodup]
  exact step_sums _ _
end Go.Proofs.Ytgbhpghgohggcaa

/- Plain: HouseTwice's and HouseWord's laws. -/
namespace Go.Proofs.Ytgbhpghgohggcaa
theorem note_done {h : Hs} (hm : Made h) (r : Rc) : (noteE h r).done = (refStep h r).done := by rw [note_step hm]
theorem ready_erase {l : List Rd} {d : Int} (hn : (l.map (·.deed)).Nodup) : readyE (l.eraseP (isD d)) d = false := by
  induction l with
  | nil => rfl
  | cons x l ih =>
    rw [List.map_cons, List.nodup_cons] at hn
    by_cases h : isD d x = true
    · rw [List.eraseP_cons_of_pos h]
      unfold readyE
      rw [List.any_eq_false]
      intro y hy hd
      have h1 : x.deed = d := by simpa [isD] using h
      have h2 : y.deed = d := by simpa [isD] using hd
      exact hn.1 (List.mem_map.2 ⟨y, hy, by rw [h1, h2]⟩)
    · rw [List.eraseP_cons_of_neg h]
      have := ih hn.2
      unfold readyE at this ⊢
      rw [List.any_cons, this]
      simpa using h
theorem ready_other {l : List Rd} {d e : Int} (h : readyE l d = true) (hne : e ≠ d) : readyE (l.eraseP (isD e)) d = true := by
  unfold readyE at h ⊢
  rw [List.any_eq_true] at h ⊢
  obtain ⟨x, hx, hd⟩ := h
  refine ⟨x, ?_, hd⟩
  rw [List.mem_eraseP_of_neg]
  · exact hx
  · have : x.deed = d := by simpa [isD] using hd
    simp [isD, this]; exact fun e' => hne e'.symm
theorem find_ready {l : List Rd} {d : Int} (h : readyE l d = true) : ∃ x, l.find? (isD d) = some x := by
  rw [readyE_find] at h
  exact Option.isSome_iff_exists.1 h
theorem find_unready {l : List Rd} {d : Int} (h : readyE l d = false) : l.find? (isD d) = none := by
  rw [readyE_find] at h
  simpa using h
theorem who_ready {l : List Rd} {d key : Int} (hd : 0 ≤ d) (h : readyE l d = false) : whoE l key ≠ d := by
  rcases who_mem l key with h2 | ⟨y, hy, h2⟩
  · omega
  · intro e
    unfold readyE at h
    rw [List.any_eq_false] at h
    exact h y hy (by simp [isD]; omega)
/-- what a note makes of a house, told by kinds -/
theorem note1 {h : Hs} (hm : Made h) {d : Int} (ps : List Pt) (hr : readyE h.ready d = false) : (noteE h ⟨1, d, ps⟩).ready = h.ready ++ [⟨d, ps⟩] ∧ (noteE h ⟨1, d, ps⟩).done = h.done := by
  rw [note_ready hm, note_done hm, step_ready, step_done]
  simp [find_unready hr]
theorem note2 {h : Hs} (hm : Made h) {d : Int} (hr : readyE h.ready d = true) : (noteE h ⟨2, d, []⟩).ready = h.ready.eraseP (isD d) ∧ (noteE h ⟨2, d, []⟩).done = h.done ++ [d] := by
  obtain ⟨x, hx⟩ := find_ready hr
  rw [note_ready hm, note_done hm, step_ready, step_done]
  simp [hx]
theorem note3 {h : Hs} (hm : Made h) {d : Int} (hr : readyE h.ready d = true) : (noteE h ⟨3, d, []⟩).ready = h.ready.eraseP (isD d) ∧ (noteE h ⟨3, d, []⟩).done = h.done := by
  obtain ⟨x, hx⟩ := find_ready hr
  rw [note_ready hm, note_done hm, step_ready, step_done]
  simp [hx]
theorem twice_law {h : Hs} (hm : Made h) (hf : Fine h.ready) (me : Int) (m : Ms) : hearH (hearH h m) m = hearH h m ∧ (m.kind = 5 ∨ hearM (hearH h m) me m = hearM h me m) := by
  obtain ⟨kind, d, house, ps⟩ := m
  by_cases h1 : kind = 1
  · subst h1
    by_cases hv : voteE h d ps = 0 ∧ readyE h.ready d = false
    · have e : hearH h ⟨1, d, house, ps⟩ = noteE h ⟨1, d, ps⟩ := by unfold hearH; rw [if_pos rfl, if_pos hv]
      have hnd : d ∉ h.done := by
        intro hd
        have := hv.1
        unfold voteE at this
        rw [if_pos hd] at this
        cases this
      obtain ⟨e1, e2⟩ := note1 hm ps hv.2
      have er : readyE (noteE h ⟨1, d, ps⟩).ready d = true := by rw [e1]; simp [readyE, isD]
      have ev : voteE (noteE h ⟨1, d, ps⟩) d ps = 0 := by
        unfold voteE
        rw [e2, if_neg hnd, if_pos er]
      refine ⟨?_, .inr ?_⟩
      · rw [e]
        unfold hearH
        rw [if_pos rfl, if_neg (by show ¬ (_ ∧ readyE (noteE h ⟨1, d, ps⟩).ready d = false); rw [er]; simp)]
      · rw [e]
        unfold hearM
        simp only [if_true]
        rw [ev, hv.1]
    · have e : hearH h ⟨1, d, house, ps⟩ = h := by unfold hearH; rw [if_pos rfl, if_neg hv]
      rw [e, e]
      exact ⟨rfl, .inr rfl⟩
  by_cases h4 : kind = 4
  · subst h4
    by_cases hr : readyE h.ready d = true
    · have e : hearH h ⟨4, d, house, ps⟩ = noteE h ⟨2, d, []⟩ := by unfold hearH; simp [hr]
      obtain ⟨e1, e2⟩ := note2 hm hr
      have er : readyE (noteE h ⟨2, d, []⟩).ready d = false := by rw [e1]; exact ready_erase hf.nodup
      have e' : hearH (noteE h ⟨2, d, []⟩) ⟨4, d, house, ps⟩ = noteE h ⟨2, d, []⟩ := by
        unfold hearH
        simp [er]
      rw [e, e']
      refine ⟨rfl, .inr ?_⟩
      unfold hearM
      simp [e', e]
    · have e : hearH h ⟨4, d, house, ps⟩ = h := by unfold hearH; simp [hr]
      rw [e, e]
      exact ⟨rfl, .inr rfl⟩
  by_cases h5 : kind = 5
  · subst h5
    by_cases hr : readyE h.ready d = true
    · have e : hearH h ⟨5, d, house, ps⟩ = noteE h ⟨3, d, []⟩ := by unfold hearH; simp [hr]
      obtain ⟨e1, e2⟩ := note3 hm hr
      have er : readyE (noteE h ⟨3, d, []⟩).ready d = false := by rw [e1]; exact ready_erase hf.nodup
      rw [e]
      refine ⟨?_, .inl rfl⟩
      unfold hearH
      simp [er]
    · have e : hearH h ⟨5, d, house, ps⟩ = h := by unfold hearH; simp [hr]
      rw [e, e]
      exact ⟨rfl, .inl rfl⟩
  · have e : hearH h ⟨kind, d, house, ps⟩ = h := by unfold hearH; simp [h1, h4, h5]
    rw [e, e]
    exact ⟨rfl, .inr rfl⟩
/-- who said yes to a deed is ready for it, or did it -/
def Kept (h : Hs) (d : Int) : Prop := readyE h.ready d = true ∨ d ∈ h.done
theorem kept_hear {h : Hs} (hm : Made h) {d : Int} (hk : Kept h d) {m : Ms} (ha : ¬ (m.deed = d ∧ m.kind = 5)) : Kept (hearH h m) d := by
  obtain ⟨kind, e, house, ps⟩ := m
  by_cases h1 : kind = 1
  · subst h1
    by_cases hv : voteE h e ps = 0 ∧ readyE h.ready e = false
    · rw [show hearH h ⟨1, e, house, ps⟩ = noteE h ⟨1, e, ps⟩ by unfold hearH; rw [if_pos rfl, if_pos hv]]
      obtain ⟨e1, e2⟩ := note1 hm ps hv.2
      unfold Kept
      rw [e1, e2]
      rcases hk with hk | hk
      · refine .inl ?_
        unfold readyE at hk ⊢
        rw [List.any_append, hk]; rfl
      · exact .inr hk
    · rw [show hearH h ⟨1, e, house, ps⟩ = h by unfold hearH; rw [if_pos rfl, if_neg hv]]
      exact hk
  by_cases h4 : kind = 4
  · subst h4
    by_cases hr : readyE h.ready e = true
    · rw [show hearH h ⟨4, e, house, ps⟩ = noteE h ⟨2, e, []⟩ by unfold hearH; simp [hr]]
      obtain ⟨e1, e2⟩ := note2 hm hr
      unfold Kept
      rw [e1, e2]
      by_cases hd : e = d
      · subst hd
        exact .inr (by simp)
      · rcases hk with hk | hk
        · exact .inl (ready_other hk hd)
        · exact .inr (by simp [hk])
    · rw [show hearH h ⟨4, e, house, ps⟩ = h by unfold hearH; simp [hr]]
      exact hk
  by_cases h5 : kind = 5
  · subst h5
    have hd : e ≠ d := fun h => ha ⟨h, rfl⟩
    by_cases hr : readyE h.ready e = true
    · rw [show hearH h ⟨5, e, house, ps⟩ = noteE h ⟨3, e, []⟩ by unfold hearH; simp [hr]]
      obtain ⟨e1, e2⟩ := note3 hm hr
      unfold Kept
      rw [e1, e2]
      rcases hk with hk | hk
      · exact .inl (ready_other hk hd)
      · exact .inr hk
    · rw [show hearH h ⟨5, e, house, ps⟩ = h by unfold hearH; simp [hr]]
      exact hk
  · rw [show hearH h ⟨kind, e, house, ps⟩ = h by unfold hearH; simp [h1, h4, h5]]
    exact hk
theorem kept_yes {h : Hs} (hm : Made h) {me : Int} {m : Ms} (hk : m.kind = 1) {x : Ms} (hx : hearM h me m = [x]) (h2 : x.kind = 2) : Kept (hearH h m) m.deed := by
  obtain ⟨kind, d, house, ps⟩ := m
  simp only at hk
  subst hk
  unfold hearM at hx
  rw [if_pos rfl] at hx
  split at hx
  · cases hx
  split at hx
  · rename_i hv0
    simp only at hv0
    by_cases hv : voteE h d ps = 0 ∧ readyE h.ready d = false
    · rw [show hearH h ⟨1, d, house, ps⟩ = noteE h ⟨1, d, ps⟩ by unfold hearH; rw [if_pos rfl, if_pos hv]]
      obtain ⟨e1, e2⟩ := note1 hm ps hv.2
      exact .inl (by rw [e1]; simp [readyE, isD])
    · rw [show hearH h ⟨1, d, house, ps⟩ = h by unfold hearH; rw [if_pos rfl, if_neg hv]]
      refine .inl ?_
      cases hr : readyE h.ready d with
      | true => rfl
      | false => exact absurd ⟨hv0, hr⟩ hv
  · unfold sayE at hx
    obtain rfl : _ = x := by simpa using hx
    simp at h2
theorem word_law {h : Hs} (hm : Made h) (hf : Fine h.ready) {d me : Int} (hd : 0 ≤ d) (hk : Kept h d) (house key : Int) :
    d ∈ (hearH h ⟨4, d, house, []⟩).done ∧ hearM h me ⟨4, d, house, []⟩ = sayE 6 d me ∧ whoE (hearH h ⟨4, d, house, []⟩).ready key ≠ d := by
  by_cases hr : readyE h.ready d = true
  · have e : hearH h ⟨4, d, house, []⟩ = noteE h ⟨2, d, []⟩ := by unfold hearH; simp [hr]
    obtain ⟨e1, e2⟩ := note2 hm hr
    have hin : d ∈ (noteE h ⟨2, d, []⟩).done := by rw [e2]; simp
    refine ⟨by rw [e]; exact hin, ?_, ?_⟩
    · unfold hearM
      rw [e]
      simp [hin]
    · rw [e, e1]
      exact who_ready hd (ready_erase hf.nodup)
  · have e : hearH h ⟨4, d, house, []⟩ = h := by unfold hearH; simp [hr]
    have hin : d ∈ h.done := by
      rcases hk with hk | hk
      · exact absurd hk hr
      · exact hk
    refine ⟨by rw [e]; exact hin, ?_, ?_⟩
    · unfold hearM
      rw [e]
      simp [hin]
    · rw [e]
      exact who_ready hd (by simpa using hr)
theorem fine_hear {h : Hs} (hm : Made h) (hf : Fine h.ready) {m : Ms} (hd : 0 ≤ m.deed) : Fine (hearH h m).ready := by
  unfold hearH
  split
  · split
    · rw [note_ready hm]; exact fine_step hf hd
    · exact hf
  · split
    · split
      · rw [note_ready hm]; exact fine_step hf hd
      · exact hf
    · split
      · split
        · rw [note_ready hm]; exact fine_step hf hd
        · exact hf
      · exact hf
end Go.Proofs.Ytgbhpghgohggcaa

/- Plain: amounts of parts at keys. -/
namespace Go.Proofs.Ytgbhpghgohggcaa
open Go.RowKit
def atK (k q : Int) (p : Pt) : Bool := p.h == k && p.k == q
def has (k q : Int) (P : List Pt) : Bool := (P.find? (atK k q)).isSome
/-- what parts put at a key -/
def amt (k q : Int) (P : List Pt) : Int := match P.find? (atK k q) with | some p => p.n | none => 0
def tot (k q : Int) : List Rd → Int
  | [] => 0
  | r :: D => amt k q r.parts + tot k q D
theorem tot_app (k q : Int) : ∀ A B : List Rd, tot k q (A ++ B) = tot k q A + tot k q B
  | [], B => by simp [tot]
  | r :: A, B => by rw [List.cons_append, tot, tot, tot_app k q A B]; omega
theorem amt_none {k q : Int} {P : List Pt} (h : has k q P = false) : amt k q P = 0 := by
  unfold has at h
  unfold amt
  cases hf : P.find? (atK k q) with
  | none => rfl
  | some p => rw [hf] at h; cases h
theorem has_mem {k q : Int} {P : List Pt} : has k q P = true ↔ ∃ p ∈ P, p.h = k ∧ p.k = q := by
  unfold has
  rw [List.find?_isSome]
  constructor
  · rintro ⟨p, hp, h⟩
    simp only [atK, Bool.and_eq_true, beq_iff_eq] at h
    exact ⟨p, hp, h⟩
  · rintro ⟨p, hp, h1, h2⟩
    exact ⟨p, hp, by simp [atK, h1, h2]⟩
theorem amt_bound {n : Int} {P : List Pt} (hw : wrongE P n = 0) (k q : Int) : -1048576 ≤ amt k q P ∧ amt k q P ≤ 1048576 := by
  unfold amt
  cases hf : P.find? (atK k q) with
  | none => simp
  | some p =>
    have := (wrong_ok hw).2.2.1 p (List.mem_of_find?_eq_some hf)
    exact ⟨by simp only; omega, by simp only; omega⟩
theorem tot_filter {k q : Int} {p : Rd → Bool} : ∀ {D : List Rd}, (∀ r ∈ D, p r = false → amt k q r.parts = 0) → tot k q (D.filter p) = tot k q D
  | [], _ => rfl
  | r :: D, h => by
    have ih := tot_filter (p := p) (D := D) fun x hx => h x (List.mem_cons_of_mem _ hx)
    cases hp : p r with
    | true => rw [List.filter_cons_of_pos hp, tot, tot, ih]
    | false =>
      rw [List.filter_cons_of_neg (by simp [hp]), tot, ih, h r List.mem_cons_self hp]; omega
theorem keyFold_none {q : Int} : ∀ {l : List Pt} (x : Int), (∀ p ∈ l, p.k ≠ q) → keyFold x l q = x
  | [], x, _ => rfl
  | p :: l, x, h => by
    show keyFold (if p.k = q then _ else x) l q = x
    rw [if_neg (h p List.mem_cons_self)]
    exact keyFold_none x fun r hr => h r (List.mem_cons_of_mem _ hr)
theorem keyFold_find {q : Int} : ∀ {l : List Pt} (x : Int), (l.map (·.k)).Nodup → keyFold x l q = (match l.find? (fun p => p.k == q) with | some p => wrap64 (x + p.n) | none => x)
  | [], x, _ => rfl
  | p :: l, x, h => by
    rw [List.map_cons, List.nodup_cons] at h
    show keyFold (if p.k = q then wrap64 (x + p.n) else x) l q = _
    by_cases hq : p.k = q
    · rw [if_pos hq, List.find?_cons_of_pos (by simpa using hq)]
      exact keyFold_none _ fun r hr e => h.1 (List.mem_map.2 ⟨r, hr, by rw [e, hq]⟩)
    · rw [if_neg hq, List.find?_cons_of_neg (by simpa using hq)]
      exact keyFold_find x h.2
theorem ofL_keys {n : Int} {P : List Pt} (hw : wrongE P n = 0) (k : Int) : ((ofL P k).map (·.k)).Nodup := by
  refine nodup_keys (h := k) ((wrong_ok hw).2.2.2.sublist ((List.filter_sublist).map _)) fun p hp => ?_
  unfold ofL at hp
  have := (List.mem_filter.1 hp).2
  simpa using this
theorem ofL_find (P : List Pt) (k q : Int) : (ofL P k).find? (fun p => p.k == q) = P.find? (atK k q) := by
  unfold ofL
  rw [List.find?_filter]
  congr 1
  funext a
  by_cases h1 : a.h = k <;> by_cases h2 : a.k = q <;> simp [atK, h1, h2]
theorem ofL_ok {n : Int} {P : List Pt} (hw : wrongE P n = 0) (k : Int) : KeysOk (ofL P k) := fun p hp => by
  unfold ofL at hp
  exact wrong_keys hw p (List.mem_filter.1 hp).1
theorem rightS_get {s : Sm} : rightS s = true ↔ ∀ q : Int, 0 ≤ q → q < 4 → 0 ≤ s.get q ∧ s.get q ≤ 1048576 := by
  rw [rightS_iff]
  constructor
  · intro h q h0 h1
    have := h q.toNat (by omega)
    rwa [show ((q.toNat : Nat) : Int) = q by omega] at this
  · intro h k hk
    exact h k (by omega) (by omega)
theorem doP_sum {n : Int} {P : List Pt} (hw : wrongE P n = 0) {s : Sm} (hs : rightS s = true) (k : Int) {q : Int} (h0 : 0 ≤ q) (h1 : q < 4) : (doP s (ofL P k)).get q = s.get q + amt k q P := by
  rw [doP_get _ _ (ofL_ok hw k) q h0 h1, keyFold_find _ (ofL_keys hw k), ofL_find]
  have hb := amt_bound hw k q
  have hr := rightS_get.1 hs q h0 h1
  unfold amt at hb ⊢
  cases hf : P.find? (atK k q) with
  | none => simp
  | some p =>
    rw [hf] at hb
    simp only at hb ⊢
    unfold wrap64; omega
theorem fits_all {S : Int → Int} : ∀ {l : List Pt}, fitsE S l = 0 ↔ ∀ p ∈ l, 0 ≤ wrap64 (S p.k + p.n) ∧ wrap64 (S p.k + p.n) ≤ 1048576
  | [] => by simp [fitsE]
  | p :: l => by
    rw [fitsE]
    constructor
    · intro h
      split at h
      · cases h
      split at h
      · cases h
      intro r hr
      rcases List.mem_cons.1 hr with rfl | hr
      · omega
      · exact fits_all.1 h r hr
    · intro h
      have := h p List.mem_cons_self
      rw [if_neg (by omega), if_neg (by omega)]
      exact fits_all.2 fun r hr => h r (List.mem_cons_of_mem _ hr)
theorem fits_sum {n : Int} {P : List Pt} (hw : wrongE P n = 0) {s : Sm} (hs : rightS s = true) (k : Int) : fitsE s.get (ofL P k) = 0 ↔ ∀ q : Int, 0 ≤ q → q < 4 → 0 ≤ s.get q + amt k q P ∧ s.get q + amt k q P ≤ 1048576 := by
  rw [fits_all]
  constructor
  · intro h q h0 h1
    have hr := rightS_get.1 hs q h0 h1
    have hb := amt_bound hw k q
    unfold amt at hb ⊢
    cases hf : P.find? (atK k q) with
    | none => simp only; omega
    | some p =>
      rw [hf] at hb
      simp only at hb ⊢
      have hp := List.mem_of_find?_eq_some hf
      have ha := List.find?_some hf
      simp only [atK, Bool.and_eq_true, beq_iff_eq] at ha
      have := h p (by unfold ofL; exact List.mem_filter.2 ⟨hp, by simp [ha.1]⟩)
      rw [ha.2] at this
      unfold wrap64 at this
      omega
  · intro h p hp
    have hk := ofL_ok hw k p hp
    have hr := rightS_get.1 hs p.k hk.1 hk.2
    have := h p.k hk.1 hk.2
    have hf : (ofL P k).find? (fun r => r.k == p.k) = some p := by
      have hn := ofL_keys hw k
      have hall : ∀ (l : List Pt), (l.map (·.k)).Nodup → p ∈ l → l.find? (fun r => r.k == p.k) = some p := by
        intro l
        induction l with
        | nil => intro _ h; simp at h
        | cons x l ih =>
          intro hn hm
          rw [List.map_cons, List.nodup_cons] at hn
          rcases List.mem_cons.1 hm with rfl | hm
          · rw [List.find?_cons_of_pos (by simp)]
          · have hne : x.k ≠ p.k := fun e => hn.1 (List.mem_map.2 ⟨p, hm, e.symm⟩)
            rw [List.find?_cons_of_neg (by simpa using hne)]
            exact ih hn.2 hm
      exact hall _ hn hp
    rw [ofL_find] at hf
    unfold amt at this
    rw [hf] at this
    simp only at this
    unfold wrap64
    omega
theorem fits_congr {S T : Int → Int} : ∀ {l : List Pt}, (∀ p ∈ l, S p.k = T p.k) → fitsE S l = fitsE T l
  | [], _ => rfl
  | p :: l, h => by rw [fitsE, fitsE, h p List.mem_cons_self, fits_congr fun r hr => h r (List.mem_cons_of_mem _ hr)]
theorem houses_mem {P : List Pt} {k : Int} : k ∈ housesE P ↔ (k = 0 ∨ k = 1 ∨ k = 2) ∧ ofL P k ≠ [] := by
  unfold housesE ofL
  rw [List.mem_filter]
  constructor
  · rintro ⟨h1, h2⟩
    refine ⟨by simpa using h1, fun e => ?_⟩
    obtain ⟨p, hp, hk⟩ := List.any_eq_true.1 h2
    have : p ∈ P.filter (fun p => p.h == k) := List.mem_filter.2 ⟨hp, hk⟩
    rw [e] at this; simp at this
  · rintro ⟨h1, h2⟩
    refine ⟨by simpa using h1, ?_⟩
    obtain ⟨p, hp⟩ := List.exists_mem_of_ne_nil _ h2
    obtain ⟨h3, h4⟩ := List.mem_filter.1 hp
    exact List.any_eq_true.2 ⟨p, h3, h4⟩
theorem houses_nodup (P : List Pt) : (housesE P).Nodup := by
  unfold housesE
  exact List.Nodup.sublist List.filter_sublist (by decide)
theorem houses_lt {P : List Pt} {n : Int} (hw : wrongE P n = 0) {k : Int} (h : k ∈ housesE P) : 0 ≤ k ∧ k < n := by
  obtain ⟨h1, h2⟩ := houses_mem.1 h
  obtain ⟨p, hp⟩ := List.exists_mem_of_ne_nil _ h2
  unfold ofL at hp
  obtain ⟨h3, h4⟩ := List.mem_filter.1 hp
  have := (wrong_ok hw).2.2.1 p h3
  have h5 : p.h = k := by simpa using h4
  omega
theorem has_houses {P : List Pt} {n : Int} (hw : wrongE P n = 0) (hn : n ≤ 3) {k q : Int} (h : has k q P = true) : k ∈ housesE P ∧ 0 ≤ q ∧ q < 4 := by
  obtain ⟨p, hp, h1, h2⟩ := has_mem.1 h
  have := (wrong_ok hw).2.2.1 p hp
  refine ⟨houses_mem.2 ⟨by omega, ?_⟩, by omega, by omega⟩
  intro e
  have : p ∈ ofL P k := by unfold ofL; exact List.mem_filter.2 ⟨hp, by simp [h1]⟩
  rw [e] at this; simp at this
theorem has_keys {P : List Pt} {k q : Int} (h : has k q P = true) : q ∈ (ofL P k).map (·.k) := by
  obtain ⟨p, hp, h1, h2⟩ := has_mem.1 h
  exact List.mem_map.2 ⟨p, by unfold ofL; exact List.mem_filter.2 ⟨hp, by simp [h1]⟩, h2⟩
theorem houses_some {P : List Pt} {n : Int} (hw : wrongE P n = 0) (hn : n ≤ 3) : 0 < (housesE P).length := by
  obtain ⟨h1, h2, h3, h4⟩ := wrong_ok hw
  obtain ⟨p, hp⟩ := List.exists_mem_of_length_pos h1
  have hb := h3 p hp
  have : p.h ∈ housesE P := houses_mem.2 ⟨by omega, fun e => by
    have : p ∈ ofL P p.h := by unfold ofL; exact List.mem_filter.2 ⟨hp, by simp⟩
    rw [e] at this; simp at this⟩
  exact List.length_pos_of_mem this
end Go.Proofs.Ytgbhpghgohggcaa

/- Plain: a deed at all houses at once. -/
namespace Go.Proofs.Ytgbhpghgohggcaa
open Go.RowKit
/-- the first house's error -/
def errGo (P : List Pt) : Nat → List Sm → Int
  | _, [] => 0
  | k, s :: l => if fitsE s.get (ofL P k) = 0 then errGo P (k + 1) l else fitsE s.get (ofL P k)
def putGo (P : List Pt) : Nat → List Sm → List Sm
  | _, [] => []
  | k, s :: l => doP s (ofL P k) :: putGo P (k + 1) l
/-- a deed at once, at all houses -/
def doAllE (sums : List Sm) (P : List Pt) : List Sm × Int := if errGo P 0 sums = 0 then (putGo P 0 sums, 0) else (sums, errGo P 0 sums)
/-- deeds, one by one -/
def allE (sums : List Sm) : List Rd → List Sm × List Int
  | [] => (sums, [])
  | r :: D => ((allE (doAllE sums r.parts).1 D).1, (doAllE sums r.parts).2 :: (allE (doAllE sums r.parts).1 D).2)
theorem errGo_zero {P : List Pt} : ∀ {l : List Sm} {k0 : Nat}, (∀ (k : Nat) s, l[k]? = some s → fitsE s.get (ofL P ((k0 + k : Nat) : Int)) = 0) → errGo P k0 l = 0
  | [], _, _ => rfl
  | s :: l, k0, h => by
    unfold errGo
    rw [if_pos (by simpa using h 0 s rfl)]
    exact errGo_zero fun k t ht => by
      have := h (k + 1) t (by simpa using ht)
      rwa [show k0 + (k + 1) = k0 + 1 + k by omega] at this
theorem putGo_get {P : List Pt} : ∀ {l : List Sm} {k0 : Nat} (k : Nat), (putGo P k0 l)[k]? = (l[k]?).map fun s => doP s (ofL P ((k0 + k : Nat) : Int))
  | [], _, k => by simp [putGo]
  | s :: l, k0, 0 => by simp [putGo]
  | s :: l, k0, k + 1 => by
    unfold putGo
    rw [List.getElem?_cons_succ, List.getElem?_cons_succ, putGo_get k, show k0 + 1 + k = k0 + (k + 1) by omega]
theorem putGo_len {P : List Pt} : ∀ (l : List Sm) (k0 : Nat), (putGo P k0 l).length = l.length
  | [], _ => rfl
  | s :: l, k0 => by unfold putGo; simp [putGo_len l]
def psum : List Pt → Int
  | [] => 0
  | p :: l => p.n + psum l
def S12 (f : Int → Int → Int) : Int := (f 0 0 + f 0 1 + f 0 2 + f 0 3) + (f 1 0 + f 1 1 + f 1 2 + f 1 3) + (f 2 0 + f 2 1 + f 2 2 + f 2 3)
theorem amt_cons {p : Pt} {P : List Pt} (hn : ((p :: P).map fun p => (p.h, p.k)).Nodup) (k q : Int) : amt k q (p :: P) = (if k = p.h ∧ q = p.k then p.n else 0) + amt k q P := by
  rw [List.map_cons, List.nodup_cons] at hn
  by_cases h : k = p.h ∧ q = p.k
  · rw [if_pos h]
    have h0 : has k q P = false := by
      cases hh : has k q P with
      | false => rfl
      | true =>
        obtain ⟨r, hr, a, b⟩ := has_mem.1 hh
        exact absurd (List.mem_map.2 ⟨r, hr, by rw [a, b, h.1, h.2]⟩) hn.1
    rw [amt_none h0]
    unfold amt
    rw [List.find?_cons_of_pos (by simp [atK, h.1, h.2])]
    simp
  · rw [if_neg h]
    unfold amt
    rw [List.find?_cons_of_neg (by simp only [atK, Bool.and_eq_true, beq_iff_eq]; rintro ⟨a, b⟩; exact h ⟨a.symm, b.symm⟩)]
    simp
theorem S12_amt : ∀ {P : List Pt}, (P.map fun p => (p.h, p.k)).Nodup → (∀ p ∈ P, 0 ≤ p.h ∧ p.h < 3 ∧ 0 ≤ p.k ∧ p.k < 4) → S12 (fun k q => amt k q P) = psum P
  | [], _, _ => rfl
  | p :: P, hn, hp => by
    have ih := S12_amt (P := P) (by rw [List.map_cons, List.nodup_cons] at hn; exact hn.2) fun x hx => hp x (List.mem_cons_of_mem _ hx)
    have h0 := hp p List.mem_cons_self
    simp only [S12] at ih ⊢
    simp only [amt_cons hn, psum]
    have a : p.h = 0 ∨ p.h = 1 ∨ p.h = 2 := by omega
    have b : p.k = 0 ∨ p.k = 1 ∨ p.k = 2 ∨ p.k = 3 := by omega
    rcases a with a | a | a <;> rcases b with b | b | b | b <;> simp [a, b] <;> omega
def smSum (s : Sm) : Int := s.a + s.b + s.c + s.d
end Go.Proofs.Ytgbhpghgohggcaa

/- Plain: houses of parts, found one by one and sorted; a deed at the houses that it has parts at. -/
namespace Go.Proofs.Ytgbhpghgohggcaa
open Go.RowKit
/-- two rising lists of the same numbers are the same -/
theorem sorted_ext : ∀ {a b : List Int}, a.Pairwise (· < ·) → b.Pairwise (· < ·) → (∀ x, x ∈ a ↔ x ∈ b) → a = b
  | [], [], _, _, _ => rfl
  | [], y :: b, _, _, h => absurd ((h y).2 List.mem_cons_self) (by simp)
  | x :: a, [], _, _, h => absurd ((h x).1 List.mem_cons_self) (by simp)
  | x :: a, y :: b, ha, hb, h => by
    rw [List.pairwise_cons] at ha hb
    have hxy : x = y := by
      rcases List.mem_cons.1 ((h x).1 List.mem_cons_self) with e | e
      · exact e
      · rcases List.mem_cons.1 ((h y).2 List.mem_cons_self) with e' | e'
        · exact e'.symm
        · have := hb.1 x e; have := ha.1 y e'; omega
    subst hxy
    rw [sorted_ext ha.2 hb.2 fun z => ⟨fun hz => by
      rcases List.mem_cons.1 ((h z).1 (List.mem_cons_of_mem _ hz)) with e | e
      · have := ha.1 z hz; omega
      · exact e, fun hz => by
      rcases List.mem_cons.1 ((h z).2 (List.mem_cons_of_mem _ hz)) with e | e
      · have := hb.1 z hz; omega
      · exact e⟩]
/-- houses, one by one, each once -/
def dedupE : List Int → List Pt → List Int
  | had, [] => had
  | had, p :: l => dedupE (if p.h ∈ had then had else had ++ [p.h]) l
theorem dedup_mem : ∀ {l : List Pt} {had : List Int} {x : Int}, x ∈ dedupE had l ↔ x ∈ had ∨ ∃ p ∈ l, p.h = x
  | [], had, x => by simp [dedupE]
  | p :: l, had, x => by
    rw [dedupE, dedup_mem]
    split
    · rename_i hp
      constructor
      · rintro (h | ⟨q, hq, rfl⟩)
        · exact .inl h
        · exact .inr ⟨q, List.mem_cons_of_mem _ hq, rfl⟩
      · rintro (h | ⟨q, hq, rfl⟩)
        · exact .inl h
        · rcases List.mem_cons.1 hq with rfl | hq
          · exact .inl hp
          · exact .inr ⟨q, hq, rfl⟩
    · constructor
      · rintro (h | ⟨q, hq, rfl⟩)
        · rcases List.mem_append.1 h with h | h
          · exact .inl h
          · exact .inr ⟨p, List.mem_cons_self, (by simpa using h : x = p.h).symm⟩
        · exact .inr ⟨q, List.mem_cons_of_mem _ hq, rfl⟩
      · rintro (h | ⟨q, hq, rfl⟩)
        · exact .inl (List.mem_append_left _ h)
        · rcases List.mem_cons.1 hq with rfl | hq
          · exact .inl (by simp)
          · exact .inr ⟨q, hq, rfl⟩
theorem dedup_nodup : ∀ {l : List Pt} {had : List Int}, had.Nodup → (dedupE had l).Nodup
  | [], _, h => h
  | p :: l, had, h => by
    rw [dedupE]
    apply dedup_nodup
    split
    · exact h
    · rename_i hp
      rw [List.nodup_append]
      exact ⟨h, by simp, fun a ha b hb => by simp only [List.mem_singleton] at hb; subst hb; rintro rfl; exact hp ha⟩
theorem dedup_len : ∀ (l : List Pt) (had : List Int), (dedupE had l).length ≤ had.length + l.length
  | [], _ => by simp [dedupE]
  | p :: l, had => by
    rw [dedupE]
    have := dedup_len l (if p.h ∈ had then had else had ++ [p.h])
    have h2 : (if p.h ∈ had then had else had ++ [p.h]).length ≤ had.length + 1 := by split <;> simp
    simp only [List.length_cons]; omega
/-- sorted: rising, if each is there once -/
theorem sort_rise {l : List Int} (h : l.Nodup) : (l.mergeSort fun x y => decide (x ≤ y)).Pairwise (· < ·) := by
  have h1 : (l.mergeSort fun x y => decide (x ≤ y)).Pairwise fun a b => decide (a ≤ b) = true :=
    List.pairwise_mergeSort (fun a b c h1 h2 => by simp only [decide_eq_true_eq] at *; omega) (fun a b => by simp only [Bool.or_eq_true, decide_eq_true_eq]; omega) l
  have h2 : (l.mergeSort fun x y => decide (x ≤ y)).Nodup := (List.mergeSort_perm l _).nodup_iff.2 h
  exact (h1.and h2).imp fun {a b} h => by
    have := of_decide_eq_true h.1
    have h3 : a ≠ b := h.2
    omega
theorem houses_rise (l : List Pt) : (housesE l).Pairwise (· < ·) := by
  unfold housesE
  exact List.Pairwise.filter _ (by simp)
theorem mem_houses {l : List Pt} {x : Int} : x ∈ housesE l ↔ (x = 0 ∨ x = 1 ∨ x = 2) ∧ ∃ p ∈ l, p.h = x := by
  unfold housesE
  simp [List.mem_filter]
theorem houses_sort {l : List Pt} (h : ∀ p ∈ l, 0 ≤ p.h ∧ p.h < 3) : (dedupE [] l).mergeSort (fun x y => decide (x ≤ y)) = housesE l := by
  refine sorted_ext (sort_rise (dedup_nodup List.nodup_nil)) (houses_rise l) fun x => ?_
  rw [List.mem_mergeSort, dedup_mem, mem_houses]
  constructor
  · rintro (h0 | ⟨p, hp, rfl⟩)
    · simp at h0
    · have := h p hp
      exact ⟨by omega, p, hp, rfl⟩
  · rintro ⟨-, p, hp, rfl⟩
    exact .inr ⟨p, hp, rfl⟩
theorem ofL_none {l : List Pt} {n : Int} (h : n ∉ housesE l) (h0 : n = 0 ∨ n = 1 ∨ n = 2) : ofL l n = [] := by
  rw [mem_houses] at h
  unfold ofL
  rw [List.filter_eq_nil_iff]
  intro p hp e
  exact h ⟨h0, p, hp, by simpa using e⟩
/-- a deed at houses, one by one; an error ends it -/
def doGo (P : List Pt) (sums : List Sm) (out : List Sm) : List Int → List Sm × Int
  | [] => (out, 0)
  | n :: ns => if fitsE (sums.getD n.toNat ⟨0, 0, 0, 0⟩).get (ofL P n) = 0 then doGo P sums (out.set n.toNat (doP (sums.getD n.toNat ⟨0, 0, 0, 0⟩) (ofL P n))) ns else (sums, fitsE (sums.getD n.toNat ⟨0, 0, 0, 0⟩).get (ofL P n))
theorem fits_nil (f : Int → Int) : fitsE f [] = 0 := rfl
theorem doP_nil (s : Sm) : doP s [] = s := rfl
theorem doGo_all {P : List Pt} {sums : List Sm} (hl : 1 ≤ sums.length) (hl3 : sums.length ≤ 3) (hP : ∀ p ∈ P, 0 ≤ p.h ∧ p.h < sums.length) : doGo P sums sums (housesE P) = doAllE sums P := by
  have hn : ∀ n : Int, (n = 0 ∨ n = 1 ∨ n = 2) → (P.any fun p => p.h == n) = false → ofL P n = [] := fun n h0 h => by
    apply ofL_none _ h0
    rw [mem_houses]
    rintro ⟨-, p, hp, rfl⟩
    rw [List.any_eq_false] at h
    exact h p hp (by simp)
  have hb : ∀ n : Int, (sums.length : Int) ≤ n → (P.any fun p => p.h == n) = false := fun n h => by
    rw [List.any_eq_false]
    intro p hp e
    have := hP p hp
    simp only [beq_iff_eq] at e
    omega
  match sums, hl, hl3, hb with
  | [a], _, _, hb =>
    have b1 := hb 1 (by simp)
    have b2 := hb 2 (by simp)
    cases b0 : (P.any fun p => p.h == 0) with
    | false => simp [housesE, b0, b1, b2, doGo, doAllE, errGo, putGo, hn 0 (.inl rfl) b0, fits_nil, doP_nil]
    | true =>
      simp only [housesE, b0, b1, b2, doGo, doAllE, errGo, putGo, List.filter_cons, List.filter_nil, if_true, if_false, Bool.false_eq_true]
      split <;> simp_all
  | [a, b], _, _, hb =>
    have b2 := hb 2 (by simp)
    cases b0 : (P.any fun p => p.h == 0) <;> cases b1 : (P.any fun p => p.h == 1) <;>
      simp only [housesE, b0, b1, b2, doGo, doAllE, errGo, putGo, List.filter_cons, List.filter_nil, if_true, if_false, Bool.false_eq_true] <;>
      (try have e0 := hn 0 (.inl rfl) b0) <;> (try have e1 := hn 1 (.inr (.inl rfl)) b1) <;>
      simp_all [fits_nil, doP_nil] <;> (repeat' split) <;> simp_all
  | [a, b, c], _, _, hb =>
    cases b0 : (P.any fun p => p.h == 0) <;> cases b1 : (P.any fun p => p.h == 1) <;> cases b2 : (P.any fun p => p.h == 2) <;>
      simp only [housesE, b0, b1, b2, doGo, doAllE, errGo, putGo, List.filter_cons, List.filter_nil, if_true, if_false, Bool.false_eq_true] <;>
      (try have e0 := hn 0 (.inl rfl) b0) <;> (try have e1 := hn 1 (.inr (.inl rfl)) b1) <;> (try have e2 := hn 2 (.inr (.inr rfl)) b2) <;>
      simp_all [fits_nil, doP_nil] <;> (repeat' split) <;> simp_all
end Go.Proofs.Ytgbhpghgohggcaa

/- Walks: Houses of the document's answer. -/
namespace Go.Proofs.Ytgbhpghgohggcaa
open Go.RowKit
theorem owns_grow {w w' : World} {base : Nat} {e : TypeId} {size n : Nat} {v : Value} {xs : List Value} (h : w.ownsRow base e size v n xs) (hg : Grow w w') : w'.ownsRow base e size v n xs :=
  h.kept (grownBy_of_grow hg none) (by cases v.ownBlock with | none => exact .inl rfl | some k => exact .inr (by simp))
theorem of_any (l : List Pt) (n : Int) : (l.any fun p => p.h == n) = decide (0 < (ofL l n).length) := by
  unfold ofL
  rw [Bool.eq_iff_iff, List.any_eq_true, decide_eq_true_eq, List.length_pos_iff_exists_mem]
  constructor
  · rintro ⟨p, hp, h⟩; exact ⟨p, List.mem_filter.2 ⟨hp, h⟩⟩
  · rintro ⟨p, hp⟩; exact ⟨p, (List.mem_filter.1 hp).1, (List.mem_filter.1 hp).2⟩
def housesTo (l : List Pt) (k : Nat) : List Int := (([0, 1, 2] : List Int).take k).filter fun n => l.any fun p => p.h == n
theorem houses_to (l : List Pt) {k : Nat} (h : k < 3) : housesTo l (k + 1) = housesTo l k ++ if 0 < (ofL l k).length then [(k : Int)] else [] := by
  have e : ([0, 1, 2] : List Int).take (k + 1) = ([0, 1, 2] : List Int).take k ++ [(k : Int)] := by
    match k, h with
    | 0, _ => rfl
    | 1, _ => rfl
    | 2, _ => rfl
  unfold housesTo
  rw [e, List.filter_append]
  congr 1
  by_cases h0 : 0 < (ofL l k).length
  · rw [if_pos h0, List.filter_cons_of_pos (by rw [of_any]; exact decide_eq_true h0)]; rfl
  · rw [if_neg h0, List.filter_cons_of_neg (by rw [of_any]; simpa using h0)]; rfl
theorem houses_all (l : List Pt) : housesTo l 3 = housesE l := rfl
theorem housesTo_len (l : List Pt) (k : Nat) : (housesTo l k).length ≤ 3 := Nat.le_trans (List.length_filter_le _ _) (by simp; omega)
set_option maxHeartbeats 400000 in
theorem ref_houses {v : Value} {l : List Pt} (w : World) (hv : Pts w.cell? v l) (hm : l.length * 24 ≤ 140737488355328) :
    Calls Try.prog 82 #[v] w fun e w' => ∃ v', e = .returned v' ∧ w'.ownsRow w.heap.size 3 1 v' (housesE l).length ((housesE l).flatMap intCell) ∧ Grow w w' := by
  have HOF := Lib.hid (fun (n : Int) (W : World) (hW : Grow w W) => ref_of (n := n) W (hv.mono hW.sub) hm)
  clear hv
  go_enter Try.func82, Try.ntmps82
  go_wp2
  go_loopw [3, 4, 5] (fun v _ i wr => ∃ k : Nat, k ≤ 3 ∧ i = .int .i64 k ∧ Grow w wr ∧ wr.ownsRow w.heap.size 3 1 v (housesTo l k).length ((housesTo l k).flatMap intCell)) (fun _ _ i _ => 3 - (intOf i).toNat)
  case atStart => exact ⟨0, by omega, rfl, Grow.refl _, World.ownsRow_nil _ _ _ _⟩
  case round =>
    obtain ⟨k, hk', rfl, hb, hown⟩ := hrel
    by_cases hlt : k < 3
    · have HD := Lib.hid (houses_to l hlt)
      have hle := housesTo_len l k
      have HL := Lib.hid (show (ofL l k).length = (ofL l k).length from rfl)
      have HB := Lib.hid hb
      have HOW := Lib.hid hown
      generalize housesTo l k = acc at *
      clear hown hb
      go_wp2_with fail
      refine (HOF.out _ _ HB.out).mono ?_
      rintro e w1 ⟨v1, rfl, hown1, hb1⟩
      obtain ⟨a1, c1, rfl⟩ := owns_form hown1
      have HB1 := Lib.hid (HB.out.trans hb1)
      have HO1 := Lib.hid (owns_grow HOW.out hb1)
      clear hown1 hb1
      generalize (ofL l k).length = m at *
      by_cases h0 : 0 < m
      · have HD1 := Lib.hid (show housesTo l (k + 1) = acc ++ [(k : Int)] by rw [HD.out, if_pos h0])
        go_wp2_with (at_builtin; refine app1 ei_int rfl _ _ rfl HB1.out rfl HO1.out rfl (by simp) rfl (by simp [Value.oneCell']) (by omega) (by decide) ?_; intro v' w' hown' hb' _)
        go_roundw
        case rel => exact ⟨k + 1, by omega, by go_num, hb', by rw [HD1.out]; simpa [intCell] using hown'⟩
        case measure => simp [intOf]; omega
      · obtain rfl : m = 0 := by omega
        have HD1 := Lib.hid (show housesTo l (k + 1) = acc by rw [HD.out, if_neg h0, List.append_nil])
        go_wp2_with fail
        go_roundw
        case rel => exact ⟨k + 1, by omega, by go_num, HB1.out, by rw [HD1.out]; exact HO1.out⟩
        case measure => simp [intOf]; omega
    · obtain rfl : k = 3 := by omega
      go_wp2
      go_ret
      exact ⟨_, rfl, hown, hb⟩
end Go.Proofs.Ytgbhpghgohggcaa

/- Plain: numbers as bytes, and sums of bytes. -/
namespace Go.Proofs.Ytgbhpghgohggcaa
def sumStep (s : Nat) (c : UInt8) : Nat := (s * 263 + c.toNat + 1) % 65521
def sumFrom (s : Nat) (b : List UInt8) : Nat := b.foldl sumStep s
def sumB (b : List UInt8) : Nat := sumFrom 5 b
theorem sumStep_lt (s : Nat) (c : UInt8) : sumStep s c < 65521 := Nat.mod_lt _ (by decide)
theorem sumFrom_lt : ∀ (b : List UInt8) {s : Nat}, s < 65521 → sumFrom s b < 65521
  | [], _, h => h
  | c :: b, _, _ => sumFrom_lt b (sumStep_lt _ c)
theorem sumB_lt (b : List UInt8) : sumB b < 65521 := sumFrom_lt b (by decide)
theorem sumStep_inj {s t : Nat} {c : UInt8} (hs : s < 65521) (ht : t < 65521) (h : sumStep s c = sumStep t c) : s = t := by
  unfold sumStep at h
  generalize c.toNat = x at h
  omega
theorem sumFrom_inj : ∀ (b : List UInt8) {s t : Nat}, s < 65521 → t < 65521 → sumFrom s b = sumFrom t b → s = t
  | [], _, _, _, _, h => h
  | c :: b, _, _, hs, ht, h => sumStep_inj hs ht (sumFrom_inj b (sumStep_lt _ c) (sumStep_lt _ c) h)
theorem sumStep_ne {s : Nat} {c d : UInt8} (h : c ≠ d) : sumStep s c ≠ sumStep s d := by
  intro e
  unfold sumStep at e
  have h1 := c.toNat_lt
  have h2 := d.toNat_lt
  have h3 : c.toNat ≠ d.toNat := fun e => h (UInt8.toNat_inj.1 e)
  generalize c.toNat = x at *
  generalize d.toNat = y at *
  omega
/-- one byte that is another one makes another sum -/
theorem sumB_set : ∀ (b : List UInt8) (s i : Nat) (c : UInt8) (h : i < b.length), s < 65521 → b[i] ≠ c → sumFrom s (b.set i c) ≠ sumFrom s b
  | [], _, _, _, h, _, _ => by simp at h
  | x :: b, s, 0, c, _, _, hne => fun e => by
    exact sumStep_ne hne (sumFrom_inj b (sumStep_lt _ _) (sumStep_lt _ _) e.symm)
  | x :: b, s, i + 1, c, h, hs, hne => sumB_set b (sumStep s x) i c (by simpa using h) (sumStep_lt _ _) (by simpa using hne)

/-- seven bits a byte -/
def varint (u : Nat) : List UInt8 := if u < 128 then [UInt8.ofNat u] else UInt8.ofNat (u % 128 + 128) :: varint (u / 128)
termination_by u
decreasing_by omega
theorem varint_small {u : Nat} (h : u < 128) : varint u = [UInt8.ofNat u] := by rw [varint, if_pos h]
theorem varint_big {u : Nat} (h : ¬ u < 128) : varint u = UInt8.ofNat (u % 128 + 128) :: varint (u / 128) := by rw [varint, if_neg h]
theorem varint_pos (u : Nat) : 0 < (varint u).length := by
  by_cases h : u < 128
  · rw [varint_small h]; simp
  · rw [varint_big h]; simp
def zig (n : Int) : Nat := if n < 0 then 2 * (-n - 1).toNat + 1 else 2 * n.toNat
def zag (u : Nat) : Int := if u % 2 = 1 then -((u / 2 : Nat) : Int) - 1 else ((u / 2 : Nat) : Int)
theorem zag_zig (n : Int) : zag (zig n) = n := by
  unfold zag zig
  by_cases h : n < 0
  · rw [if_pos h, if_pos (by omega)]; omega
  · rw [if_neg h, if_neg (by omega)]; omega
theorem zig_zag (u : Nat) : zig (zag u) = u := by
  unfold zag zig
  by_cases h : u % 2 = 1
  · rw [if_pos h, if_pos (by omega)]; omega
  · rw [if_neg h, if_neg (by omega)]; omega
def numB (n : Int) : List UInt8 := varint (zig n)
/-- the number that bytes begin with: number, how many bytes, error -/
def getGo (i u : Nat) : List UInt8 → Int × Int × Int
  | [] => (0, 0, 8)
  | c :: b => if 6 ≤ i then (0, 0, 3) else if 128 ≤ c.toNat then getGo (i + 1) (u + c.toNat % 128 * 128 ^ i) b
    else if 0 < i ∧ c.toNat = 0 then (0, 0, 2) else (zag (u + c.toNat % 128 * 128 ^ i), (i : Int) + 1, 0)
def getB (b : List UInt8) : Int × Int × Int := getGo 0 0 b
theorem ofNat_small {u : Nat} (h : u < 256) : (UInt8.ofNat u).toNat = u := by rw [UInt8.toNat_ofNat']; omega
theorem get_varint : ∀ (v i u : Nat) (b : List UInt8), i < 6 → v < 128 ^ (6 - i) → (0 < v ∨ i = 0) → getGo i u (varint v ++ b) = (zag (u + v * 128 ^ i), (i : Int) + (varint v).length, 0) := by
  intro v
  induction v using Nat.strongRecOn with
  | ind v ih =>
    intro i u b hi hv h0
    by_cases h : v < 128
    · rw [varint_small h, List.singleton_append, getGo, if_neg (by omega), ofNat_small (by omega), if_neg (by omega), if_neg (by omega), Nat.mod_eq_of_lt h]
      simp
    · have hi5 : i + 1 < 6 := by
        by_cases h5 : i = 5
        · subst h5
          have : (128 : Nat) ^ (6 - 5) = 128 := rfl
          omega
        · omega
      have hp : (128 : Nat) ^ (6 - i) = 128 * 128 ^ (6 - (i + 1)) := by rw [show 6 - i = (6 - (i + 1)) + 1 by omega, Nat.pow_succ, Nat.mul_comm]
      rw [varint_big h, List.cons_append, getGo, if_neg (by omega), ofNat_small (by omega), if_pos (by omega), show (v % 128 + 128) % 128 = v % 128 by omega,
        ih (v / 128) (by omega) (i + 1) _ b hi5 (by rw [hp] at hv; exact Nat.div_lt_of_lt_mul hv) (.inl (by omega))]
      have e : u + v % 128 * 128 ^ i + v / 128 * 128 ^ (i + 1) = u + v * 128 ^ i := by
        have h1 : v / 128 * 128 ^ (i + 1) = 128 * (v / 128) * 128 ^ i := by rw [Nat.pow_succ, Nat.mul_comm (128 ^ i) 128, ← Nat.mul_assoc, Nat.mul_comm (v / 128) 128]
        rw [h1, Nat.add_assoc, ← Nat.add_mul, Nat.mod_add_div]
      rw [e]
      simp only [List.length_cons, Prod.mk.injEq, true_and, and_true]
      push_cast
      omega
theorem get_num {n : Int} (b : List UInt8) (h : zig n < 128 ^ 6) : getB (numB n ++ b) = (n, ((numB n).length : Int), 0) := by
  unfold getB numB
  rw [get_varint _ 0 0 b (by omega) h (.inr rfl)]
  simp [zag_zig]
theorem get_inv : ∀ (b : List UInt8) (i u : Nat) {x k : Int}, getGo i u b = (x, k, 0) → ∃ v rest, b = varint v ++ rest ∧ k = (i : Int) + (varint v).length ∧ x = zag (u + v * 128 ^ i) ∧ (0 < i → 0 < v) ∧ i < 6 ∧ v < 128 ^ (6 - i)
  | [], i, u, x, k, h => by simp [getGo] at h
  | c :: b, i, u, x, k, h => by
    rw [getGo] at h
    have hc := c.toNat_lt
    split at h
    · simp at h
    rename_i hi
    split at h
    · rename_i h1
      obtain ⟨v, rest, e1, e2, e3, e4, e5, e6⟩ := get_inv b (i + 1) _ h
      have hv := e4 (by omega)
      have hbig : ¬ c.toNat % 128 + 128 * v < 128 := by omega
      have hp : (128 : Nat) ^ (6 - i) = 128 * 128 ^ (6 - (i + 1)) := by rw [show 6 - i = (6 - (i + 1)) + 1 by omega, Nat.pow_succ, Nat.mul_comm]
      have hvar : varint (c.toNat % 128 + 128 * v) = c :: varint v := by
        rw [varint_big hbig]
        congr 1
        · apply UInt8.toNat_inj.1
          rw [ofNat_small (by omega)]
          omega
        · congr 1; omega
      refine ⟨c.toNat % 128 + 128 * v, rest, ?_, ?_, ?_, fun _ => by omega, by omega, ?_⟩
      · rw [hvar, e1]; rfl
      · rw [hvar, e2, List.length_cons]; push_cast; omega
      · rw [e3]
        congr 1
        have h1 : v * 128 ^ (i + 1) = 128 * v * 128 ^ i := by rw [Nat.pow_succ, Nat.mul_comm (128 ^ i) 128, ← Nat.mul_assoc, Nat.mul_comm v 128]
        rw [h1, Nat.add_assoc, ← Nat.add_mul]
      · rw [hp]
        have : v + 1 ≤ 128 ^ (6 - (i + 1)) := e6
        generalize 128 ^ (6 - (i + 1)) = q at *
        omega
    · rename_i h1
      split at h
      · simp at h
      · rename_i h2
        simp only [Prod.mk.injEq, and_true] at h
        have hs : c.toNat < 128 := by omega
        refine ⟨c.toNat, b, ?_, ?_, ?_, fun _ => by omega, by omega, ?_⟩
        · rw [varint_small hs]
          show c :: b = UInt8.ofNat c.toNat :: b
          congr 1
          apply UInt8.toNat_inj.1
          rw [ofNat_small (by omega)]
        · rw [varint_small hs]; simpa using h.2.symm
        · rw [← h.1, Nat.mod_eq_of_lt hs]
        · have : 128 ^ 1 ≤ 128 ^ (6 - i) := Nat.pow_le_pow_right (by decide) (by omega)
          omega
theorem get_bytes {b : List UInt8} {x k : Int} (h : getB b = (x, k, 0)) : b.take k.toNat = numB x ∧ k = ((numB x).length : Int) ∧ k.toNat ≤ b.length := by
  obtain ⟨v, rest, e1, e2, e3, -, -, -⟩ := get_inv b 0 0 h
  have hx : numB x = varint v := by unfold numB; rw [e3]; simp [zig_zag]
  rw [hx, e1, e2]
  simp
end Go.Proofs.Ytgbhpghgohggcaa

/- Plain: bits of numbers, as the program reads and writes bytes. -/
namespace Go.Proofs.Ytgbhpghgohggcaa
open Go.RowKit
set_option maxRecDepth 100000 in
theorem or128 : ∀ x : Nat, x < 256 → x ||| 128 = x % 128 + 128 := by decide
theorem bits_or128 {x : Nat} (h : x < 256) : bits .or .u8 (x : Int) 128 = ((x % 128 + 128 : Nat) : Int) := by
  have := u8_or_nat x 128 h (by decide)
  rw [or128 x h] at this
  simpa using this
theorem bits_and127 {x : Nat} (h : x < 256) : bits .and .u8 (x : Int) 127 = ((x % 128 : Nat) : Int) := by
  have := u8_and_nat x 127 h (by decide)
  rw [nat_mask7] at this
  simpa using this
theorem bits_and1 {x : Nat} (h : x < 18446744073709551616) : bits .and .u64 (x : Int) 1 = ((x % 2 : Nat) : Int) := by
  have := u64_and_nat x 1 h (by decide)
  rw [nat_mask1] at this
  simpa using this
theorem pow7 (i : Nat) : (2 : Nat) ^ (7 * i) = 128 ^ i := by rw [Nat.pow_mul]
theorem bits_orGet {u v i : Nat} (hu : u < 128 ^ i) (hv : v < 128) (hi : i < 6) : bits .or .u64 (u : Int) ((v * 128 ^ i : Nat) : Int) = ((u + v * 128 ^ i : Nat) : Int) := by
  have h6 : (128 : Nat) ^ i ≤ 128 ^ 5 := Nat.pow_le_pow_right (by decide) (by omega)
  have h5 : (128 : Nat) ^ 5 = 34359738368 := by decide
  have hm : v * 128 ^ i ≤ 127 * 128 ^ i := Nat.mul_le_mul_right _ (by omega)
  rw [u64_or_nat u (v * 128 ^ i) (by omega) (by omega), Nat.or_comm, nat_join (7 * i) (v * 128 ^ i) u (by rw [pow7]; exact Nat.mul_mod_left _ _) (by rw [pow7]; exact hu), Nat.add_comm]
theorem xor_ones (b : Nat) (hb : b < 2 ^ 64) : (2 ^ 64 - 1) ^^^ b = 2 ^ 64 - 1 - b := by
  apply Nat.eq_of_testBit_eq
  intro i
  rw [Nat.testBit_xor, Nat.testBit_two_pow_sub_one, show 2 ^ 64 - 1 - b = 2 ^ 64 - (b + 1) by omega, Nat.testBit_two_pow_sub_succ hb]
  by_cases hi : i < 64
  · simp [hi]
  · have : b.testBit i = false := Nat.testBit_lt_two_pow (Nat.lt_of_lt_of_le hb (Nat.pow_le_pow_right (by decide) (by omega)))
    simp [hi, this]
theorem ofInt_nat64 {x : Nat} (h : x < 18446744073709551616) : (BitVec.ofInt 64 (x : Int)).toNat = x := ofInt_u64 x h
/-- the last step of Get: halved, and turned if it is odd -/
theorem bits_zag {u : Nat} (h : u < 9223372036854775808) : bits .xor .i64 ((u / 2 : Nat) : Int) (-((u % 2 : Nat) : Int)) = zag u := by
  show IntKind.i64.wrap ((BitVec.ofInt 64 ((u / 2 : Nat) : Int) ^^^ BitVec.ofInt 64 (-((u % 2 : Nat) : Int))).toNat : Int) = _
  unfold zag
  by_cases h1 : u % 2 = 1
  · rw [if_pos h1, h1, BitVec.toNat_xor, ofInt_nat64 (by omega), show (BitVec.ofInt 64 (-((1 : Nat) : Int))).toNat = 2 ^ 64 - 1 by decide, Nat.xor_comm, xor_ones _ (by omega), IntKind.wrap_i64]
    omega
  · have h0 : u % 2 = 0 := by omega
    rw [if_neg h1, h0, BitVec.toNat_xor, ofInt_nat64 (by omega), show (BitVec.ofInt 64 (-((0 : Nat) : Int))).toNat = 0 by decide, Nat.xor_zero, IntKind.wrap_i64]
    omega
/-- the first step of Number: doubled, and turned if it is below nothing -/
theorem bits_zig {n : Int} (h0 : -9223372036854775808 ≤ n) (h1 : n ≤ 9223372036854775807) : bits .xor .u64 ((n * 2) % 18446744073709551616) (if n < 0 then 18446744073709551615 else 0) = ((zig n : Nat) : Int) := by
  unfold zig
  by_cases h : n < 0
  · rw [if_pos h, if_pos h]
    have e1 : (n * 2) % 18446744073709551616 = (((2 * n + 18446744073709551616).toNat : Nat) : Int) := by omega
    have e2 : (18446744073709551615 : Int) = ((18446744073709551615 : Nat) : Int) := rfl
    rw [e1, e2, u64_xor_nat _ _ (by omega) (by decide), Nat.xor_comm]
    have := xor_ones (2 * n + 18446744073709551616).toNat (by omega)
    rw [show (2 : Nat) ^ 64 - 1 = 18446744073709551615 by decide] at this
    rw [this]
    omega
  · rw [if_neg h, if_neg h]
    have e1 : (n * 2) % 18446744073709551616 = (((2 * n).toNat : Nat) : Int) := by omega
    have e2 : (0 : Int) = ((0 : Nat) : Int) := rfl
    rw [e1, e2, u64_xor_nat _ _ (by omega) (by decide), Nat.xor_zero]
    omega
end Go.Proofs.Ytgbhpghgohggcaa

/- Rows of bytes of the call's own: one byte more, wherever the row lies. -/
namespace Go.Proofs.Ytgbhpghgohggcaa
open Go.RowKit
/-- a row of bytes of one's own -/
abbrev OwnB (w : World) (base : Nat) (v : Value) (b : List UInt8) : Prop := w.ownsRow base 5 1 v b.length (b.flatMap byteCell)
/-- behind it all else is as it was, and the row is where it was, or new -/
def MoreB (w w' : World) (v v' : Value) : Prop := w.grownBy w' v.ownBlock ∧ (v'.ownBlock = v.ownBlock ∨ ∃ g, v'.ownBlock = some g ∧ w.heap.size ≤ g)
theorem MoreB.refl (w : World) (v : Value) : MoreB w w v v := ⟨⟨rfl, rfl, rfl, Nat.le_refl _, fun _ _ _ => rfl⟩, .inl rfl⟩
theorem MoreB.trans {a b c : World} {u v x : Value} (h : MoreB a b u v) (k : MoreB b c v x) : MoreB a c u x := by
  obtain ⟨h1, h2⟩ := h
  obtain ⟨k1, k2⟩ := k
  refine ⟨⟨k1.os.trans h1.os, k1.tape.trans h1.tape, k1.output.trans h1.output, Nat.le_trans h1.size k1.size, fun i hi hne => ?_⟩, ?_⟩
  · rw [k1.block i (Nat.lt_of_lt_of_le hi h1.size), h1.block i hi hne]
    intro e
    rcases h2 with h2 | ⟨g, h2, hg⟩
    · exact hne (e.trans h2)
    · rw [h2] at e
      obtain rfl := Option.some.inj e
      omega
  · rcases k2 with k2 | ⟨g, k2, hg⟩
    · rcases h2 with h2 | ⟨g, h2, hg⟩
      · exact .inl (k2.trans h2)
      · exact .inr ⟨g, k2.trans h2, hg⟩
    · exact .inr ⟨g, k2, Nat.le_trans h1.size hg⟩
theorem MoreB.grow {a b c : World} {u v : Value} (h : MoreB a b u v) (k : Grow b c) : MoreB a c u v := h.trans ⟨grownBy_of_grow k _, .inl rfl⟩
theorem MoreB.ahead {a b c : World} {u v : Value} (k : Grow a b) (h : MoreB b c u v) : MoreB a c u v := MoreB.trans (v := u) ⟨grownBy_of_grow k _, .inl rfl⟩ h
/-- what was there ahead of the row is as it was -/
theorem MoreB.all {w0 w w' : World} {v v' : Value} (hG : Grow w0 w) (h : MoreB w w' v v') (hv : ∀ k, v.ownBlock = some k → w0.heap.size ≤ k) : Grow w0 w' := hG.grown h.1 hv
theorem MoreB.nil {w w' : World} {v' : Value} (h : MoreB w w' (.slice none 0 0) v') : Grow w w' := (Grow.refl w).grown h.1 (fun k hk => by simp [Value.ownBlock] at hk)
theorem flat_bytes (a b : List UInt8) : a.flatMap byteCell ++ b.flatMap byteCell = (a ++ b).flatMap byteCell := by rw [List.flatMap_append]
/-- append of bytes that buildSlice has just laid, onto a row of one's own -/
theorem appB {w0 : World} {cs : Array Value} {t : TypeId} {ops : Array Oper} {rest : List Oper} {o : Oper} {a : Act} {Q : Exit → Act → World → Prop} (hgd : o.guard = none) (s x : Operand)
    (ho : o.op = .call { callee := .builtin .append, args := #[s, x], argTypes := #[69, 69] })
    {base : Nat} {v : Value} {b : List UInt8} (hs : a.eval s = v) (hown : OwnB w0 base v b) (hbase : base ≤ w0.heap.size)
    {g n c : Nat} (hx : a.eval x = .slice (some ⟨g, 0, none⟩) n c) (hg : g = w0.heap.size) (ys : List UInt8) (hy : cs.toList = ys.flatMap byteCell) (hn : n = ys.length)
    (hlen : b.length + ys.length ≤ 140737488355328)
    (h : ∀ v' w', OwnB w' base v' (b ++ ys) → MoreB w0 w' v v' → wpList Try.prog ops Q rest (a.put o.dst v') w') : wpList Try.prog ops Q (o :: rest) a (w0.alloc (.cells cs t)) := by
  subst hg
  subst hn
  have hG : Grow w0 (w0.alloc (.cells cs t)) := (Grow.refl w0).alloc _
  have hone : ∀ u ∈ cs.toList, u.oneCell' = true := by rw [hy]; exact flat_one one_byte ys
  refine wpList_app_any ei_byte hgd s x ho hs (hown.alloc _) (some ⟨w0.heap.size, 0, none⟩) ys.length c cs.toList hx (by simp) (by rw [hy, flat_len (size := 1) (fun _ => rfl)]) (fun ad had => by obtain rfl := Option.some.inj had; exact new_cells w0 cs t) hone (by unfold maxLen; omega) (by omega) (by have := hG.size; omega) fun a' c' w' hA => ?_
  have h1 := hA.own
  rw [hy, flat_bytes] at h1
  refine h _ w' ?_ (MoreB.ahead hG ⟨hA.grown, hA.blk⟩)
  have e : b.length + ys.length = (b ++ ys).length := by simp
  rw [e] at h1 ⊢
  exact h1
theorem i64_bounds {n : Int} (h : I64 n) : -9223372036854775808 ≤ n ∧ n ≤ 9223372036854775807 := by
  simp [I64, Lit.wf, IntKind.min, IntKind.max, IntKind.signed, IntKind.bits] at h
  omega
theorem varint_len : ∀ (k u : Nat), u < 128 ^ k → (varint u).length ≤ k ∨ (k = 0 ∧ (varint u).length = 1)
  | 0, u, h => by
    refine .inr ⟨rfl, ?_⟩
    rw [varint_small (by simp at h; omega)]; rfl
  | k + 1, u, h => by
    by_cases hs : u < 128
    · rw [varint_small hs]; exact .inl (by simp)
    · rw [varint_big hs]
      have h2 : u / 128 < 128 ^ k := by
        rw [Nat.pow_succ] at h
        exact Nat.div_lt_of_lt_mul (by rw [Nat.mul_comm]; exact h)
      rcases varint_len k (u / 128) h2 with h3 | ⟨rfl, h3⟩
      · exact .inl (by simpa using h3)
      · exfalso
        simp at h2
        omega
theorem numB_len {n : Int} (h0 : -9223372036854775808 ≤ n) (h1 : n ≤ 9223372036854775807) : (numB n).length ≤ 10 := by
  unfold numB
  have hz : zig n < 128 ^ 10 := by
    have e : (128 : Nat) ^ 10 = 1180591620717411303424 := by decide
    rw [e]
    unfold zig
    split <;> omega
  rcases varint_len 10 _ hz with h | ⟨h, -⟩
  · exact h
  · omega
theorem byte_wrap (x : Nat) : ((UInt8.ofNat x).toNat : Int) = ((x % 256 : Nat) : Int) := by rw [UInt8.toNat_ofNat']
theorem sum_snoc (s : Nat) (b : List UInt8) (k : Nat) (h : k < b.length) : sumFrom s (b.take (k + 1)) = sumStep (sumFrom s (b.take k)) b[k] := by
  rw [List.take_succ_eq_append_getElem h]
  unfold sumFrom
  rw [List.foldl_append]
  rfl
end Go.Proofs.Ytgbhpghgohggcaa

/- Walks: net.Own: copies of rows of bytes that lie in new memory. -/
namespace Go.Proofs.Ytgbhpghgohggcaa
open Go.RowKit
abbrev Ty.bs := Ty.sl Ty.byte
abbrev Nts := Sl Ty.bs
theorem OwnC.bytes {c : CM} {w : World} {base : Nat} {v : Value} {l : List UInt8} (h : OwnB w base v l) : OwnC Ty.byte c w base 5 v l :=
  OwnC.of_flat (T := Ty.byte) (f := byteCell) h fun _ _ => rfl
theorem bts_fr {W0 w1 w : World} {v : Value} {l : List UInt8} {X : List (Option Nat)} (h : OwnB w w1.heap.size v l) (hW : W0.heap.size ≤ w1.heap.size) (hX : ∀ k, w1.heap.size ≤ k → some k ∉ X) : Sl Ty.byte (fr W0 w X) v l :=
  (OwnC.bytes (c := fr W0 w X) h).slc (by decide) (Sub.refl _) fun a ha => fr_new (by omega) (hX _ ha)
theorem Nts.at_ {c : CM} {a : Option Addr} {l : List (List UInt8)} (h : ∀ i x, l[i]? = some x → ∃ b o cs, a = some ⟨b, o, none⟩ ∧ Ty.bs.R c cs x ∧ At c b (o + i * Ty.bs.size) cs) (k : Nat) (hk : k < l.length) :
    ∃ b o v, a = some ⟨b, o, none⟩ ∧ c ⟨b, o + k, none⟩ = some v ∧ Sl Ty.byte c v l[k] := by
  obtain ⟨b, o, cs, ha, ⟨v, rfl, hR⟩, hA⟩ := h k l[k] (by simp [hk])
  refine ⟨b, o, v, ha, ?_, hR⟩
  have := hA 0 _ rfl
  simpa [Ty.sl] using this
set_option maxRecDepth 100000 in
set_option maxHeartbeats 1000000 in
theorem net_own {v : Value} {l : List (List UInt8)} (w : World) (hv : Nts w.cell? v l) (hm : l.length * 24 ≤ 140737488355328) (hp : ∀ b ∈ l, b.length ≤ 140737488355328) :
    Calls Try.prog 65 #[v] w fun e w' => ∃ v', e = .returned v' ∧ OwnC Ty.bs (fr w w' [v'.ownBlock]) w' w.heap.size 69 v' l ∧ Grow w w' := by
  obtain ⟨a, cap, rfl, h1, h2, -, hel⟩ := hv
  unfold maxLen at h2
  have HM := Lib.hid hm
  have HP := Lib.hid hp
  clear hm hp
  go_enter Try.func65, Try.ntmps65
  go_wp2
  go_loopw [3, 8] (fun s3 i wr => ∃ k : Nat, k ≤ l.length ∧ i = .int .i64 k ∧ Grow w wr ∧ OwnC Ty.bs (fr w wr [s3.ownBlock]) wr w.heap.size 69 s3 (l.take k)) (fun _ i _ => l.length - (intOf i).toNat)
  case atStart => exact ⟨0, by omega, rfl, Grow.refl _, OwnC.nil _ _ _ _ _⟩
  case round =>
    obtain ⟨k, hk', rfl, hb, hown⟩ := hrel
    by_cases hlt : k < l.length
    · obtain ⟨b, o, vp, rfl, c0, hP⟩ := Nts.at_ hel k hlt
      obtain ⟨ap, cp, rfl, -⟩ := id hP
      replace c0 := hb.sub _ _ c0
      have htk : l.take (k + 1) = l.take k ++ [l[k]] := by rw [List.take_succ_eq_append_getElem hlt]
      have HTK := Lib.hid htk
      have hpl := HP.out l[k] (List.getElem_mem _)
      have HCL := Lib.hid (fun (W : World) (hW : Grow wr W) => clone_byte W (hP.mono (hb.trans hW).sub) (by omega))
      have hlk : (l.take k).length = k := by simp; omega
      have HOWN := Lib.hid hown
      obtain ⟨av, cv, rfl⟩ := hown.form
      clear hel hP htk hpl hown
      generalize l[k] = r at *
      generalize hlt' : l.take k = lk at *
      have HLT := Lib.hid hlt'
      have HLK := Lib.hid hlk
      clear hlt' hlk
      go_wp2_with fail
      refine (HCL.out _ (Grow.refl _)).mono ?_
      rintro e w2 ⟨v2, rfl, ho2, hb2⟩
      obtain ⟨a2, cap2, rfl⟩ := owns_form ho2
      have HO2 := Lib.hid ho2
      have HB2 := Lib.hid hb2
      clear ho2 hb2
      go_wp2_with (first | (at_builtin; refine wpList_appc (c := fr w (w2.alloc (.cells #[.slice a2 r.length cap2] 69)) [(Value.slice av lk.length cv).ownBlock]) (base := w.heap.size) (l := lk) (m := [r]) ei_bts rfl (one_Tsl Ty.byte) (by decide) rfl (.tmp 12) (.tmp 15) rfl rfl ?own rfl (Src.of_new (T := Ty.bs) (x := r) (cs := #[.slice a2 r.length cap2]) ?d0 _ _ ?d1) ?d2 ?d3 ?_))
      case own => exact (HOWN.out.mono (fr_grow (HB2.out.alloc _))).grow (HB2.out.alloc _)
      case d0 =>
        refine ⟨_, rfl, ?_⟩
        have hlt2 := HOWN.out.lt
        refine bts_fr (w1 := wr) ?_ hb.size ?_
        · exact owns_grow HO2.out ((Grow.refl _).alloc _)
        · intro q hq
          simp only [List.mem_singleton]
          intro e
          have := (hlt2 q e.symm).2
          omega
      case d1 => simp
      case d2 => have := HM.out; have := HLK.out; simp; omega
      case d3 => have := (HB2.out.alloc (.cells #[.slice a2 r.length cap2] 69)).size; have := hb.size; omega
      intro a5 c5 w5 hown5 hg5 hb5
      have hG5 : Grow w w5 := grow_by (w0 := w) (hb.trans (HB2.out.alloc _)) hg5 (fun q hq => (HOWN.out.lt q hq).1)
      have HO5 := Lib.hid (hown5.mono (fr_app hg5 (hb5.imp_right fun ⟨g, e, hge⟩ => ⟨g, e, by simpa using hge⟩)))
      have HG5 := Lib.hid hG5
      clear hown5 hg5 hb5 hG5
      go_wp2
      go_roundw
      case rel => exact ⟨k + 1, by omega, by go_num, HG5.out, by rw [HTK.out]; exact HO5.out⟩
      case measure => simp [intOf]; omega
    · clear hel
      go_wp2
      go_ret
      have h9 := hown
      rw [List.take_of_length_le (by omega)] at h9
      exact ⟨_, rfl, h9, hb⟩
end Go.Proofs.Ytgbhpghgohggcaa

/- Bytes as a string. -/
namespace Go.Proofs.Ytgbhpghgohggcaa
open Go.RowKit
def strOf (b : List UInt8) : ByteArray := ⟨b.toArray⟩
theorem strOf_inj {a b : List UInt8} (h : strOf a = strOf b) : a = b := by
  have := congrArg (fun x : ByteArray => x.data.toList) h
  simpa [strOf] using this
theorem toList_str (b : List UInt8) : (strOf b).toList = b := by
  rw [ByteArray.toList_eq]
  simp [strOf]
theorem strs_bytes (l : List UInt8) : strOfNums (l.map fun y => (y.toNat : Int)) = strOf l := by
  apply ByteArray.ext
  apply Array.toList_inj.1
  rw [strOfNums_data, List.map_map]
  refine (List.map_congr_left (g := id) ?_).trans (by simp [strOf])
  intro y _
  simp
theorem bts_string {w : World} {v : Value} {b : List UInt8} (h : Bts w.cell? v b) : (convert 69 9 v).run Try.prog w = .ok (.string (strOf b)) w := by
  obtain ⟨a, cap, rfl, h1, h2, h3, hel⟩ := h
  cases a with
  | none =>
    have := h3 rfl
    have hl : b = [] := List.eq_nil_of_length_eq_zero (by omega)
    subst hl
    exact run_convert_bytes_nil (P := Try.prog) w 69 5 (by kernel_rfl) (by kernel_rfl) _ _ 9 (by kernel_rfl)
  | some ad =>
    cases b with
    | nil =>
      have hl : (loadCells ad 0).run Try.prog w = .ok (([] : List Int).map (Value.int .u8)).toArray w := by
        have := run_loadCells_list (P := Try.prog) w ad [] (fun j v hj => by simp at hj)
        simpa using this
      rw [run_convert_bytes_string w _ _ _ _ _ _ (show Try.prog.underlying 69 = some (.slice 5) by kernel_rfl) (by kernel_rfl) (by kernel_rfl)]
      exact run_bytesToString w ad 0 cap [] hl
    | cons x l =>
      obtain ⟨bb, o, cs, he, -, -⟩ := hel 0 x rfl
      obtain rfl := Option.some.inj he
      have h9 := run_convert_bytes_arg (P := Try.prog) w 69 5 (by kernel_rfl) (by kernel_rfl) bb o (x :: l).length cap ((x :: l).map fun y => (y.toNat : Int)) (by simp) (fun i hi => by
        obtain ⟨b2, o2, he2, hc⟩ := byteAt hel i hi
        obtain ⟨rfl, rfl⟩ : bb = b2 ∧ o = o2 := by simpa using he2
        rw [hc]
        rw [List.getD_eq_getElem?_getD, List.getElem?_map, List.getElem?_eq_getElem hi]
        rfl) 9 (by kernel_rfl)
      rw [h9, strs_bytes]
end Go.Proofs.Ytgbhpghgohggcaa

/- Walks: rows of bytes compared. -/
namespace Go.Proofs.Ytgbhpghgohggcaa
open Go.RowKit
set_option maxHeartbeats 1000000 in
theorem ref_sameNet {v v' : Value} {l l' : List (List UInt8)} (w : World) (hv : Nts w.cell? v l) (hv' : Nts w.cell? v' l') :
    Calls Try.prog 64 #[v, v'] w fun e w' => e = .returned (.bool (decide (l = l'))) ∧ Grow w w' := by
  obtain ⟨a, cap, rfl, h1, h2, -, hel⟩ := hv
  obtain ⟨a', cap', rfl, h1', h2', -, hel'⟩ := hv'
  unfold maxLen at h2 h2'
  by_cases hlen : l.length = l'.length
  · have hb : ((l.length : Int) != l'.length) = false := by simp [hlen]
    have HL := Lib.hid hlen
    clear hlen
    go_enter Try.func64, Try.ntmps64
    go_wp2
    go_loopw [4, 5, 13] (fun _ _ i wr => ∃ k : Nat, k ≤ l.length ∧ i = .int .i64 k ∧ Grow w wr ∧ ∀ j, j < k → l[j]? = l'[j]?) (fun _ _ i _ => l.length - (intOf i).toNat)
    case atStart => exact ⟨0, by omega, rfl, (by repeat (first | with_reducible assumption | with_reducible exact Grow.refl _ | with_reducible apply Grow.drewN | with_reducible apply Grow.drew | with_reducible apply Grow.alloc | (refine Grow.setCell ?_ (by simp; done) _))), fun j h => by omega⟩
    case round =>
      obtain ⟨k, hk', rfl, hb, hE⟩ := hrel
      by_cases hlt : k < l.length
      · have hlt' : k < l'.length := by have := HL.out; omega
        have H1 := Lib.hid (same_next hlt hlt' hE)
        have H2 : Hid (¬ l[k] = l'[k] → decide (l = l') = false) := fun h => same_not hlt hlt' h
        clear hE
        obtain ⟨b, o, vp, rfl, c0, hP⟩ := Nts.at_ hel k hlt
        obtain ⟨b', o', vp', rfl, c0', hP'⟩ := Nts.at_ hel' k hlt'
        replace c0 := hb.sub _ _ c0
        replace c0' := hb.sub _ _ c0'
        have hcv : ∀ q, (convert 69 9 vp).run Try.prog (wr.drewN q) = .ok (.string (strOf l[k])) (wr.drewN q) := fun q => bts_string (hP.mono (hb.drewN q).sub)
        have hcv' : ∀ q, (convert 69 9 vp').run Try.prog (wr.drewN q) = .ok (.string (strOf l'[k])) (wr.drewN q) := fun q => bts_string (hP'.mono (hb.drewN q).sub)
        have HSI : Hid (strOf l[k] = strOf l'[k] → l[k] = l'[k]) := fun h => strOf_inj h
        clear hel hel' hP hP'
        generalize l[k] = p at *
        generalize l'[k] = p' at *
        by_cases hpp : strOf p = strOf p'
        · have H3 := Lib.hid (H1.out (HSI.out hpp))
          generalize strOf p = s at *
          generalize strOf p' = s' at *
          subst hpp
          clear H1 H2 HSI
          go_wp2_with (go_quiet (fail))
          go_roundw
          case rel => exact ⟨k + 1, by omega, by go_num, (by repeat (first | with_reducible assumption | with_reducible exact Grow.refl _ | with_reducible apply Grow.drewN | with_reducible apply Grow.drew | with_reducible apply Grow.alloc | (refine Grow.setCell ?_ (by simp; done) _))), H3.out⟩
          case measure => simp [intOf]; omega
        · have H3 := Lib.hid (H2.out (fun e9 => hpp (by rw [e9])))
          have hne : ((strOf p).toList == (strOf p').toList) = false := by
            rw [toList_str, toList_str, beq_eq_false_iff_ne]
            exact fun e9 => hpp (by rw [e9])
          generalize strOf p = s at *
          generalize strOf p' = s' at *
          clear hpp H1 H2 HSI
          go_wp2_with (go_quiet (fail))
          go_ret
          exact ⟨ret_bool H3.out.symm, (by repeat (first | with_reducible assumption | with_reducible exact Grow.refl _ | with_reducible apply Grow.drewN | with_reducible apply Grow.drew | with_reducible apply Grow.alloc | (refine Grow.setCell ?_ (by simp; done) _)))⟩
      · have HE := Lib.hid hE
        clear hel hel' hE
        go_wp2
        go_ret
        refine ⟨ret_bool ?_, hb⟩
        rw [eq_comm, decide_eq_true_eq]
        exact same_all HL.out (by omega) HE.out
  · have hb : ((l.length : Int) != l'.length) = true := by simp; omega
    have HE : Hid (decide (l = l') = false) := by show _ = _; rw [decide_eq_false_iff_not]; rintro rfl; exact hlen rfl
    clear hlen hel hel'
    go_enter Try.func64, Try.ntmps64
    go_wp2
    go_ret
    exact ⟨ret_bool HE.out.symm, (by repeat (first | with_reducible assumption | with_reducible exact Grow.refl _ | with_reducible apply Grow.drewN | with_reducible apply Grow.drew | with_reducible apply Grow.alloc | (refine Grow.setCell ?_ (by simp; done) _)))⟩
end Go.Proofs.Ytgbhpghgohggcaa

/- Walks: numbers as bytes. -/
namespace Go.Proofs.Ytgbhpghgohggcaa
open Go.RowKit
theorem or_byte {u : Nat} {y : Int} (hy : y = bits .or .u8 ((u % 256 : Nat) : Int) 128) : y = ((UInt8.ofNat (u % 128 + 128)).toNat : Int) := by
  rw [hy, bits_or128 (by omega), byte_wrap]
  omega
theorem or_byte2 {u : Nat} {z : UInt8} (hz : z = UInt8.ofNat (u % 128 + 128)) : bits .or .u8 ((u : Int) % 256) 128 = (z.toNat : Int) := by
  rw [hz]
  exact or_byte (by rw [Int.natCast_emod]; rfl)
theorem end_byte {u : Nat} (_ : u < 128) {y : Int} (hy : y = ((u % 256 : Nat) : Int)) : y = ((UInt8.ofNat u).toNat : Int) := by
  rw [hy, byte_wrap]
theorem num_more {pre : List UInt8} {u : Nat} {X : List UInt8} (h : pre ++ varint u = X) (hu : ¬ u < 128) : (pre ++ [UInt8.ofNat (u % 128 + 128)]) ++ varint (u / 128) = X := by
  rw [← h, varint_big hu, List.append_assoc]; rfl
theorem num_last {pre : List UInt8} {u : Nat} {X : List UInt8} (h : pre ++ varint u = X) (hu : u < 128) : pre ++ [UInt8.ofNat u] = X := by
  rw [← h, varint_small hu]
theorem zig_bits {n : Int} (h0 : -9223372036854775808 ≤ n) (h1 : n ≤ 9223372036854775807) : bits .xor .u64 (IntKind.u64.wrap (IntKind.u64.wrap n * 2)) (IntKind.u64.wrap (n / 9223372036854775808)) = ((zig n : Nat) : Int) := by
  rw [← bits_zig h0 h1, IntKind.wrap_u64, IntKind.wrap_u64, IntKind.wrap_u64]
  have e1 : n % 18446744073709551616 * 2 % 18446744073709551616 = (n * 2) % 18446744073709551616 := by omega
  have e2 : n / 9223372036854775808 % 18446744073709551616 = if n < 0 then 18446744073709551615 else 0 := by
    split <;> omega
  rw [e1, e2]
def Lim (u : Nat) : Prop := u < 18446744073709551616
theorem Lim.div {u : Nat} (h : Lim u) : Lim (u / 128) := by unfold Lim at *; omega
theorem zig_lim {n : Int} (h0 : -9223372036854775808 ≤ n) (h1 : n ≤ 9223372036854775807) : Lim (zig n) := by unfold Lim zig; split <;> omega
set_option maxRecDepth 100000 in
set_option maxHeartbeats 1000000 in
theorem wire_number {base : Nat} {v : Value} {b : List UInt8} {n : Int} (w : World) (hown : OwnB w base v b) (hbase : base ≤ w.heap.size) (hn : I64 n) (hlen : b.length + 10 ≤ 140737488355328) :
    Calls Try.prog 62 #[v, .int .i64 n] w fun e w' => ∃ v', e = .returned v' ∧ OwnB w' base v' (b ++ numB n) ∧ MoreB w w' v v' := by
  obtain ⟨h0, h1⟩ := i64_bounds hn
  have HZ := Lib.hid (zig_bits h0 h1)
  have HL := Lib.hid (numB_len h0 h1)
  have hz := zig_lim h0 h1
  have HO := Lib.hid hown
  obtain ⟨a0, k0, rfl⟩ := owns_form hown
  clear hown
  go_enter Try.func62, Try.ntmps62
  go_wp2
  go_loopw [0, 5] (fun bv u wr => ∃ (u' : Nat) (pre : List UInt8), u = .int .u64 u' ∧ Lim u' ∧ pre ++ varint u' = numB n ∧ OwnB wr base bv (b ++ pre) ∧ MoreB w wr (.slice a0 b.length k0) bv) (fun _ u _ => (intOf u).toNat)
  case atStart => exact ⟨zig n, [], congrArg (Value.int .u64) HZ.out, hz, rfl, by simpa using HO.out, MoreB.refl _ _⟩
  case round =>
    obtain ⟨u, pre, rfl, hu, hE, hown, hM⟩ := hrel
    obtain ⟨a1, k1, rfl⟩ := owns_form hown
    have hpl : pre.length ≤ 9 := by
      have h1 := congrArg List.length hE
      have h2 := HL.out
      have h3 := varint_pos u
      rw [List.length_append] at h1
      omega
    have HO1 := Lib.hid hown
    have HM1 := Lib.hid hM
    have hsz : base ≤ wr.heap.size := Nat.le_trans hbase hM.1.size
    by_cases hlt : u < 128
    · have HE := Lib.hid (num_last hE hlt)
      have HV := Lib.hid (end_byte hlt rfl)
      clear hE hown hM
      generalize (b ++ pre).length = nn at *
      go_wp2_with (at_builtin; refine appB rfl _ _ rfl rfl HO1.out hsz rfl rfl [UInt8.ofNat u] ?e0 rfl ?e1 ?_)
      case e0 => exact congrArg (fun x => [Value.int .u8 x]) (end_byte hlt (by go_num))
      case e1 => simp; omega
      intro v' w' ho hm
      have HO2 := Lib.hid ho
      have HM2 := Lib.hid (HM1.out.trans hm)
      clear ho hm
      go_wp2
      go_ret
      exact ⟨_, rfl, by rw [← HE.out]; exact HO2.out, HM2.out⟩
    · have he2 := num_more hE hlt
      obtain ⟨z, hz⟩ : ∃ z, z = UInt8.ofNat (u % 128 + 128) := ⟨_, rfl⟩
      rw [← hz] at he2
      have HE := Lib.hid he2
      have HB := Lib.hid (or_byte2 hz)
      clear hE hown hM he2 hz
      generalize (b ++ pre).length = nn at *
      go_wp2_with (at_builtin; refine appB rfl _ _ rfl rfl HO1.out hsz rfl rfl [z] ?e0 rfl ?e1 ?_)
      case e0 => exact congrArg (fun x => [Value.int .u8 x]) HB.out
      case e1 => simp; omega
      intro v' w' ho hm
      have HO2 := Lib.hid ho
      have HM2 := Lib.hid (HM1.out.trans hm)
      clear ho hm
      go_wp2
      go_roundw
      case rel => exact ⟨u / 128, pre ++ [z], by go_num, hu.div, HE.out, HO2.out, HM2.out⟩
      case measure => simp [intOf]; omega
theorem Lim.wrap {u : Nat} (h : Lim u) : IntKind.u64.wrap ((u : Int) / 128) = (u : Int) / 128 := by
  unfold Lim at h
  rw [IntKind.wrap_u64]
  omega
theorem ref_byte {u : Nat} {z : UInt8} (hz : z = UInt8.ofNat (u % 128 + 128)) : (u : Int) % 128 + 128 = (z.toNat : Int) := by
  rw [hz, byte_wrap]
  omega
theorem zig_neg {n : Int} (h : n < 0) : -(n + 1) * 2 + 1 = ((zig n : Nat) : Int) := by
  unfold zig
  rw [if_pos h]
  omega
theorem zig_pos {n : Int} (h : ¬ n < 0) : n * 2 = ((zig n : Nat) : Int) := by
  unfold zig
  rw [if_neg h]
  omega
set_option maxRecDepth 100000 in
set_option maxHeartbeats 1000000 in
theorem ref_number {n : Int} (w : World) (hn : I64 n) :
    Calls Try.prog 166 #[.int .i64 n] w fun e w' => ∃ v', e = .returned v' ∧ OwnB w' w.heap.size v' (numB n) ∧ Grow w w' := by
  obtain ⟨h0, h1⟩ := i64_bounds hn
  have HL := Lib.hid (numB_len h0 h1)
  have hz := zig_lim h0 h1
  by_cases hneg : n < 0
  · have HZN := Lib.hid (zig_neg hneg)
    go_enter Try.func166, Try.ntmps166
    go_wp2
    go_loopw [3, 4] (fun u bv wr => ∃ (u' : Nat) (pre : List UInt8), u = .int .u64 u' ∧ Lim u' ∧ pre ++ varint u' = numB n ∧ OwnB wr w.heap.size bv pre ∧ Grow w wr) (fun u _ _ => (intOf u).toNat)
    case atStart => exact ⟨zig n, [], congrArg (Value.int .u64) HZN.out, hz, rfl, World.ownsRow_nil _ _ _ _, (by repeat (first | with_reducible assumption | with_reducible exact Grow.refl _ | with_reducible apply Grow.drewN | with_reducible apply Grow.drew | with_reducible apply Grow.alloc | (refine Grow.setCell ?_ (by simp; done) _)))⟩
    case round =>
      obtain ⟨u, pre, rfl, hu, hE, hown, hM⟩ := hrel
      obtain ⟨a1, k1, rfl⟩ := owns_form hown
      have hpl : pre.length ≤ 9 := by
        have h1 := congrArg List.length hE
        have h2 := HL.out
        have h3 := varint_pos u
        rw [List.length_append] at h1
        omega
      have HO1 := Lib.hid hown
      have HM1 := Lib.hid hM
      have hsz := hM.size
      by_cases hlt : u < 128
      · have HE := Lib.hid (num_last hE hlt)
        clear hE hown hM
        go_wp2_with (at_builtin; refine appB rfl _ _ rfl rfl HO1.out hsz rfl rfl [UInt8.ofNat u] ?e0 rfl ?e1 ?_)
        case e0 => exact congrArg (fun x => [Value.int .u8 x]) (end_byte hlt (by go_num))
        case e1 => simp; omega
        intro v' w' ho hm
        have HO2 := Lib.hid ho
        have HM2 := Lib.hid (hm.all HM1.out (fun k hk => (HO1.out.lt k hk).1))
        clear ho hm
        go_wp2
        go_ret
        exact ⟨_, rfl, by rw [← HE.out]; exact HO2.out, HM2.out⟩
      · have he2 := num_more hE hlt
        obtain ⟨z, hz⟩ : ∃ z, z = UInt8.ofNat (u % 128 + 128) := ⟨_, rfl⟩
        rw [← hz] at he2
        have HE := Lib.hid he2
        have HB := Lib.hid (ref_byte hz)
        clear hE hown hM he2 hz
        have hq := hu.wrap
        go_wp2_with (at_builtin; refine appB rfl _ _ rfl rfl HO1.out hsz rfl rfl [z] ?e0 rfl ?e1 ?_)
        case e0 => exact congrArg (fun x => [Value.int .u8 x]) HB.out
        case e1 => simp; omega
        intro v' w' ho hm
        have HO2 := Lib.hid ho
        have HM2 := Lib.hid (hm.all HM1.out (fun k hk => (HO1.out.lt k hk).1))
        clear ho hm
        go_wp2
        go_roundw
        case rel => exact ⟨u / 128, pre ++ [z], by go_num, hu.div, HE.out, HO2.out, HM2.out⟩
        case measure => simp [intOf]; omega
  · have HZN := Lib.hid (zig_pos hneg)
    go_enter Try.func166, Try.ntmps166
    go_wp2
    go_loopw [3, 4] (fun u bv wr => ∃ (u' : Nat) (pre : List UInt8), u = .int .u64 u' ∧ Lim u' ∧ pre ++ varint u' = numB n ∧ OwnB wr w.heap.size bv pre ∧ Grow w wr) (fun u _ _ => (intOf u).toNat)
    case atStart => exact ⟨zig n, [], congrArg (Value.int .u64) HZN.out, hz, rfl, World.ownsRow_nil _ _ _ _, (by repeat (first | with_reducible assumption | with_reducible exact Grow.refl _ | with_reducible apply Grow.drewN | with_reducible apply Grow.drew | with_reducible apply Grow.alloc | (refine Grow.setCell ?_ (by simp; done) _)))⟩
    case round =>
      obtain ⟨u, pre, rfl, hu, hE, hown, hM⟩ := hrel
      obtain ⟨a1, k1, rfl⟩ := owns_form hown
      have hpl : pre.length ≤ 9 := by
        have h1 := congrArg List.length hE
        have h2 := HL.out
        have h3 := varint_pos u
        rw [List.length_append] at h1
        omega
      have HO1 := Lib.hid hown
      have HM1 := Lib.hid hM
      have hsz := hM.size
      by_cases hlt : u < 128
      · have HE := Lib.hid (num_last hE hlt)
        clear hE hown hM
        go_wp2_with (at_builtin; refine appB rfl _ _ rfl rfl HO1.out hsz rfl rfl [UInt8.ofNat u] ?e0 rfl ?e1 ?_)
        case e0 => exact congrArg (fun x => [Value.int .u8 x]) (end_byte hlt (by go_num))
        case e1 => simp; omega
        intro v' w' ho hm
        have HO2 := Lib.hid ho
        have HM2 := Lib.hid (hm.all HM1.out (fun k hk => (HO1.out.lt k hk).1))
        clear ho hm
        go_wp2
        go_ret
        exact ⟨_, rfl, by rw [← HE.out]; exact HO2.out, HM2.out⟩
      · have he2 := num_more hE hlt
        obtain ⟨z, hz⟩ : ∃ z, z = UInt8.ofNat (u % 128 + 128) := ⟨_, rfl⟩
        rw [← hz] at he2
        have HE := Lib.hid he2
        have HB := Lib.hid (ref_byte hz)
        clear hE hown hM he2 hz
        have hq := hu.wrap
        go_wp2_with (at_builtin; refine appB rfl _ _ rfl rfl HO1.out hsz rfl rfl [z] ?e0 rfl ?e1 ?_)
        case e0 => exact congrArg (fun x => [Value.int .u8 x]) HB.out
        case e1 => simp; omega
        intro v' w' ho hm
        have HO2 := Lib.hid ho
        have HM2 := Lib.hid (hm.all HM1.out (fun k hk => (HO1.out.lt k hk).1))
        clear ho hm
        go_wp2
        go_roundw
        case rel => exact ⟨u / 128, pre ++ [z], by go_num, hu.div, HE.out, HO2.out, HM2.out⟩
        case measure => simp [intOf]; omega
end Go.Proofs.Ytgbhpghgohggcaa

/- Walks: sums of bytes. -/
namespace Go.Proofs.Ytgbhpghgohggcaa
open Go.RowKit
theorem sum_int {s x : Nat} {c : UInt8} (hs : s < 65521) (hx : c.toNat = x) (hx2 : x < 256) {y : Int} (hy : y = Int.tmod ((s : Int) * 263 + x + 1) 65521) : y = (sumStep s c : Int) := by
  subst hx
  unfold sumStep
  rw [hy, Int.tmod_eq_emod_of_nonneg (by omega)]
  omega
theorem sum_int2 {s x : Nat} {c : UInt8} (hs : s < 65521) (hx : c.toNat = x) (hx2 : x < 256) {y : Int} (hy : y = Int.tmod (263 * (s : Int) + x + 1) 65521) : y = (sumStep s c : Int) :=
  sum_int hs hx hx2 (by rw [hy, Int.mul_comm])
set_option maxHeartbeats 400000 in
theorem wire_sum {v : Value} {b : List UInt8} (w : World) (hv : Bts w.cell? v b) :
    Calls Try.prog 129 #[v] w fun e w' => e = .returned (.int .i64 (sumB b : Nat)) ∧ Grow w w' := by
  obtain ⟨a, cap, rfl, h1, h2, -, hel⟩ := hv
  unfold maxLen at h2
  go_enter Try.func129, Try.ntmps129
  go_wp2
  go_loopw [3, 8] (fun s i wr => ∃ k : Nat, k ≤ b.length ∧ i = .int .i64 k ∧ s = .int .i64 (sumFrom 5 (b.take k) : Nat) ∧ Grow w wr) (fun _ i _ => b.length - (intOf i).toNat)
  case atStart => exact ⟨0, by omega, rfl, rfl, (by repeat (first | with_reducible assumption | with_reducible exact Grow.refl _ | with_reducible apply Grow.drewN | with_reducible apply Grow.drew | with_reducible apply Grow.alloc | (refine Grow.setCell ?_ (by simp; done) _)))⟩
  case round =>
    obtain ⟨k, hk', rfl, rfl, hb⟩ := hrel
    by_cases hlt : k < b.length
    · obtain ⟨bb, o, rfl, c0⟩ := byteAt hel k hlt
      replace c0 := hb.sub _ _ c0
      have HS := Lib.hid (sum_snoc 5 b k hlt)
      have hs := sumFrom_lt (b.take k) (s := 5) (by decide)
      have hx := b[k].toNat_lt
      clear hel
      obtain ⟨x, hxe⟩ : ∃ x, x = b[k].toNat := ⟨_, rfl⟩
      rw [← hxe] at c0 hx
      have HX := Lib.hid hxe
      clear hxe
      obtain ⟨s, hse⟩ : ∃ s, s = sumFrom 5 (b.take k) := ⟨_, rfl⟩
      rw [← hse] at hs
      rw [← hse]
      have HE := Lib.hid hse
      clear hse
      go_wp2_with (go_quiet (fail))
      go_roundw
      case rel => exact ⟨k + 1, by omega, by go_num, by
        rw [HS.out, ← HE.out]
        exact congrArg (Value.int .i64) (sum_int hs HX.out.symm hx (by go_num)), (by repeat (first | with_reducible assumption | with_reducible exact Grow.refl _ | with_reducible apply Grow.drewN | with_reducible apply Grow.drew | with_reducible apply Grow.alloc | (refine Grow.setCell ?_ (by simp; done) _)))⟩
      case measure => simp [intOf]; omega
    · have e : b.take k = b := List.take_of_length_le (by omega)
      rw [e]
      clear hel
      go_wp2
      go_ret
      exact ⟨rfl, hb⟩
set_option maxHeartbeats 400000 in
theorem ref_sum {v : Value} {b : List UInt8} (w : World) (hv : Bts w.cell? v b) :
    Calls Try.prog 134 #[v] w fun e w' => e = .returned (.int .i64 (sumB b : Nat)) ∧ Grow w w' := by
  obtain ⟨a, cap, rfl, h1, h2, -, hel⟩ := hv
  unfold maxLen at h2
  go_enter Try.func134, Try.ntmps134
  go_wp2
  go_loopw [3, 7] (fun s i wr => ∃ k : Nat, k ≤ b.length ∧ i = .int .i64 k ∧ s = .int .i64 (sumFrom 5 (b.take k) : Nat) ∧ Grow w wr) (fun _ i _ => b.length - (intOf i).toNat)
  case atStart => exact ⟨0, by omega, rfl, rfl, (by repeat (first | with_reducible assumption | with_reducible exact Grow.refl _ | with_reducible apply Grow.drewN | with_reducible apply Grow.drew | with_reducible apply Grow.alloc | (refine Grow.setCell ?_ (by simp; done) _)))⟩
  case round =>
    obtain ⟨k, hk', rfl, rfl, hb⟩ := hrel
    by_cases hlt : k < b.length
    · obtain ⟨bb, o, rfl, c0⟩ := byteAt hel k hlt
      replace c0 := hb.sub _ _ c0
      have HS := Lib.hid (sum_snoc 5 b k hlt)
      have hs := sumFrom_lt (b.take k) (s := 5) (by decide)
      have hx := b[k].toNat_lt
      clear hel
      obtain ⟨x, hxe⟩ : ∃ x, x = b[k].toNat := ⟨_, rfl⟩
      rw [← hxe] at c0 hx
      have HX := Lib.hid hxe
      clear hxe
      obtain ⟨s, hse⟩ : ∃ s, s = sumFrom 5 (b.take k) := ⟨_, rfl⟩
      rw [← hse] at hs
      rw [← hse]
      have HE := Lib.hid hse
      clear hse
      go_wp2_with (go_quiet (fail))
      go_roundw
      case rel => exact ⟨k + 1, by omega, by go_num, by
        rw [HS.out, ← HE.out]
        exact congrArg (Value.int .i64) (sum_int2 hs HX.out.symm hx (by first | rfl | go_num)), (by repeat (first | with_reducible assumption | with_reducible exact Grow.refl _ | with_reducible apply Grow.drewN | with_reducible apply Grow.drew | with_reducible apply Grow.alloc | (refine Grow.setCell ?_ (by simp; done) _)))⟩
      case measure => simp [intOf]; omega
    · have e : b.take k = b := List.take_of_length_le (by omega)
      rw [e]
      clear hel
      go_wp2
      go_ret
      exact ⟨rfl, hb⟩
end Go.Proofs.Ytgbhpghgohggcaa

/- Plain: what a log's records make, as the program goes through them. -/
namespace Go.Proofs.Ytgbhpghgohggcaa
theorem idx_none {l : List Rd} {d : Int} (h : l.findIdx? (isD d) = none) : l.find? (isD d) = none := by
  rw [List.findIdx?_eq_none_iff] at h
  rw [List.find?_eq_none]
  intro x hx
  rw [h x hx]; simp
theorem idx_some {d : Int} : ∀ {l : List Rd} {i : Nat}, l.findIdx? (isD d) = some i → ∃ hi : i < l.length, l.find? (isD d) = some l[i] ∧ l.eraseP (isD d) = l.eraseIdx i
  | [], i, h => by simp at h
  | x :: l, i, h => by
    rw [List.findIdx?_cons] at h
    by_cases hx : isD d x = true
    · rw [if_pos hx] at h
      obtain rfl : 0 = i := by simpa using h
      exact ⟨by simp, by rw [List.find?_cons_of_pos hx]; rfl, by rw [List.eraseP_cons_of_pos hx]; rfl⟩
    · rw [if_neg hx] at h
      cases hk : l.findIdx? (isD d) with
      | none => rw [hk] at h; simp at h
      | some k =>
        rw [hk] at h
        obtain rfl : k + 1 = i := by simpa using h
        obtain ⟨h1, h2, h3⟩ := idx_some hk
        exact ⟨by simp; omega, by rw [List.find?_cons_of_neg hx, h2]; rfl, by rw [List.eraseP_cons_of_neg hx, h3]; rfl⟩
theorem step_out {h : Hs} {r : Rc} (e : h.ready.find? (isD r.deed) = none) : refStep h r = if r.kind = 1 then { h with ready := h.ready ++ [⟨r.deed, r.parts⟩] } else h := by
  unfold refStep
  rw [in_fold, e]
  by_cases hk : r.kind = 1 <;> simp [hk]
theorem step_in {h : Hs} {r : Rc} {x : Rd} (e : h.ready.find? (isD r.deed) = some x) : refStep h r =
    if r.kind = 2 then { h with sums := doP h.sums x.parts, ready := h.ready.eraseP (isD r.deed), done := h.done ++ [r.deed] }
    else if r.kind = 3 then { h with ready := h.ready.eraseP (isD r.deed) } else h := by
  unfold refStep
  rw [in_fold, e]
  by_cases h2 : r.kind = 2
  · simp [h2]
  · by_cases h3 : r.kind = 3 <;> simp [h2, h3]
/-- one record, where nothing of its deed is ready -/
theorem step_idx_none {h : Hs} {r : Rc} (e : h.ready.findIdx? (isD r.deed) = none) : refStep h r = if r.kind = 1 then { h with ready := h.ready ++ [⟨r.deed, r.parts⟩] } else h := step_out (idx_none e)
/-- one record of a deed that is ready -/
theorem step_idx_some {h : Hs} {r : Rc} {i : Nat} (e : h.ready.findIdx? (isD r.deed) = some i) : ∃ hi : i < h.ready.length, refStep h r =
    if r.kind = 2 then { h with sums := doP h.sums h.ready[i].parts, ready := h.ready.eraseIdx i, done := h.done ++ [r.deed] }
    else if r.kind = 3 then { h with ready := h.ready.eraseIdx i } else h := by
  obtain ⟨hi, h1, h2⟩ := idx_some e
  exact ⟨hi, by rw [step_in h1, h2]⟩
end Go.Proofs.Ytgbhpghgohggcaa

/- Walks: log.ready; a house in its box, as its log is walked. -/
namespace Go.Proofs.Ytgbhpghgohggcaa
open Go.RowKit
theorem lready_lit (w : World) (B : Nat) (d : Int) (wx : World) (cs : List Value) (x : Rd) (hc : w.cell? ⟨B, 0, none⟩ = some (.int .i64 d)) (hg : Grow w wx) (hR : Ty.rd.R wx.cell? cs x) :
    Calls Try.prog 162 #[.agg cs.toArray, .pointer (some ⟨B, 0, none⟩)] wx fun e w' => e = .returned (.bool (isD d x)) ∧ Grow wx w' := by
  obtain ⟨vp, rfl, -, hp⟩ := hR
  obtain ⟨ap, cp, rfl, -⟩ := hp
  have hB := World.block_lt_of_cell? w _ hc
  simp only at hB
  have hBx : B < wx.heap.size := Nat.lt_of_lt_of_le hB hg.size
  replace hc := hg.sub _ _ hc
  go_enter Try.func162, Try.ntmps162
  go_wp2
  go_ret
  exact ⟨rfl, (by repeat (first | with_reducible assumption | with_reducible exact Grow.refl _ | with_reducible apply Grow.drewN | with_reducible apply Grow.drew | with_reducible apply Grow.alloc | (refine Grow.setCell ?_ (by simp; done) _)))⟩
theorem lready_tells (w : World) (B : Nat) (d : Int) (l : List Rd) (hc : w.cell? ⟨B, 0, none⟩ = some (.int .i64 d)) : Tells Try.prog Ty.rd aggOf w 162 #[.pointer (some ⟨B, 0, none⟩)] l (isD d) where
  ent := fun args w => by kernel_rfl
  say := fun wx cs x hg _ hR => lready_lit w B d wx cs x hc hg hR
theorem log_ready {v : Value} {l : List Rd} {d : Int} (w : World) (hv : Sl Ty.rd w.cell? v l) :
    Calls Try.prog 121 #[v, .int .i64 d] w fun e w' => e = .returned (.int .i64 (idxOf (isD d) l)) ∧ Grow w w' := by
  have HX := Lib.hid (indexFunc_rd (w.alloc (.cells #[.int .i64 d] 3)) (hv.mono ((Grow.refl w).alloc _).sub) (lready_tells (w.alloc (.cells #[.int .i64 d] 3)) w.heap.size d l (by rw [World.cell?_alloc_new]; rfl)))
  obtain ⟨a, cap, rfl, -⟩ := hv
  go_enter Try.func121, Try.ntmps121
  go_wp2_with fail
  refine HX.out.mono ?_
  rintro e w1 ⟨rfl, hb1⟩
  have HB := Lib.hid hb1
  clear hb1
  go_wp2
  go_ret
  exact ⟨rfl, ((Grow.refl w).alloc _).trans HB.out⟩
end Go.Proofs.Ytgbhpghgohggcaa

/- Walks: SameMsg, SameMsgs; Tick of the program and of the document's answer; is. -/
namespace Go.Proofs.Ytgbhpghgohggcaa
open Go.RowKit
set_option maxRecDepth 100000 in
set_option maxHeartbeats 4000000 in
theorem ref_sameMsg {v v' : Value} {m m' : Ms} (w : World) (hv : Of Ty.ms w.cell? v m) (hv' : Of Ty.ms w.cell? v' m') :
    Calls Try.prog 61 #[v, v'] w fun e w' => e = .returned (.bool (decide (m = m'))) ∧ Grow w w' := by
  obtain ⟨ap, cp, rfl⟩ := hv.ms_form
  obtain ⟨aq, cq, rfl⟩ := hv'.ms_form
  have k := hv.ms_parts
  have k' := hv'.ms_parts
  have HSP := Lib.hid (fun (W : World) (hW : Grow w W) => ref_sameParts W (k.1.mono hW.sub) (k'.1.mono hW.sub))
  clear hv hv' k k'
  by_cases h1 : m.kind = m'.kind
  · have b1 : (m.kind == m'.kind) = true := by simp [h1]
    by_cases h2 : m.deed = m'.deed
    · have b2 : (m.deed == m'.deed) = true := by simp [h2]
      by_cases h3 : m.house = m'.house
      · have b3 : (m.house == m'.house) = true := by simp [h3]
        have HE : Hid (decide (m.parts = m'.parts) = decide (m = m')) := by
          show _ = _
          rw [Bool.eq_iff_iff, decide_eq_true_eq, decide_eq_true_eq]
          constructor
          · intro e; cases m; cases m'; simp_all
          · rintro rfl; rfl
        clear h1 h2 h3
        go_enter Try.func61, Try.ntmps61
        go_wp2_with fail
        refine (HSP.out _ (((Grow.refl w).alloc _).alloc _)).mono ?_
        rintro e w1 ⟨rfl, hb1⟩
        go_wp2
        go_ret
        exact ⟨ret_bool HE.out, (((Grow.refl w).alloc _).alloc _).trans hb1⟩
      · have b3 : (m.house == m'.house) = false := by simp [h3]
        have HE : Hid (decide (m = m') = false) := by show _ = _; rw [decide_eq_false_iff_not]; rintro rfl; exact h3 rfl
        clear h1 h2 h3
        go_enter Try.func61, Try.ntmps61
        go_wp2
        go_ret
        exact ⟨ret_bool HE.out.symm, (by repeat (first | with_reducible assumption | with_reducible exact Grow.refl _ | with_reducible apply Grow.drewN | with_reducible apply Grow.drew | with_reducible apply Grow.alloc | (refine Grow.setCell ?_ (by simp; done) _)))⟩
    · have b2 : (m.deed == m'.deed) = false := by simp [h2]
      have HE : Hid (decide (m = m') = false) := by show _ = _; rw [decide_eq_false_iff_not]; rintro rfl; exact h2 rfl
      clear h1 h2
      go_enter Try.func61, Try.ntmps61
      go_wp2
      go_ret
      exact ⟨ret_bool HE.out.symm, (by repeat (first | with_reducible assumption | with_reducible exact Grow.refl _ | with_reducible apply Grow.drewN | with_reducible apply Grow.drew | with_reducible apply Grow.alloc | (refine Grow.setCell ?_ (by simp; done) _)))⟩
  · have b1 : (m.kind == m'.kind) = false := by simp [h1]
    have HE : Hid (decide (m = m') = false) := by show _ = _; rw [decide_eq_false_iff_not]; rintro rfl; exact h1 rfl
    clear h1
    go_enter Try.func61, Try.ntmps61
    go_wp2
    go_ret
    exact ⟨ret_bool HE.out.symm, (by repeat (first | with_reducible assumption | with_reducible exact Grow.refl _ | with_reducible apply Grow.drewN | with_reducible apply Grow.drew | with_reducible apply Grow.alloc | (refine Grow.setCell ?_ (by simp; done) _)))⟩
set_option maxRecDepth 100000 in
set_option maxHeartbeats 4000000 in
theorem ref_sameMsgs {v v' : Value} {l l' : List Ms} (w : World) (hv : Sl Ty.ms w.cell? v l) (hv' : Sl Ty.ms w.cell? v' l') :
    Calls Try.prog 53 #[v, v'] w fun e w' => e = .returned (.bool (decide (l = l'))) ∧ Grow w w' := by
  obtain ⟨a, cap, rfl, h1, h2, -, hel⟩ := hv
  obtain ⟨a', cap', rfl, h1', h2', -, hel'⟩ := hv'
  unfold maxLen at h2 h2'
  by_cases hlen : l.length = l'.length
  · have hb : ((l.length : Int) != l'.length) = false := by simp [hlen]
    have HL := Lib.hid hlen
    clear hlen
    go_enter Try.func53, Try.ntmps53
    go_wp2
    go_loopw [4, 5, 13] (fun _ _ i wr => ∃ k : Nat, k ≤ l.length ∧ i = .int .i64 k ∧ Grow w wr ∧ ∀ j, j < k → l[j]? = l'[j]?) (fun _ _ i _ => l.length - (intOf i).toNat)
    case atStart => exact ⟨0, by omega, rfl, (by repeat (first | with_reducible assumption | with_reducible exact Grow.refl _ | with_reducible apply Grow.drewN | with_reducible apply Grow.drew | with_reducible apply Grow.alloc | (refine Grow.setCell ?_ (by simp; done) _))), fun j h => by omega⟩
    case round =>
      obtain ⟨k, hk', rfl, hb, hE⟩ := hrel
      by_cases hlt : k < l.length
      · have hlt' : k < l'.length := by have := HL.out; omega
        have H1 := Lib.hid (same_next hlt hlt' hE)
        have H2 : Hid (¬ l[k] = l'[k] → decide (l = l') = false) := fun h => same_not hlt hlt' h
        clear hE
        obtain ⟨b, o, vp, rfl, c0, c1, c2, c3, i0, i1, i2, hp⟩ := Mss.at_ hel k hlt
        obtain ⟨b', o', vp', rfl, c0', c1', c2', c3', i0', i1', i2', hp'⟩ := Mss.at_ hel' k hlt'
        obtain ⟨ap, cp, rfl, -⟩ := id hp
        obtain ⟨ap', cp', rfl, -⟩ := id hp'
        have HSM := Lib.hid (fun (W : World) (hW : Grow wr W) => ref_sameMsg (v := .agg #[.int .i64 l[k].kind, .int .i64 l[k].deed, .int .i64 l[k].house, .slice ap l[k].parts.length cp]) (v' := .agg #[.int .i64 l'[k].kind, .int .i64 l'[k].deed, .int .i64 l'[k].house, .slice ap' l'[k].parts.length cp']) W ⟨_, rfl, _, rfl, i0, i1, i2, hp.mono (hb.trans hW).sub⟩ ⟨_, rfl, _, rfl, i0', i1', i2', hp'.mono (hb.trans hW).sub⟩)
        replace c0 := hb.sub _ _ c0
        replace c1 := hb.sub _ _ c1
        replace c2 := hb.sub _ _ c2
        replace c3 := hb.sub _ _ c3
        replace c0' := hb.sub _ _ c0'
        replace c1' := hb.sub _ _ c1'
        replace c2' := hb.sub _ _ c2'
        replace c3' := hb.sub _ _ c3'
        clear hel hel' hp hp' i0 i1 i2 i0' i1' i2'
        generalize l[k] = p at *
        generalize l'[k] = p' at *
        have HS : Hid (∀ W, Grow wr W → W.cell? ⟨b, o + k * 4, none⟩ = some (.int .i64 p.kind) ∧ W.cell? ⟨b, o + k * 4 + 1, none⟩ = some (.int .i64 p.deed) ∧ W.cell? ⟨b, o + k * 4 + 2, none⟩ = some (.int .i64 p.house) ∧ W.cell? ⟨b, o + k * 4 + 3, none⟩ = some (.slice ap p.parts.length cp) ∧ W.cell? ⟨b', o' + k * 4, none⟩ = some (.int .i64 p'.kind) ∧ W.cell? ⟨b', o' + k * 4 + 1, none⟩ = some (.int .i64 p'.deed) ∧ W.cell? ⟨b', o' + k * 4 + 2, none⟩ = some (.int .i64 p'.house) ∧ W.cell? ⟨b', o' + k * 4 + 3, none⟩ = some (.slice ap' p'.parts.length cp')) := fun W hW => ⟨hW.sub _ _ c0, hW.sub _ _ c1, hW.sub _ _ c2, hW.sub _ _ c3, hW.sub _ _ c0', hW.sub _ _ c1', hW.sub _ _ c2', hW.sub _ _ c3'⟩
        by_cases hpp : p = p'
        · have H3 := Lib.hid (H1.out hpp)
          have hdec := decide_eq_true hpp
          rw [hdec] at HSM
          clear hpp H1 H2 hdec
          go_wp2
          go_region_held3 (fun w' => w'.cell? ⟨b, o + k * 4, none⟩ = some (.int .i64 p.kind) ∧ w'.cell? ⟨b, o + k * 4 + 1, none⟩ = some (.int .i64 p.deed) ∧ w'.cell? ⟨b, o + k * 4 + 2, none⟩ = some (.int .i64 p.house) ∧ w'.cell? ⟨b, o + k * 4 + 3, none⟩ = some (.slice ap p.parts.length cp) ∧ w'.cell? ⟨b', o' + k * 4, none⟩ = some (.int .i64 p'.kind) ∧ w'.cell? ⟨b', o' + k * 4 + 1, none⟩ = some (.int .i64 p'.deed) ∧ w'.cell? ⟨b', o' + k * 4 + 2, none⟩ = some (.int .i64 p'.house) ∧ w'.cell? ⟨b', o' + k * 4 + 3, none⟩ = some (.slice ap' p'.parts.length cp')) (first | assumption | exact HS.out _ (by repeat (first | with_reducible assumption | with_reducible exact Grow.refl _ | with_reducible apply Grow.drewN | with_reducible apply Grow.drew | with_reducible apply Grow.alloc | (refine Grow.trans ?_ (by with_reducible assumption))))) (first | (go_at_call 61; refine (HSM.out _ (by repeat (first | with_reducible assumption | with_reducible exact Grow.refl _ | with_reducible apply Grow.drewN | with_reducible apply Grow.drew | with_reducible apply Grow.alloc | (refine Grow.trans ?_ (by with_reducible assumption))))).mono ?_; rintro e w4 ⟨rfl, hb4⟩))
          go_wp2
          go_roundw
          case rel => exact ⟨k + 1, by omega, by go_num, hb.trans (by repeat (first | with_reducible assumption | with_reducible exact Grow.refl _ | with_reducible apply Grow.drewN | with_reducible apply Grow.drew | with_reducible apply Grow.alloc | (refine Grow.trans ?_ (by with_reducible assumption)))), H3.out⟩
          case measure => simp [intOf]; omega
        · have H3 := Lib.hid (H2.out hpp)
          have hdec := decide_eq_false hpp
          rw [hdec] at HSM
          clear hpp H1 H2 hdec
          go_wp2
          go_region_held3 (fun w' => w'.cell? ⟨b, o + k * 4, none⟩ = some (.int .i64 p.kind) ∧ w'.cell? ⟨b, o + k * 4 + 1, none⟩ = some (.int .i64 p.deed) ∧ w'.cell? ⟨b, o + k * 4 + 2, none⟩ = some (.int .i64 p.house) ∧ w'.cell? ⟨b, o + k * 4 + 3, none⟩ = some (.slice ap p.parts.length cp) ∧ w'.cell? ⟨b', o' + k * 4, none⟩ = some (.int .i64 p'.kind) ∧ w'.cell? ⟨b', o' + k * 4 + 1, none⟩ = some (.int .i64 p'.deed) ∧ w'.cell? ⟨b', o' + k * 4 + 2, none⟩ = some (.int .i64 p'.house) ∧ w'.cell? ⟨b', o' + k * 4 + 3, none⟩ = some (.slice ap' p'.parts.length cp')) (first | assumption | exact HS.out _ (by repeat (first | with_reducible assumption | with_reducible exact Grow.refl _ | with_reducible apply Grow.drewN | with_reducible apply Grow.drew | with_reducible apply Grow.alloc | (refine Grow.trans ?_ (by with_reducible assumption))))) (first | (go_at_call 61; refine (HSM.out _ (by repeat (first | with_reducible assumption | with_reducible exact Grow.refl _ | with_reducible apply Grow.drewN | with_reducible apply Grow.drew | with_reducible apply Grow.alloc | (refine Grow.trans ?_ (by with_reducible assumption))))).mono ?_; rintro e w4 ⟨rfl, hb4⟩))
          go_wp2
          go_ret
          exact ⟨ret_bool H3.out.symm, hb.trans (by repeat (first | with_reducible assumption | with_reducible exact Grow.refl _ | with_reducible apply Grow.drewN | with_reducible apply Grow.drew | with_reducible apply Grow.alloc | (refine Grow.trans ?_ (by with_reducible assumption))))⟩
      · have HE := Lib.hid hE
        clear hel hel' hE
        go_wp2
        go_ret
        refine ⟨ret_bool ?_, hb⟩
        rw [eq_comm, decide_eq_true_eq]
        exact same_all HL.out (by omega) HE.out
  · have hb : ((l.length : Int) != l'.length) = true := by simp; omega
    have HE : Hid (decide (l = l') = false) := by show _ = _; rw [decide_eq_false_iff_not]; rintro rfl; exact hlen rfl
    clear hlen hel hel'
    go_enter Try.func53, Try.ntmps53
    go_wp2
    go_ret
    exact ⟨ret_bool HE.out.symm, (by repeat (first | with_reducible assumption | with_reducible exact Grow.refl _ | with_reducible apply Grow.drewN | with_reducible apply Grow.drew | with_reducible apply Grow.alloc | (refine Grow.setCell ?_ (by simp; done) _)))⟩
set_option maxRecDepth 100000 in
set_option maxHeartbeats 2000000 in
theorem house_tick {v : Value} {h : Hs} {me : Int} (w : World) (hv : Of Ty.hs w.cell? v h) (hme : I64 me) (hm : h.ready.length * 48 ≤ 140737488355328) :
    Calls Try.prog 54 #[v, .int .i64 me] w fun e w' => ∃ v', e = .returned v' ∧ OwnC Ty.ms (fun _ => none) w' w.heap.size 39 v' (hTickE h me) ∧ Grow w w' := by
  obtain ⟨al, cl, ar, cr, ad, cd, rfl⟩ := hv.hs_form
  obtain ⟨ar', cr', he, h1, h2, -, hel⟩ := (Of.hs_log hv).2.1
  obtain ⟨rfl, rfl⟩ : ar = ar' ∧ cr = cr' := by simpa using he
  unfold maxLen at h2
  have HM := Lib.hid hm
  have HME := Lib.hid hme
  clear hm hme he hv
  go_enter Try.func54, Try.ntmps54
  go_wp2
  go_loopw [5, 11] (fun s5 i wr => ∃ k : Nat, k ≤ h.ready.length ∧ i = .int .i64 k ∧ Grow w wr ∧ OwnC Ty.ms (fun _ => none) wr w.heap.size 39 s5 ((h.ready.take k).map fun r => (⟨7, r.deed, me, []⟩ : Ms))) (fun _ i _ => h.ready.length - (intOf i).toNat)
  case atStart => exact ⟨0, by omega, rfl, (by repeat (first | with_reducible assumption | with_reducible exact Grow.refl _ | with_reducible apply Grow.drewN | with_reducible apply Grow.drew | with_reducible apply Grow.alloc | (refine Grow.setCell ?_ (by simp; done) _))), OwnC.nil _ _ _ _ _⟩
  case round =>
    obtain ⟨k, hk', rfl, hb, hown⟩ := hrel
    by_cases hlt : k < h.ready.length
    · obtain ⟨b, o, vp, rfl, c0, c1, i0, hP⟩ := Rds.at_ hel k hlt
      obtain ⟨ap, cp, rfl, -⟩ := id hP
      replace c0 := hb.sub _ _ c0
      replace c1 := hb.sub _ _ c1
      have HTK := Lib.hid (show (h.ready.take (k + 1)).map (fun r => (⟨7, r.deed, me, []⟩ : Ms)) = (h.ready.take k).map (fun r => (⟨7, r.deed, me, []⟩ : Ms)) ++ [⟨7, h.ready[k].deed, me, []⟩] by rw [List.take_succ_eq_append_getElem hlt, List.map_append]; rfl)
      have HLK := Lib.hid (show ((h.ready.take k).map fun r => (⟨7, r.deed, me, []⟩ : Ms)).length ≤ k by simp; omega)
      have HOWN := Lib.hid hown
      have HI := Lib.hid i0
      obtain ⟨av, cv, rfl⟩ := hown.form
      clear hel hP hown i0
      generalize h.ready[k] = r at *
      generalize (h.ready.take k).map (fun r => (⟨7, r.deed, me, []⟩ : Ms)) = ms at *
      go_wp2_with (first | (at_builtin; refine wpList_appc (c := fun _ => none) (base := w.heap.size) (l := ms) (m := [⟨7, r.deed, me, []⟩]) ei_ms rfl one_Tms (by decide) rfl (.tmp 15) (.tmp 20) rfl rfl ?own rfl (Src.of_new (T := Ty.ms) (cs := #[.int .i64 7, .int .i64 r.deed, .int .i64 me, .slice none 0 0]) ⟨_, rfl, (show I64 7 from by unfold I64; decide), HI.out, HME.out, Sl.nil _ _⟩ _ _ ?d1) ?d2 ?d3 ?_))
      case own => exact HOWN.out.grow (((Grow.refl _).alloc _).alloc _)
      case d1 => simp
      case d2 => have := HM.out; have := HLK.out; simp; omega
      case d3 => have := hb.size; simp; omega
      intro a9 c9 w9 ho9 hg9 hb9
      have HG9 : Hid (Grow w w9) := Lib.hid (grow_by (w0 := w) ((hb.alloc _).alloc _) hg9 (fun q hq => (HOWN.out.lt q hq).1))
      have HO9 := Lib.hid ho9
      clear ho9 hg9 hb9
      go_wp2
      go_roundw
      case rel => exact ⟨k + 1, by omega, by go_num, HG9.out, by rw [HTK.out]; exact HO9.out⟩
      case measure => simp [intOf]; omega
    · clear hel
      go_wp2
      go_ret
      have h9 := hown
      rw [List.take_of_length_le (by omega)] at h9
      exact ⟨_, rfl, h9, hb⟩
set_option maxRecDepth 100000 in
set_option maxHeartbeats 2000000 in
theorem ref_houseTick {v : Value} {h : Hs} {me : Int} (w : World) (hv : Of Ty.hs w.cell? v h) (hme : I64 me) (hm : h.ready.length * 48 ≤ 140737488355328) :
    Calls Try.prog 55 #[v, .int .i64 me] w fun e w' => ∃ v', e = .returned v' ∧ OwnC Ty.ms (fun _ => none) w' w.heap.size 39 v' (hTickE h me) ∧ Grow w w' := by
  obtain ⟨al, cl, ar, cr, ad, cd, rfl⟩ := hv.hs_form
  obtain ⟨ar', cr', he, h1, h2, -, hel⟩ := (Of.hs_log hv).2.1
  obtain ⟨rfl, rfl⟩ : ar = ar' ∧ cr = cr' := by simpa using he
  unfold maxLen at h2
  have HM := Lib.hid hm
  have HME := Lib.hid hme
  clear hm hme he hv
  go_enter Try.func55, Try.ntmps55
  go_wp2
  go_loopw [5, 11] (fun s5 i wr => ∃ k : Nat, k ≤ h.ready.length ∧ i = .int .i64 k ∧ Grow w wr ∧ OwnC Ty.ms (fun _ => none) wr w.heap.size 39 s5 ((h.ready.take k).map fun r => (⟨7, r.deed, me, []⟩ : Ms))) (fun _ i _ => h.ready.length - (intOf i).toNat)
  case atStart => exact ⟨0, by omega, rfl, (by repeat (first | with_reducible assumption | with_reducible exact Grow.refl _ | with_reducible apply Grow.drewN | with_reducible apply Grow.drew | with_reducible apply Grow.alloc | (refine Grow.setCell ?_ (by simp; done) _))), OwnC.nil _ _ _ _ _⟩
  case round =>
    obtain ⟨k, hk', rfl, hb, hown⟩ := hrel
    by_cases hlt : k < h.ready.length
    · obtain ⟨b, o, vp, rfl, c0, c1, i0, hP⟩ := Rds.at_ hel k hlt
      obtain ⟨ap, cp, rfl, -⟩ := id hP
      replace c0 := hb.sub _ _ c0
      replace c1 := hb.sub _ _ c1
      have HTK := Lib.hid (show (h.ready.take (k + 1)).map (fun r => (⟨7, r.deed, me, []⟩ : Ms)) = (h.ready.take k).map (fun r => (⟨7, r.deed, me, []⟩ : Ms)) ++ [⟨7, h.ready[k].deed, me, []⟩] by rw [List.take_succ_eq_append_getElem hlt, List.map_append]; rfl)
      have HLK := Lib.hid (show ((h.ready.take k).map fun r => (⟨7, r.deed, me, []⟩ : Ms)).length ≤ k by simp; omega)
      have HOWN := Lib.hid hown
      have HI := Lib.hid i0
      obtain ⟨av, cv, rfl⟩ := hown.form
      clear hel hP hown i0
      generalize h.ready[k] = r at *
      generalize (h.ready.take k).map (fun r => (⟨7, r.deed, me, []⟩ : Ms)) = ms at *
      go_wp2_with (first | (at_builtin; refine wpList_appc (c := fun _ => none) (base := w.heap.size) (l := ms) (m := [⟨7, r.deed, me, []⟩]) ei_ms rfl one_Tms (by decide) rfl (.tmp 15) (.tmp 20) rfl rfl ?own rfl (Src.of_new (T := Ty.ms) (cs := #[.int .i64 7, .int .i64 r.deed, .int .i64 me, .slice none 0 0]) ⟨_, rfl, (show I64 7 from by unfold I64; decide), HI.out, HME.out, Sl.nil _ _⟩ _ _ ?d1) ?d2 ?d3 ?_))
      case own => exact HOWN.out.grow (((Grow.refl _).alloc _).alloc _)
      case d1 => simp
      case d2 => have := HM.out; have := HLK.out; simp; omega
      case d3 => have := hb.size; simp; omega
      intro a9 c9 w9 ho9 hg9 hb9
      have HG9 : Hid (Grow w w9) := Lib.hid (grow_by (w0 := w) ((hb.alloc _).alloc _) hg9 (fun q hq => (HOWN.out.lt q hq).1))
      have HO9 := Lib.hid ho9
      clear ho9 hg9 hb9
      go_wp2
      go_roundw
      case rel => exact ⟨k + 1, by omega, by go_num, HG9.out, by rw [HTK.out]; exact HO9.out⟩
      case measure => simp [intOf]; omega
    · clear hel
      go_wp2
      go_ret
      have h9 := hown
      rw [List.take_of_length_le (by omega)] at h9
      exact ⟨_, rfl, h9, hb⟩
theorem is_lit (w : World) (B : Nat) (d : Int) (wx : World) (cs : List Value) (x : Rd) (hc : w.cell? ⟨B, 0, none⟩ = some (.int .i64 d)) (hg : Grow w wx) (hR : Ty.rd.R wx.cell? cs x) :
    Calls Try.prog 164 #[.agg cs.toArray, .pointer (some ⟨B, 0, none⟩)] wx fun e w' => e = .returned (.bool (isD d x)) ∧ Grow wx w' := by
  obtain ⟨vp, rfl, -, hp⟩ := hR
  obtain ⟨ap, cp, rfl, -⟩ := hp
  have hB := World.block_lt_of_cell? w _ hc
  simp only at hB
  have hBx : B < wx.heap.size := Nat.lt_of_lt_of_le hB hg.size
  replace hc := hg.sub _ _ hc
  go_enter Try.func164, Try.ntmps164
  go_wp2
  go_ret
  exact ⟨rfl, (by repeat (first | with_reducible assumption | with_reducible exact Grow.refl _ | with_reducible apply Grow.drewN | with_reducible apply Grow.drew | with_reducible apply Grow.alloc | (refine Grow.setCell ?_ (by simp; done) _)))⟩
theorem is_tells (w : World) (B : Nat) (d : Int) (l : List Rd) (hc : w.cell? ⟨B, 0, none⟩ = some (.int .i64 d)) : Tells Try.prog Ty.rd aggOf w 164 #[.pointer (some ⟨B, 0, none⟩)] l (isD d) where
  ent := fun args w => by kernel_rfl
  say := fun wx cs x hg _ hR => is_lit w B d wx cs x hc hg hR
theorem house_is {B : Nat} {d : Int} {l : List Rd} {a : Option Addr} {cap : Nat} (w : World) (hb : B < w.heap.size) (hc : w.cell? ⟨B, 5, none⟩ = some (.slice a l.length cap)) (hv : Sl Ty.rd w.cell? (.slice a l.length cap) l) :
    Calls Try.prog 127 #[.pointer (some ⟨B, 0, none⟩), .int .i64 d] w fun e w' => e = .returned (.bool (readyE l d)) ∧ Grow w w' := by
  have HX := Lib.hid (containsFunc_rd (w.alloc (.cells #[.int .i64 d] 3)) (hv.mono ((Grow.refl w).alloc _).sub) (is_tells (w.alloc (.cells #[.int .i64 d] 3)) w.heap.size d l (by rw [World.cell?_alloc_new]; rfl)))
  clear hv
  go_enter Try.func127, Try.ntmps127
  go_wp2_with fail
  refine HX.out.mono ?_
  rintro e w1 ⟨rfl, hb1⟩
  have HB := Lib.hid hb1
  clear hb1
  go_wp2
  go_ret
  exact ⟨rfl, ((Grow.refl w).alloc _).trans HB.out⟩
end Go.Proofs.Ytgbhpghgohggcaa

/- Walks: slices.Index and slices.Contains of ints; Vote of the program. -/
namespace Go.Proofs.Ytgbhpghgohggcaa
open Go.RowKit
set_option maxHeartbeats 400000 in
theorem index_int {v : Value} {l : List Int} {n : Int} (w : World) (hv : Ints w.cell? v l) :
    Calls Try.prog 165 #[v, .int .i64 n] w fun e w' => e = .returned (.int .i64 (idxOf (fun x => n == x) l)) ∧ Grow w w' := by
  obtain ⟨a, cap, rfl, h1, h2, -, hel⟩ := hv
  unfold maxLen at h2
  go_enter Try.func165, Try.ntmps165
  go_wp2
  go_loopw [4, 5, 8] (fun _ _ i wr => ∃ k : Nat, k ≤ l.length ∧ i = .int .i64 k ∧ Grow w wr ∧ (l.take k).findIdx? (fun x => n == x) = none) (fun _ _ i _ => l.length - (intOf i).toNat)
  case atStart => exact ⟨0, by omega, rfl, (by repeat (first | with_reducible assumption | with_reducible exact Grow.refl _ | with_reducible apply Grow.drewN | with_reducible apply Grow.drew | with_reducible apply Grow.alloc | (refine Grow.setCell ?_ (by simp; done) _))), by simp⟩
  case round =>
    obtain ⟨k, hk', rfl, hb, hE⟩ := hrel
    by_cases hlt : k < l.length
    · obtain ⟨b, o, rfl, c0, -⟩ := intAt hel k hlt
      replace c0 := hb.sub _ _ c0
      obtain ⟨s1, s2⟩ := idx_step hlt hE
      have S1 := Lib.hid s1
      have S2 := Lib.hid s2
      clear hel hE s1 s2
      generalize l[k] = x at *
      cases ht : (n == x)
      · have S3 := Lib.hid (S2.out ht)
        clear S1 S2
        go_wp2
        go_roundw
        case rel => exact ⟨k + 1, by omega, by go_num, (by repeat (first | with_reducible assumption | with_reducible exact Grow.refl _ | with_reducible apply Grow.drewN | with_reducible apply Grow.drew | with_reducible apply Grow.alloc | (refine Grow.setCell ?_ (by simp; done) _))), S3.out⟩
        case measure => simp [intOf]; omega
      · have S3 := Lib.hid (S1.out ht)
        clear S1 S2
        go_wp2
        go_ret
        exact ⟨ret_int S3.out.symm, (by repeat (first | with_reducible assumption | with_reducible exact Grow.refl _ | with_reducible apply Grow.drewN | with_reducible apply Grow.drew | with_reducible apply Grow.alloc | (refine Grow.setCell ?_ (by simp; done) _)))⟩
    · have HE := Lib.hid hE
      clear hel hE
      go_wp2
      go_ret
      refine ⟨ret_int ?_, hb⟩
      have h9 := HE.out
      rw [List.take_of_length_le (by omega)] at h9
      unfold idxOf
      rw [h9]
theorem contains_int {v : Value} {l : List Int} {n : Int} (w : World) (hv : Ints w.cell? v l) :
    Calls Try.prog 128 #[v, .int .i64 n] w fun e w' => e = .returned (.bool (decide (n ∈ l))) ∧ Grow w w' := by
  have HI := Lib.hid (index_int (n := n) w hv)
  have HN : Hid (decide (0 ≤ idxOf (fun x => n == x) l) = decide (n ∈ l)) := by
    show _ = _
    rw [idxOf_nonneg, Bool.eq_iff_iff, List.any_eq_true, decide_eq_true_eq]
    constructor
    · rintro ⟨x, hx, h⟩
      have : n = x := by simpa using h
      rw [this]; exact hx
    · intro h; exact ⟨n, h, by simp⟩
  clear hv
  generalize idxOf (fun x => n == x) l = i at *
  go_enter Try.func128, Try.ntmps128
  go_wp2_with (go_at_call 165; refine HI.out.mono ?_; rintro e w' ⟨rfl, hb'⟩)
  go_ret
  exact ⟨ret_bool HN.out, hb'⟩
set_option maxRecDepth 100000 in
set_option maxHeartbeats 2000000 in
theorem house_vote {v vp : Value} {h : Hs} {d : Int} {ps : List Pt} (w : World) (hv : Of Ty.hs w.cell? v h) (hp : Pts w.cell? vp ps) (hk : KeysOk ps) :
    Calls Try.prog 51 #[v, .int .i64 d, vp] w fun e w' => e = .returned (.int .i64 (voteE h d ps)) ∧ Grow w w' := by
  have HO := Lib.hid hv
  obtain ⟨al, cl, ar, cr, ad, cd, rfl⟩ := hv.hs_form
  have kk := Of.hs_log hv
  have HIN := Lib.hid (fun (W : World) (hW : Grow w W) => contains_int (n := d) W (kk.2.2.mono hW.sub))
  have HIS := Lib.hid (fun (W : World) (hW : Grow w W) hb hc => house_is (B := w.heap.size) (d := d) W hb hc (kk.2.1.mono hW.sub))
  have HFR := Lib.hid (fun (W : World) (hW : Grow w W) => locks_free W (HO.out.mono hW.sub) (hp.mono hW.sub))
  have HFT := Lib.hid (fun (W : World) (hW : Grow w W) => part_fits (s0 := h.sums.a) (s1 := h.sums.b) (s2 := h.sums.c) (s3 := h.sums.d) W (hp.mono hW.sub) hk)
  have HROW := Lib.hid (row_new w (.cells #[.slice al h.log.length cl, .int .i64 h.sums.a, .int .i64 h.sums.b, .int .i64 h.sums.c, .int .i64 h.sums.d, .slice ar h.ready.length cr, .slice ad h.done.length cd] 29))
  have HG0 := Lib.hid ((Grow.refl w).alloc (.cells #[.slice al h.log.length cl, .int .i64 h.sums.a, .int .i64 h.sums.b, .int .i64 h.sums.c, .int .i64 h.sums.d, .slice ar h.ready.length cr, .slice ad h.done.length cd] 29))
  clear hv hp hk kk
  by_cases hd : d ∈ h.done
  · have HE : Hid (voteE h d ps = 10) := by show voteE h d ps = 10; unfold voteE; rw [if_pos hd]
    have HD := Lib.hid (decide_eq_true hd)
    clear hd
    go_enter Try.func51, Try.ntmps51
    go_wp2_with fail
    refine (HIN.out _ HG0.out).mono ?_
    rw [HD.out]
    rintro e w1 ⟨rfl, hb1⟩
    go_wp2
    go_ret
    exact ⟨ret_int HE.out.symm, HG0.out.trans hb1⟩
  have HD := Lib.hid (decide_eq_false hd)
  by_cases hr : readyE h.ready d = true
  · have HE : Hid (voteE h d ps = 0) := by show voteE h d ps = 0; unfold voteE; rw [if_neg hd, if_pos hr]
    have HR := Lib.hid hr
    clear hd hr
    go_enter Try.func51, Try.ntmps51
    go_wp2_with fail
    refine (HIN.out _ HG0.out).mono ?_
    rw [HD.out]
    rintro e w1 ⟨rfl, hb1⟩
    have HB1 := Lib.hid hb1
    clear hb1
    have R1 := Lib.hid (row_grow HROW.out HB1.out)
    go_wp2_with fail
    refine (HIS.out w1 (HG0.out.trans HB1.out) (Array.getElem?_eq_some_iff.1 R1.out).1 (cells7 R1.out).2.2.2.2.2.1).mono ?_
    rw [HR.out]
    rintro e w2 ⟨rfl, hb2⟩
    go_wp2
    go_ret
    exact ⟨ret_int HE.out.symm, (HG0.out.trans HB1.out).trans hb2⟩
  have HR : Hid (readyE h.ready d = false) := by show _ = _; simpa using hr
  cases hf : freeE h.ready ps with
  | false =>
    have HE : Hid (voteE h d ps = 12) := by show voteE h d ps = 12; unfold voteE; rw [if_neg hd, if_neg hr, if_pos hf]
    clear hd hr
    go_enter Try.func51, Try.ntmps51
    go_wp2_with fail
    refine (HIN.out _ HG0.out).mono ?_
    rw [HD.out]
    rintro e w1 ⟨rfl, hb1⟩
    have HB1 := Lib.hid hb1
    clear hb1
    have R1 := Lib.hid (row_grow HROW.out HB1.out)
    go_wp2_with fail
    refine (HIS.out w1 (HG0.out.trans HB1.out) (Array.getElem?_eq_some_iff.1 R1.out).1 (cells7 R1.out).2.2.2.2.2.1).mono ?_
    rw [HR.out]
    rintro e w2 ⟨rfl, hb2⟩
    have HB2 := Lib.hid ((HG0.out.trans HB1.out).trans hb2)
    obtain ⟨s0, s1, s2, s3, s4, s5, s6⟩ := cells7 (row_grow R1.out hb2)
    clear hb2
    go_wp2_with fail
    refine (HFR.out w2 HB2.out).mono ?_
    rw [hf]
    rintro e w3 ⟨rfl, hb3⟩
    go_wp2
    go_ret
    exact ⟨ret_int HE.out.symm, HB2.out.trans hb3⟩
  | true =>
    have HE : Hid (voteE h d ps = fitsE h.sums.get ps) := by show voteE h d ps = _; unfold voteE; rw [if_neg hd, if_neg hr, if_neg (by rw [hf]; simp)]
    clear hd hr
    go_enter Try.func51, Try.ntmps51
    go_wp2_with fail
    refine (HIN.out _ HG0.out).mono ?_
    rw [HD.out]
    rintro e w1 ⟨rfl, hb1⟩
    have HB1 := Lib.hid hb1
    clear hb1
    have R1 := Lib.hid (row_grow HROW.out HB1.out)
    go_wp2_with fail
    refine (HIS.out w1 (HG0.out.trans HB1.out) (Array.getElem?_eq_some_iff.1 R1.out).1 (cells7 R1.out).2.2.2.2.2.1).mono ?_
    rw [HR.out]
    rintro e w2 ⟨rfl, hb2⟩
    have HB2 := Lib.hid ((HG0.out.trans HB1.out).trans hb2)
    have R2 := Lib.hid (row_grow R1.out hb2)
    obtain ⟨s0, s1, s2, s3, s4, s5, s6⟩ := cells7 R2.out
    clear hb2
    go_wp2_with fail
    refine (HFR.out w2 HB2.out).mono ?_
    rw [hf]
    rintro e w3 ⟨rfl, hb3⟩
    have HB3 := Lib.hid (HB2.out.trans hb3)
    clear s0 s1 s2 s3 s4 s5 s6
    obtain ⟨s0, s1, s2, s3, s4, s5, s6⟩ := cells7 (row_grow R2.out hb3)
    clear hb3
    go_wp2_with fail
    refine (HFT.out w3 HB3.out).mono ?_
    rintro e w4 ⟨rfl, hb4⟩
    go_wp2
    go_ret
    exact ⟨ret_int (by rw [HE.out]; rfl), HB3.out.trans hb4⟩
end Go.Proofs.Ytgbhpghgohggcaa

/- A house in its box, as the program walks its log: what stays and what changes. -/
namespace Go.Proofs.Ytgbhpghgohggcaa
open Go.RowKit
abbrev zrow : Array Value := #[.slice none 0 0, .int .i64 0, .int .i64 0, .int .i64 0, .int .i64 0, .slice none 0 0, .slice none 0 0]
/-- new memory, but for the call's boxes and own rows -/
def hmem (w w1 wr : World) (vl vr vd : Value) : CM := fr w wr [vl.ownBlock, vr.ownBlock, vd.ownBlock, some w.heap.size, some w1.heap.size]
structure LBox (w w1 wr : World) (vl vr vd : Value) (l : List Rc) (h : Hs) : Prop where
  res : wr.heap[w.heap.size]? = some (.cells zrow 29 (0, 0))
  row : wr.heap[w1.heap.size]? = some (.cells #[vl, .int .i64 h.sums.a, .int .i64 h.sums.b, .int .i64 h.sums.c, .int .i64 h.sums.d, vr, vd] 29 (0, 0))
  log : OwnC Ty.rc (hmem w w1 wr vl vr vd) wr (w.heap.size + 1) 48 vl l
  ready : OwnC Ty.rd (hmem w w1 wr vl vr vd) wr (w1.heap.size + 1) 45 vr h.ready
  done : wr.ownsRow (w1.heap.size + 1) 3 1 vd h.done.length (h.done.flatMap intCell)
  grow : Grow w wr
  size : w1.heap.size + 1 ≤ wr.heap.size
  lt : ∀ k, vl.ownBlock = some k → k < w1.heap.size
  w1 : w.heap.size + 1 ≤ w1.heap.size
  disj : vr.ownBlock = none ∨ vr.ownBlock ≠ vd.ownBlock
/-- blocks that a round may change: the box and the two rows -/
structure Chg (w1 wr w' : World) (vr vd vr' vd' : Value) : Prop where
  size : wr.heap.size ≤ w'.heap.size
  block : ∀ k, k < wr.heap.size → k ≠ w1.heap.size → vr.ownBlock ≠ some k → vd.ownBlock ≠ some k → w'.heap[k]? = wr.heap[k]?
  ready : vr'.ownBlock = vr.ownBlock ∨ ∃ g, vr'.ownBlock = some g ∧ wr.heap.size ≤ g
  done : vd'.ownBlock = vd.ownBlock ∨ ∃ g, vd'.ownBlock = some g ∧ wr.heap.size ≤ g
theorem Chg.mem {w w1 wr w' : World} {vl vr vd vr' vd' : Value} (c : Chg w1 wr w' vr vd vr' vd') : Sub (hmem w w1 wr vl vr vd) (hmem w w1 w' vl vr' vd') := by
  refine fr_step fun k hk _ hx => ?_
  simp only [List.mem_cons, List.not_mem_nil, or_false, not_or] at hx ⊢
  obtain ⟨x1, x2, x3, x4, x5⟩ := hx
  refine ⟨c.block k hk (fun e => x5 (by rw [e])) (fun e => x2 e.symm) (fun e => x3 e.symm), x1, ?_, ?_, x4, x5⟩
  · rcases c.ready with e | ⟨g, e, hg⟩
    · rw [e]; exact x2
    · rw [e]; simp; omega
  · rcases c.done with e | ⟨g, e, hg⟩
    · rw [e]; exact x3
    · rw [e]; simp; omega
theorem owns_block {w w' : World} {base e size n : Nat} {v : Value} {xs : List Value} (h : w.ownsRow base e size v n xs) (hb : ∀ k, v.ownBlock = some k → w'.heap[k]? = w.heap[k]?) : w'.ownsRow base e size v n xs := by
  obtain ⟨hl, h' | ⟨g, cap, cur, rfl, hg, hrow, hrest⟩⟩ := h
  · exact ⟨hl, .inl h'⟩
  · exact ⟨hl, .inr ⟨g, cap, cur, rfl, hg, by rw [hb g rfl]; exact hrow, hrest⟩⟩
theorem OwnC.block {α : Type} {T : Ty α} {c : CM} {w w' : World} {base e : Nat} {v : Value} {l : List α} (h : OwnC T c w base e v l) (hb : ∀ k, v.ownBlock = some k → w'.heap[k]? = w.heap[k]?) : OwnC T c w' base e v l := by
  obtain ⟨css, k1, k2, k3⟩ := h
  exact ⟨css, owns_block k1 hb, k2, k3⟩
theorem LBox.put {w w1 wr w' : World} {vl vr vd vr' vd' : Value} {l : List Rc} {h h' : Hs} (b : LBox w w1 wr vl vr vd l h) (c : Chg w1 wr w' vr vd vr' vd') (hG : Grow w w')
    (row : w'.heap[w1.heap.size]? = some (.cells #[vl, .int .i64 h'.sums.a, .int .i64 h'.sums.b, .int .i64 h'.sums.c, .int .i64 h'.sums.d, vr', vd'] 29 (0, 0)))
    (ready : OwnC Ty.rd (hmem w w1 w' vl vr' vd') w' (w1.heap.size + 1) 45 vr' h'.ready) (done : w'.ownsRow (w1.heap.size + 1) 3 1 vd' h'.done.length (h'.done.flatMap intCell)) (disj : vr'.ownBlock = none ∨ vr'.ownBlock ≠ vd'.ownBlock) : LBox w w1 w' vl vr' vd' l h' where
  res := by
    have h1 := b.w1
    have h2 := b.size
    rw [c.block _ (by omega) (by omega) (fun e => by have := (b.ready.lt _ e).1; omega) (fun e => by have := (b.done.lt _ e).1; omega)]; exact b.res
  row := row
  log := by
    refine (b.log.mono c.mem).block fun k hk => ?_
    have h1 := b.lt k hk
    have h2 := b.size
    exact c.block k (by omega) (by omega) (fun e => by have := (b.ready.lt _ e).1; omega) (fun e => by have := (b.done.lt _ e).1; omega)
  ready := ready
  done := done
  grow := hG
  size := Nat.le_trans b.size c.size
  lt := b.lt
  w1 := b.w1
  disj := disj
theorem LBox.later {w w1 wr w' : World} {vl vr vd : Value} {l : List Rc} {h : Hs} (b : LBox w w1 wr vl vr vd l h) (hg : Grow wr w') : LBox w w1 w' vl vr vd l h :=
  have c : Chg w1 wr w' vr vd vr vd := ⟨hg.size, fun k hk _ _ _ => hg.block k hk, .inl rfl, .inl rfl⟩
  b.put c (b.grow.trans hg) (row_grow b.row hg) ((b.ready.mono c.mem).grow hg) (b.done.kept (grownBy_of_grow hg none) (by cases vd.ownBlock <;> simp)) b.disj
theorem row_set5' {w : World} {B : Nat} {a b c d e f g : Value} {t : TypeId} (h : w.heap[B]? = some (.cells #[a, b, c, d, e, f, g] t (0, 0))) (u : Value) : (w.setCell ⟨B, 5, none⟩ u).heap[B]? = some (.cells #[a, b, c, d, e, u, g] t (0, 0)) := by
  simp only [World.setCell, Array.getElem?_modify, h]; simp
theorem row_set6' {w : World} {B : Nat} {a b c d e f g : Value} {t : TypeId} (h : w.heap[B]? = some (.cells #[a, b, c, d, e, f, g] t (0, 0))) (u : Value) : (w.setCell ⟨B, 6, none⟩ u).heap[B]? = some (.cells #[a, b, c, d, e, f, u] t (0, 0)) := by
  simp only [World.setCell, Array.getElem?_modify, h]; simp
theorem row_set1234 {w : World} {B : Nat} {a b c d e f g : Value} {t : TypeId} (h : w.heap[B]? = some (.cells #[a, b, c, d, e, f, g] t (0, 0))) (u1 u2 u3 u4 : Value) :
    ((((w.setCell ⟨B, 1, none⟩ u1).setCell ⟨B, 2, none⟩ u2).setCell ⟨B, 3, none⟩ u3).setCell ⟨B, 4, none⟩ u4).heap[B]? = some (.cells #[a, u1, u2, u3, u4, f, g] t (0, 0)) := by
  simp only [World.setCell, Array.getElem?_modify, h]; simp
/-- something is ready -/
theorem LBox.appR {w w1 wr wq w' : World} {vl vr vd : Value} {l : List Rc} {h : Hs} {x : Rd} {a' : Option Addr} {n c' : Nat} (b : LBox w w1 wr vl vr vd l h) (hG : Grow wr wq)
    (ho : OwnC Ty.rd (hmem w w1 wq vl vr vd) w' (w1.heap.size + 1) 45 (.slice a' n c') (h.ready ++ [x])) (hg : wq.grownBy w' vr.ownBlock) (hb : (Value.slice a' n c').ownBlock = vr.ownBlock ∨ ∃ g, (Value.slice a' n c').ownBlock = some g ∧ wq.heap.size ≤ g) :
    LBox w w1 (w'.setCell ⟨w1.heap.size, 5, none⟩ (.slice a' n c')) vl (.slice a' n c') vd l { h with ready := h.ready ++ [x] } ∧ Chg w1 wr (w'.setCell ⟨w1.heap.size, 5, none⟩ (.slice a' n c')) vr vd (.slice a' n c') vd := by
  have bq := b.later hG
  have hs := hG.size
  have hs1 := b.size
  have hw1 := b.w1
  have hlt := bq.ready.lt
  have hdl := bq.done.lt
  have hB : ∀ k, k ≠ w1.heap.size → (w'.setCell ⟨w1.heap.size, 5, none⟩ (.slice a' n c')).heap[k]? = w'.heap[k]? := fun k hk => Below.heap_setCell _ _ _ _ (fun e => hk e)
  have c1 : Chg w1 wq (w'.setCell ⟨w1.heap.size, 5, none⟩ (.slice a' n c')) vr vd (.slice a' n c') vd := ⟨by simpa using hg.size, fun k hk h1 h2 _ => by rw [hB k h1, hg.block k hk (fun e => h2 e.symm)], hb, .inl rfl⟩
  have hGw : Grow w (w'.setCell ⟨w1.heap.size, 5, none⟩ (.slice a' n c')) := (bq.grow.grown hg (fun k hk => by have := (hlt k hk).1; omega)).setCell (by simp; omega) _
  have hdj : ∀ k, vd.ownBlock = some k → vr.ownBlock ≠ some k := fun k hk e => by
    rcases b.disj with d | d
    · rw [d] at e; cases e
    · exact d (e.trans hk.symm)
  refine ⟨bq.put c1 hGw (row_set5' (row_by bq.row hg (fun e => by have := (hlt _ e.symm).1; omega)) _) ((ho.mono c1.mem).block fun k hk => ?_) (owns_block bq.done fun k hk => ?_) ?_, ?_⟩
  · exact hB k (by have := (ho.lt k hk).1; omega)
  · have := hdl k hk
    rw [hB k (by omega), hg.block k this.2 (fun e => hdj k hk e.symm)]
  · rcases hb with e | ⟨g, e, hge⟩
    · rw [e]; exact b.disj
    · right; rw [e]; intro e'
      have := hdl g e'.symm; omega
  · exact ⟨Nat.le_trans hs c1.size, fun k hk h1 h2 h3 => (c1.block k (by omega) h1 h2 h3).trans (hG.block k hk), by
      rcases hb with e | ⟨g, e, hge⟩
      · exact .inl e
      · exact .inr ⟨g, e, by omega⟩, .inl rfl⟩
/-- something is done -/
theorem LBox.appD {w w1 wr wq w' : World} {vl vr vd : Value} {l : List Rc} {h : Hs} {x : Int} {a' : Option Addr} {n c' : Nat} (b : LBox w w1 wr vl vr vd l h) (hG : Grow wr wq)
    (ho : w'.ownsRow (w1.heap.size + 1) 3 1 (.slice a' n c') (h.done ++ [x]).length ((h.done ++ [x]).flatMap intCell)) (hg : wq.grownBy w' vd.ownBlock) (hb : (Value.slice a' n c').ownBlock = vd.ownBlock ∨ ∃ g, (Value.slice a' n c').ownBlock = some g ∧ wq.heap.size ≤ g) :
    LBox w w1 (w'.setCell ⟨w1.heap.size, 6, none⟩ (.slice a' n c')) vl vr (.slice a' n c') l { h with done := h.done ++ [x] } ∧ Chg w1 wr (w'.setCell ⟨w1.heap.size, 6, none⟩ (.slice a' n c')) vr vd vr (.slice a' n c') := by
  have bq := b.later hG
  have hs := hG.size
  have hs1 := b.size
  have hw1 := b.w1
  have hlt := bq.ready.lt
  have hdl := bq.done.lt
  have hB : ∀ k, k ≠ w1.heap.size → (w'.setCell ⟨w1.heap.size, 6, none⟩ (.slice a' n c')).heap[k]? = w'.heap[k]? := fun k hk => Below.heap_setCell _ _ _ _ (fun e => hk e)
  have c1 : Chg w1 wq (w'.setCell ⟨w1.heap.size, 6, none⟩ (.slice a' n c')) vr vd vr (.slice a' n c') := ⟨by simpa using hg.size, fun k hk h1 _ h2 => by rw [hB k h1, hg.block k hk (fun e => h2 e.symm)], .inl rfl, hb⟩
  have hGw : Grow w (w'.setCell ⟨w1.heap.size, 6, none⟩ (.slice a' n c')) := (bq.grow.grown hg (fun k hk => by have := (hdl k hk).1; omega)).setCell (by simp; omega) _
  have hdj : ∀ k, vr.ownBlock = some k → vd.ownBlock ≠ some k := fun k hk e => by
    rcases b.disj with d | d
    · rw [d] at hk; cases hk
    · exact d (hk.trans e.symm)
  refine ⟨bq.put c1 hGw (row_set6' (row_by bq.row hg (fun e => by have := (hdl _ e.symm).1; omega)) _) ((bq.ready.mono c1.mem).block fun k hk => ?_) (owns_block ho fun k hk => ?_) ?_, ?_⟩
  · have := hlt k hk
    rw [hB k (by omega), hg.block k this.2 (fun e => hdj k hk e.symm)]
  · exact hB k (by have := (ho.lt k hk).1; omega)
  · cases e0 : vr.ownBlock with
    | none => exact .inl rfl
    | some q =>
      right
      rcases hb with e | ⟨g, e, hge⟩
      · rw [e]; intro e'; exact hdj q e0 e'.symm
      · rw [e]; intro e'; have := hlt q e0; simp at e'; omega
  · exact ⟨Nat.le_trans hs c1.size, fun k hk h1 h2 h3 => (c1.block k (by omega) h1 h2 h3).trans (hG.block k hk), .inl rfl, by
      rcases hb with e | ⟨g, e, hge⟩
      · exact .inl e
      · exact .inr ⟨g, e, by omega⟩⟩
/-- sums change -/
theorem LBox.sum {w w1 wr wq : World} {vl vr vd : Value} {l : List Rc} {h : Hs} {s : Sm} (b : LBox w w1 wr vl vr vd l h) (hG : Grow wr wq) :
    LBox w w1 ((((wq.setCell ⟨w1.heap.size, 1, none⟩ (.int .i64 s.a)).setCell ⟨w1.heap.size, 2, none⟩ (.int .i64 s.b)).setCell ⟨w1.heap.size, 3, none⟩ (.int .i64 s.c)).setCell ⟨w1.heap.size, 4, none⟩ (.int .i64 s.d)) vl vr vd l { h with sums := s } ∧
    Chg w1 wr ((((wq.setCell ⟨w1.heap.size, 1, none⟩ (.int .i64 s.a)).setCell ⟨w1.heap.size, 2, none⟩ (.int .i64 s.b)).setCell ⟨w1.heap.size, 3, none⟩ (.int .i64 s.c)).setCell ⟨w1.heap.size, 4, none⟩ (.int .i64 s.d)) vr vd vr vd := by
  have bq := b.later hG
  have hs := hG.size
  have hs1 := b.size
  have hw1 := b.w1
  have hB : ∀ k, k ≠ w1.heap.size → ((((wq.setCell ⟨w1.heap.size, 1, none⟩ (.int .i64 s.a)).setCell ⟨w1.heap.size, 2, none⟩ (.int .i64 s.b)).setCell ⟨w1.heap.size, 3, none⟩ (.int .i64 s.c)).setCell ⟨w1.heap.size, 4, none⟩ (.int .i64 s.d)).heap[k]? = wq.heap[k]? := fun k hk => by
    rw [Below.heap_setCell _ _ _ _ (fun e => hk e), Below.heap_setCell _ _ _ _ (fun e => hk e), Below.heap_setCell _ _ _ _ (fun e => hk e), Below.heap_setCell _ _ _ _ (fun e => hk e)]
  have c1 : Chg w1 wq ((((wq.setCell ⟨w1.heap.size, 1, none⟩ (.int .i64 s.a)).setCell ⟨w1.heap.size, 2, none⟩ (.int .i64 s.b)).setCell ⟨w1.heap.size, 3, none⟩ (.int .i64 s.c)).setCell ⟨w1.heap.size, 4, none⟩ (.int .i64 s.d)) vr vd vr vd := ⟨by simp, fun k hk h1 _ _ => hB k h1, .inl rfl, .inl rfl⟩
  have hGw : Grow w ((((wq.setCell ⟨w1.heap.size, 1, none⟩ (.int .i64 s.a)).setCell ⟨w1.heap.size, 2, none⟩ (.int .i64 s.b)).setCell ⟨w1.heap.size, 3, none⟩ (.int .i64 s.c)).setCell ⟨w1.heap.size, 4, none⟩ (.int .i64 s.d)) := (((bq.grow.setCell (by simp; omega) _).setCell (by simp; omega) _).setCell (by simp; omega) _).setCell (by simp; omega) _
  refine ⟨bq.put c1 hGw (row_set1234 bq.row _ _ _ _) ((bq.ready.mono c1.mem).block fun k hk => hB k (by have := (bq.ready.lt k hk).1; omega)) (owns_block bq.done fun k hk => hB k (by have := (bq.done.lt k hk).1; omega)) b.disj, ?_⟩
  exact ⟨Nat.le_trans hs c1.size, fun k hk h1 h2 h3 => (c1.block k (by omega) h1 h2 h3).trans (hG.block k hk), .inl rfl, .inl rfl⟩
/-- something is ready no more -/
theorem LBox.delR {w w1 wr wq w' : World} {vl vd : Value} {l : List Rc} {h : Hs} {g cap i : Nat} (b : LBox w w1 wr vl (.slice (some ⟨g, 0, none⟩) h.ready.length cap) vd l h) (hG : Grow wr wq) (hi : i < h.ready.length)
    {css : List (List Value)} (k2 : css.length = h.ready.length) (k3 : ∀ (i : Nat) (cs : List Value) (x : Rd), css[i]? = some cs → h.ready[i]? = some x → Ty.rd.R (hmem w w1 wq vl (.slice (some ⟨g, 0, none⟩) h.ready.length cap) vd) cs x)
    (hnew : w'.ownsRow (w1.heap.size + 1) 45 2 (.slice (some ⟨g, 0, none⟩) (h.ready.length - 1) cap) (h.ready.length - 1) (css.flatten.take (i * 2) ++ css.flatten.drop ((i + 1) * 2))) (hg : wq.grownBy w' (some g)) :
    LBox w w1 (w'.setCell ⟨w1.heap.size, 5, none⟩ (.slice (some ⟨g, 0, none⟩) (h.ready.length - 1) cap)) vl (.slice (some ⟨g, 0, none⟩) (h.ready.length - 1) cap) vd l { h with ready := h.ready.eraseIdx i } ∧
    Chg w1 wr (w'.setCell ⟨w1.heap.size, 5, none⟩ (.slice (some ⟨g, 0, none⟩) (h.ready.length - 1) cap)) (.slice (some ⟨g, 0, none⟩) h.ready.length cap) vd (.slice (some ⟨g, 0, none⟩) (h.ready.length - 1) cap) vd := by
  have bq := b.later hG
  have hsz := hG.size
  have hs1 := b.size
  have hw1 := b.w1
  have hlt := bq.ready.lt g rfl
  have hdl := bq.done.lt
  have hB : ∀ k, k ≠ w1.heap.size → (w'.setCell ⟨w1.heap.size, 5, none⟩ (.slice (some ⟨g, 0, none⟩) (h.ready.length - 1) cap)).heap[k]? = w'.heap[k]? := fun k hk => Below.heap_setCell _ _ _ _ (fun e => hk e)
  have c1 : Chg w1 wq (w'.setCell ⟨w1.heap.size, 5, none⟩ (.slice (some ⟨g, 0, none⟩) (h.ready.length - 1) cap)) (.slice (some ⟨g, 0, none⟩) h.ready.length cap) vd (.slice (some ⟨g, 0, none⟩) (h.ready.length - 1) cap) vd := ⟨by simpa using hg.size, fun k hk h1 h2 _ => by rw [hB k h1, hg.block k hk (fun e => h2 e.symm)], .inl rfl, .inl rfl⟩
  have hGw : Grow w (w'.setCell ⟨w1.heap.size, 5, none⟩ (.slice (some ⟨g, 0, none⟩) (h.ready.length - 1) cap)) := (bq.grow.grown hg (fun k hk => by simp at hk; omega)).setCell (by simp; omega) _
  have hdj : ∀ k, vd.ownBlock = some k → g ≠ k := fun k hk e => by
    rcases b.disj with d | d
    · cases d
    · exact d (by rw [hk, ← e]; rfl)
  have hcl := css_len k2 k3
  refine ⟨bq.put c1 hGw (row_set5' (row_by bq.row hg (by simp; omega)) _) ⟨css.eraseIdx i, ?_, ?_, ?_⟩ (owns_block bq.done fun k hk => ?_) (.inr fun e => hdj g e.symm rfl), ?_⟩
  · have e : (css.eraseIdx i).flatten = css.flatten.take (i * 2) ++ css.flatten.drop ((i + 1) * 2) := by
      rw [flatten_take (size := 2) css i hcl, flatten_drop (size := 2) css (i + 1) hcl, List.eraseIdx_eq_take_drop_succ, List.flatten_append]
    rw [e]
    have e2 : (h.ready.eraseIdx i).length = h.ready.length - 1 := List.length_eraseIdx_of_lt hi
    rw [e2]
    refine owns_block hnew fun k hk => hB k ?_
    have : g = k := by simpa [Value.ownBlock] using hk
    omega
  · simp only [List.length_eraseIdx_of_lt hi, List.length_eraseIdx_of_lt (by omega : i < css.length)]; omega
  · intro j cs x a e
    rw [List.getElem?_eraseIdx] at a e
    by_cases hj : j < i
    · rw [if_pos hj] at a e
      exact Ty.rd.mono c1.mem (k3 j cs x a e)
    · rw [if_neg hj] at a e
      exact Ty.rd.mono c1.mem (k3 (j + 1) cs x a e)
  · have := hdl k hk
    rw [hB k (by omega), hg.block k this.2 (fun e => hdj k hk (Option.some.inj e).symm)]
  · exact ⟨Nat.le_trans hsz c1.size, fun k hk h1 h2 h3 => (c1.block k (by omega) h1 h2 h3).trans (hG.block k hk), .inl rfl, .inl rfl⟩
end Go.Proofs.Ytgbhpghgohggcaa
