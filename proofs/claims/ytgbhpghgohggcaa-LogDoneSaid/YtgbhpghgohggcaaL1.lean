/- Walks: RightLog, Who, Free. -/
import Derived.Test.YtgbhpghgohggcaaP5
namespace Go.Proofs.Ytgbhpghgohggcaa
open Go.RowKit

def okRec (r : Rc) : Bool := decide (0 ≤ r.deed ∧ (r.parts ≠ [] → wrongE r.parts 3 = 0) ∧ (r.kind = 1 → r.parts ≠ []))
def rightLog (l : List Rc) : Bool := decide ((∀ r ∈ l, okRec r = true) ∧ l.length ≤ 60)

set_option maxRecDepth 100000 in
set_option maxHeartbeats 1000000 in
theorem ref_rightLog {v : Value} {l : List Rc} (w : World) (hv : Rcs w.cell? v l) :
    Calls Try.prog 28 #[v] w fun e w' => e = .returned (.bool (rightLog l)) ∧ Grow w w' := by
  obtain ⟨a, cap, rfl, h1, h2, -, hel⟩ := hv
  unfold maxLen at h2
  go_enter Try.func28, Try.ntmps28
  go_wp2
  go_loopw [2, 7] (fun _ i wr => ∃ k : Nat, k ≤ l.length ∧ i = .int .i64 k ∧ Grow w wr ∧ ∀ r ∈ l.take k, okRec r = true) (fun _ i _ => l.length - (intOf i).toNat)
  case atStart => exact ⟨0, by omega, rfl, Grow.refl _, by simp⟩
  case round =>
    obtain ⟨k, hk', rfl, hb, hE⟩ := hrel
    have HE := Lib.hid hE
    clear hE
    by_cases hlt : k < l.length
    · obtain ⟨b, o, vp, rfl, c0, c1, c2, -, -, hP⟩ := Rcs.at_ hel k hlt
      obtain ⟨ap, cp, rfl, hp1, hp2, hp0, hpel⟩ := id hP
      replace c0 := hb.sub _ _ c0
      replace c1 := hb.sub _ _ c1
      replace c2 := hb.sub _ _ c2
      have hcall := fun (W : World) (hW : Grow wr W) => ref_wrongParts (h := 3) W (Sl.mono (hb.trans hW).sub hP)
      have HC := Lib.hid hcall
      have hbad : okRec l[k] = false → rightLog l = false := by
        intro h
        rw [rightLog, decide_eq_false_iff_not]
        rintro ⟨h', _⟩
        have := h' l[k] (List.getElem_mem _)
        rw [h] at this; cases this
      have hgood : okRec l[k] = true → ∀ r ∈ l.take (k + 1), okRec r = true := by
        intro h r hr
        rw [List.take_succ_eq_append_getElem hlt] at hr
        rcases List.mem_append.1 hr with h' | h'
        · exact HE.out r h'
        · simp at h'; subst h'; exact h
      have hok : ∀ b, decide (0 ≤ l[k].deed ∧ (l[k].parts ≠ [] → wrongE l[k].parts 3 = 0) ∧ (l[k].kind = 1 → l[k].parts ≠ [])) = b → okRec l[k] = b := fun _ h => h
      have hne : l[k].parts ≠ [] ↔ 0 < l[k].parts.length := by rw [List.length_pos_iff]
      have hcl : l[k].parts.length ≤ 9223372036854775807 := by unfold maxLen at hp2; omega
      have HB := Lib.hid hbad
      have HG := Lib.hid hgood
      have HO := Lib.hid hok
      have HN := Lib.hid hne
      clear hel hpel hP hcall hbad hgood hok hne HE hp1 hp2 hp0
      generalize hwx : wrongE l[k].parts 3 = wx at *
      generalize hpl : l[k].parts.length = pl at *
      generalize l[k].kind = kd at *
      generalize l[k].deed = dd at *
      have HW := Lib.hid hwx
      have HL := Lib.hid hpl
      clear hwx hpl
      by_cases t1 : dd < 0
      · have HD := Lib.hid (HO.out false (by rw [decide_eq_false_iff_not]; omega))
        go_wp2
        go_ret
        exact ⟨ret_bool (HB.out HD.out).symm, (by repeat (first | with_reducible assumption | with_reducible exact Grow.refl _ | with_reducible apply Grow.drewN | with_reducible apply Grow.drew | with_reducible apply Grow.alloc | (refine Grow.setCell ?_ (by simp; done) _)))⟩
      by_cases t2 : 0 < pl
      · have t2' : (0 : Int) < (pl : Int) := by omega
        have t2'' : ((pl : Int) == 0) = false := by rw [beq_eq_false_iff_ne]; omega
        by_cases t3 : wx = 0
        · have HD := Lib.hid (HO.out true (by rw [decide_eq_true_eq]; exact ⟨by omega, fun _ => t3, fun _ => HN.out.2 t2⟩))
          have t3' : (wx != 0) = false := by simp [t3]
          clear t3
          by_cases t4 : kd = 1
          · have t4' : (kd == 1) = true := by simp [t4]
            clear t4
            go_wp2_with (go_at_call 79; refine (HC.out _ ((Grow.refl _).alloc _)).mono ?_; rintro e w1 ⟨rfl, hb1⟩; have e0 := hb1.sub ⟨wr.heap.size, 0, none⟩ _ (World.cell?_alloc_new wr _ _ 0); have e2 := hb1.sub ⟨wr.heap.size, 2, none⟩ _ (World.cell?_alloc_new wr _ _ 2); simp at e0 e2; have HB1 := Lib.hid hb1; clear hb1)
            have hb1 := HB1.out
            go_roundw
            case rel => exact ⟨k + 1, by omega, by go_num, (hb.alloc _).trans hb1, HG.out HD.out⟩
            case measure => simp [intOf]; omega
          · have t4' : (kd == 1) = false := by simp [t4]
            clear t4
            go_wp2_with (go_at_call 79; refine (HC.out _ ((Grow.refl _).alloc _)).mono ?_; rintro e w1 ⟨rfl, hb1⟩; have e0 := hb1.sub ⟨wr.heap.size, 0, none⟩ _ (World.cell?_alloc_new wr _ _ 0); have e2 := hb1.sub ⟨wr.heap.size, 2, none⟩ _ (World.cell?_alloc_new wr _ _ 2); simp at e0 e2; have HB1 := Lib.hid hb1; clear hb1)
            have hb1 := HB1.out
            go_roundw
            case rel => exact ⟨k + 1, by omega, by go_num, (hb.alloc _).trans hb1, HG.out HD.out⟩
            case measure => simp [intOf]; omega
        · have HD := Lib.hid (HO.out false (by rw [decide_eq_false_iff_not]; rintro ⟨_, h, _⟩; exact t3 (h (HN.out.2 t2))))
          have t3' : (wx != 0) = true := by simp [t3]
          clear t3
          go_wp2_with (go_at_call 79; refine (HC.out _ ((Grow.refl _).alloc _)).mono ?_; rintro e w1 ⟨rfl, hb1⟩)
          go_ret
          exact ⟨ret_bool (HB.out HD.out).symm, (hb.alloc _).trans hb1⟩
      · have t2' : ¬ (0 : Int) < (pl : Int) := by omega
        have t2'' : ((pl : Int) == 0) = true := by rw [beq_iff_eq]; omega
        by_cases t4 : kd = 1
        · have HD := Lib.hid (HO.out false (by rw [decide_eq_false_iff_not]; rintro ⟨_, _, h⟩; exact t2 (HN.out.1 (h t4))))
          have t4' : (kd == 1) = true := by simp [t4]
          clear t4
          go_wp2
          go_ret
          exact ⟨ret_bool (HB.out HD.out).symm, (by repeat (first | with_reducible assumption | with_reducible exact Grow.refl _ | with_reducible apply Grow.drewN | with_reducible apply Grow.drew | with_reducible apply Grow.alloc | (refine Grow.setCell ?_ (by simp; done) _)))⟩
        · have HD := Lib.hid (HO.out true (by rw [decide_eq_true_eq]; exact ⟨by omega, fun h => absurd (HN.out.1 h) t2, fun h => absurd h t4⟩))
          have t4' : (kd == 1) = false := by simp [t4]
          clear t4
          go_wp2
          go_roundw
          case rel => exact ⟨k + 1, by omega, by go_num, (by repeat (first | with_reducible assumption | with_reducible exact Grow.refl _ | with_reducible apply Grow.drewN | with_reducible apply Grow.drew | with_reducible apply Grow.alloc | (refine Grow.setCell ?_ (by simp; done) _))), HG.out HD.out⟩
          case measure => simp [intOf]; omega
    · rw [List.take_of_length_le (by omega)] at HE
      have hR : rightLog l = decide ((l.length : Int) ≤ 60) := by
        rw [rightLog]; congr 1
        apply propext
        exact ⟨fun h => by omega, fun h => ⟨HE.out, by omega⟩⟩
      have HR := Lib.hid hR
      clear hel hR
      go_wp2
      go_ret
      exact ⟨ret_bool (by rw [HR.out]), hb⟩
end Go.Proofs.Ytgbhpghgohggcaa
