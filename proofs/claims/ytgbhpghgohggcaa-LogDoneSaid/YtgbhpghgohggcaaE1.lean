/- Walks: SameInts, SameReady, SameLog of the document's answer. -/
import Derived.Test.YtgbhpghgohggcaaN2
namespace Go.Proofs.Ytgbhpghgohggcaa
open Go.RowKit
theorem same_all {α : Type} {l l' : List α} {k : Nat} (hl : l.length = l'.length) (hk : l.length ≤ k) (h : ∀ j, j < k → l[j]? = l'[j]?) : l = l' := by
  apply List.ext_getElem?
  intro j
  by_cases hj : j < k
  · exact h j hj
  · rw [List.getElem?_eq_none (by omega), List.getElem?_eq_none (by omega)]
theorem same_next {α : Type} {l l' : List α} {k : Nat} (h1 : k < l.length) (h2 : k < l'.length) (h : ∀ j, j < k → l[j]? = l'[j]?) (he : l[k] = l'[k]) : ∀ j, j < k + 1 → l[j]? = l'[j]? := by
  intro j hj
  by_cases e : j = k
  · subst e; rw [List.getElem?_eq_getElem h1, List.getElem?_eq_getElem h2, he]
  · exact h j (by omega)
theorem same_not {α : Type} [DecidableEq α] {l l' : List α} {k : Nat} (h1 : k < l.length) (h2 : k < l'.length) (he : ¬ l[k] = l'[k]) : decide (l = l') = false := by
  rw [decide_eq_false_iff_not]
  rintro rfl
  exact he rfl
set_option maxHeartbeats 400000 in
theorem ref_sameInts {v v' : Value} {l l' : List Int} (w : World) (hv : Ints w.cell? v l) (hv' : Ints w.cell? v' l') :
    Calls Try.prog 48 #[v, v'] w fun e w' => e = .returned (.bool (decide (l = l'))) ∧ Grow w w' := by
  obtain ⟨a, cap, rfl, h1, h2, -, hel⟩ := hv
  obtain ⟨a', cap', rfl, h1', h2', -, hel'⟩ := hv'
  unfold maxLen at h2 h2'
  by_cases hlen : l.length = l'.length
  · have hb : ((l.length : Int) != l'.length) = false := by simp [hlen]
    have HL := Lib.hid hlen
    clear hlen
    go_enter Try.func48, Try.ntmps48
    go_wp2
    go_loopw [4, 5, 13] (fun _ _ i wr => ∃ k : Nat, k ≤ l.length ∧ i = .int .i64 k ∧ Grow w wr ∧ ∀ j, j < k → l[j]? = l'[j]?) (fun _ _ i _ => l.length - (intOf i).toNat)
    case atStart => exact ⟨0, by omega, rfl, (by repeat (first | with_reducible assumption | with_reducible exact Grow.refl _ | with_reducible apply Grow.drewN | with_reducible apply Grow.drew | with_reducible apply Grow.alloc | (refine Grow.setCell ?_ (by simp; done) _))), fun j h => by omega⟩
    case round =>
      obtain ⟨k, hk', rfl, hb, hE⟩ := hrel
      by_cases hlt : k < l.length
      · have hlt' : k < l'.length := by have := HL.out; omega
        have H1 := Lib.hid (same_next hlt hlt' hE)
        have H2 : Hid (¬ l[k] = l'[k] → decide (l = l') = false) := fun h => same_not hlt hlt' h
        clear hE
        obtain ⟨b, o, rfl, c0, -⟩ := intAt hel k hlt
        obtain ⟨b', o', rfl, c0', -⟩ := intAt hel' k hlt'
        replace c0 := hb.sub _ _ c0
        replace c0' := hb.sub _ _ c0'
        clear hel hel'
        generalize l[k] = p at *
        generalize l'[k] = p' at *
        by_cases hpp : p = p'
        · have H3 := Lib.hid (H1.out hpp)
          have hne : (p != p') = false := by simp [hpp]
          clear hpp H1 H2
          go_wp2_with (go_quiet (fail))
          go_roundw
          case rel => exact ⟨k + 1, by omega, by go_num, (by repeat (first | with_reducible assumption | with_reducible exact Grow.refl _ | with_reducible apply Grow.drewN | with_reducible apply Grow.drew | with_reducible apply Grow.alloc | (refine Grow.setCell ?_ (by simp; done) _))), H3.out⟩
          case measure => simp [intOf]; omega
        · have H3 := Lib.hid (H2.out hpp)
          have hne : (p != p') = true := by simp [hpp]
          clear hpp H1 H2
          go_wp2_with (go_quiet (fail))
          go_ret
          exact ⟨ret_bool H3.out.symm, (by repeat (first | with_reducible assumption | with_reducible exact Grow.refl _ | with_reducible apply Grow.drewN | with_reducible apply Grow.drew | with_reducible apply Grow.alloc | (refine Grow.setCell ?_ (by simp; done) _)))⟩
      · have HE := Lib.hid hE
        clear hel hel' hE
        go_wp2
        go_ret
        refine ⟨ret_bool ?_, hb⟩
        rw [eq_comm, decide_eq_true_eq]
        exact same_all HL.out (by omega) HE.out
  · have hb : ((l.length : Int) != l'.length) = true := by simp; omega
    have HE : Hid (decide (l = l') = false) := by show _ = _; rw [decide_eq_false_iff_not]; rintro rfl; exact hlen rfl
    clear hlen hel hel'
    go_enter Try.func48, Try.ntmps48
    go_wp2
    go_ret
    exact ⟨ret_bool HE.out.symm, (by repeat (first | with_reducible assumption | with_reducible exact Grow.refl _ | with_reducible apply Grow.drewN | with_reducible apply Grow.drew | with_reducible apply Grow.alloc | (refine Grow.setCell ?_ (by simp; done) _)))⟩
set_option maxRecDepth 100000 in
set_option maxHeartbeats 1000000 in
theorem ref_sameReady {v v' : Value} {l l' : List Rd} (w : World) (hv : Sl Ty.rd w.cell? v l) (hv' : Sl Ty.rd w.cell? v' l') :
    Calls Try.prog 44 #[v, v'] w fun e w' => e = .returned (.bool (decide (l = l'))) ∧ Grow w w' := by
  obtain ⟨a, cap, rfl, h1, h2, -, hel⟩ := hv
  obtain ⟨a', cap', rfl, h1', h2', -, hel'⟩ := hv'
  unfold maxLen at h2 h2'
  by_cases hlen : l.length = l'.length
  · have hb : ((l.length : Int) != l'.length) = false := by simp [hlen]
    have HL := Lib.hid hlen
    clear hlen
    go_enter Try.func44, Try.ntmps44
    go_wp2
    go_loopw [4, 5, 13] (fun _ _ i wr => ∃ k : Nat, k ≤ l.length ∧ i = .int .i64 k ∧ Grow w wr ∧ ∀ j, j < k → l[j]? = l'[j]?) (fun _ _ i _ => l.length - (intOf i).toNat)
    case atStart => exact ⟨0, by omega, rfl, (by repeat (first | with_reducible assumption | with_reducible exact Grow.refl _ | with_reducible apply Grow.drewN | with_reducible apply Grow.drew | with_reducible apply Grow.alloc | (refine Grow.setCell ?_ (by simp; done) _))), fun j h => by omega⟩
    case round =>
      obtain ⟨k, hk', rfl, hb, hE⟩ := hrel
      by_cases hlt : k < l.length
      · have hlt' : k < l'.length := by have := HL.out; omega
        have H1 := Lib.hid (same_next hlt hlt' hE)
        have H2 : Hid (¬ l[k] = l'[k] → decide (l = l') = false) := fun h => same_not hlt hlt' h
        clear hE
        obtain ⟨b, o, vp, rfl, c0, c1, -, hp⟩ := Rds.at_ hel k hlt
        obtain ⟨b', o', vp', rfl, c0', c1', -, hp'⟩ := Rds.at_ hel' k hlt'
        obtain ⟨ap, cp, rfl, -⟩ := id hp
        obtain ⟨ap', cp', rfl, -⟩ := id hp'
        have HSP := Lib.hid (fun (W : World) (hW : Grow wr W) => ref_sameParts W (hp.mono (hb.trans hW).sub) (hp'.mono (hb.trans hW).sub))
        replace c0 := hb.sub _ _ c0
        replace c0' := hb.sub _ _ c0'
        replace c1 := hb.sub _ _ c1
        replace c1' := hb.sub _ _ c1'
        clear hel hel' hp hp'
        generalize l[k] = p at *
        generalize l'[k] = p' at *
        have HS : Hid (∀ W, Grow wr W → W.cell? ⟨b, o + k * 2, none⟩ = some (.int .i64 p.deed) ∧ W.cell? ⟨b, o + k * 2 + 1, none⟩ = some (.slice ap p.parts.length cp) ∧ W.cell? ⟨b', o' + k * 2, none⟩ = some (.int .i64 p'.deed) ∧ W.cell? ⟨b', o' + k * 2 + 1, none⟩ = some (.slice ap' p'.parts.length cp')) := fun W hW => ⟨hW.sub _ _ c0, hW.sub _ _ c1, hW.sub _ _ c0', hW.sub _ _ c1'⟩
        by_cases hd : p.deed = p'.deed
        · have hne : (p.deed != p'.deed) = false := by simp [hd]
          by_cases hpp : p.parts = p'.parts
          · have hpe : p = p' := by cases p; cases p'; simp_all
            have H3 := Lib.hid (H1.out hpe)
            have hdec := decide_eq_true hpp
            rw [hdec] at HSP
            clear hd hpp hpe H1 H2 hdec
            go_wp2
            go_region_held3 (fun w' => w'.cell? ⟨b, o + k * 2, none⟩ = some (.int .i64 p.deed) ∧ w'.cell? ⟨b, o + k * 2 + 1, none⟩ = some (.slice ap p.parts.length cp) ∧ w'.cell? ⟨b', o' + k * 2, none⟩ = some (.int .i64 p'.deed) ∧ w'.cell? ⟨b', o' + k * 2 + 1, none⟩ = some (.slice ap' p'.parts.length cp')) (first | assumption | exact HS.out _ (by repeat (first | with_reducible assumption | with_reducible exact Grow.refl _ | with_reducible apply Grow.drewN | with_reducible apply Grow.drew | with_reducible apply Grow.alloc | (refine Grow.trans ?_ (by with_reducible assumption))))) (first | (go_at_call 84; refine (HSP.out _ (by repeat (first | with_reducible assumption | with_reducible exact Grow.refl _ | with_reducible apply Grow.drewN | with_reducible apply Grow.drew | with_reducible apply Grow.alloc | (refine Grow.trans ?_ (by with_reducible assumption))))).mono ?_; rintro e w4 ⟨rfl, hb4⟩))
            go_wp2
            go_roundw
            case rel => exact ⟨k + 1, by omega, by go_num, hb.trans (by repeat (first | with_reducible assumption | with_reducible exact Grow.refl _ | with_reducible apply Grow.drewN | with_reducible apply Grow.drew | with_reducible apply Grow.alloc | (refine Grow.trans ?_ (by with_reducible assumption)))), H3.out⟩
            case measure => simp [intOf]; omega
          · have H3 := Lib.hid (H2.out (fun e => hpp (by rw [e])))
            have hdec := decide_eq_false hpp
            rw [hdec] at HSP
            clear hd hpp H1 H2 hdec
            go_wp2
            go_region_held3 (fun w' => w'.cell? ⟨b, o + k * 2, none⟩ = some (.int .i64 p.deed) ∧ w'.cell? ⟨b, o + k * 2 + 1, none⟩ = some (.slice ap p.parts.length cp) ∧ w'.cell? ⟨b', o' + k * 2, none⟩ = some (.int .i64 p'.deed) ∧ w'.cell? ⟨b', o' + k * 2 + 1, none⟩ = some (.slice ap' p'.parts.length cp')) (first | assumption | exact HS.out _ (by repeat (first | with_reducible assumption | with_reducible exact Grow.refl _ | with_reducible apply Grow.drewN | with_reducible apply Grow.drew | with_reducible apply Grow.alloc | (refine Grow.trans ?_ (by with_reducible assumption))))) (first | (go_at_call 84; refine (HSP.out _ (by repeat (first | with_reducible assumption | with_reducible exact Grow.refl _ | with_reducible apply Grow.drewN | with_reducible apply Grow.drew | with_reducible apply Grow.alloc | (refine Grow.trans ?_ (by with_reducible assumption))))).mono ?_; rintro e w4 ⟨rfl, hb4⟩))
            go_wp2
            go_ret
            exact ⟨ret_bool H3.out.symm, hb.trans (by repeat (first | with_reducible assumption | with_reducible exact Grow.refl _ | with_reducible apply Grow.drewN | with_reducible apply Grow.drew | with_reducible apply Grow.alloc | (refine Grow.trans ?_ (by with_reducible assumption))))⟩
        · have H3 := Lib.hid (H2.out (fun e => hd (by rw [e])))
          have hne : (p.deed != p'.deed) = true := by simp [hd]
          clear hd H1 H2
          go_wp2_with (go_quiet (fail))
          go_ret
          exact ⟨ret_bool H3.out.symm, (by repeat (first | with_reducible assumption | with_reducible exact Grow.refl _ | with_reducible apply Grow.drewN | with_reducible apply Grow.drew | with_reducible apply Grow.alloc | (refine Grow.setCell ?_ (by simp; done) _)))⟩
      · have HE := Lib.hid hE
        clear hel hel' hE
        go_wp2
        go_ret
        refine ⟨ret_bool ?_, hb⟩
        rw [eq_comm, decide_eq_true_eq]
        exact same_all HL.out (by omega) HE.out
  · have hb : ((l.length : Int) != l'.length) = true := by simp; omega
    have HE : Hid (decide (l = l') = false) := by show _ = _; rw [decide_eq_false_iff_not]; rintro rfl; exact hlen rfl
    clear hlen hel hel'
    go_enter Try.func44, Try.ntmps44
    go_wp2
    go_ret
    exact ⟨ret_bool HE.out.symm, (by repeat (first | with_reducible assumption | with_reducible exact Grow.refl _ | with_reducible apply Grow.drewN | with_reducible apply Grow.drew | with_reducible apply Grow.alloc | (refine Grow.setCell ?_ (by simp; done) _)))⟩
end Go.Proofs.Ytgbhpghgohggcaa
