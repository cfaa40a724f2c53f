/- The parts that HouseWord is proved of, joined: E1, E2, K6, K5, N610, N6R, N6N, N6F, N64R, N64D, N64N, N65R, N65N, N6O, W4, S5, N7, K2, V7, E3, V1. No condition beside those that each theorem names. -/
import Derived.Test.YtgbhpghgohggcaaJHouseWordb
/- Walks: SameInts, SameReady, SameLog of the document's answer. -/
namespace Go.Proofs.Ytgbhpghgohggcaa
open Go.RowKit
theorem same_all {α : Type} {l l' : List α} {k : Nat} (hl : l.length = l'.length) (hk : l.length ≤ k) (h : ∀ j, j < k → l[j]? = l'[j]?) : l = l' := by
  apply List.ext_getElem?
  intro j
  by_cases hj : j < k
  · exact h j hj
  · rw [List.getElem?_eq_none (by omega), List.getElem?_eq_none (by omega)]
theorem same_next {α : Type} {l l' : List α} {k : Nat} (h1 : k < l.length) (h2 : k < l'.length) (h : ∀ j, j < k → l[j]? = l'[j]?) (he : l[k] = l'[k]) : ∀ j, j < k + 1 → l[j]? = l'[j]? := by
  intro j hj
  by_cases e : j = k
  · subst e; rw [List.getElem?_eq_getElem h1, List.getElem?_eq_getElem h2, he]
  · exact h j (by omega)
theorem same_not {α : Type} [DecidableEq α] {l l' : List α} {k : Nat} (h1 : k < l.length) (h2 : k < l'.length) (he : ¬ l[k] = l'[k]) : decide (l = l') = false := by
  rw [decide_eq_false_iff_not]
  rintro rfl
  exact he rfl
set_option maxHeartbeats 400000 in
theorem ref_sameInts {v v' : Value} {l l' : List Int} (w : World) (hv : Ints w.cell? v l) (hv' : Ints w.cell? v' l') :
    Calls Try.prog 48 #[v, v'] w fun e w' => e = .returned (.bool (decide (l = l'))) ∧ Grow w w' := by
  obtain ⟨a, cap, rfl, h1, h2, -, hel⟩ := hv
  obtain ⟨a', cap', rfl, h1', h2', -, hel'⟩ := hv'
  unfold maxLen at h2 h2'
  by_cases hlen : l.length = l'.length
  · have hb : ((l.length : Int) != l'.length) = false := by simp [hlen]
    have HL := Lib.hid hlen
    clear hlen
    go_enter Try.func48, Try.ntmps48
    go_wp2
    go_loopw [4, 5, 13] (fun _ _ i wr => ∃ k : Nat, k ≤ l.length ∧ i = .int .i64 k ∧ Grow w wr ∧ ∀ j, j < k → l[j]? = l'[j]?) (fun _ _ i _ => l.length - (intOf i).toNat)
    case atStart => exact ⟨0, by omega, rfl, (by repeat (first | with_reducible assumption | with_reducible exact Grow.refl _ | with_reducible apply Grow.drewN | with_reducible apply Grow.drew | with_reducible apply Grow.alloc | (refine Grow.setCell ?_ (by simp; done) _))), fun j h => by omega⟩
    case round =>
      obtain ⟨k, hk', rfl, hb, hE⟩ := hrel
      by_cases hlt : k < l.length
      · have hlt' : k < l'.length := by have := HL.out; omega
        have H1 := Lib.hid (same_next hlt hlt' hE)
        have H2 : Hid (¬ l[k] = l'[k] → decide (l = l') = false) := fun h => same_not hlt hlt' h
        clear hE
        obtain ⟨b, o, rfl, c0, -⟩ := intAt hel k hlt
        obtain ⟨b', o', rfl, c0', -⟩ := intAt hel' k hlt'
        replace c0 := hb.sub _ _ c0
        replace c0' := hb.sub _ _ c0'
        clear hel hel'
        generalize l[k] = p at *
        generalize l'[k] = p' at *
        by_cases hpp : p = p'
        · have H3 := Lib.hid (H1.out hpp)
          have hne : (p != p') = false := by simp [hpp]
          clear hpp H1 H2
          go_wp2_with (go_quiet (fail))
          go_roundw
          case rel => exact ⟨k + 1, by omega, by go_num, (by repeat (first | with_reducible assumption | with_reducible exact Grow.refl _ | with_reducible apply Grow.drewN | with_reducible apply Grow.drew | with_reducible apply Grow.alloc | (refine Grow.setCell ?_ (by simp; done) _))), H3.out⟩
          case measure => simp [intOf]; omega
        · have H3 := Lib.hid (H2.out hpp)
          have hne : (p != p') = true := by simp [hpp]
          clear hpp H1 H2
          go_wp2_with (go_quiet (fail))
          go_ret
          exact ⟨ret_bool H3.out.symm, (by repeat (first | with_reducible assumption | with_reducible exact Grow.refl _ | with_reducible apply Grow.drewN | with_reducible apply Grow.drew | with_reducible apply Grow.alloc | (refine Grow.setCell ?_ (by simp; done) _)))⟩
      · have HE := Lib.hid hE
        clear hel hel' hE
        go_wp2
        go_ret
        refine ⟨ret_bool ?_, hb⟩
        rw [eq_comm, decide_eq_true_eq]
        exact same_all HL.out (by omega) HE.out
  · have hb : ((l.length : Int) != l'.length) = true := by simp; omega
    have HE : Hid (decide (l = l') = false) := by show _ = _; rw [decide_eq_false_iff_not]; rintro rfl; exact hlen rfl
    clear hlen hel hel'
    go_enter Try.func48, Try.ntmps48
    go_wp2
    go_ret
    exact ⟨ret_bool HE.out.symm, (by repeat (first | with_reducible assumption | with_reducible exact Grow.refl _ | with_reducible apply Grow.drewN | with_reducible apply Grow.drew | with_reducible apply Grow.alloc | (refine Grow.setCell ?_ (by simp; done) _)))⟩
set_option maxRecDepth 100000 in
set_option maxHeartbeats 1000000 in
theorem ref_sameReady {v v' : Value} {l l' : List Rd} (w : World) (hv : Sl Ty.rd w.cell? v l) (hv' : Sl Ty.rd w.cell? v' l') :
    Calls Try.prog 44 #[v, v'] w fun e w' => e = .returned (.bool (decide (l = l'))) ∧ Grow w w' := by
  obtain ⟨a, cap, rfl, h1, h2, -, hel⟩ := hv
  obtain ⟨a', cap', rfl, h1', h2', -, hel'⟩ := hv'
  unfold maxLen at h2 h2'
  by_cases hlen : l.length = l'.length
  · have hb : ((l.length : Int) != l'.length) = false := by simp [hlen]
    have HL := Lib.hid hlen
    clear hlen
    go_enter Try.func44, Try.ntmps44
    go_wp2
    go_loopw [4, 5, 13] (fun _ _ i wr => ∃ k : Nat, k ≤ l.length ∧ i = .int .i64 k ∧ Grow w wr ∧ ∀ j, j < k → l[j]? = l'[j]?) (fun _ _ i _ => l.length - (intOf i).toNat)
    case atStart => exact ⟨0, by omega, rfl, (by repeat (first | with_reducible assumption | with_reducible exact Grow.refl _ | with_reducible apply Grow.drewN | with_reducible apply Grow.drew | with_reducible apply Grow.alloc | (refine Grow.setCell ?_ (by simp; done) _))), fun j h => by omega⟩
    case round =>
      obtain ⟨k, hk', rfl, hb, hE⟩ := hrel
      by_cases hlt : k < l.length
      · have hlt' : k < l'.length := by have := HL.out; omega
        have H1 := Lib.hid (same_next hlt hlt' hE)
        have H2 : Hid (¬ l[k] = l'[k] → decide (l = l') = false) := fun h => same_not hlt hlt' h
        clear hE
        obtain ⟨b, o, vp, rfl, c0, c1, -, hp⟩ := Rds.at_ hel k hlt
        obtain ⟨b', o', vp', rfl, c0', c1', -, hp'⟩ := Rds.at_ hel' k hlt'
        obtain ⟨ap, cp, rfl, -⟩ := id hp
        obtain ⟨ap', cp', rfl, -⟩ := id hp'
        have HSP := Lib.hid (fun (W : World) (hW : Grow wr W) => ref_sameParts W (hp.mono (hb.trans hW).sub) (hp'.mono (hb.trans hW).sub))
        replace c0 := hb.sub _ _ c0
        replace c0' := hb.sub _ _ c0'
        replace c1 := hb.sub _ _ c1
        replace c1' := hb.sub _ _ c1'
        clear hel hel' hp hp'
        generalize l[k] = p at *
        generalize l'[k] = p' at *
        have HS : Hid (∀ W, Grow wr W → W.cell? ⟨b, o + k * 2, none⟩ = some (.int .i64 p.deed) ∧ W.cell? ⟨b, o + k * 2 + 1, none⟩ = some (.slice ap p.parts.length cp) ∧ W.cell? ⟨b', o' + k * 2, none⟩ = some (.int .i64 p'.deed) ∧ W.cell? ⟨b', o' + k * 2 + 1, none⟩ = some (.slice ap' p'.parts.length cp')) := fun W hW => ⟨hW.sub _ _ c0, hW.sub _ _ c1, hW.sub _ _ c0', hW.sub _ _ c1'⟩
        by_cases hd : p.deed = p'.deed
        · have hne : (p.deed != p'.deed) = false := by simp [hd]
          by_cases hpp : p.parts = p'.parts
          · have hpe : p = p' := by cases p; cases p'; simp_all
            have H3 := Lib.hid (H1.out hpe)
            have hdec := decide_eq_true hpp
            rw [hdec] at HSP
            clear hd hpp hpe H1 H2 hdec
            go_wp2
            go_region_held3 (fun w' => w'.cell? ⟨b, o + k * 2, none⟩ = some (.int .i64 p.deed) ∧ w'.cell? ⟨b, o + k * 2 + 1, none⟩ = some (.slice ap p.parts.length cp) ∧ w'.cell? ⟨b', o' + k * 2, none⟩ = some (.int .i64 p'.deed) ∧ w'.cell? ⟨b', o' + k * 2 + 1, none⟩ = some (.slice ap' p'.parts.length cp')) (first | assumption | exact HS.out _ (by repeat (first | with_reducible assumption | with_reducible exact Grow.refl _ | with_reducible apply Grow.drewN | with_reducible apply Grow.drew | with_reducible apply Grow.alloc | (refine Grow.trans ?_ (by with_reducible assumption))))) (first | (go_at_call 84; refine (HSP.out _ (by repeat (first | with_reducible assumption | with_reducible exact Grow.refl _ | with_reducible apply Grow.drewN | with_reducible apply Grow.drew | with_reducible apply Grow.alloc | (refine Grow.trans ?_ (by with_reducible assumption))))).mono ?_; rintro e w4 ⟨rfl, hb4⟩))
            go_wp2
            go_roundw
            case rel => exact ⟨k + 1, by omega, by go_num, hb.trans (by repeat (first | with_reducible assumption | with_reducible exact Grow.refl _ | with_reducible apply Grow.drewN | with_reducible apply Grow.drew | with_reducible apply Grow.alloc | (refine Grow.trans ?_ (by with_reducible assumption)))), H3.out⟩
            case measure => simp [intOf]; omega
          · have H3 := Lib.hid (H2.out (fun e => hpp (by rw [e])))
            have hdec := decide_eq_false hpp
            rw [hdec] at HSP
            clear hd hpp H1 H2 hdec
            go_wp2
            go_region_held3 (fun w' => w'.cell? ⟨b, o + k * 2, none⟩ = some (.int .i64 p.deed) ∧ w'.cell? ⟨b, o + k * 2 + 1, none⟩ = some (.slice ap p.parts.length cp) ∧ w'.cell? ⟨b', o' + k * 2, none⟩ = some (.int .i64 p'.deed) ∧ w'.cell? ⟨b', o' + k * 2 + 1, none⟩ = some (.slice ap' p'.parts.length cp')) (first | assumption | exact HS.out _ (by repeat (first | with_reducible assumption | with_reducible exact Grow.refl _ | with_reducible apply Grow.drewN | with_reducible apply Grow.drew | with_reducible apply Grow.alloc | (refine Grow.trans ?_ (by with_reducible assumption))))) (first | (go_at_call 84; refine (HSP.out _ (by repeat (first | with_reducible assumption | with_reducible exact Grow.refl _ | with_reducible apply Grow.drewN | with_reducible apply Grow.drew | with_reducible apply Grow.alloc | (refine Grow.trans ?_ (by with_reducible assumption))))).mono ?_; rintro e w4 ⟨rfl, hb4⟩))
            go_wp2
            go_ret
            exact ⟨ret_bool H3.out.symm, hb.trans (by repeat (first | with_reducible assumption | with_reducible exact Grow.refl _ | with_reducible apply Grow.drewN | with_reducible apply Grow.drew | with_reducible apply Grow.alloc | (refine Grow.trans ?_ (by with_reducible assumption))))⟩
        · have H3 := Lib.hid (H2.out (fun e => hd (by rw [e])))
          have hne : (p.deed != p'.deed) = true := by simp [hd]
          clear hd H1 H2
          go_wp2_with (go_quiet (fail))
          go_ret
          exact ⟨ret_bool H3.out.symm, (by repeat (first | with_reducible assumption | with_reducible exact Grow.refl _ | with_reducible apply Grow.drewN | with_reducible apply Grow.drew | with_reducible apply Grow.alloc | (refine Grow.setCell ?_ (by simp; done) _)))⟩
      · have HE := Lib.hid hE
        clear hel hel' hE
        go_wp2
        go_ret
        refine ⟨ret_bool ?_, hb⟩
        rw [eq_comm, decide_eq_true_eq]
        exact same_all HL.out (by omega) HE.out
  · have hb : ((l.length : Int) != l'.length) = true := by simp; omega
    have HE : Hid (decide (l = l') = false) := by show _ = _; rw [decide_eq_false_iff_not]; rintro rfl; exact hlen rfl
    clear hlen hel hel'
    go_enter Try.func44, Try.ntmps44
    go_wp2
    go_ret
    exact ⟨ret_bool HE.out.symm, (by repeat (first | with_reducible assumption | with_reducible exact Grow.refl _ | with_reducible apply Grow.drewN | with_reducible apply Grow.drew | with_reducible apply Grow.alloc | (refine Grow.setCell ?_ (by simp; done) _)))⟩
end Go.Proofs.Ytgbhpghgohggcaa

/- Walks: SameLog of the document's answer; four sums compared. -/
namespace Go.Proofs.Ytgbhpghgohggcaa
open Go.RowKit
set_option maxRecDepth 100000 in
set_option maxHeartbeats 4000000 in
theorem ref_sameLog {v v' : Value} {l l' : List Rc} (w : World) (hv : Sl Ty.rc w.cell? v l) (hv' : Sl Ty.rc w.cell? v' l') :
    Calls Try.prog 39 #[v, v'] w fun e w' => e = .returned (.bool (decide (l = l'))) ∧ Grow w w' := by
  obtain ⟨a, cap, rfl, h1, h2, -, hel⟩ := hv
  obtain ⟨a', cap', rfl, h1', h2', -, hel'⟩ := hv'
  unfold maxLen at h2 h2'
  by_cases hlen : l.length = l'.length
  · have hb : ((l.length : Int) != l'.length) = false := by simp [hlen]
    have HL := Lib.hid hlen
    clear hlen
    go_enter Try.func39, Try.ntmps39
    go_wp2
    go_loopw [4, 5, 13] (fun _ _ i wr => ∃ k : Nat, k ≤ l.length ∧ i = .int .i64 k ∧ Grow w wr ∧ ∀ j, j < k → l[j]? = l'[j]?) (fun _ _ i _ => l.length - (intOf i).toNat)
    case atStart => exact ⟨0, by omega, rfl, (by repeat (first | with_reducible assumption | with_reducible exact Grow.refl _ | with_reducible apply Grow.drewN | with_reducible apply Grow.drew | with_reducible apply Grow.alloc | (refine Grow.setCell ?_ (by simp; done) _))), fun j h => by omega⟩
    case round =>
      obtain ⟨k, hk', rfl, hb, hE⟩ := hrel
      by_cases hlt : k < l.length
      · have hlt' : k < l'.length := by have := HL.out; omega
        have H1 := Lib.hid (same_next hlt hlt' hE)
        have H2 : Hid (¬ l[k] = l'[k] → decide (l = l') = false) := fun h => same_not hlt hlt' h
        clear hE
        obtain ⟨b, o, vp, rfl, c0, c1, c2, -, -, hp⟩ := Rcs.at_ hel k hlt
        obtain ⟨b', o', vp', rfl, c0', c1', c2', -, -, hp'⟩ := Rcs.at_ hel' k hlt'
        obtain ⟨ap, cp, rfl, -⟩ := id hp
        obtain ⟨ap', cp', rfl, -⟩ := id hp'
        have HSP := Lib.hid (fun (W : World) (hW : Grow wr W) => ref_sameParts W (hp.mono (hb.trans hW).sub) (hp'.mono (hb.trans hW).sub))
        replace c0 := hb.sub _ _ c0
        replace c0' := hb.sub _ _ c0'
        replace c1 := hb.sub _ _ c1
        replace c1' := hb.sub _ _ c1'
        replace c2 := hb.sub _ _ c2
        replace c2' := hb.sub _ _ c2'
        clear hel hel' hp hp'
        generalize l[k] = p at *
        generalize l'[k] = p' at *
        have HS : Hid (∀ W, Grow wr W → W.cell? ⟨b, o + k * 3, none⟩ = some (.int .i64 p.kind) ∧ W.cell? ⟨b, o + k * 3 + 1, none⟩ = some (.int .i64 p.deed) ∧ W.cell? ⟨b, o + k * 3 + 2, none⟩ = some (.slice ap p.parts.length cp) ∧ W.cell? ⟨b', o' + k * 3, none⟩ = some (.int .i64 p'.kind) ∧ W.cell? ⟨b', o' + k * 3 + 1, none⟩ = some (.int .i64 p'.deed) ∧ W.cell? ⟨b', o' + k * 3 + 2, none⟩ = some (.slice ap' p'.parts.length cp')) := fun W hW => ⟨hW.sub _ _ c0, hW.sub _ _ c1, hW.sub _ _ c2, hW.sub _ _ c0', hW.sub _ _ c1', hW.sub _ _ c2'⟩
        by_cases hk : p.kind = p'.kind
        · have hnk : (p.kind != p'.kind) = false := by simp [hk]
          by_cases hd : p.deed = p'.deed
          · have hne : (p.deed != p'.deed) = false := by simp [hd]
            by_cases hpp : p.parts = p'.parts
            · have hpe : p = p' := by cases p; cases p'; simp_all
              have H3 := Lib.hid (H1.out hpe)
              have hdec := decide_eq_true hpp
              rw [hdec] at HSP
              clear hk hd hpp hpe H1 H2 hdec
              go_wp2
              go_region_held3 (fun w' => w'.cell? ⟨b, o + k * 3, none⟩ = some (.int .i64 p.kind) ∧ w'.cell? ⟨b, o + k * 3 + 1, none⟩ = some (.int .i64 p.deed) ∧ w'.cell? ⟨b, o + k * 3 + 2, none⟩ = some (.slice ap p.parts.length cp) ∧ w'.cell? ⟨b', o' + k * 3, none⟩ = some (.int .i64 p'.kind) ∧ w'.cell? ⟨b', o' + k * 3 + 1, none⟩ = some (.int .i64 p'.deed) ∧ w'.cell? ⟨b', o' + k * 3 + 2, none⟩ = some (.slice ap' p'.parts.length cp')) (first | assumption | exact HS.out _ (by repeat (first | with_reducible assumption | with_reducible exact Grow.refl _ | with_reducible apply Grow.drewN | with_reducible apply Grow.drew | with_reducible apply Grow.alloc | (refine Grow.trans ?_ (by with_reducible assumption))))) (first | (go_at_call 84; refine (HSP.out _ (by repeat (first | with_reducible assumption | with_reducible exact Grow.refl _ | with_reducible apply Grow.drewN | with_reducible apply Grow.drew | with_reducible apply Grow.alloc | (refine Grow.trans ?_ (by with_reducible assumption))))).mono ?_; rintro e w4 ⟨rfl, hb4⟩))
              go_wp2
              go_roundw
              case rel => exact ⟨k + 1, by omega, by go_num, hb.trans (by repeat (first | with_reducible assumption | with_reducible exact Grow.refl _ | with_reducible apply Grow.drewN | with_reducible apply Grow.drew | with_reducible apply Grow.alloc | (refine Grow.trans ?_ (by with_reducible assumption)))), H3.out⟩
              case measure => simp [intOf]; omega
            · have H3 := Lib.hid (H2.out (fun e => hpp (by rw [e])))
              have hdec := decide_eq_false hpp
              rw [hdec] at HSP
              clear hk hd hpp H1 H2 hdec
              go_wp2
              go_region_held3 (fun w' => w'.cell? ⟨b, o + k * 3, none⟩ = some (.int .i64 p.kind) ∧ w'.cell? ⟨b, o + k * 3 + 1, none⟩ = some (.int .i64 p.deed) ∧ w'.cell? ⟨b, o + k * 3 + 2, none⟩ = some (.slice ap p.parts.length cp) ∧ w'.cell? ⟨b', o' + k * 3, none⟩ = some (.int .i64 p'.kind) ∧ w'.cell? ⟨b', o' + k * 3 + 1, none⟩ = some (.int .i64 p'.deed) ∧ w'.cell? ⟨b', o' + k * 3 + 2, none⟩ = some (.slice ap' p'.parts.length cp')) (first | assumption | exact HS.out _ (by repeat (first | with_reducible assumption | with_reducible exact Grow.refl _ | with_reducible apply Grow.drewN | with_reducible apply Grow.drew | with_reducible apply Grow.alloc | (refine Grow.trans ?_ (by with_reducible assumption))))) (first | (go_at_call 84; refine (HSP.out _ (by repeat (first | with_reducible assumption | with_reducible exact Grow.refl _ | with_reducible apply Grow.drewN | with_reducible apply Grow.drew | with_reducible apply Grow.alloc | (refine Grow.trans ?_ (by with_reducible assumption))))).mono ?_; rintro e w4 ⟨rfl, hb4⟩))
              go_wp2
              go_ret
              exact ⟨ret_bool H3.out.symm, hb.trans (by repeat (first | with_reducible assumption | with_reducible exact Grow.refl _ | with_reducible apply Grow.drewN | with_reducible apply Grow.drew | with_reducible apply Grow.alloc | (refine Grow.trans ?_ (by with_reducible assumption))))⟩
          · have H3 := Lib.hid (H2.out (fun e => hd (by rw [e])))
            have hne : (p.deed != p'.deed) = true := by simp [hd]
            clear hk hd H1 H2
            go_wp2_with (go_quiet (fail))
            go_ret
            exact ⟨ret_bool H3.out.symm, (by repeat (first | with_reducible assumption | with_reducible exact Grow.refl _ | with_reducible apply Grow.drewN | with_reducible apply Grow.drew | with_reducible apply Grow.alloc | (refine Grow.setCell ?_ (by simp; done) _)))⟩
        · have H3 := Lib.hid (H2.out (fun e => hk (by rw [e])))
          have hnk : (p.kind != p'.kind) = true := by simp [hk]
          clear hk H1 H2
          go_wp2_with (go_quiet (fail))
          go_ret
          exact ⟨ret_bool H3.out.symm, (by repeat (first | with_reducible assumption | with_reducible exact Grow.refl _ | with_reducible apply Grow.drewN | with_reducible apply Grow.drew | with_reducible apply Grow.alloc | (refine Grow.setCell ?_ (by simp; done) _)))⟩
      · have HE := Lib.hid hE
        clear hel hel' hE
        go_wp2
        go_ret
        refine ⟨ret_bool ?_, hb⟩
        rw [eq_comm, decide_eq_true_eq]
        exact same_all HL.out (by omega) HE.out
  · have hb : ((l.length : Int) != l'.length) = true := by simp; omega
    have HE : Hid (decide (l = l') = false) := by show _ = _; rw [decide_eq_false_iff_not]; rintro rfl; exact hlen rfl
    clear hlen hel hel'
    go_enter Try.func39, Try.ntmps39
    go_wp2
    go_ret
    exact ⟨ret_bool HE.out.symm, (by repeat (first | with_reducible assumption | with_reducible exact Grow.refl _ | with_reducible apply Grow.drewN | with_reducible apply Grow.drew | with_reducible apply Grow.alloc | (refine Grow.setCell ?_ (by simp; done) _)))⟩
theorem eql_sm (s t : Sm) (w : World) : (binOp .eql 25 (.agg #[.int .i64 s.a, .int .i64 s.b, .int .i64 s.c, .int .i64 s.d]) (.agg #[.int .i64 t.a, .int .i64 t.b, .int .i64 t.c, .int .i64 t.d])).run Try.prog w = .ok (.bool (decide (s = t))) w := by
  have u3 := Try.underlying3
  have a3 := Try.isAgg3
  have z3 := Try.sizeOf3
  obtain ⟨i, z, hi, _⟩ := ei_int.hi
  have hc : Try.prog.cellsOf 3 = 1 := by kernel_rfl
  rw [run_eql_struct, show (10000 : Nat) = 9999 + 1 from rfl, run_equalIn_array w 9999 _ _ Try.underlying25 hi, hc, show List.range 4 = [0, 1, 2, 3] from rfl]
  clear hi
  simp only [Op.eqItems]
  obtain ⟨a, b, c, d⟩ := s
  obtain ⟨a', b', c', d'⟩ := t
  go_simp
  by_cases h1 : a = a' <;> by_cases h2 : b = b' <;> by_cases h3 : c = c' <;> by_cases h4 : d = d' <;> simp [h1, h2, h3, h4]
theorem guard_sm : Try.prog.eqGuardType Try.prog.depth 25 = false := by kernel_rfl
end Go.Proofs.Ytgbhpghgohggcaa

/- The law LocksGo, walked. -/
namespace Go.Proofs.Ytgbhpghgohggcaa
open Go.RowKit
theorem go_ready {l : List Rc} {kind deed : Int} (hk : kind = 2 ∨ kind = 3) : (houseR (l ++ [⟨kind, deed, []⟩])).ready = (houseR l).ready.eraseP (isD deed) := by
  rw [house_snoc]
  show (refStep (houseR l) ⟨kind, deed, []⟩).ready = _
  rw [step_ready]
  by_cases h : ((houseR l).ready.find? (isD deed)).isSome = true
  · rw [if_pos h, if_pos hk]
  · rw [if_neg h, if_neg (by show ¬ kind = 1; omega), List.eraseP_of_forall_not]
    intro x hx hx2
    exact h (by rw [List.find?_isSome]; exact ⟨x, hx, hx2⟩)
theorem go_law {l : List Rc} {kind deed : Int} (key : Int) (hl : ∀ r ∈ l, 0 ≤ r.deed) (hk : kind = 2 ∨ kind = 3) (hd : 0 ≤ deed) :
    whoE (houseR (l ++ [⟨kind, deed, []⟩])).ready key ≠ deed ∧ (whoE (houseR l).ready key = deed ∨ whoE (houseR l).ready key = whoE (houseR (l ++ [⟨kind, deed, []⟩])).ready key) := by
  rw [go_ready hk]
  exact who_drop hd (house_fine hl).nodup key
theorem right_deeds {l : List Rc} (h : rightLog l = true) : ∀ r ∈ l, 0 ≤ r.deed := by
  unfold rightLog at h
  intro r hr
  exact (of_decide_eq_true ((of_decide_eq_true h).1 r hr)).1
set_option maxRecDepth 100000 in
set_option maxHeartbeats 2000000 in
theorem locksGo_walk {v : Value} {l : List Rc} {deed kind key : Int} (w : World) (hv : Rcs w.cell? v l) (hd : I64 deed) (hki : I64 kind) :
    Calls Try.prog 5 #[v, .int .i64 deed, .int .i64 kind, .int .i64 key] w fun e w' => e = .returned (.bool true) ∧ Grow w w' := by
  have HRL := Lib.hid (fun (W : World) (hW : Grow w W) => ref_rightLog W (hv.mono hW.sub))
  have HV := Lib.hid hv
  have HI := Lib.hid (And.intro hd hki)
  have HA := Lib.hid (alive6 w)
  obtain ⟨al, cl, rfl, -⟩ := hv
  clear hd hki
  cases hok : rightLog l with
  | false =>
    go_enter Try.func5, Try.ntmps5
    go_wp2_with fail
    refine HA.out.mono ?_
    rintro e w1 ⟨rfl, hb1⟩
    have HB1 := Lib.hid hb1
    clear hb1
    go_wp2_with fail
    refine (HRL.out _ HB1.out).mono ?_
    rw [hok]
    rintro e w2 ⟨rfl, hb2⟩
    have HB2 := Lib.hid (HB1.out.trans hb2)
    clear hb2
    go_wp2
    go_ret
    exact ⟨rfl, HB2.out⟩
  | true =>
    have HOK := Lib.hid hok
    clear hok
    by_cases hk : kind = 2 ∨ kind = 3
    · have hlen := (keys_of_right HOK.out).2
      have HKS := Lib.hid (keys_of_right HOK.out).1
      have hne : ∀ x ∈ houseR l |>.ready, True := fun _ _ => trivial
      have HLAW : Hid (0 ≤ deed → whoE (houseR (l ++ [⟨kind, deed, []⟩])).ready key ≠ deed ∧ (whoE (houseR l).ready key = deed ∨ whoE (houseR l).ready key = whoE (houseR (l ++ [⟨kind, deed, []⟩])).ready key)) := go_law key (right_deeds HOK.out) hk
      have HHS := Lib.hid (fun (W : World) (hW : Grow w W) => ref_house W (HV.out.mono hW.sub) HKS.out (by omega))
      have HSRC := Lib.hid (fun (W : World) (hW : Grow w W) => (Src.of_sl (T := Ty.rc) (by decide) HV.out).grow hW)
      clear hne
      rcases hk with rfl | rfl
      · go_enter Try.func5, Try.ntmps5
        go_wp2_with fail
        refine HA.out.mono ?_
        rintro e w1 ⟨rfl, hb1⟩
        have HB1 := Lib.hid hb1
        clear hb1
        go_wp2_with fail
        refine (HRL.out _ HB1.out).mono ?_
        rw [HOK.out]
        rintro e w2 ⟨rfl, hb2⟩
        have HB2 := Lib.hid (HB1.out.trans hb2)
        clear hb2
        go_wp2_with fail
        refine (HHS.out _ HB2.out).mono ?_
        rintro e w3 ⟨vh, rfl, hO, hb3⟩
        have HB3 := Lib.hid (HB2.out.trans hb3)
        obtain ⟨al1, cl1, ar1, cr1, ad1, cd1, rfl⟩ := hO.hs_form
        have HO := Lib.hid hO
        clear hO hb3
        have HW1 := Lib.hid (fun (W : World) (hW : Grow w3 W) => locks_who (key := key) W (HO.out.mono hW.sub))
        generalize houseR l = h at *
        go_wp2_with (first | (at_builtin; refine wpList_appc ei_rc rfl one_Trc (by decide) rfl (.tmp 28) (.tmp 29) rfl rfl (OwnC.made0 Ty.rc w.cell? _ (w3.heap.size + 1) _ ?c1 ?c1') rfl (HSRC.out _ ?c2) ?c3 ?c4 ?_))
        case c1 => simp
        case c1' => simp
        case c2 => exact (HB3.out.alloc _).alloc _
        case c3 => simp; omega
        case c4 => simp
        intro a1 c1 w4 hown1 hg1 hb1
        try simp only [List.length_nil, Nat.zero_add, List.nil_append] at hown1 hb1 ⊢
        have g4 := grow_by (w0 := (w3.alloc (.cells #[.slice al1 h.log.length cl1, .int .i64 h.sums.a, .int .i64 h.sums.b, .int .i64 h.sums.c, .int .i64 h.sums.d, .slice ar1 h.ready.length cr1, .slice ad1 h.done.length cd1] 29))) ((Grow.refl _).alloc _) hg1 (own_at (by simp))
        have b4 := own_new (B := w3.heap.size + 1) (by simp) hb1 (own_at (Nat.le_refl _))
        have GW4 : Hid (Grow w w4) := Lib.hid ((HB3.out.alloc _).trans g4)
        have HO4 := Lib.hid hown1
        have HG4 := Lib.hid g4
        have HB4 := Lib.hid b4
        obtain ⟨cw4, fw4⟩ := bcell g4
        have z4 : w3.heap.size < w4.heap.size := by have := g4.size; simp at this; omega
        clear hown1 hg1 hb1 g4 b4
        go_wp2_with (first | (at_builtin; refine wpList_appc (c := w.cell?) (base := w3.heap.size + 1) (m := [⟨2, deed, []⟩]) ei_rc rfl one_Trc (by decide) rfl (.tmp 30) (.tmp 34) rfl rfl (HO4.out.grow ((Grow.refl _).alloc _)) rfl (Src.of_new (cs := #[.int .i64 2, .int .i64 deed, .slice none 0 0]) ?d0 _ _ ?d1) ?d2 ?d3 ?_))
        case d0 => exact ⟨_, rfl, HI.out.2, HI.out.1, Sl.nil _ _⟩
        case d1 => rfl
        case d2 => simp; omega
        case d3 => simp; omega
        intro a2 c2 w5 hown2 hg2 hb2
        have g5 := grow_by (w0 := (w3.alloc (.cells #[.slice al1 h.log.length cl1, .int .i64 h.sums.a, .int .i64 h.sums.b, .int .i64 h.sums.c, .int .i64 h.sums.d, .slice ar1 h.ready.length cr1, .slice ad1 h.done.length cd1] 29))) (HG4.out.alloc _) hg2 (fun k hk => by have := HB4.out k hk; simpa using this)
        have GW5 : Hid (Grow w w5) := Lib.hid ((HB3.out.alloc _).trans g5)
        have HG5 := Lib.hid g5
        have hv5 := hown2.sl (by decide) GW5.out.sub
        have HV5 := Lib.hid hv5
        obtain ⟨cw5, fw5⟩ := bcell g5
        have z5 : w3.heap.size < w5.heap.size := by have := g5.size; simp at this; omega
        clear hown2 hg2 hb2 g5 hv5 cw4 fw4
        go_wp2_with fail
        refine (ref_house w5 HV5.out (by intro r hr; rcases List.mem_append.1 hr with hr | hr; exact HKS.out r hr; simp at hr; subst hr; intro p hp; simp at hp) (by simp; omega)).mono ?_
        rintro e w6 ⟨vx, rfl, hX, hb6⟩
        obtain ⟨al2, cl2, ar2, cr2, ad2, cd2, rfl⟩ := hX.hs_form
        have HX := Lib.hid hX
        have G6 : Hid (Grow (w3.alloc (.cells #[.slice al1 h.log.length cl1, .int .i64 h.sums.a, .int .i64 h.sums.b, .int .i64 h.sums.c, .int .i64 h.sums.d, .slice ar1 h.ready.length cr1, .slice ad1 h.done.length cd1] 29)) w6) := Lib.hid (HG5.out.trans hb6)
        have GW6 : Hid (Grow w w6) := Lib.hid (GW5.out.trans hb6)
        obtain ⟨cw6, fw6⟩ := bcell G6.out
        have z6 : w3.heap.size < w6.heap.size := by have := G6.out.size; simp at this; omega
        have HW2 := Lib.hid (fun (W : World) (hW : Grow w6 W) => locks_who (key := key) W (HX.out.mono hW.sub))
        clear hX hb6 cw5 fw5
        generalize houseR (l ++ [⟨2, deed, []⟩]) = x at *
        go_wp2_with fail
        have HS : Hid (∀ W, Grow (w6.alloc (.cells #[.slice al2 x.log.length cl2, .int .i64 x.sums.a, .int .i64 x.sums.b, .int .i64 x.sums.c, .int .i64 x.sums.d, .slice ar2 x.ready.length cr2, .slice ad2 x.done.length cd2] 29)) W → W.cell? ⟨w3.heap.size, 0, none⟩ = some (.slice al1 h.log.length cl1) ∧ W.cell? ⟨w3.heap.size, 1, none⟩ = some (.int .i64 h.sums.a) ∧ W.cell? ⟨w3.heap.size, 2, none⟩ = some (.int .i64 h.sums.b) ∧ W.cell? ⟨w3.heap.size, 3, none⟩ = some (.int .i64 h.sums.c) ∧ W.cell? ⟨w3.heap.size, 4, none⟩ = some (.int .i64 h.sums.d) ∧ W.cell? ⟨w3.heap.size, 5, none⟩ = some (.slice ar1 h.ready.length cr1) ∧ W.cell? ⟨w3.heap.size, 6, none⟩ = some (.slice ad1 h.done.length cd1) ∧ W.cell? ⟨w6.heap.size, 0, none⟩ = some (.slice al2 x.log.length cl2) ∧ W.cell? ⟨w6.heap.size, 1, none⟩ = some (.int .i64 x.sums.a) ∧ W.cell? ⟨w6.heap.size, 2, none⟩ = some (.int .i64 x.sums.b) ∧ W.cell? ⟨w6.heap.size, 3, none⟩ = some (.int .i64 x.sums.c) ∧ W.cell? ⟨w6.heap.size, 4, none⟩ = some (.int .i64 x.sums.d) ∧ W.cell? ⟨w6.heap.size, 5, none⟩ = some (.slice ar2 x.ready.length cr2) ∧ W.cell? ⟨w6.heap.size, 6, none⟩ = some (.slice ad2 x.done.length cd2)) := fun W hW => by
          have k := fun i u (e : (w3.alloc (.cells #[.slice al1 h.log.length cl1, .int .i64 h.sums.a, .int .i64 h.sums.b, .int .i64 h.sums.c, .int .i64 h.sums.d, .slice ar1 h.ready.length cr1, .slice ad1 h.done.length cd1] 29)).cell? ⟨w3.heap.size, i, none⟩ = some u) => (((Grow.refl w6).alloc _).trans hW).sub _ _ (G6.out.sub _ _ e)
          have m := fun i u (e : (w6.alloc (.cells #[.slice al2 x.log.length cl2, .int .i64 x.sums.a, .int .i64 x.sums.b, .int .i64 x.sums.c, .int .i64 x.sums.d, .slice ar2 x.ready.length cr2, .slice ad2 x.done.length cd2] 29)).cell? ⟨w6.heap.size, i, none⟩ = some u) => hW.sub _ _ e
          refine ⟨k 0 _ ?_, k 1 _ ?_, k 2 _ ?_, k 3 _ ?_, k 4 _ ?_, k 5 _ ?_, k 6 _ ?_, m 0 _ ?_, m 1 _ ?_, m 2 _ ?_, m 3 _ ?_, m 4 _ ?_, m 5 _ ?_, m 6 _ ?_⟩ <;> (rw [World.cell?_alloc_new]; rfl)
        have HW1' := Lib.hid (fun (W : World) (hW : Grow (w6.alloc (.cells #[.slice al2 x.log.length cl2, .int .i64 x.sums.a, .int .i64 x.sums.b, .int .i64 x.sums.c, .int .i64 x.sums.d, .slice ar2 x.ready.length cr2, .slice ad2 x.done.length cd2] 29)) W) => HW1.out W (by have h1 := G6.out; have h2 := (Grow.refl w3).alloc (.cells #[.slice al1 h.log.length cl1, .int .i64 h.sums.a, .int .i64 h.sums.b, .int .i64 h.sums.c, .int .i64 h.sums.d, .slice ar1 h.ready.length cr1, .slice ad1 h.done.length cd1] 29); exact (h2.trans h1).trans (((Grow.refl w6).alloc _).trans hW)))
        have HW2' := Lib.hid (fun (W : World) (hW : Grow (w6.alloc (.cells #[.slice al2 x.log.length cl2, .int .i64 x.sums.a, .int .i64 x.sums.b, .int .i64 x.sums.c, .int .i64 x.sums.d, .slice ar2 x.ready.length cr2, .slice ad2 x.done.length cd2] 29)) W) => HW2.out W (((Grow.refl w6).alloc _).trans hW))
        clear HW1 HW2
        generalize whoE h.ready key = wo at *
        generalize whoE x.ready key = wn at *
        generalize hW7 : (w6.alloc (.cells #[.slice al2 x.log.length cl2, .int .i64 x.sums.a, .int .i64 x.sums.b, .int .i64 x.sums.c, .int .i64 x.sums.d, .slice ar2 x.ready.length cr2, .slice ad2 x.done.length cd2] 29)) = w7 at *
        have HW7 := Lib.hid hW7
        clear hW7 cw6 fw6 z6 z5 z4
        go_region_held3 (fun w' => w'.cell? ⟨w3.heap.size, 0, none⟩ = some (.slice al1 h.log.length cl1) ∧ w'.cell? ⟨w3.heap.size, 1, none⟩ = some (.int .i64 h.sums.a) ∧ w'.cell? ⟨w3.heap.size, 2, none⟩ = some (.int .i64 h.sums.b) ∧ w'.cell? ⟨w3.heap.size, 3, none⟩ = some (.int .i64 h.sums.c) ∧ w'.cell? ⟨w3.heap.size, 4, none⟩ = some (.int .i64 h.sums.d) ∧ w'.cell? ⟨w3.heap.size, 5, none⟩ = some (.slice ar1 h.ready.length cr1) ∧ w'.cell? ⟨w3.heap.size, 6, none⟩ = some (.slice ad1 h.done.length cd1) ∧ w'.cell? ⟨w6.heap.size, 0, none⟩ = some (.slice al2 x.log.length cl2) ∧ w'.cell? ⟨w6.heap.size, 1, none⟩ = some (.int .i64 x.sums.a) ∧ w'.cell? ⟨w6.heap.size, 2, none⟩ = some (.int .i64 x.sums.b) ∧ w'.cell? ⟨w6.heap.size, 3, none⟩ = some (.int .i64 x.sums.c) ∧ w'.cell? ⟨w6.heap.size, 4, none⟩ = some (.int .i64 x.sums.d) ∧ w'.cell? ⟨w6.heap.size, 5, none⟩ = some (.slice ar2 x.ready.length cr2) ∧ w'.cell? ⟨w6.heap.size, 6, none⟩ = some (.slice ad2 x.done.length cd2)) (first | assumption | exact HS.out _ (by repeat (first | with_reducible assumption | with_reducible exact Grow.refl _ | with_reducible apply Grow.drewN | with_reducible apply Grow.drew | with_reducible apply Grow.alloc | (refine Grow.trans ?_ (by with_reducible assumption))))) (first | (go_at_call 31; first | ((with_reducible refine (HW1'.out _ (by repeat (first | with_reducible assumption | with_reducible exact Grow.refl _ | with_reducible apply Grow.drewN | with_reducible apply Grow.drew | with_reducible apply Grow.alloc | (refine Grow.trans ?_ (by with_reducible assumption))))).mono ?_); rintro e wa ⟨rfl, hba⟩) | ((with_reducible refine (HW2'.out _ (by repeat (first | with_reducible assumption | with_reducible exact Grow.refl _ | with_reducible apply Grow.drewN | with_reducible apply Grow.drew | with_reducible apply Grow.alloc | (refine Grow.trans ?_ (by with_reducible assumption))))).mono ?_); rintro e wb ⟨rfl, hbb⟩)))
        have HF : Hid (deed < 0 ∨ wn ≠ deed ∧ (wo = deed ∨ wo = wn)) := by
          by_cases h0 : deed < 0
          · exact .inl h0
          · exact .inr (HLAW.out (by omega))
        have HGW : Hid (Grow w w7) := by rw [← HW7.out]; exact GW6.out.alloc _
        go_wp2
        all_goals
          go_ret
          refine ⟨ret_bool ?_, HGW.out.trans (by repeat (first | with_reducible assumption | with_reducible exact Grow.refl _ | with_reducible apply Grow.drewN | with_reducible apply Grow.drew | with_reducible apply Grow.alloc | (refine Grow.trans ?_ (by with_reducible assumption))))⟩
          have hf := HF.out
          first
            | rfl
            | (simp; omega)
      · go_enter Try.func5, Try.ntmps5
        go_wp2_with fail
        refine HA.out.mono ?_
        rintro e w1 ⟨rfl, hb1⟩
        have HB1 := Lib.hid hb1
        clear hb1
        go_wp2_with fail
        refine (HRL.out _ HB1.out).mono ?_
        rw [HOK.out]
        rintro e w2 ⟨rfl, hb2⟩
        have HB2 := Lib.hid (HB1.out.trans hb2)
        clear hb2
        go_wp2_with fail
        refine (HHS.out _ HB2.out).mono ?_
        rintro e w3 ⟨vh, rfl, hO, hb3⟩
        have HB3 := Lib.hid (HB2.out.trans hb3)
        obtain ⟨al1, cl1, ar1, cr1, ad1, cd1, rfl⟩ := hO.hs_form
        have HO := Lib.hid hO
        clear hO hb3
        have HW1 := Lib.hid (fun (W : World) (hW : Grow w3 W) => locks_who (key := key) W (HO.out.mono hW.sub))
        generalize houseR l = h at *
        go_wp2_with (first | (at_builtin; refine wpList_appc ei_rc rfl one_Trc (by decide) rfl (.tmp 28) (.tmp 29) rfl rfl (OwnC.made0 Ty.rc w.cell? _ (w3.heap.size + 1) _ ?c1 ?c1') rfl (HSRC.out _ ?c2) ?c3 ?c4 ?_))
        case c1 => simp
        case c1' => simp
        case c2 => exact (HB3.out.alloc _).alloc _
        case c3 => simp; omega
        case c4 => simp
        intro a1 c1 w4 hown1 hg1 hb1
        try simp only [List.length_nil, Nat.zero_add, List.nil_append] at hown1 hb1 ⊢
        have g4 := grow_by (w0 := (w3.alloc (.cells #[.slice al1 h.log.length cl1, .int .i64 h.sums.a, .int .i64 h.sums.b, .int .i64 h.sums.c, .int .i64 h.sums.d, .slice ar1 h.ready.length cr1, .slice ad1 h.done.length cd1] 29))) ((Grow.refl _).alloc _) hg1 (own_at (by simp))
        have b4 := own_new (B := w3.heap.size + 1) (by simp) hb1 (own_at (Nat.le_refl _))
        have GW4 : Hid (Grow w w4) := Lib.hid ((HB3.out.alloc _).trans g4)
        have HO4 := Lib.hid hown1
        have HG4 := Lib.hid g4
        have HB4 := Lib.hid b4
        obtain ⟨cw4, fw4⟩ := bcell g4
        have z4 : w3.heap.size < w4.heap.size := by have := g4.size; simp at this; omega
        clear hown1 hg1 hb1 g4 b4
        go_wp2_with (first | (at_builtin; refine wpList_appc (c := w.cell?) (base := w3.heap.size + 1) (m := [⟨3, deed, []⟩]) ei_rc rfl one_Trc (by decide) rfl (.tmp 30) (.tmp 34) rfl rfl (HO4.out.grow ((Grow.refl _).alloc _)) rfl (Src.of_new (cs := #[.int .i64 3, .int .i64 deed, .slice none 0 0]) ?d0 _ _ ?d1) ?d2 ?d3 ?_))
        case d0 => exact ⟨_, rfl, HI.out.2, HI.out.1, Sl.nil _ _⟩
        case d1 => rfl
        case d2 => simp; omega
        case d3 => simp; omega
        intro a2 c2 w5 hown2 hg2 hb2
        have g5 := grow_by (w0 := (w3.alloc (.cells #[.slice al1 h.log.length cl1, .int .i64 h.sums.a, .int .i64 h.sums.b, .int .i64 h.sums.c, .int .i64 h.sums.d, .slice ar1 h.ready.length cr1, .slice ad1 h.done.length cd1] 29))) (HG4.out.alloc _) hg2 (fun k hk => by have := HB4.out k hk; simpa using this)
        have GW5 : Hid (Grow w w5) := Lib.hid ((HB3.out.alloc _).trans g5)
        have HG5 := Lib.hid g5
        have hv5 := hown2.sl (by decide) GW5.out.sub
        have HV5 := Lib.hid hv5
        obtain ⟨cw5, fw5⟩ := bcell g5
        have z5 : w3.heap.size < w5.heap.size := by have := g5.size; simp at this; omega
        clear hown2 hg2 hb2 g5 hv5 cw4 fw4
        go_wp2_with fail
        refine (ref_house w5 HV5.out (by intro r hr; rcases List.mem_append.1 hr with hr | hr; exact HKS.out r hr; simp at hr; subst hr; intro p hp; simp at hp) (by simp; omega)).mono ?_
        rintro e w6 ⟨vx, rfl, hX, hb6⟩
        obtain ⟨al2, cl2, ar2, cr2, ad2, cd2, rfl⟩ := hX.hs_form
        have HX := Lib.hid hX
        have G6 : Hid (Grow (w3.alloc (.cells #[.slice al1 h.log.length cl1, .int .i64 h.sums.a, .int .i64 h.sums.b, .int .i64 h.sums.c, .int .i64 h.sums.d, .slice ar1 h.ready.length cr1, .slice ad1 h.done.length cd1] 29)) w6) := Lib.hid (HG5.out.trans hb6)
        have GW6 : Hid (Grow w w6) := Lib.hid (GW5.out.trans hb6)
        obtain ⟨cw6, fw6⟩ := bcell G6.out
        have z6 : w3.heap.size < w6.heap.size := by have := G6.out.size; simp at this; omega
        have HW2 := Lib.hid (fun (W : World) (hW : Grow w6 W) => locks_who (key := key) W (HX.out.mono hW.sub))
        clear hX hb6 cw5 fw5
        generalize houseR (l ++ [⟨3, deed, []⟩]) = x at *
        go_wp2_with fail
        have HS : Hid (∀ W, Grow (w6.alloc (.cells #[.slice al2 x.log.length cl2, .int .i64 x.sums.a, .int .i64 x.sums.b, .int .i64 x.sums.c, .int .i64 x.sums.d, .slice ar2 x.ready.length cr2, .slice ad2 x.done.length cd2] 29)) W → W.cell? ⟨w3.heap.size, 0, none⟩ = some (.slice al1 h.log.length cl1) ∧ W.cell? ⟨w3.heap.size, 1, none⟩ = some (.int .i64 h.sums.a) ∧ W.cell? ⟨w3.heap.size, 2, none⟩ = some (.int .i64 h.sums.b) ∧ W.cell? ⟨w3.heap.size, 3, none⟩ = some (.int .i64 h.sums.c) ∧ W.cell? ⟨w3.heap.size, 4, none⟩ = some (.int .i64 h.sums.d) ∧ W.cell? ⟨w3.heap.size, 5, none⟩ = some (.slice ar1 h.ready.length cr1) ∧ W.cell? ⟨w3.heap.size, 6, none⟩ = some (.slice ad1 h.done.length cd1) ∧ W.cell? ⟨w6.heap.size, 0, none⟩ = some (.slice al2 x.log.length cl2) ∧ W.cell? ⟨w6.heap.size, 1, none⟩ = some (.int .i64 x.sums.a) ∧ W.cell? ⟨w6.heap.size, 2, none⟩ = some (.int .i64 x.sums.b) ∧ W.cell? ⟨w6.heap.size, 3, none⟩ = some (.int .i64 x.sums.c) ∧ W.cell? ⟨w6.heap.size, 4, none⟩ = some (.int .i64 x.sums.d) ∧ W.cell? ⟨w6.heap.size, 5, none⟩ = some (.slice ar2 x.ready.length cr2) ∧ W.cell? ⟨w6.heap.size, 6, none⟩ = some (.slice ad2 x.done.length cd2)) := fun W hW => by
          have k := fun i u (e : (w3.alloc (.cells #[.slice al1 h.log.length cl1, .int .i64 h.sums.a, .int .i64 h.sums.b, .int .i64 h.sums.c, .int .i64 h.sums.d, .slice ar1 h.ready.length cr1, .slice ad1 h.done.length cd1] 29)).cell? ⟨w3.heap.size, i, none⟩ = some u) => (((Grow.refl w6).alloc _).trans hW).sub _ _ (G6.out.sub _ _ e)
          have m := fun i u (e : (w6.alloc (.cells #[.slice al2 x.log.length cl2, .int .i64 x.sums.a, .int .i64 x.sums.b, .int .i64 x.sums.c, .int .i64 x.sums.d, .slice ar2 x.ready.length cr2, .slice ad2 x.done.length cd2] 29)).cell? ⟨w6.heap.size, i, none⟩ = some u) => hW.sub _ _ e
          refine ⟨k 0 _ ?_, k 1 _ ?_, k 2 _ ?_, k 3 _ ?_, k 4 _ ?_, k 5 _ ?_, k 6 _ ?_, m 0 _ ?_, m 1 _ ?_, m 2 _ ?_, m 3 _ ?_, m 4 _ ?_, m 5 _ ?_, m 6 _ ?_⟩ <;> (rw [World.cell?_alloc_new]; rfl)
        have HW1' := Lib.hid (fun (W : World) (hW : Grow (w6.alloc (.cells #[.slice al2 x.log.length cl2, .int .i64 x.sums.a, .int .i64 x.sums.b, .int .i64 x.sums.c, .int .i64 x.sums.d, .slice ar2 x.ready.length cr2, .slice ad2 x.done.length cd2] 29)) W) => HW1.out W (by have h1 := G6.out; have h2 := (Grow.refl w3).alloc (.cells #[.slice al1 h.log.length cl1, .int .i64 h.sums.a, .int .i64 h.sums.b, .int .i64 h.sums.c, .int .i64 h.sums.d, .slice ar1 h.ready.length cr1, .slice ad1 h.done.length cd1] 29); exact (h2.trans h1).trans (((Grow.refl w6).alloc _).trans hW)))
        have HW2' := Lib.hid (fun (W : World) (hW : Grow (w6.alloc (.cells #[.slice al2 x.log.length cl2, .int .i64 x.sums.a, .int .i64 x.sums.b, .int .i64 x.sums.c, .int .i64 x.sums.d, .slice ar2 x.ready.length cr2, .slice ad2 x.done.length cd2] 29)) W) => HW2.out W (((Grow.refl w6).alloc _).trans hW))
        clear HW1 HW2
        generalize whoE h.ready key = wo at *
        generalize whoE x.ready key = wn at *
        generalize hW7 : (w6.alloc (.cells #[.slice al2 x.log.length cl2, .int .i64 x.sums.a, .int .i64 x.sums.b, .int .i64 x.sums.c, .int .i64 x.sums.d, .slice ar2 x.ready.length cr2, .slice ad2 x.done.length cd2] 29)) = w7 at *
        have HW7 := Lib.hid hW7
        clear hW7 cw6 fw6 z6 z5 z4
        go_region_held3 (fun w' => w'.cell? ⟨w3.heap.size, 0, none⟩ = some (.slice al1 h.log.length cl1) ∧ w'.cell? ⟨w3.heap.size, 1, none⟩ = some (.int .i64 h.sums.a) ∧ w'.cell? ⟨w3.heap.size, 2, none⟩ = some (.int .i64 h.sums.b) ∧ w'.cell? ⟨w3.heap.size, 3, none⟩ = some (.int .i64 h.sums.c) ∧ w'.cell? ⟨w3.heap.size, 4, none⟩ = some (.int .i64 h.sums.d) ∧ w'.cell? ⟨w3.heap.size, 5, none⟩ = some (.slice ar1 h.ready.length cr1) ∧ w'.cell? ⟨w3.heap.size, 6, none⟩ = some (.slice ad1 h.done.length cd1) ∧ w'.cell? ⟨w6.heap.size, 0, none⟩ = some (.slice al2 x.log.length cl2) ∧ w'.cell? ⟨w6.heap.size, 1, none⟩ = some (.int .i64 x.sums.a) ∧ w'.cell? ⟨w6.heap.size, 2, none⟩ = some (.int .i64 x.sums.b) ∧ w'.cell? ⟨w6.heap.size, 3, none⟩ = some (.int .i64 x.sums.c) ∧ w'.cell? ⟨w6.heap.size, 4, none⟩ = some (.int .i64 x.sums.d) ∧ w'.cell? ⟨w6.heap.size, 5, none⟩ = some (.slice ar2 x.ready.length cr2) ∧ w'.cell? ⟨w6.heap.size, 6, none⟩ = some (.slice ad2 x.done.length cd2)) (first | assumption | exact HS.out _ (by repeat (first | with_reducible assumption | with_reducible exact Grow.refl _ | with_reducible apply Grow.drewN | with_reducible apply Grow.drew | with_reducible apply Grow.alloc | (refine Grow.trans ?_ (by with_reducible assumption))))) (first | (go_at_call 31; first | ((with_reducible refine (HW1'.out _ (by repeat (first | with_reducible assumption | with_reducible exact Grow.refl _ | with_reducible apply Grow.drewN | with_reducible apply Grow.drew | with_reducible apply Grow.alloc | (refine Grow.trans ?_ (by with_reducible assumption))))).mono ?_); rintro e wa ⟨rfl, hba⟩) | ((with_reducible refine (HW2'.out _ (by repeat (first | with_reducible assumption | with_reducible exact Grow.refl _ | with_reducible apply Grow.drewN | with_reducible apply Grow.drew | with_reducible apply Grow.alloc | (refine Grow.trans ?_ (by with_reducible assumption))))).mono ?_); rintro e wb ⟨rfl, hbb⟩)))
        have HF : Hid (deed < 0 ∨ wn ≠ deed ∧ (wo = deed ∨ wo = wn)) := by
          by_cases h0 : deed < 0
          · exact .inl h0
          · exact .inr (HLAW.out (by omega))
        have HGW : Hid (Grow w w7) := by rw [← HW7.out]; exact GW6.out.alloc _
        go_wp2
        all_goals
          go_ret
          refine ⟨ret_bool ?_, HGW.out.trans (by repeat (first | with_reducible assumption | with_reducible exact Grow.refl _ | with_reducible apply Grow.drewN | with_reducible apply Grow.drew | with_reducible apply Grow.alloc | (refine Grow.trans ?_ (by with_reducible assumption))))⟩
          have hf := HF.out
          first
            | rfl
            | (simp; omega)
    · have hk2 : (kind != 2) = true := by simp; omega
      have hk3 : (kind != 3) = true := by simp; omega
      clear hk
      go_enter Try.func5, Try.ntmps5
      go_wp2_with fail
      refine HA.out.mono ?_
      rintro e w1 ⟨rfl, hb1⟩
      have HB1 := Lib.hid hb1
      clear hb1
      go_wp2_with fail
      refine (HRL.out _ HB1.out).mono ?_
      rw [HOK.out]
      rintro e w2 ⟨rfl, hb2⟩
      have HB2 := Lib.hid (HB1.out.trans hb2)
      clear hb2
      go_wp2
      go_ret
      exact ⟨rfl, HB2.out⟩

theorem locksGo_law {v : Value} {l : List Rc} {deed kind key : Int} (w : World) (hv : Sl Ty.rc w.cell? v l) (_hs : l.length * 40 ≤ 140737488351232) (hd : (Lit.int .i64 deed).wf = true) (hki : (Lit.int .i64 kind).wf = true) (_hk : (Lit.int .i64 key).wf = true) :
    Calls Try.prog 5 #[v, .int .i64 deed, .int .i64 kind, .int .i64 key] w fun e w' => e = .returned (.bool true) ∧ Grow w w' := locksGo_walk w hv hd hki
end Go.Proofs.Ytgbhpghgohggcaa

/- The law LogStill, walked. -/
namespace Go.Proofs.Ytgbhpghgohggcaa
open Go.RowKit
theorem right_small {l : List Rc} (h : rightLog l = true) : ∀ r ∈ l, r.parts.length ≤ 4 := by
  unfold rightLog at h
  intro r hr
  have h1 := of_decide_eq_true ((of_decide_eq_true h).1 r hr)
  by_cases e : r.parts = []
  · rw [e]; simp
  · exact (wrong_ok (h1.2.1 e)).2.1
theorem still_take {r : Rc} {s : Sm} {l : List Rd} {j : Nat} (h : j < l.length) : stillF r s (l.take (j + 1)) = (if l[j].deed = r.deed ∧ r.kind = 2 then doP (stillF r s (l.take j)) l[j].parts else stillF r s (l.take j)) := by
  unfold stillF
  rw [List.take_succ_eq_append_getElem h, List.foldl_append]
  rfl
theorem note_house (l : List Rc) (r : Rc) : noteE (houseR l) r = houseR (l ++ [r]) := by
  unfold noteE
  rw [log_house]
theorem ready_keys {l : List Rc} (h : ∀ r ∈ l, KeysOk r.parts) : ∀ x ∈ (houseR l).ready, KeysOk x.parts := by
  have : ∀ (l : List Rc) (h0 : Hs), (∀ x ∈ h0.ready, KeysOk x.parts) → (∀ r ∈ l, KeysOk r.parts) → ∀ x ∈ (l.foldl refStep h0).ready, KeysOk x.parts := by
    intro l
    induction l with
    | nil => intro h0 h1 _; exact h1
    | cons r l ih =>
      intro h0 h1 h2
      rw [List.foldl_cons]
      refine ih _ (fun x hx => ?_) fun y hy => h2 y (List.mem_cons_of_mem _ hy)
      rw [step_ready] at hx
      split at hx
      · split at hx
        · exact h1 x (List.eraseP_sublist.subset hx)
        · exact h1 x hx
      · split at hx
        · rcases List.mem_append.1 hx with hx | hx
          · exact h1 x hx
          · rw [List.mem_singleton.1 hx]; exact h2 r List.mem_cons_self
        · exact h1 x hx
  exact this l _ (by simp) h
theorem house_len (l : List Rc) : (houseR l).ready.length ≤ l.length := by
  have : ∀ (l : List Rc) (h0 : Hs), (l.foldl refStep h0).ready.length ≤ h0.ready.length + l.length := by
    intro l
    induction l with
    | nil => intro h0; simp
    | cons r l ih =>
      intro h0
      rw [List.foldl_cons]
      have h1 := ih (refStep h0 r)
      have h2 : (refStep h0 r).ready.length ≤ h0.ready.length + 1 := by
        rw [step_ready]
        split
        · split
          · exact Nat.le_trans List.eraseP_sublist.length_le (by omega)
          · omega
        · split
          · simp
          · omega
      simp only [List.length_cons]
      omega
  simpa [houseR] using this l ⟨l, ⟨0, 0, 0, 0⟩, [], []⟩
set_option maxRecDepth 100000 in
set_option maxHeartbeats 4000000 in
theorem logStill_walk {v vr : Value} {l : List Rc} {r : Rc} (w : World) (hv : Rcs w.cell? v l) (_hs : l.length * 40 ≤ 140737488351232) (hr : Of Ty.rc w.cell? vr r) :
    Calls Try.prog 7 #[v, vr] w fun e w' => e = .returned (.bool true) ∧ Grow w w' := by
  obtain ⟨ap, cp, rfl⟩ := hr.rc_form
  have hr3 : Ty.rc.R w.cell? [.int .i64 r.kind, .int .i64 r.deed, .slice ap r.parts.length cp] r := Of.cells hr
  have HR := Lib.hid hr3
  have HOR := Lib.hid hr
  have HV := Lib.hid hv
  have HRL := Lib.hid (fun (W : World) (hW : Grow w W) => ref_rightLog W (hv.mono hW.sub))
  have HAL := Lib.hid (fun (W : World) => alive5 W)
  have HR1 := Lib.hid (fun (W : World) (hW : Grow w W) => ref_rightLog (v := .slice (some ⟨W.heap.size, 0, none⟩) 1 1) (l := [r]) (W.alloc (.cells #[.int .i64 r.kind, .int .i64 r.deed, .slice ap r.parts.length cp] 48)) (sl_one (T := Ty.rc) (Ty.rc.mono (hW.trans ((Grow.refl W).alloc _)).sub hr3) (at_new W _ _) (by decide) (by decide)))
  obtain ⟨al, cl, rfl, -⟩ := hv
  clear hr hr3
  cases hok : rightLog l with
  | false =>
    go_enter Try.func7, Try.ntmps7
    go_wp2_with fail
    refine (HAL.out _).mono ?_
    rintro e w1 ⟨rfl, hb1⟩
    have HB1 := Lib.hid (((Grow.refl w).alloc (.cells #[.int .i64 r.kind, .int .i64 r.deed, .slice ap r.parts.length cp] 48)).trans hb1)
    clear hb1
    go_wp2_with fail
    refine (HRL.out _ HB1.out).mono ?_
    rw [hok]
    rintro e w2 ⟨rfl, hb2⟩
    go_wp2
    go_ret
    exact ⟨rfl, HB1.out.trans hb2⟩
  | true =>
    have HOK := Lib.hid hok
    clear hok
    cases hok1 : rightLog [r] with
    | false =>
      go_enter Try.func7, Try.ntmps7
      go_wp2_with fail
      refine (HAL.out _).mono ?_
      rintro e w1 ⟨rfl, hb1⟩
      have HB1 := Lib.hid (((Grow.refl w).alloc (.cells #[.int .i64 r.kind, .int .i64 r.deed, .slice ap r.parts.length cp] 48)).trans hb1)
      have R3 := Lib.hid (row_grow (row_new w (.cells #[.int .i64 r.kind, .int .i64 r.deed, .slice ap r.parts.length cp] 48)) hb1)
      clear hb1
      go_wp2_with fail
      refine (HRL.out _ HB1.out).mono ?_
      rw [HOK.out]
      rintro e w2 ⟨rfl, hb2⟩
      have HB2 := Lib.hid (HB1.out.trans hb2)
      obtain ⟨q0, q1, q2⟩ := cells3 (row_grow R3.out hb2)
      have qz : w.heap.size < w2.heap.size := (Array.getElem?_eq_some_iff.1 (row_grow R3.out hb2)).1
      clear hb2
      go_wp2_with fail
      refine (HR1.out _ HB2.out).mono ?_
      rw [hok1]
      rintro e w3 ⟨rfl, hb3⟩
      go_wp2
      go_ret
      exact ⟨rfl, (HB2.out.alloc _).trans hb3⟩
    | true =>
      have hkeys := keys_of_right HOK.out
      have hkr : KeysOk r.parts := (keys_of_right hok1).1 r (by simp)
      have hsm := right_small HOK.out
      have hsr := right_small hok1 r (by simp)
      have HHS := Lib.hid (fun (W : World) (hW : Grow w W) => wlog_house W (HV.out.mono hW.sub) hkeys.1 (by omega) (fun x hx => by have := hsm x hx; omega))
      have HNT := Lib.hid (fun (vx : Value) (W : World) (hW : Grow w W) (hx : Of Ty.hs W.cell? vx (houseR l)) => wlog_note W hx (HOR.out.mono hW.sub) (by rw [log_house]; exact hkeys.1) hkr (by rw [log_house]; omega) (by rw [log_house]; exact fun x hx => by have := hsm x hx; omega) (by omega))
      have HLAW := Lib.hid (still_law r (right_deeds HOK.out))
      have HRK := Lib.hid (ready_keys hkeys.1)
      have HO1 := Lib.hid hok1
      have HHO : Hid ((houseR l).ready.length ≤ 60) := by
        have := house_len l
        have := hkeys.2
        show _ ≤ _; omega
      clear hkeys hkr hsm hsr hok1
      go_enter Try.func7, Try.ntmps7
      go_wp2_with fail
      refine (HAL.out _).mono ?_
      rintro e w1 ⟨rfl, hb1⟩
      have HB1 := Lib.hid (((Grow.refl w).alloc (.cells #[.int .i64 r.kind, .int .i64 r.deed, .slice ap r.parts.length cp] 48)).trans hb1)
      have R3 := Lib.hid (row_grow (row_new w (.cells #[.int .i64 r.kind, .int .i64 r.deed, .slice ap r.parts.length cp] 48)) hb1)
      clear hb1
      go_wp2_with fail
      refine (HRL.out _ HB1.out).mono ?_
      rw [HOK.out]
      rintro e w2 ⟨rfl, hb2⟩
      have HB2 := Lib.hid (HB1.out.trans hb2)
      have R32 := Lib.hid (row_grow R3.out hb2)
      obtain ⟨q0, q1, q2⟩ := cells3 R32.out
      have qz : w.heap.size < w2.heap.size := (Array.getElem?_eq_some_iff.1 R32.out).1
      clear hb2
      go_wp2_with fail
      refine (HR1.out _ HB2.out).mono ?_
      rw [HO1.out]
      rintro e w3 ⟨rfl, hb3⟩
      have HB3 := Lib.hid ((HB2.out.alloc _).trans hb3)
      have R33 := Lib.hid (row_grow R32.out (((Grow.refl w2).alloc _).trans hb3))
      clear hb3 q0 q1 q2 qz
      go_wp2_with fail
      refine (HHS.out _ HB3.out).mono ?_
      rintro e w4 ⟨vx, rfl, hX, hb4⟩
      have hX' := hX.mono (ov_none hb4)
      obtain ⟨xl, kl, xr, kr, xd, kd, rfl⟩ := hX'.hs_form
      have HX := Lib.hid hX'
      have HB4 := Lib.hid (HB3.out.trans hb4)
      have R34 := Lib.hid (row_grow R33.out (hb4.trans ((Grow.refl w4).alloc (.cells #[.slice xl (houseR l).log.length kl, .int .i64 (houseR l).sums.a, .int .i64 (houseR l).sums.b, .int .i64 (houseR l).sums.c, .int .i64 (houseR l).sums.d, .slice xr (houseR l).ready.length kr, .slice xd (houseR l).done.length kd] 29))))
      obtain ⟨q0, q1, q2⟩ := cells3 R34.out
      have qz : w.heap.size < w4.heap.size := by have := (Array.getElem?_eq_some_iff.1 (row_grow R33.out hb4)).1; exact this
      obtain ⟨t0, t1, t2⟩ := cells3 (row_grow R33.out hb4)
      clear hX hX' hb4
      go_wp2_with fail
      refine (HNT.out _ _ (HB4.out.alloc _) (HX.out.mono ((Grow.refl _).alloc _).sub)).mono ?_
      rintro e w5 ⟨vy, rfl, hY, hb5⟩
      obtain ⟨yl, ml, yr, mr, yd, md, rfl⟩ := hY.hs_form
      have HB5 := Lib.hid ((HB4.out.alloc _).trans hb5)
      have R35 := Lib.hid (row_grow R34.out hb5)
      have RX := Lib.hid (row_grow (row_new w4 (.cells #[.slice xl (houseR l).log.length kl, .int .i64 (houseR l).sums.a, .int .i64 (houseR l).sums.b, .int .i64 (houseR l).sums.c, .int .i64 (houseR l).sums.d, .slice xr (houseR l).ready.length kr, .slice xd (houseR l).done.length kd] 29)) hb5)
      have HXR := Lib.hid ((Of.hs_log HX.out).2.1.mono (((Grow.refl w4).alloc _).trans hb5).sub)
      rw [note_house] at hY ⊢
      generalize houseR (l ++ [r]) = y at *
      have HY0 : Hid True := Lib.hid trivial
      clear hY hb5
      generalize houseR l = x at *
      obtain ⟨xr', kr', he, r1, r2, -, hxel⟩ := HXR.out
      obtain ⟨rfl, rfl⟩ : xr = xr' ∧ kr = kr' := by simpa using he
      unfold maxLen at r2
      have hrl : x.ready.length ≤ 60 := HHO.out
      clear he
      obtain ⟨u0, u1, u2, u3, u4, u5, u6⟩ := cells7 RX.out
      have uz : w4.heap.size < w5.heap.size := (Array.getElem?_eq_some_iff.1 RX.out).1
      clear q0 q1 q2 qz t0 t1 t2
      go_wp2
      go_loopw [33] (fun i wr => ∃ (j : Nat) (s : Sm), j ≤ x.ready.length ∧ i = .int .i64 j ∧ Grow (w5.alloc (.cells #[.slice yl y.log.length ml, .int .i64 y.sums.a, .int .i64 y.sums.b, .int .i64 y.sums.c, .int .i64 y.sums.d, .slice yr y.ready.length mr, .slice yd y.done.length md] 29)) wr ∧ wr.heap[w5.heap.size + 1]? = some (.cells #[.int .i64 s.a, .int .i64 s.b, .int .i64 s.c, .int .i64 s.d] 25 (0, 0)) ∧ s = stillF r x.sums (x.ready.take j)) (fun i _ => x.ready.length - (intOf i).toNat)
      case atStart => exact ⟨0, x.sums, by omega, rfl, (Grow.refl _).alloc _, by simpa using row_new (w5.alloc (.cells #[.slice yl y.log.length ml, .int .i64 y.sums.a, .int .i64 y.sums.b, .int .i64 y.sums.c, .int .i64 y.sums.d, .slice yr y.ready.length mr, .slice yd y.done.length md] 29)) (.cells #[.int .i64 x.sums.a, .int .i64 x.sums.b, .int .i64 x.sums.c, .int .i64 x.sums.d] 25), rfl⟩
      case round =>
        obtain ⟨j, s, hj', rfl, hb, hrow, hE⟩ := hrel
        have HE := Lib.hid hE
        have HG := Lib.hid (((Grow.refl w5).alloc (.cells #[.slice yl y.log.length ml, .int .i64 y.sums.a, .int .i64 y.sums.b, .int .i64 y.sums.c, .int .i64 y.sums.d, .slice yr y.ready.length mr, .slice yd y.done.length md] 29)).trans hb)
        have HROW := Lib.hid hrow
        obtain ⟨q0, q1, q2⟩ := cells3 (row_grow R35.out HG.out)
        have qz : w.heap.size < wr.heap.size := (Array.getElem?_eq_some_iff.1 (row_grow R35.out HG.out)).1
        clear u0 u1 u2 u3 u4 u5 u6 uz hE hrow
        by_cases hlt : j < x.ready.length
        · obtain ⟨b, o, vp, rfl, d0, d1, -, hP⟩ := Rds.at_ hxel j hlt
          obtain ⟨aq, cq, rfl, p1, p2, -, hpel⟩ := hP
          unfold maxLen at p2
          replace d0 := HG.out.sub _ _ d0
          replace d1 := HG.out.sub _ _ d1
          have HST := Lib.hid (still_take (r := r) (s := x.sums) hlt)
          have hkq := HRK.out x.ready[j] (List.getElem_mem _)
          clear hxel
          generalize x.ready[j] = q at *
          by_cases hq : q.deed = r.deed ∧ r.kind = 2
          · have b1 : (q.deed == r.deed) = true := by simp [hq.1]
            have b2 : (r.kind == 2) = true := by simp [hq.2]
            have HQ := Lib.hid hq
            clear hq
            go_wp2
            obtain ⟨wo, rfl⟩ : ∃ x : World, x = wr := ⟨_, rfl⟩
            go_loopw [50] (fun i wx => ∃ (m : Nat) (s' : Sm), m ≤ q.parts.length ∧ i = .int .i64 m ∧ Grow (w5.alloc (.cells #[.slice yl y.log.length ml, .int .i64 y.sums.a, .int .i64 y.sums.b, .int .i64 y.sums.c, .int .i64 y.sums.d, .slice yr y.ready.length mr, .slice yd y.done.length md] 29)) wx ∧ wx.heap[w5.heap.size + 1]? = some (.cells #[.int .i64 s'.a, .int .i64 s'.b, .int .i64 s'.c, .int .i64 s'.d] 25 (0, 0)) ∧ doP s' (q.parts.drop m) = doP s q.parts) (fun i _ => q.parts.length - (intOf i).toNat)
            case atStart => exact ⟨0, s, by omega, rfl, hb.alloc _, heap_later HROW.out _, rfl⟩
            case round =>
              obtain ⟨wx, rfl⟩ : ∃ x : World, x = wr := ⟨_, rfl⟩
              obtain ⟨m, s', hm', rfl, hbx, hrow, hF⟩ := hrel
              have HF := Lib.hid hF
              have HRX := Lib.hid hrow
              clear hF q0 q1 q2 qz d0 d1
              by_cases hlm : m < q.parts.length
              · obtain ⟨b', o', rfl, e0, e1, e2, -, -, -⟩ := Pts.at_ hpel m hlm
                have hg5 := ((Grow.refl w5).alloc (.cells #[.slice yl y.log.length ml, .int .i64 y.sums.a, .int .i64 y.sums.b, .int .i64 y.sums.c, .int .i64 y.sums.d, .slice yr y.ready.length mr, .slice yd y.done.length md] 29)).trans hbx
                replace e0 := hg5.sub _ _ e0
                replace e1 := hg5.sub _ _ e1
                replace e2 := hg5.sub _ _ e2
                obtain ⟨hk0, hk1⟩ := hkq q.parts[m] (List.getElem_mem _)
                have cs := Sm.row_cell hrow _ hk0 hk1
                have cf := Sm.row_free hrow q.parts[m].k.toNat
                have hsz : w5.heap.size + 1 < wx.heap.size := (Array.getElem?_eq_some_iff.1 hrow).1
                have HD := Lib.hid (List.drop_eq_getElem_cons hlm)
                clear hpel hkq hrow hg5
                generalize hp : q.parts[m] = p at *
                obtain ⟨ph, pk, pn⟩ := p
                clear hp
                simp only at e0 e1 e2 hk0 hk1 cs cf
                go_wp2
                go_region
                go_wp2
                go_roundw
                case rel => exact ⟨m + 1, s'.add pk pn, by omega, by go_num, (by repeat (first | with_reducible assumption | with_reducible exact Grow.refl _ | with_reducible apply Grow.drewN | with_reducible apply Grow.drew | with_reducible apply Grow.alloc | (refine Grow.setCell ?_ (by simp; done) _))), heap_later (Sm.row_set HRX.out _ _ hk0 hk1) _, by rw [← HF.out, HD.out]; rfl⟩
                case measure => simp [intOf]; omega
              · have hs : s' = doP s q.parts := by rw [← HF.out, List.drop_of_length_le (by omega)]; rfl
                have HS := Lib.hid hs
                clear hpel hkq hrow hs
                go_wp2
                go_roundw
                case rel => exact ⟨j + 1, s', by omega, by go_num, hbx, HRX.out, by rw [HST.out, if_pos HQ.out, ← HE.out]; exact HS.out⟩
                case measure => simp [intOf]; omega
          · have HQ := Lib.hid hq
            by_cases h1 : q.deed = r.deed
            · have b1 : (q.deed == r.deed) = true := by simp [h1]
              have b2 : (r.kind == 2) = false := by simp; exact fun e => hq ⟨h1, e⟩
              clear hq h1
              go_wp2
              go_roundw
              case rel => exact ⟨j + 1, s, by omega, by go_num, hb.alloc _, heap_later HROW.out _, by rw [HST.out, if_neg HQ.out]; exact HE.out⟩
              case measure => simp [intOf]; omega
            · have b1 : (q.deed == r.deed) = false := by simp [h1]
              clear hq h1
              go_wp2
              go_roundw
              case rel => exact ⟨j + 1, s, by omega, by go_num, hb.alloc _, heap_later HROW.out _, by rw [HST.out, if_neg HQ.out]; exact HE.out⟩
              case measure => simp [intOf]; omega
        · have hs : y.sums = s := by rw [HLAW.out, HE.out, List.take_of_length_le (by omega)]
          have RY := row_grow (row_new w5 (.cells #[.slice yl y.log.length ml, .int .i64 y.sums.a, .int .i64 y.sums.b, .int .i64 y.sums.c, .int .i64 y.sums.d, .slice yr y.ready.length mr, .slice yd y.done.length md] 29)) hb
          obtain ⟨g0, g1, g2, g3, g4, g5, g6⟩ := cells7 RY
          have gz : w5.heap.size < wr.heap.size := (Array.getElem?_eq_some_iff.1 RY).1
          obtain ⟨f0, f1, f2, f3⟩ := cells4 HROW.out
          have fz : w5.heap.size + 1 < wr.heap.size := (Array.getElem?_eq_some_iff.1 HROW.out).1
          have HQ : ∀ u : World, (binOp .eql 25 (.agg #[.int .i64 y.sums.a, .int .i64 y.sums.b, .int .i64 y.sums.c, .int .i64 y.sums.d]) (.agg #[.int .i64 s.a, .int .i64 s.b, .int .i64 s.c, .int .i64 s.d])).run Try.prog u = .ok (.bool true) u := fun u => by rw [eql_sm, decide_eq_true hs]
          have hg := guard_sm
          clear hs RY hxel
          go_wp2
          go_ret
          exact ⟨rfl, HB5.out.trans HG.out⟩
end Go.Proofs.Ytgbhpghgohggcaa

/- Walks: Hear of the document's answer: whoever is asked (10). -/
namespace Go.Proofs.Ytgbhpghgohggcaa
open Go.RowKit
set_option maxRecDepth 100000 in
set_option maxHeartbeats 1000000 in
theorem hear_prep10 {c : CM} {v vm : Value} {h : Hs} {dd hh me : Int} {ps : List Pt} (w : World) (hc : Sub c w.cell?) (hv : Of Ty.hs c v h) (hm : Of Ty.ms c vm ⟨1, dd, hh, ps⟩) (hk : ∀ x ∈ h.log, KeysOk x.parts) (hkm : KeysOk ps) (hn : (h.log.length + 1) * 40 ≤ 140737488355328) (hme : I64 me) (e10 : voteE h dd ps = 10) :
    Calls Try.prog 35 #[v, .int .i64 me, vm] w fun e w' => ∃ v1 v2, e = .returned (.tuple #[v1, v2]) ∧ Of Ty.hs (ov c w w') v1 (hearH h ⟨1, dd, hh, ps⟩) ∧ Sl Ty.ms (ov c w w') v2 (hearM h me ⟨1, dd, hh, ps⟩) ∧ Grow w w' := by
  obtain ⟨al, cl, ar, cr, ad, cd, rfl⟩ := hv.hs_form
  obtain ⟨ap, cp, rfl⟩ : ∃ ap cp, vm = .agg #[.int .i64 1, .int .i64 dd, .int .i64 hh, .slice ap ps.length cp] := hm.ms_form
  have hms : Sl Ty.pt c (.slice ap ps.length cp) ps ∧ I64 1 ∧ I64 dd ∧ I64 hh := Of.ms_parts hm
  have HMS := Lib.hid hms
  have HV0 := Lib.hid hv
  have HC := Lib.hid hc
  have HK0 := Lib.hid hk
  have HKM := Lib.hid hkm
  have HN := Lib.hid hn
  have HME := Lib.hid hme
  have HVO := Lib.hid (fun (W : World) (hW : Grow w W) => ref_vote (d := dd) W (hv.mono (hc.trans hW.sub)) (hms.1.mono (hc.trans hW.sub)) hkm)
  have HRD := Lib.hid (fun (W : World) (hW : Grow w W) => ref_ready (d := dd) W (hv.mono (hc.trans hW.sub)))
  have HIN := Lib.hid (fun (W : World) (hW : Grow w W) => ref_in (n := dd) W ((Of.hs_log hv).2.2.mono (hc.trans hW.sub)))
  have HG0 : Hid (Grow w (((w.alloc (.cells #[.slice al h.log.length cl, .int .i64 h.sums.a, .int .i64 h.sums.b, .int .i64 h.sums.c, .int .i64 h.sums.d, .slice ar h.ready.length cr, .slice ad h.done.length cd] 29)).alloc (.cells #[.int .i64 1, .int .i64 dd, .int .i64 hh, .slice ap ps.length cp] 39)).alloc (.cells #[.slice none 0 0, .int .i64 0, .int .i64 0, .int .i64 0, .int .i64 0, .slice none 0 0, .slice none 0 0] 29))) := Lib.hid ((((Grow.refl w).alloc _).alloc _).alloc _)
  have HR3 : Hid ((((w.alloc (.cells #[.slice al h.log.length cl, .int .i64 h.sums.a, .int .i64 h.sums.b, .int .i64 h.sums.c, .int .i64 h.sums.d, .slice ar h.ready.length cr, .slice ad h.done.length cd] 29)).alloc (.cells #[.int .i64 1, .int .i64 dd, .int .i64 hh, .slice ap ps.length cp] 39)).alloc (.cells #[.slice none 0 0, .int .i64 0, .int .i64 0, .int .i64 0, .int .i64 0, .slice none 0 0, .slice none 0 0] 29)).heap[w.heap.size]? = some (.cells #[.slice al h.log.length cl, .int .i64 h.sums.a, .int .i64 h.sums.b, .int .i64 h.sums.c, .int .i64 h.sums.d, .slice ar h.ready.length cr, .slice ad h.done.length cd] 29 (0, 0))) := Lib.hid (heap_later (heap_later (row_new _ _) _) _)
  have HR5 : Hid ((((w.alloc (.cells #[.slice al h.log.length cl, .int .i64 h.sums.a, .int .i64 h.sums.b, .int .i64 h.sums.c, .int .i64 h.sums.d, .slice ar h.ready.length cr, .slice ad h.done.length cd] 29)).alloc (.cells #[.int .i64 1, .int .i64 dd, .int .i64 hh, .slice ap ps.length cp] 39)).alloc (.cells #[.slice none 0 0, .int .i64 0, .int .i64 0, .int .i64 0, .int .i64 0, .slice none 0 0, .slice none 0 0] 29)).heap[w.heap.size + 1]? = some (.cells #[.int .i64 1, .int .i64 dd, .int .i64 hh, .slice ap ps.length cp] 39 (0, 0))) := Lib.hid (heap_later (by simpa using row_new (w.alloc (.cells #[.slice al h.log.length cl, .int .i64 h.sums.a, .int .i64 h.sums.b, .int .i64 h.sums.c, .int .i64 h.sums.d, .slice ar h.ready.length cr, .slice ad h.done.length cd] 29)) _) _)
  have HR6 : Hid ((((w.alloc (.cells #[.slice al h.log.length cl, .int .i64 h.sums.a, .int .i64 h.sums.b, .int .i64 h.sums.c, .int .i64 h.sums.d, .slice ar h.ready.length cr, .slice ad h.done.length cd] 29)).alloc (.cells #[.int .i64 1, .int .i64 dd, .int .i64 hh, .slice ap ps.length cp] 39)).alloc (.cells #[.slice none 0 0, .int .i64 0, .int .i64 0, .int .i64 0, .int .i64 0, .slice none 0 0, .slice none 0 0] 29)).heap[w.heap.size + 1 + 1]? = some (.cells #[.slice none 0 0, .int .i64 0, .int .i64 0, .int .i64 0, .int .i64 0, .slice none 0 0, .slice none 0 0] 29 (0, 0))) := Lib.hid (by simpa using row_new ((w.alloc (.cells #[.slice al h.log.length cl, .int .i64 h.sums.a, .int .i64 h.sums.b, .int .i64 h.sums.c, .int .i64 h.sums.d, .slice ar h.ready.length cr, .slice ad h.done.length cd] 29)).alloc (.cells #[.int .i64 1, .int .i64 dd, .int .i64 hh, .slice ap ps.length cp] 39)) _)
  clear hv hm hc hk hkm hn hme hms
  have HEH : Hid (hearH h ⟨1, dd, hh, ps⟩ = h) := by
    show hearH h ⟨1, dd, hh, ps⟩ = h
    unfold hearH
    rw [if_pos rfl, if_neg (by show ¬ (voteE h dd ps = 0 ∧ _); rw [e10]; simp)]
  have HEM : Hid (hearM h me ⟨1, dd, hh, ps⟩ = []) := by
    show hearM h me ⟨1, dd, hh, ps⟩ = []
    unfold hearM
    rw [if_pos rfl, if_pos e10]
  have E10 := Lib.hid e10
  clear e10
  go_enter Try.func35, Try.ntmps35
  go_wp2_with fail
  refine (HVO.out _ HG0.out).mono ?_
  rw [E10.out]
  rintro e v1 ⟨rfl, hbv1⟩
  (obtain ⟨cv1, fv1⟩ := bcell hbv1; have zv10 : w.heap.size < v1.heap.size := (by have := hbv1.size; (try simp at this); omega); have zv11 : w.heap.size + 1 < v1.heap.size := (by have := hbv1.size; (try simp at this); omega); have zv12 : w.heap.size + 1 + 1 < v1.heap.size := (by have := hbv1.size; (try simp at this); omega); have Gv1 := Lib.hid hbv1; clear hbv1)
  have R6 := row_grow HR6.out Gv1.out
  obtain ⟨p0, p1, p2, p3, p4, p5, p6⟩ := cells7 R6
  have pf := row_free R6
  obtain ⟨s0, s1, s2, s3, s4, s5, s6, s7⟩ : v1.cell? ⟨w.heap.size, 0, none⟩ = some (.slice al h.log.length cl) ∧ v1.cell? ⟨w.heap.size, 1, none⟩ = some (.int .i64 h.sums.a) ∧ v1.cell? ⟨w.heap.size, 2, none⟩ = some (.int .i64 h.sums.b) ∧ v1.cell? ⟨w.heap.size, 3, none⟩ = some (.int .i64 h.sums.c) ∧ v1.cell? ⟨w.heap.size, 4, none⟩ = some (.int .i64 h.sums.d) ∧ v1.cell? ⟨w.heap.size, 5, none⟩ = some (.slice ar h.ready.length cr) ∧ v1.cell? ⟨w.heap.size, 6, none⟩ = some (.slice ad h.done.length cd) ∧ v1.cell? ⟨w.heap.size + 1, 1, none⟩ = some (.int .i64 dd) := by refine ⟨?_, ?_, ?_, ?_, ?_, ?_, ?_, ?_⟩ <;> go_simp
  clear R6
  go_wp2
  refine bodyPost_ret (v := .tuple #[.agg #[.slice al h.log.length cl, .int .i64 h.sums.a, .int .i64 h.sums.b, .int .i64 h.sums.c, .int .i64 h.sums.d, .slice ar h.ready.length cr, .slice ad h.done.length cd], .slice none 0 0]) (by simp [results, Try.results35, go_sem, p0, p1, p2, p3, p4, p5, p6]) rfl ?_
  rw [HEH.out, HEM.out]
  refine ⟨_, _, rfl, ?_, Sl.nil _ _, ?_⟩
  · exact HV0.out.mono (ov_in HC.out)
  · (repeat (with_reducible refine Grow.setCell ?_ (by first | (simp; done) | (simp; omega) | omega) _))
    exact HG0.out.trans Gv1.out
end Go.Proofs.Ytgbhpghgohggcaa

/- Walks: Hear of the document's answer: whoever is asked (R). -/
namespace Go.Proofs.Ytgbhpghgohggcaa
open Go.RowKit
set_option maxRecDepth 100000 in
set_option maxHeartbeats 1000000 in
theorem hear_prepR {c : CM} {v vm : Value} {h : Hs} {dd hh me : Int} {ps : List Pt} (w : World) (hc : Sub c w.cell?) (hv : Of Ty.hs c v h) (hm : Of Ty.ms c vm ⟨1, dd, hh, ps⟩) (hk : ∀ x ∈ h.log, KeysOk x.parts) (hkm : KeysOk ps) (hn : (h.log.length + 1) * 40 ≤ 140737488355328) (hme : I64 me) (e0 : voteE h dd ps = 0) (rd : readyE h.ready dd = true) :
    Calls Try.prog 35 #[v, .int .i64 me, vm] w fun e w' => ∃ v1 v2, e = .returned (.tuple #[v1, v2]) ∧ Of Ty.hs (ov c w w') v1 (hearH h ⟨1, dd, hh, ps⟩) ∧ Sl Ty.ms (ov c w w') v2 (hearM h me ⟨1, dd, hh, ps⟩) ∧ Grow w w' := by
  obtain ⟨al, cl, ar, cr, ad, cd, rfl⟩ := hv.hs_form
  obtain ⟨ap, cp, rfl⟩ : ∃ ap cp, vm = .agg #[.int .i64 1, .int .i64 dd, .int .i64 hh, .slice ap ps.length cp] := hm.ms_form
  have hms : Sl Ty.pt c (.slice ap ps.length cp) ps ∧ I64 1 ∧ I64 dd ∧ I64 hh := Of.ms_parts hm
  have HMS := Lib.hid hms
  have HV0 := Lib.hid hv
  have HC := Lib.hid hc
  have HK0 := Lib.hid hk
  have HKM := Lib.hid hkm
  have HN := Lib.hid hn
  have HME := Lib.hid hme
  have HVO := Lib.hid (fun (W : World) (hW : Grow w W) => ref_vote (d := dd) W (hv.mono (hc.trans hW.sub)) (hms.1.mono (hc.trans hW.sub)) hkm)
  have HRD := Lib.hid (fun (W : World) (hW : Grow w W) => ref_ready (d := dd) W (hv.mono (hc.trans hW.sub)))
  have HIN := Lib.hid (fun (W : World) (hW : Grow w W) => ref_in (n := dd) W ((Of.hs_log hv).2.2.mono (hc.trans hW.sub)))
  have HG0 : Hid (Grow w (((w.alloc (.cells #[.slice al h.log.length cl, .int .i64 h.sums.a, .int .i64 h.sums.b, .int .i64 h.sums.c, .int .i64 h.sums.d, .slice ar h.ready.length cr, .slice ad h.done.length cd] 29)).alloc (.cells #[.int .i64 1, .int .i64 dd, .int .i64 hh, .slice ap ps.length cp] 39)).alloc (.cells #[.slice none 0 0, .int .i64 0, .int .i64 0, .int .i64 0, .int .i64 0, .slice none 0 0, .slice none 0 0] 29))) := Lib.hid ((((Grow.refl w).alloc _).alloc _).alloc _)
  have HR3 : Hid ((((w.alloc (.cells #[.slice al h.log.length cl, .int .i64 h.sums.a, .int .i64 h.sums.b, .int .i64 h.sums.c, .int .i64 h.sums.d, .slice ar h.ready.length cr, .slice ad h.done.length cd] 29)).alloc (.cells #[.int .i64 1, .int .i64 dd, .int .i64 hh, .slice ap ps.length cp] 39)).alloc (.cells #[.slice none 0 0, .int .i64 0, .int .i64 0, .int .i64 0, .int .i64 0, .slice none 0 0, .slice none 0 0] 29)).heap[w.heap.size]? = some (.cells #[.slice al h.log.length cl, .int .i64 h.sums.a, .int .i64 h.sums.b, .int .i64 h.sums.c, .int .i64 h.sums.d, .slice ar h.ready.length cr, .slice ad h.done.length cd] 29 (0, 0))) := Lib.hid (heap_later (heap_later (row_new _ _) _) _)
  have HR5 : Hid ((((w.alloc (.cells #[.slice al h.log.length cl, .int .i64 h.sums.a, .int .i64 h.sums.b, .int .i64 h.sums.c, .int .i64 h.sums.d, .slice ar h.ready.length cr, .slice ad h.done.length cd] 29)).alloc (.cells #[.int .i64 1, .int .i64 dd, .int .i64 hh, .slice ap ps.length cp] 39)).alloc (.cells #[.slice none 0 0, .int .i64 0, .int .i64 0, .int .i64 0, .int .i64 0, .slice none 0 0, .slice none 0 0] 29)).heap[w.heap.size + 1]? = some (.cells #[.int .i64 1, .int .i64 dd, .int .i64 hh, .slice ap ps.length cp] 39 (0, 0))) := Lib.hid (heap_later (by simpa using row_new (w.alloc (.cells #[.slice al h.log.length cl, .int .i64 h.sums.a, .int .i64 h.sums.b, .int .i64 h.sums.c, .int .i64 h.sums.d, .slice ar h.ready.length cr, .slice ad h.done.length cd] 29)) _) _)
  have HR6 : Hid ((((w.alloc (.cells #[.slice al h.log.length cl, .int .i64 h.sums.a, .int .i64 h.sums.b, .int .i64 h.sums.c, .int .i64 h.sums.d, .slice ar h.ready.length cr, .slice ad h.done.length cd] 29)).alloc (.cells #[.int .i64 1, .int .i64 dd, .int .i64 hh, .slice ap ps.length cp] 39)).alloc (.cells #[.slice none 0 0, .int .i64 0, .int .i64 0, .int .i64 0, .int .i64 0, .slice none 0 0, .slice none 0 0] 29)).heap[w.heap.size + 1 + 1]? = some (.cells #[.slice none 0 0, .int .i64 0, .int .i64 0, .int .i64 0, .int .i64 0, .slice none 0 0, .slice none 0 0] 29 (0, 0))) := Lib.hid (by simpa using row_new ((w.alloc (.cells #[.slice al h.log.length cl, .int .i64 h.sums.a, .int .i64 h.sums.b, .int .i64 h.sums.c, .int .i64 h.sums.d, .slice ar h.ready.length cr, .slice ad h.done.length cd] 29)).alloc (.cells #[.int .i64 1, .int .i64 dd, .int .i64 hh, .slice ap ps.length cp] 39)) _)
  clear hv hm hc hk hkm hn hme hms
  have HEH : Hid (hearH h ⟨1, dd, hh, ps⟩ = h) := by
    show hearH h ⟨1, dd, hh, ps⟩ = h
    unfold hearH
    rw [if_pos rfl, if_neg (by show ¬ (_ ∧ readyE h.ready dd = false); rw [rd]; simp)]
  have HEM : Hid (hearM h me ⟨1, dd, hh, ps⟩ = sayE 2 dd me) := by
    show hearM h me ⟨1, dd, hh, ps⟩ = sayE 2 dd me
    unfold hearM
    rw [if_pos rfl, if_neg (by show ¬ voteE h dd ps = 10; omega), if_pos e0]
  have E0 := Lib.hid e0
  have RD := Lib.hid rd
  clear e0 rd
  go_enter Try.func35, Try.ntmps35
  go_wp2_with fail
  refine (HVO.out _ HG0.out).mono ?_
  rw [E0.out]
  rintro e v1 ⟨rfl, hbv1⟩
  (obtain ⟨cv1, fv1⟩ := bcell hbv1; have zv10 : w.heap.size < v1.heap.size := (by have := hbv1.size; (try simp at this); omega); have zv11 : w.heap.size + 1 < v1.heap.size := (by have := hbv1.size; (try simp at this); omega); have zv12 : w.heap.size + 1 + 1 < v1.heap.size := (by have := hbv1.size; (try simp at this); omega); have Gv1 := Lib.hid hbv1; clear hbv1)
  go_wp2_with fail
  refine (HRD.out _ (HG0.out.trans Gv1.out)).mono ?_
  rw [RD.out]
  rintro e v2 ⟨rfl, hbv2⟩
  (obtain ⟨cv2, fv2⟩ := bcell hbv2; have zv20 : w.heap.size < v2.heap.size := (by have := hbv2.size; (try simp at this); omega); have zv21 : w.heap.size + 1 < v2.heap.size := (by have := hbv2.size; (try simp at this); omega); have zv22 : w.heap.size + 1 + 1 < v2.heap.size := (by have := hbv2.size; (try simp at this); omega); have Gv2 := Lib.hid hbv2; clear hbv2)
  go_wp2_with fail
  have hS : v2.cell? ⟨w.heap.size, 0, none⟩ = some (.slice al h.log.length cl) ∧ v2.cell? ⟨w.heap.size, 1, none⟩ = some (.int .i64 h.sums.a) ∧ v2.cell? ⟨w.heap.size, 2, none⟩ = some (.int .i64 h.sums.b) ∧ v2.cell? ⟨w.heap.size, 3, none⟩ = some (.int .i64 h.sums.c) ∧ v2.cell? ⟨w.heap.size, 4, none⟩ = some (.int .i64 h.sums.d) ∧ v2.cell? ⟨w.heap.size, 5, none⟩ = some (.slice ar h.ready.length cr) ∧ v2.cell? ⟨w.heap.size, 6, none⟩ = some (.slice ad h.done.length cd) ∧ v2.cell? ⟨w.heap.size + 1, 1, none⟩ = some (.int .i64 dd) := by refine ⟨?_, ?_, ?_, ?_, ?_, ?_, ?_, ?_⟩ <;> go_simp
  have HGW : Hid (Grow w v2) := Lib.hid ((HG0.out.trans Gv1.out).trans Gv2.out)
  have R6 : Hid (v2.heap[w.heap.size + 1 + 1]? = some (.cells #[.slice none 0 0, .int .i64 0, .int .i64 0, .int .i64 0, .int .i64 0, .slice none 0 0, .slice none 0 0] 29 (0, 0))) := Lib.hid (row_grow HR6.out (Gv1.out.trans Gv2.out))
  have hz0 : w.heap.size + 1 + 1 < v2.heap.size := (Array.getElem?_eq_some_iff.1 R6.out).1
  obtain ⟨s0, s1, s2, s3, s4, s5, s6, s7⟩ := hS
  have HS : Hid (∀ W, v2.grownBy W (some (w.heap.size + 1 + 1)) → W.cell? ⟨w.heap.size, 0, none⟩ = some (.slice al h.log.length cl) ∧ W.cell? ⟨w.heap.size, 1, none⟩ = some (.int .i64 h.sums.a) ∧ W.cell? ⟨w.heap.size, 2, none⟩ = some (.int .i64 h.sums.b) ∧ W.cell? ⟨w.heap.size, 3, none⟩ = some (.int .i64 h.sums.c) ∧ W.cell? ⟨w.heap.size, 4, none⟩ = some (.int .i64 h.sums.d) ∧ W.cell? ⟨w.heap.size, 5, none⟩ = some (.slice ar h.ready.length cr) ∧ W.cell? ⟨w.heap.size, 6, none⟩ = some (.slice ad h.done.length cd) ∧ W.cell? ⟨w.heap.size + 1, 1, none⟩ = some (.int .i64 dd)) := fun W hW => by
    have k : ∀ (b o : Nat) (u : Value), b < w.heap.size + 1 + 1 → v2.cell? ⟨b, o, none⟩ = some u → W.cell? ⟨b, o, none⟩ = some u := fun b o u hb e => by
      rw [by_cell hW (World.block_lt_of_cell? v2 _ e) (by simp; omega)]; exact e
    exact ⟨k _ _ _ (by omega) s0, k _ _ _ (by omega) s1, k _ _ _ (by omega) s2, k _ _ _ (by omega) s3, k _ _ _ (by omega) s4, k _ _ _ (by omega) s5, k _ _ _ (by omega) s6, k _ _ _ (by omega) s7⟩
  clear s0 s1 s2 s3 s4 s5 s6 s7
  refine but_start (fun w' => w'.cell? ⟨w.heap.size, 0, none⟩ = some (.slice al h.log.length cl) ∧ w'.cell? ⟨w.heap.size, 1, none⟩ = some (.int .i64 h.sums.a) ∧ w'.cell? ⟨w.heap.size, 2, none⟩ = some (.int .i64 h.sums.b) ∧ w'.cell? ⟨w.heap.size, 3, none⟩ = some (.int .i64 h.sums.c) ∧ w'.cell? ⟨w.heap.size, 4, none⟩ = some (.int .i64 h.sums.d) ∧ w'.cell? ⟨w.heap.size, 5, none⟩ = some (.slice ar h.ready.length cr) ∧ w'.cell? ⟨w.heap.size, 6, none⟩ = some (.slice ad h.done.length cd) ∧ w'.cell? ⟨w.heap.size + 1, 1, none⟩ = some (.int .i64 dd)) 8 (by kernel_rfl) ?_
  obtain ⟨wd, hWd⟩ : ∃ x : World, x = v2.drew := ⟨_, rfl⟩
  rw [← hWd]
  have GD : Grow v2 wd := by rw [hWd]; exact (Grow.refl _).drew
  have zD : v2.heap.size = wd.heap.size := by rw [hWd]; rfl
  have ZD := Lib.hid zD
  clear hWd zD
  have hzd : w.heap.size + 1 + 1 < wd.heap.size := by have := ZD.out; omega
  have hzw : w.heap.size ≤ wd.heap.size := by have := hzd; omega
  have FIN : Hid (∀ (Wf : World) (q : Nat), w.heap.size ≤ q → (∀ a : Addr, a.block < wd.heap.size → a.block ≠ w.heap.size + 1 + 1 → Wf.cell? a = wd.cell? a) → At Wf.cell? q 0 (#[.int .i64 2, .int .i64 dd, .int .i64 me, .slice none 0 0] : Array Value).toList → Grow w Wf → ∃ v1 v2, Ending.returned (.tuple #[.agg #[.slice al h.log.length cl, .int .i64 h.sums.a, .int .i64 h.sums.b, .int .i64 h.sums.c, .int .i64 h.sums.d, .slice ar h.ready.length cr, .slice ad h.done.length cd], .slice (some ⟨q, 0, none⟩) 1 1]) = .returned (.tuple #[v1, v2]) ∧ Of Ty.hs (ov c w Wf) v1 (hearH h ⟨1, dd, hh, ps⟩) ∧ Sl Ty.ms (ov c w Wf) v2 (hearM h me ⟨1, dd, hh, ps⟩) ∧ Grow w Wf) := by
    intro Wf q hq hA hAt hGf
    refine ⟨_, _, rfl, ?_, ?_, hGf⟩
    · rw [HEH.out]
      exact HV0.out.mono (ov_in HC.out)
    · rw [HEM.out]
      exact sl_one (T := Ty.ms) ⟨_, rfl, (show I64 2 from by unfold I64; decide), HMS.out.2.2.1, HME.out, Sl.nil _ _⟩ (at_ov hAt hq) (by decide) (by decide)
  refine but_take (i := 0) (v := ?_) 8 rfl (by kernel_rfl) (by kernel_rfl) (by kernel_rfl) (by kernel_rfl) (by kernel_rfl) (fun _ _ _ h => h) (HS.out _ (grownBy_of_grow GD _)) (Or.inl ⟨by rfl, ?_⟩) ?_
  rotate_left
  · (intro w' hSw; (try dsimp only at hSw); obtain ⟨hs0, hs1, hs2, hs3, hs4, hs5, hs6, hs7⟩ := hSw; go_simp <;> with_reducible rfl)
  try simp only [Act.put, List.getElem_toArray, List.getElem_cons_zero, List.setIfInBounds_toArray, List.set_cons_zero, List.set_cons_succ]
  refine but_take (i := 1) (v := ?_) 8 rfl (by kernel_rfl) (by kernel_rfl) (by kernel_rfl) (by kernel_rfl) (by kernel_rfl) (fun _ _ _ h => h) (HS.out _ (grownBy_of_grow GD _)) (Or.inl ⟨by rfl, ?_⟩) ?_
  rotate_left
  · (intro w' hSw; (try dsimp only at hSw); obtain ⟨hs0, hs1, hs2, hs3, hs4, hs5, hs6, hs7⟩ := hSw; go_simp <;> with_reducible rfl)
  try simp only [Act.put, List.getElem_toArray, List.getElem_cons_succ, List.getElem_cons_zero, List.setIfInBounds_toArray, List.set_cons_zero, List.set_cons_succ]
  refine but_take (i := 2) (v := ?_) 8 rfl (by kernel_rfl) (by kernel_rfl) (by kernel_rfl) (by kernel_rfl) (by kernel_rfl) (fun _ _ _ h => h) (HS.out _ (grownBy_of_grow GD _)) (Or.inl ⟨by rfl, ?_⟩) ?_
  rotate_left
  · (intro w' hSw; (try dsimp only at hSw); obtain ⟨hs0, hs1, hs2, hs3, hs4, hs5, hs6, hs7⟩ := hSw; go_simp <;> with_reducible rfl)
  try simp only [Act.put, List.getElem_toArray, List.getElem_cons_succ, List.getElem_cons_zero, List.setIfInBounds_toArray, List.set_cons_zero, List.set_cons_succ]
  refine but_take (i := 3) (v := ?_) 8 rfl (by kernel_rfl) (by kernel_rfl) (by kernel_rfl) (by kernel_rfl) (by kernel_rfl) (fun _ _ _ h => h) (HS.out _ (grownBy_of_grow GD _)) (Or.inl ⟨by rfl, ?_⟩) ?_
  rotate_left
  · (intro w' hSw; (try dsimp only at hSw); obtain ⟨hs0, hs1, hs2, hs3, hs4, hs5, hs6, hs7⟩ := hSw; go_simp <;> with_reducible rfl)
  try simp only [Act.put, List.getElem_toArray, List.getElem_cons_succ, List.getElem_cons_zero, List.setIfInBounds_toArray, List.set_cons_zero, List.set_cons_succ]
  refine but_take (i := 4) (v := ?_) 8 rfl (by kernel_rfl) (by kernel_rfl) (by kernel_rfl) (by kernel_rfl) (by kernel_rfl) (fun _ _ _ h => h) (HS.out _ (grownBy_of_grow GD _)) (Or.inl ⟨by rfl, ?_⟩) ?_
  rotate_left
  · (intro w' hSw; (try dsimp only at hSw); obtain ⟨hs0, hs1, hs2, hs3, hs4, hs5, hs6, hs7⟩ := hSw; go_simp <;> with_reducible rfl)
  try simp only [Act.put, List.getElem_toArray, List.getElem_cons_succ, List.getElem_cons_zero, List.setIfInBounds_toArray, List.set_cons_zero, List.set_cons_succ]
  refine but_take (i := 5) (v := ?_) 8 rfl (by kernel_rfl) (by kernel_rfl) (by kernel_rfl) (by kernel_rfl) (by kernel_rfl) (fun _ _ _ h => h) (HS.out _ (grownBy_of_grow GD _)) (Or.inl ⟨by rfl, ?_⟩) ?_
  rotate_left
  · (intro w' hSw; (try dsimp only at hSw); obtain ⟨hs0, hs1, hs2, hs3, hs4, hs5, hs6, hs7⟩ := hSw; go_simp <;> with_reducible rfl)
  try simp only [Act.put, List.getElem_toArray, List.getElem_cons_succ, List.getElem_cons_zero, List.setIfInBounds_toArray, List.set_cons_zero, List.set_cons_succ]
  refine but_two (i := 6) (j := 7) (by kernel_rfl) rfl rfl ?_ ?_
  · skip
    intro K HK'
    have HK := Lib.hid HK'
    clear HK'
    skip
    try simp only [List.getElem_toArray, List.getElem_cons_succ, List.getElem_cons_zero]
    go_simp
    refine HK.out _ _ ⟨fun _ => HS.out _ (grownBy_trans (grownBy_of_grow GD _) (grownBy_of_grow ((Grow.refl _).alloc _) _)), ?_⟩
    clear HK K
    try simp only [Act.put, List.getElem_toArray, List.getElem_cons_succ, List.getElem_cons_zero, List.setIfInBounds_toArray, List.set_cons_zero, List.set_cons_succ]
    refine but_one (i := 7) (by kernel_rfl) rfl ?_
    intro K HK'
    have HK := Lib.hid HK'
    clear HK'
    refine wanted_go rfl ?_
    try simp only [List.getElem_toArray, List.getElem_cons_succ, List.getElem_cons_zero]
    refine wp_store_row (.tmp 6) (.tmp 67) rfl rfl rfl (row_grow R6.out (GD.alloc _)) info_hs rfl rfl ?_
    intro w7 r7 g7
    refine HK.out _ _ ⟨fun _ => HS.out _ (grownBy_trans (grownBy_trans (grownBy_of_grow GD _) (grownBy_of_grow ((Grow.refl _).alloc _) _)) g7), ?_⟩
    clear HK K
    try simp only [Act.put]
    refine but_one (i := 8) (by kernel_rfl) rfl ?_
    intro K HK'
    have HK := Lib.hid HK'
    clear HK'
    skip
    try simp only [List.getElem_toArray, List.getElem_cons_succ, List.getElem_cons_zero]
    go_simp
    refine HK.out _ _ ⟨fun h => absurd rfl h, ?_⟩
    clear HK K
    try simp only [Act.put, List.getElem_toArray, List.getElem_cons_succ, List.getElem_cons_zero, List.setIfInBounds_toArray, List.set_cons_zero, List.set_cons_succ]
    refine but_done (by kernel_rfl) ?_
    obtain ⟨p0, p1, p2, p3, p4, p5, p6⟩ := cells7 r7
    go_wp2
    refine bodyPost_ret (v := .tuple #[.agg #[.slice al h.log.length cl, .int .i64 h.sums.a, .int .i64 h.sums.b, .int .i64 h.sums.c, .int .i64 h.sums.d, .slice ar h.ready.length cr, .slice ad h.done.length cd], .slice (some ⟨wd.heap.size, 0, none⟩) 1 1]) (by simp [results, Try.results35, go_sem, p0, p1, p2, p3, p4, p5, p6]) rfl ?_
    refine FIN.out _ wd.heap.size hzw (fun a h1 h2 => (by_cell g7 (by simp; omega) h2).trans (((Grow.refl wd).alloc _).cell h1)) (fun j u e => (by_cell g7 (by simp) (by simp; omega)).trans (at_new wd _ _ j u e)) ?_
    exact (HGW.out.trans (GD.alloc _)).grown g7 (fun k hk => by simp at hk; omega)
  · skip
    intro K HK'
    have HK := Lib.hid HK'
    clear HK'
    refine wanted_go rfl ?_
    try simp only [List.getElem_toArray, List.getElem_cons_succ, List.getElem_cons_zero]
    refine wp_store_row (.tmp 6) (.tmp 67) rfl rfl rfl (row_grow R6.out GD) info_hs rfl rfl ?_
    intro w7 r7 g7
    refine HK.out _ _ ⟨fun _ => HS.out _ (grownBy_trans (grownBy_of_grow GD _) g7), ?_⟩
    clear HK K
    try simp only [Act.put]
    refine but_one (i := 6) (by kernel_rfl) rfl ?_
    intro K HK'
    have HK := Lib.hid HK'
    clear HK'
    skip
    try simp only [List.getElem_toArray, List.getElem_cons_succ, List.getElem_cons_zero]
    go_simp
    refine HK.out _ _ ⟨fun _ => HS.out _ (grownBy_trans (grownBy_trans (grownBy_of_grow GD _) g7) (grownBy_of_grow ((Grow.refl _).alloc _) _)), ?_⟩
    clear HK K
    try simp only [Act.put, List.getElem_toArray, List.getElem_cons_succ, List.getElem_cons_zero, List.setIfInBounds_toArray, List.set_cons_zero, List.set_cons_succ]
    refine but_one (i := 8) (by kernel_rfl) rfl ?_
    intro K HK'
    have HK := Lib.hid HK'
    clear HK'
    skip
    try simp only [List.getElem_toArray, List.getElem_cons_succ, List.getElem_cons_zero]
    go_simp
    refine HK.out _ _ ⟨fun h => absurd rfl h, ?_⟩
    clear HK K
    try simp only [Act.put, List.getElem_toArray, List.getElem_cons_succ, List.getElem_cons_zero, List.setIfInBounds_toArray, List.set_cons_zero, List.set_cons_succ]
    refine but_done (by kernel_rfl) ?_
    obtain ⟨p0, p1, p2, p3, p4, p5, p6⟩ := cells7 (heap_later r7 (.cells #[.int .i64 2, .int .i64 dd, .int .i64 me, .slice none 0 0] 39))
    go_wp2
    refine bodyPost_ret (v := .tuple #[.agg #[.slice al h.log.length cl, .int .i64 h.sums.a, .int .i64 h.sums.b, .int .i64 h.sums.c, .int .i64 h.sums.d, .slice ar h.ready.length cr, .slice ad h.done.length cd], .slice (some ⟨w7.heap.size, 0, none⟩) 1 1]) (by simp [results, Try.results35, go_sem, p0, p1, p2, p3, p4, p5, p6]) rfl ?_
    refine FIN.out _ w7.heap.size (Nat.le_trans hzw g7.size) (fun a h1 h2 => (((Grow.refl w7).alloc _).cell (Nat.lt_of_lt_of_le h1 g7.size)).trans (by_cell g7 h1 h2)) (at_new w7 _ _) ?_
    exact ((HGW.out.trans GD).grown g7 (fun k hk => by simp at hk; omega)).alloc _
end Go.Proofs.Ytgbhpghgohggcaa

/- Walks: Hear of the document's answer: whoever is asked (N). -/
namespace Go.Proofs.Ytgbhpghgohggcaa
open Go.RowKit
set_option maxRecDepth 100000 in
set_option maxHeartbeats 1000000 in
theorem hear_prepN {c : CM} {v vm : Value} {h : Hs} {dd hh me : Int} {ps : List Pt} (w : World) (hc : Sub c w.cell?) (hv : Of Ty.hs c v h) (hm : Of Ty.ms c vm ⟨1, dd, hh, ps⟩) (hk : ∀ x ∈ h.log, KeysOk x.parts) (hkm : KeysOk ps) (hn : (h.log.length + 1) * 40 ≤ 140737488355328) (hme : I64 me) (e0 : voteE h dd ps = 0) (rd : readyE h.ready dd = false) :
    Calls Try.prog 35 #[v, .int .i64 me, vm] w fun e w' => ∃ v1 v2, e = .returned (.tuple #[v1, v2]) ∧ Of Ty.hs (ov c w w') v1 (hearH h ⟨1, dd, hh, ps⟩) ∧ Sl Ty.ms (ov c w w') v2 (hearM h me ⟨1, dd, hh, ps⟩) ∧ Grow w w' := by
  obtain ⟨al, cl, ar, cr, ad, cd, rfl⟩ := hv.hs_form
  obtain ⟨ap, cp, rfl⟩ : ∃ ap cp, vm = .agg #[.int .i64 1, .int .i64 dd, .int .i64 hh, .slice ap ps.length cp] := hm.ms_form
  have hms : Sl Ty.pt c (.slice ap ps.length cp) ps ∧ I64 1 ∧ I64 dd ∧ I64 hh := Of.ms_parts hm
  have HMS := Lib.hid hms
  have HV0 := Lib.hid hv
  have HC := Lib.hid hc
  have HK0 := Lib.hid hk
  have HKM := Lib.hid hkm
  have HN := Lib.hid hn
  have HME := Lib.hid hme
  have HVO := Lib.hid (fun (W : World) (hW : Grow w W) => ref_vote (d := dd) W (hv.mono (hc.trans hW.sub)) (hms.1.mono (hc.trans hW.sub)) hkm)
  have HRD := Lib.hid (fun (W : World) (hW : Grow w W) => ref_ready (d := dd) W (hv.mono (hc.trans hW.sub)))
  have HIN := Lib.hid (fun (W : World) (hW : Grow w W) => ref_in (n := dd) W ((Of.hs_log hv).2.2.mono (hc.trans hW.sub)))
  have HG0 : Hid (Grow w (((w.alloc (.cells #[.slice al h.log.length cl, .int .i64 h.sums.a, .int .i64 h.sums.b, .int .i64 h.sums.c, .int .i64 h.sums.d, .slice ar h.ready.length cr, .slice ad h.done.length cd] 29)).alloc (.cells #[.int .i64 1, .int .i64 dd, .int .i64 hh, .slice ap ps.length cp] 39)).alloc (.cells #[.slice none 0 0, .int .i64 0, .int .i64 0, .int .i64 0, .int .i64 0, .slice none 0 0, .slice none 0 0] 29))) := Lib.hid ((((Grow.refl w).alloc _).alloc _).alloc _)
  have HR3 : Hid ((((w.alloc (.cells #[.slice al h.log.length cl, .int .i64 h.sums.a, .int .i64 h.sums.b, .int .i64 h.sums.c, .int .i64 h.sums.d, .slice ar h.ready.length cr, .slice ad h.done.length cd] 29)).alloc (.cells #[.int .i64 1, .int .i64 dd, .int .i64 hh, .slice ap ps.length cp] 39)).alloc (.cells #[.slice none 0 0, .int .i64 0, .int .i64 0, .int .i64 0, .int .i64 0, .slice none 0 0, .slice none 0 0] 29)).heap[w.heap.size]? = some (.cells #[.slice al h.log.length cl, .int .i64 h.sums.a, .int .i64 h.sums.b, .int .i64 h.sums.c, .int .i64 h.sums.d, .slice ar h.ready.length cr, .slice ad h.done.length cd] 29 (0, 0))) := Lib.hid (heap_later (heap_later (row_new _ _) _) _)
  have HR5 : Hid ((((w.alloc (.cells #[.slice al h.log.length cl, .int .i64 h.sums.a, .int .i64 h.sums.b, .int .i64 h.sums.c, .int .i64 h.sums.d, .slice ar h.ready.length cr, .slice ad h.done.length cd] 29)).alloc (.cells #[.int .i64 1, .int .i64 dd, .int .i64 hh, .slice ap ps.length cp] 39)).alloc (.cells #[.slice none 0 0, .int .i64 0, .int .i64 0, .int .i64 0, .int .i64 0, .slice none 0 0, .slice none 0 0] 29)).heap[w.heap.size + 1]? = some (.cells #[.int .i64 1, .int .i64 dd, .int .i64 hh, .slice ap ps.length cp] 39 (0, 0))) := Lib.hid (heap_later (by simpa using row_new (w.alloc (.cells #[.slice al h.log.length cl, .int .i64 h.sums.a, .int .i64 h.sums.b, .int .i64 h.sums.c, .int .i64 h.sums.d, .slice ar h.ready.length cr, .slice ad h.done.length cd] 29)) _) _)
  have HR6 : Hid ((((w.alloc (.cells #[.slice al h.log.length cl, .int .i64 h.sums.a, .int .i64 h.sums.b, .int .i64 h.sums.c, .int .i64 h.sums.d, .slice ar h.ready.length cr, .slice ad h.done.length cd] 29)).alloc (.cells #[.int .i64 1, .int .i64 dd, .int .i64 hh, .slice ap ps.length cp] 39)).alloc (.cells #[.slice none 0 0, .int .i64 0, .int .i64 0, .int .i64 0, .int .i64 0, .slice none 0 0, .slice none 0 0] 29)).heap[w.heap.size + 1 + 1]? = some (.cells #[.slice none 0 0, .int .i64 0, .int .i64 0, .int .i64 0, .int .i64 0, .slice none 0 0, .slice none 0 0] 29 (0, 0))) := Lib.hid (by simpa using row_new ((w.alloc (.cells #[.slice al h.log.length cl, .int .i64 h.sums.a, .int .i64 h.sums.b, .int .i64 h.sums.c, .int .i64 h.sums.d, .slice ar h.ready.length cr, .slice ad h.done.length cd] 29)).alloc (.cells #[.int .i64 1, .int .i64 dd, .int .i64 hh, .slice ap ps.length cp] 39)) _)
  clear hv hm hc hk hkm hn hme hms
  have HEH : Hid (hearH h ⟨1, dd, hh, ps⟩ = noteE h ⟨1, dd, ps⟩) := by
    show hearH h ⟨1, dd, hh, ps⟩ = noteE h ⟨1, dd, ps⟩
    unfold hearH
    rw [if_pos rfl, if_pos ⟨e0, rd⟩]
  have HEM : Hid (hearM h me ⟨1, dd, hh, ps⟩ = sayE 2 dd me) := by
    show hearM h me ⟨1, dd, hh, ps⟩ = sayE 2 dd me
    unfold hearM
    rw [if_pos rfl, if_neg (by show ¬ voteE h dd ps = 10; omega), if_pos e0]
  have E0 := Lib.hid e0
  have RD := Lib.hid rd
  clear e0 rd
  go_enter Try.func35, Try.ntmps35
  go_wp2_with fail
  refine (HVO.out _ HG0.out).mono ?_
  rw [E0.out]
  rintro e v1 ⟨rfl, hbv1⟩
  (obtain ⟨cv1, fv1⟩ := bcell hbv1; have zv10 : w.heap.size < v1.heap.size := (by have := hbv1.size; (try simp at this); omega); have zv11 : w.heap.size + 1 < v1.heap.size := (by have := hbv1.size; (try simp at this); omega); have zv12 : w.heap.size + 1 + 1 < v1.heap.size := (by have := hbv1.size; (try simp at this); omega); have Gv1 := Lib.hid hbv1; clear hbv1)
  go_wp2_with fail
  refine (HRD.out _ (HG0.out.trans Gv1.out)).mono ?_
  rw [RD.out]
  rintro e v2 ⟨rfl, hbv2⟩
  (obtain ⟨cv2, fv2⟩ := bcell hbv2; have zv20 : w.heap.size < v2.heap.size := (by have := hbv2.size; (try simp at this); omega); have zv21 : w.heap.size + 1 < v2.heap.size := (by have := hbv2.size; (try simp at this); omega); have zv22 : w.heap.size + 1 + 1 < v2.heap.size := (by have := hbv2.size; (try simp at this); omega); have Gv2 := Lib.hid hbv2; clear hbv2)
  go_wp2_with fail
  have GW : Hid (Grow _ v2) := Lib.hid (Gv1.out.trans Gv2.out)
  have GV : Hid (Grow w v2) := Lib.hid (HG0.out.trans GW.out)
  have ZV : Hid (w.heap.size + 1 + 1 < v2.heap.size) := Lib.hid (Array.getElem?_eq_some_iff.1 (row_grow HR6.out GW.out)).1
  have hrr : Ty.rc.R (wk w.heap.size 3 (ov c w v2)) [.int .i64 (⟨1, dd, ps⟩ : Rc).kind, .int .i64 dd, .slice ap ps.length cp] ⟨1, dd, ps⟩ := Ty.rc.mono (wk_in HC.out 3) (show Ty.rc.R c [.int .i64 1, .int .i64 dd, .slice ap ps.length cp] ⟨1, dd, ps⟩ from ⟨_, rfl, HMS.out.2.1, HMS.out.2.2.1, HMS.out.1⟩)
  refine (ref_note (c := wk w.heap.size 3 (ov c w v2)) (r := ⟨1, dd, ps⟩) v2 (wk_ov HC.out GV.out 3) (HV0.out.mono (wk_in HC.out 3)) ⟨_, rfl, hrr⟩ HK0.out HKM.out HN.out).mono ?_
  clear hrr
  generalize noteE h ⟨1, dd, ps⟩ = x at *
  rintro e v3 ⟨vx, rfl, hX, hbv3⟩
  obtain ⟨al2, cl2, ar2, cr2, ad2, cd2, rfl⟩ := hX.hs_form
  have HX := Lib.hid hX
  have HG3 := Lib.hid hbv3
  clear hX
  have GW3 : Hid (Grow _ v3) := Lib.hid (GW.out.trans hbv3)
  obtain ⟨k0, k1, k2, k3, k4, k5, k6⟩ := cells7 (row_grow HR3.out GW3.out)
  have kf := row_free (row_grow HR3.out GW3.out)
  obtain ⟨m0, m1, m2, m3⟩ := cells4 (row_grow HR5.out GW3.out)
  clear hbv3
  go_wp2_with (first | (refine wpList_store_row rfl (.tmp 3) (.tmp 37) rfl rfl rfl (row_grow HR3.out GW3.out) info_hs rfl rfl ?_))
  intro v4 r4 g4
  have R3 := Lib.hid r4
  have BY4 := Lib.hid g4
  clear r4 g4
  have R5 : Hid (v4.heap[w.heap.size + 1]? = _) := Lib.hid (row_by (row_grow HR5.out GW3.out) BY4.out (by simp))
  have R6 : Hid (v4.heap[w.heap.size + 1 + 1]? = _) := Lib.hid (row_by (row_grow HR6.out GW3.out) BY4.out (by simp; omega))
  clear k0 k1 k2 k3 k4 k5 k6 kf m0 m1 m2 m3
  have HG4 : Hid (Grow w v4) := Lib.hid ((GV.out.trans HG3.out).grown BY4.out (fun k hk => by simp at hk; omega))
  obtain ⟨k0, k1, k2, k3, k4, k5, k6⟩ := cells7 R3.out
  obtain ⟨m0, m1, m2, m3⟩ := cells4 R5.out
  go_wp2_with fail
  have hS : v4.cell? ⟨w.heap.size, 0, none⟩ = some (.slice al2 x.log.length cl2) ∧ v4.cell? ⟨w.heap.size, 1, none⟩ = some (.int .i64 x.sums.a) ∧ v4.cell? ⟨w.heap.size, 2, none⟩ = some (.int .i64 x.sums.b) ∧ v4.cell? ⟨w.heap.size, 3, none⟩ = some (.int .i64 x.sums.c) ∧ v4.cell? ⟨w.heap.size, 4, none⟩ = some (.int .i64 x.sums.d) ∧ v4.cell? ⟨w.heap.size, 5, none⟩ = some (.slice ar2 x.ready.length cr2) ∧ v4.cell? ⟨w.heap.size, 6, none⟩ = some (.slice ad2 x.done.length cd2) ∧ v4.cell? ⟨w.heap.size + 1, 1, none⟩ = some (.int .i64 dd) := by refine ⟨?_, ?_, ?_, ?_, ?_, ?_, ?_, ?_⟩ <;> go_simp
  have HGW : Hid (Grow w v4) := Lib.hid HG4.out
  have R6 : Hid (v4.heap[w.heap.size + 1 + 1]? = some (.cells #[.slice none 0 0, .int .i64 0, .int .i64 0, .int .i64 0, .int .i64 0, .slice none 0 0, .slice none 0 0] 29 (0, 0))) := Lib.hid R6.out
  have hz0 : w.heap.size + 1 + 1 < v4.heap.size := (Array.getElem?_eq_some_iff.1 R6.out).1
  obtain ⟨s0, s1, s2, s3, s4, s5, s6, s7⟩ := hS
  have HS : Hid (∀ W, v4.grownBy W (some (w.heap.size + 1 + 1)) → W.cell? ⟨w.heap.size, 0, none⟩ = some (.slice al2 x.log.length cl2) ∧ W.cell? ⟨w.heap.size, 1, none⟩ = some (.int .i64 x.sums.a) ∧ W.cell? ⟨w.heap.size, 2, none⟩ = some (.int .i64 x.sums.b) ∧ W.cell? ⟨w.heap.size, 3, none⟩ = some (.int .i64 x.sums.c) ∧ W.cell? ⟨w.heap.size, 4, none⟩ = some (.int .i64 x.sums.d) ∧ W.cell? ⟨w.heap.size, 5, none⟩ = some (.slice ar2 x.ready.length cr2) ∧ W.cell? ⟨w.heap.size, 6, none⟩ = some (.slice ad2 x.done.length cd2) ∧ W.cell? ⟨w.heap.size + 1, 1, none⟩ = some (.int .i64 dd)) := fun W hW => by
    have k : ∀ (b o : Nat) (u : Value), b < w.heap.size + 1 + 1 → v4.cell? ⟨b, o, none⟩ = some u → W.cell? ⟨b, o, none⟩ = some u := fun b o u hb e => by
      rw [by_cell hW (World.block_lt_of_cell? v4 _ e) (by simp; omega)]; exact e
    exact ⟨k _ _ _ (by omega) s0, k _ _ _ (by omega) s1, k _ _ _ (by omega) s2, k _ _ _ (by omega) s3, k _ _ _ (by omega) s4, k _ _ _ (by omega) s5, k _ _ _ (by omega) s6, k _ _ _ (by omega) s7⟩
  clear s0 s1 s2 s3 s4 s5 s6 s7
  refine but_start (fun w' => w'.cell? ⟨w.heap.size, 0, none⟩ = some (.slice al2 x.log.length cl2) ∧ w'.cell? ⟨w.heap.size, 1, none⟩ = some (.int .i64 x.sums.a) ∧ w'.cell? ⟨w.heap.size, 2, none⟩ = some (.int .i64 x.sums.b) ∧ w'.cell? ⟨w.heap.size, 3, none⟩ = some (.int .i64 x.sums.c) ∧ w'.cell? ⟨w.heap.size, 4, none⟩ = some (.int .i64 x.sums.d) ∧ w'.cell? ⟨w.heap.size, 5, none⟩ = some (.slice ar2 x.ready.length cr2) ∧ w'.cell? ⟨w.heap.size, 6, none⟩ = some (.slice ad2 x.done.length cd2) ∧ w'.cell? ⟨w.heap.size + 1, 1, none⟩ = some (.int .i64 dd)) 8 (by kernel_rfl) ?_
  obtain ⟨wd, hWd⟩ : ∃ x : World, x = v4.drew := ⟨_, rfl⟩
  rw [← hWd]
  have GD : Grow v4 wd := by rw [hWd]; exact (Grow.refl _).drew
  have zD : v4.heap.size = wd.heap.size := by rw [hWd]; rfl
  have ZD := Lib.hid zD
  clear hWd zD
  have hzd : w.heap.size + 1 + 1 < wd.heap.size := by have := ZD.out; omega
  have hzw : w.heap.size ≤ wd.heap.size := by have := hzd; omega
  have FIN : Hid (∀ (Wf : World) (q : Nat), w.heap.size ≤ q → (∀ a : Addr, a.block < wd.heap.size → a.block ≠ w.heap.size + 1 + 1 → Wf.cell? a = wd.cell? a) → At Wf.cell? q 0 (#[.int .i64 2, .int .i64 dd, .int .i64 me, .slice none 0 0] : Array Value).toList → Grow w Wf → ∃ v1 v2, Ending.returned (.tuple #[.agg #[.slice al2 x.log.length cl2, .int .i64 x.sums.a, .int .i64 x.sums.b, .int .i64 x.sums.c, .int .i64 x.sums.d, .slice ar2 x.ready.length cr2, .slice ad2 x.done.length cd2], .slice (some ⟨q, 0, none⟩) 1 1]) = .returned (.tuple #[v1, v2]) ∧ Of Ty.hs (ov c w Wf) v1 (hearH h ⟨1, dd, hh, ps⟩) ∧ Sl Ty.ms (ov c w Wf) v2 (hearM h me ⟨1, dd, hh, ps⟩) ∧ Grow w Wf) := by
    intro Wf q hq hA hAt hGf
    refine ⟨_, _, rfl, ?_, ?_, hGf⟩
    · rw [HEH.out]
      exact HX.out.mono (ov_boxes (k := 3) GV.out HG3.out (by have := ZV.out; omega) fun a u ha e => by
        rw [hA a (by have h1 := World.block_lt_of_cell? v3 a e; have h2 := BY4.out.size; have h3 := ZD.out; omega) (by omega), (World.cell?_of_block (show wd.heap[a.block]? = v4.heap[a.block]? from (GD.block _ (by have h1 := World.block_lt_of_cell? v3 a e; have h2 := BY4.out.size; omega)))), by_cell BY4.out (World.block_lt_of_cell? v3 a e) (by omega)]
        exact e)
    · rw [HEM.out]
      exact sl_one (T := Ty.ms) ⟨_, rfl, (show I64 2 from by unfold I64; decide), HMS.out.2.2.1, HME.out, Sl.nil _ _⟩ (at_ov hAt hq) (by decide) (by decide)
  refine but_take (i := 0) (v := ?_) 8 rfl (by kernel_rfl) (by kernel_rfl) (by kernel_rfl) (by kernel_rfl) (by kernel_rfl) (fun _ _ _ h => h) (HS.out _ (grownBy_of_grow GD _)) (Or.inl ⟨by rfl, ?_⟩) ?_
  rotate_left
  · (intro w' hSw; (try dsimp only at hSw); obtain ⟨hs0, hs1, hs2, hs3, hs4, hs5, hs6, hs7⟩ := hSw; go_simp <;> with_reducible rfl)
  try simp only [Act.put, List.getElem_toArray, List.getElem_cons_zero, List.setIfInBounds_toArray, List.set_cons_zero, List.set_cons_succ]
  refine but_take (i := 1) (v := ?_) 8 rfl (by kernel_rfl) (by kernel_rfl) (by kernel_rfl) (by kernel_rfl) (by kernel_rfl) (fun _ _ _ h => h) (HS.out _ (grownBy_of_grow GD _)) (Or.inl ⟨by rfl, ?_⟩) ?_
  rotate_left
  · (intro w' hSw; (try dsimp only at hSw); obtain ⟨hs0, hs1, hs2, hs3, hs4, hs5, hs6, hs7⟩ := hSw; go_simp <;> with_reducible rfl)
  try simp only [Act.put, List.getElem_toArray, List.getElem_cons_succ, List.getElem_cons_zero, List.setIfInBounds_toArray, List.set_cons_zero, List.set_cons_succ]
  refine but_take (i := 2) (v := ?_) 8 rfl (by kernel_rfl) (by kernel_rfl) (by kernel_rfl) (by kernel_rfl) (by kernel_rfl) (fun _ _ _ h => h) (HS.out _ (grownBy_of_grow GD _)) (Or.inl ⟨by rfl, ?_⟩) ?_
  rotate_left
  · (intro w' hSw; (try dsimp only at hSw); obtain ⟨hs0, hs1, hs2, hs3, hs4, hs5, hs6, hs7⟩ := hSw; go_simp <;> with_reducible rfl)
  try simp only [Act.put, List.getElem_toArray, List.getElem_cons_succ, List.getElem_cons_zero, List.setIfInBounds_toArray, List.set_cons_zero, List.set_cons_succ]
  refine but_take (i := 3) (v := ?_) 8 rfl (by kernel_rfl) (by kernel_rfl) (by kernel_rfl) (by kernel_rfl) (by kernel_rfl) (fun _ _ _ h => h) (HS.out _ (grownBy_of_grow GD _)) (Or.inl ⟨by rfl, ?_⟩) ?_
  rotate_left
  · (intro w' hSw; (try dsimp only at hSw); obtain ⟨hs0, hs1, hs2, hs3, hs4, hs5, hs6, hs7⟩ := hSw; go_simp <;> with_reducible rfl)
  try simp only [Act.put, List.getElem_toArray, List.getElem_cons_succ, List.getElem_cons_zero, List.setIfInBounds_toArray, List.set_cons_zero, List.set_cons_succ]
  refine but_take (i := 4) (v := ?_) 8 rfl (by kernel_rfl) (by kernel_rfl) (by kernel_rfl) (by kernel_rfl) (by kernel_rfl) (fun _ _ _ h => h) (HS.out _ (grownBy_of_grow GD _)) (Or.inl ⟨by rfl, ?_⟩) ?_
  rotate_left
  · (intro w' hSw; (try dsimp only at hSw); obtain ⟨hs0, hs1, hs2, hs3, hs4, hs5, hs6, hs7⟩ := hSw; go_simp <;> with_reducible rfl)
  try simp only [Act.put, List.getElem_toArray, List.getElem_cons_succ, List.getElem_cons_zero, List.setIfInBounds_toArray, List.set_cons_zero, List.set_cons_succ]
  refine but_take (i := 5) (v := ?_) 8 rfl (by kernel_rfl) (by kernel_rfl) (by kernel_rfl) (by kernel_rfl) (by kernel_rfl) (fun _ _ _ h => h) (HS.out _ (grownBy_of_grow GD _)) (Or.inl ⟨by rfl, ?_⟩) ?_
  rotate_left
  · (intro w' hSw; (try dsimp only at hSw); obtain ⟨hs0, hs1, hs2, hs3, hs4, hs5, hs6, hs7⟩ := hSw; go_simp <;> with_reducible rfl)
  try simp only [Act.put, List.getElem_toArray, List.getElem_cons_succ, List.getElem_cons_zero, List.setIfInBounds_toArray, List.set_cons_zero, List.set_cons_succ]
  refine but_two (i := 6) (j := 7) (by kernel_rfl) rfl rfl ?_ ?_
  · skip
    intro K HK'
    have HK := Lib.hid HK'
    clear HK'
    skip
    try simp only [List.getElem_toArray, List.getElem_cons_succ, List.getElem_cons_zero]
    go_simp
    refine HK.out _ _ ⟨fun _ => HS.out _ (grownBy_trans (grownBy_of_grow GD _) (grownBy_of_grow ((Grow.refl _).alloc _) _)), ?_⟩
    clear HK K
    try simp only [Act.put, List.getElem_toArray, List.getElem_cons_succ, List.getElem_cons_zero, List.setIfInBounds_toArray, List.set_cons_zero, List.set_cons_succ]
    refine but_one (i := 7) (by kernel_rfl) rfl ?_
    intro K HK'
    have HK := Lib.hid HK'
    clear HK'
    refine wanted_go rfl ?_
    try simp only [List.getElem_toArray, List.getElem_cons_succ, List.getElem_cons_zero]
    refine wp_store_row (.tmp 6) (.tmp 67) rfl rfl rfl (row_grow R6.out (GD.alloc _)) info_hs rfl rfl ?_
    intro w7 r7 g7
    refine HK.out _ _ ⟨fun _ => HS.out _ (grownBy_trans (grownBy_trans (grownBy_of_grow GD _) (grownBy_of_grow ((Grow.refl _).alloc _) _)) g7), ?_⟩
    clear HK K
    try simp only [Act.put]
    refine but_one (i := 8) (by kernel_rfl) rfl ?_
    intro K HK'
    have HK := Lib.hid HK'
    clear HK'
    skip
    try simp only [List.getElem_toArray, List.getElem_cons_succ, List.getElem_cons_zero]
    go_simp
    refine HK.out _ _ ⟨fun h => absurd rfl h, ?_⟩
    clear HK K
    try simp only [Act.put, List.getElem_toArray, List.getElem_cons_succ, List.getElem_cons_zero, List.setIfInBounds_toArray, List.set_cons_zero, List.set_cons_succ]
    refine but_done (by kernel_rfl) ?_
    obtain ⟨p0, p1, p2, p3, p4, p5, p6⟩ := cells7 r7
    go_wp2
    refine bodyPost_ret (v := .tuple #[.agg #[.slice al2 x.log.length cl2, .int .i64 x.sums.a, .int .i64 x.sums.b, .int .i64 x.sums.c, .int .i64 x.sums.d, .slice ar2 x.ready.length cr2, .slice ad2 x.done.length cd2], .slice (some ⟨wd.heap.size, 0, none⟩) 1 1]) (by simp [results, Try.results35, go_sem, p0, p1, p2, p3, p4, p5, p6]) rfl ?_
    refine FIN.out _ wd.heap.size hzw (fun a h1 h2 => (by_cell g7 (by simp; omega) h2).trans (((Grow.refl wd).alloc _).cell h1)) (fun j u e => (by_cell g7 (by simp) (by simp; omega)).trans (at_new wd _ _ j u e)) ?_
    exact (HGW.out.trans (GD.alloc _)).grown g7 (fun k hk => by simp at hk; omega)
  · skip
    intro K HK'
    have HK := Lib.hid HK'
    clear HK'
    refine wanted_go rfl ?_
    try simp only [List.getElem_toArray, List.getElem_cons_succ, List.getElem_cons_zero]
    refine wp_store_row (.tmp 6) (.tmp 67) rfl rfl rfl (row_grow R6.out GD) info_hs rfl rfl ?_
    intro w7 r7 g7
    refine HK.out _ _ ⟨fun _ => HS.out _ (grownBy_trans (grownBy_of_grow GD _) g7), ?_⟩
    clear HK K
    try simp only [Act.put]
    refine but_one (i := 6) (by kernel_rfl) rfl ?_
    intro K HK'
    have HK := Lib.hid HK'
    clear HK'
    skip
    try simp only [List.getElem_toArray, List.getElem_cons_succ, List.getElem_cons_zero]
    go_simp
    refine HK.out _ _ ⟨fun _ => HS.out _ (grownBy_trans (grownBy_trans (grownBy_of_grow GD _) g7) (grownBy_of_grow ((Grow.refl _).alloc _) _)), ?_⟩
    clear HK K
    try simp only [Act.put, List.getElem_toArray, List.getElem_cons_succ, List.getElem_cons_zero, List.setIfInBounds_toArray, List.set_cons_zero, List.set_cons_succ]
    refine but_one (i := 8) (by kernel_rfl) rfl ?_
    intro K HK'
    have HK := Lib.hid HK'
    clear HK'
    skip
    try simp only [List.getElem_toArray, List.getElem_cons_succ, List.getElem_cons_zero]
    go_simp
    refine HK.out _ _ ⟨fun h => absurd rfl h, ?_⟩
    clear HK K
    try simp only [Act.put, List.getElem_toArray, List.getElem_cons_succ, List.getElem_cons_zero, List.setIfInBounds_toArray, List.set_cons_zero, List.set_cons_succ]
    refine but_done (by kernel_rfl) ?_
    obtain ⟨p0, p1, p2, p3, p4, p5, p6⟩ := cells7 (heap_later r7 (.cells #[.int .i64 2, .int .i64 dd, .int .i64 me, .slice none 0 0] 39))
    go_wp2
    refine bodyPost_ret (v := .tuple #[.agg #[.slice al2 x.log.length cl2, .int .i64 x.sums.a, .int .i64 x.sums.b, .int .i64 x.sums.c, .int .i64 x.sums.d, .slice ar2 x.ready.length cr2, .slice ad2 x.done.length cd2], .slice (some ⟨w7.heap.size, 0, none⟩) 1 1]) (by simp [results, Try.results35, go_sem, p0, p1, p2, p3, p4, p5, p6]) rfl ?_
    refine FIN.out _ w7.heap.size (Nat.le_trans hzw g7.size) (fun a h1 h2 => (((Grow.refl w7).alloc _).cell (Nat.lt_of_lt_of_le h1 g7.size)).trans (by_cell g7 h1 h2)) (at_new w7 _ _) ?_
    exact ((HGW.out.trans GD).grown g7 (fun k hk => by simp at hk; omega)).alloc _
end Go.Proofs.Ytgbhpghgohggcaa

/- Walks: Hear of the document's answer: whoever is asked (F). -/
namespace Go.Proofs.Ytgbhpghgohggcaa
open Go.RowKit
set_option maxRecDepth 100000 in
set_option maxHeartbeats 1000000 in
theorem hear_prepF {c : CM} {v vm : Value} {h : Hs} {dd hh me : Int} {ps : List Pt} (w : World) (hc : Sub c w.cell?) (hv : Of Ty.hs c v h) (hm : Of Ty.ms c vm ⟨1, dd, hh, ps⟩) (hk : ∀ x ∈ h.log, KeysOk x.parts) (hkm : KeysOk ps) (hn : (h.log.length + 1) * 40 ≤ 140737488355328) (hme : I64 me) (e10 : ¬ voteE h dd ps = 10) (e0 : ¬ voteE h dd ps = 0) :
    Calls Try.prog 35 #[v, .int .i64 me, vm] w fun e w' => ∃ v1 v2, e = .returned (.tuple #[v1, v2]) ∧ Of Ty.hs (ov c w w') v1 (hearH h ⟨1, dd, hh, ps⟩) ∧ Sl Ty.ms (ov c w w') v2 (hearM h me ⟨1, dd, hh, ps⟩) ∧ Grow w w' := by
  obtain ⟨al, cl, ar, cr, ad, cd, rfl⟩ := hv.hs_form
  obtain ⟨ap, cp, rfl⟩ : ∃ ap cp, vm = .agg #[.int .i64 1, .int .i64 dd, .int .i64 hh, .slice ap ps.length cp] := hm.ms_form
  have hms : Sl Ty.pt c (.slice ap ps.length cp) ps ∧ I64 1 ∧ I64 dd ∧ I64 hh := Of.ms_parts hm
  have HMS := Lib.hid hms
  have HV0 := Lib.hid hv
  have HC := Lib.hid hc
  have HK0 := Lib.hid hk
  have HKM := Lib.hid hkm
  have HN := Lib.hid hn
  have HME := Lib.hid hme
  have HVO := Lib.hid (fun (W : World) (hW : Grow w W) => ref_vote (d := dd) W (hv.mono (hc.trans hW.sub)) (hms.1.mono (hc.trans hW.sub)) hkm)
  have HRD := Lib.hid (fun (W : World) (hW : Grow w W) => ref_ready (d := dd) W (hv.mono (hc.trans hW.sub)))
  have HIN := Lib.hid (fun (W : World) (hW : Grow w W) => ref_in (n := dd) W ((Of.hs_log hv).2.2.mono (hc.trans hW.sub)))
  have HG0 : Hid (Grow w (((w.alloc (.cells #[.slice al h.log.length cl, .int .i64 h.sums.a, .int .i64 h.sums.b, .int .i64 h.sums.c, .int .i64 h.sums.d, .slice ar h.ready.length cr, .slice ad h.done.length cd] 29)).alloc (.cells #[.int .i64 1, .int .i64 dd, .int .i64 hh, .slice ap ps.length cp] 39)).alloc (.cells #[.slice none 0 0, .int .i64 0, .int .i64 0, .int .i64 0, .int .i64 0, .slice none 0 0, .slice none 0 0] 29))) := Lib.hid ((((Grow.refl w).alloc _).alloc _).alloc _)
  have HR3 : Hid ((((w.alloc (.cells #[.slice al h.log.length cl, .int .i64 h.sums.a, .int .i64 h.sums.b, .int .i64 h.sums.c, .int .i64 h.sums.d, .slice ar h.ready.length cr, .slice ad h.done.length cd] 29)).alloc (.cells #[.int .i64 1, .int .i64 dd, .int .i64 hh, .slice ap ps.length cp] 39)).alloc (.cells #[.slice none 0 0, .int .i64 0, .int .i64 0, .int .i64 0, .int .i64 0, .slice none 0 0, .slice none 0 0] 29)).heap[w.heap.size]? = some (.cells #[.slice al h.log.length cl, .int .i64 h.sums.a, .int .i64 h.sums.b, .int .i64 h.sums.c, .int .i64 h.sums.d, .slice ar h.ready.length cr, .slice ad h.done.length cd] 29 (0, 0))) := Lib.hid (heap_later (heap_later (row_new _ _) _) _)
  have HR5 : Hid ((((w.alloc (.cells #[.slice al h.log.length cl, .int .i64 h.sums.a, .int .i64 h.sums.b, .int .i64 h.sums.c, .int .i64 h.sums.d, .slice ar h.ready.length cr, .slice ad h.done.length cd] 29)).alloc (.cells #[.int .i64 1, .int .i64 dd, .int .i64 hh, .slice ap ps.length cp] 39)).alloc (.cells #[.slice none 0 0, .int .i64 0, .int .i64 0, .int .i64 0, .int .i64 0, .slice none 0 0, .slice none 0 0] 29)).heap[w.heap.size + 1]? = some (.cells #[.int .i64 1, .int .i64 dd, .int .i64 hh, .slice ap ps.length cp] 39 (0, 0))) := Lib.hid (heap_later (by simpa using row_new (w.alloc (.cells #[.slice al h.log.length cl, .int .i64 h.sums.a, .int .i64 h.sums.b, .int .i64 h.sums.c, .int .i64 h.sums.d, .slice ar h.ready.length cr, .slice ad h.done.length cd] 29)) _) _)
  have HR6 : Hid ((((w.alloc (.cells #[.slice al h.log.length cl, .int .i64 h.sums.a, .int .i64 h.sums.b, .int .i64 h.sums.c, .int .i64 h.sums.d, .slice ar h.ready.length cr, .slice ad h.done.length cd] 29)).alloc (.cells #[.int .i64 1, .int .i64 dd, .int .i64 hh, .slice ap ps.length cp] 39)).alloc (.cells #[.slice none 0 0, .int .i64 0, .int .i64 0, .int .i64 0, .int .i64 0, .slice none 0 0, .slice none 0 0] 29)).heap[w.heap.size + 1 + 1]? = some (.cells #[.slice none 0 0, .int .i64 0, .int .i64 0, .int .i64 0, .int .i64 0, .slice none 0 0, .slice none 0 0] 29 (0, 0))) := Lib.hid (by simpa using row_new ((w.alloc (.cells #[.slice al h.log.length cl, .int .i64 h.sums.a, .int .i64 h.sums.b, .int .i64 h.sums.c, .int .i64 h.sums.d, .slice ar h.ready.length cr, .slice ad h.done.length cd] 29)).alloc (.cells #[.int .i64 1, .int .i64 dd, .int .i64 hh, .slice ap ps.length cp] 39)) _)
  clear hv hm hc hk hkm hn hme hms
  have HEH : Hid (hearH h ⟨1, dd, hh, ps⟩ = h) := by
    show hearH h ⟨1, dd, hh, ps⟩ = h
    unfold hearH
    rw [if_pos rfl, if_neg (fun h2 => e0 h2.1)]
  have HEM : Hid (hearM h me ⟨1, dd, hh, ps⟩ = sayE 3 dd me) := by
    show hearM h me ⟨1, dd, hh, ps⟩ = sayE 3 dd me
    unfold hearM
    rw [if_pos rfl, if_neg e10, if_neg e0]
  have hb10 : (voteE h dd ps == 10) = false := by simpa using e10
  have hb0 : (voteE h dd ps == 0) = false := by simpa using e0
  clear e0 e10
  generalize voteE h dd ps = ve at *
  go_enter Try.func35, Try.ntmps35
  go_wp2_with fail
  refine (HVO.out _ HG0.out).mono ?_
  rintro e v1 ⟨rfl, hbv1⟩
  (obtain ⟨cv1, fv1⟩ := bcell hbv1; have zv10 : w.heap.size < v1.heap.size := (by have := hbv1.size; (try simp at this); omega); have zv11 : w.heap.size + 1 < v1.heap.size := (by have := hbv1.size; (try simp at this); omega); have zv12 : w.heap.size + 1 + 1 < v1.heap.size := (by have := hbv1.size; (try simp at this); omega); have Gv1 := Lib.hid hbv1; clear hbv1)
  go_wp2_with fail
  have hS : v1.cell? ⟨w.heap.size, 0, none⟩ = some (.slice al h.log.length cl) ∧ v1.cell? ⟨w.heap.size, 1, none⟩ = some (.int .i64 h.sums.a) ∧ v1.cell? ⟨w.heap.size, 2, none⟩ = some (.int .i64 h.sums.b) ∧ v1.cell? ⟨w.heap.size, 3, none⟩ = some (.int .i64 h.sums.c) ∧ v1.cell? ⟨w.heap.size, 4, none⟩ = some (.int .i64 h.sums.d) ∧ v1.cell? ⟨w.heap.size, 5, none⟩ = some (.slice ar h.ready.length cr) ∧ v1.cell? ⟨w.heap.size, 6, none⟩ = some (.slice ad h.done.length cd) ∧ v1.cell? ⟨w.heap.size + 1, 1, none⟩ = some (.int .i64 dd) := by refine ⟨?_, ?_, ?_, ?_, ?_, ?_, ?_, ?_⟩ <;> go_simp
  have HGW : Hid (Grow w v1) := Lib.hid (HG0.out.trans Gv1.out)
  have R6 : Hid (v1.heap[w.heap.size + 1 + 1]? = some (.cells #[.slice none 0 0, .int .i64 0, .int .i64 0, .int .i64 0, .int .i64 0, .slice none 0 0, .slice none 0 0] 29 (0, 0))) := Lib.hid (row_grow HR6.out Gv1.out)
  have hz0 : w.heap.size + 1 + 1 < v1.heap.size := (Array.getElem?_eq_some_iff.1 R6.out).1
  obtain ⟨s0, s1, s2, s3, s4, s5, s6, s7⟩ := hS
  have HS : Hid (∀ W, v1.grownBy W (some (w.heap.size + 1 + 1)) → W.cell? ⟨w.heap.size, 0, none⟩ = some (.slice al h.log.length cl) ∧ W.cell? ⟨w.heap.size, 1, none⟩ = some (.int .i64 h.sums.a) ∧ W.cell? ⟨w.heap.size, 2, none⟩ = some (.int .i64 h.sums.b) ∧ W.cell? ⟨w.heap.size, 3, none⟩ = some (.int .i64 h.sums.c) ∧ W.cell? ⟨w.heap.size, 4, none⟩ = some (.int .i64 h.sums.d) ∧ W.cell? ⟨w.heap.size, 5, none⟩ = some (.slice ar h.ready.length cr) ∧ W.cell? ⟨w.heap.size, 6, none⟩ = some (.slice ad h.done.length cd) ∧ W.cell? ⟨w.heap.size + 1, 1, none⟩ = some (.int .i64 dd)) := fun W hW => by
    have k : ∀ (b o : Nat) (u : Value), b < w.heap.size + 1 + 1 → v1.cell? ⟨b, o, none⟩ = some u → W.cell? ⟨b, o, none⟩ = some u := fun b o u hb e => by
      rw [by_cell hW (World.block_lt_of_cell? v1 _ e) (by simp; omega)]; exact e
    exact ⟨k _ _ _ (by omega) s0, k _ _ _ (by omega) s1, k _ _ _ (by omega) s2, k _ _ _ (by omega) s3, k _ _ _ (by omega) s4, k _ _ _ (by omega) s5, k _ _ _ (by omega) s6, k _ _ _ (by omega) s7⟩
  clear s0 s1 s2 s3 s4 s5 s6 s7
  refine but_start (fun w' => w'.cell? ⟨w.heap.size, 0, none⟩ = some (.slice al h.log.length cl) ∧ w'.cell? ⟨w.heap.size, 1, none⟩ = some (.int .i64 h.sums.a) ∧ w'.cell? ⟨w.heap.size, 2, none⟩ = some (.int .i64 h.sums.b) ∧ w'.cell? ⟨w.heap.size, 3, none⟩ = some (.int .i64 h.sums.c) ∧ w'.cell? ⟨w.heap.size, 4, none⟩ = some (.int .i64 h.sums.d) ∧ w'.cell? ⟨w.heap.size, 5, none⟩ = some (.slice ar h.ready.length cr) ∧ w'.cell? ⟨w.heap.size, 6, none⟩ = some (.slice ad h.done.length cd) ∧ w'.cell? ⟨w.heap.size + 1, 1, none⟩ = some (.int .i64 dd)) 8 (by kernel_rfl) ?_
  obtain ⟨wd, hWd⟩ : ∃ x : World, x = v1.drew := ⟨_, rfl⟩
  rw [← hWd]
  have GD : Grow v1 wd := by rw [hWd]; exact (Grow.refl _).drew
  have zD : v1.heap.size = wd.heap.size := by rw [hWd]; rfl
  have ZD := Lib.hid zD
  clear hWd zD
  have hzd : w.heap.size + 1 + 1 < wd.heap.size := by have := ZD.out; omega
  have hzw : w.heap.size ≤ wd.heap.size := by have := hzd; omega
  have FIN : Hid (∀ (Wf : World) (q : Nat), w.heap.size ≤ q → (∀ a : Addr, a.block < wd.heap.size → a.block ≠ w.heap.size + 1 + 1 → Wf.cell? a = wd.cell? a) → At Wf.cell? q 0 (#[.int .i64 3, .int .i64 dd, .int .i64 me, .slice none 0 0] : Array Value).toList → Grow w Wf → ∃ v1 v2, Ending.returned (.tuple #[.agg #[.slice al h.log.length cl, .int .i64 h.sums.a, .int .i64 h.sums.b, .int .i64 h.sums.c, .int .i64 h.sums.d, .slice ar h.ready.length cr, .slice ad h.done.length cd], .slice (some ⟨q, 0, none⟩) 1 1]) = .returned (.tuple #[v1, v2]) ∧ Of Ty.hs (ov c w Wf) v1 (hearH h ⟨1, dd, hh, ps⟩) ∧ Sl Ty.ms (ov c w Wf) v2 (hearM h me ⟨1, dd, hh, ps⟩) ∧ Grow w Wf) := by
    intro Wf q hq hA hAt hGf
    refine ⟨_, _, rfl, ?_, ?_, hGf⟩
    · rw [HEH.out]
      exact HV0.out.mono (ov_in HC.out)
    · rw [HEM.out]
      exact sl_one (T := Ty.ms) ⟨_, rfl, (show I64 3 from by unfold I64; decide), HMS.out.2.2.1, HME.out, Sl.nil _ _⟩ (at_ov hAt hq) (by decide) (by decide)
  refine but_take (i := 0) (v := ?_) 8 rfl (by kernel_rfl) (by kernel_rfl) (by kernel_rfl) (by kernel_rfl) (by kernel_rfl) (fun _ _ _ h => h) (HS.out _ (grownBy_of_grow GD _)) (Or.inl ⟨by rfl, ?_⟩) ?_
  rotate_left
  · (intro w' hSw; (try dsimp only at hSw); obtain ⟨hs0, hs1, hs2, hs3, hs4, hs5, hs6, hs7⟩ := hSw; go_simp <;> with_reducible rfl)
  try simp only [Act.put, List.getElem_toArray, List.getElem_cons_zero, List.setIfInBounds_toArray, List.set_cons_zero, List.set_cons_succ]
  refine but_take (i := 1) (v := ?_) 8 rfl (by kernel_rfl) (by kernel_rfl) (by kernel_rfl) (by kernel_rfl) (by kernel_rfl) (fun _ _ _ h => h) (HS.out _ (grownBy_of_grow GD _)) (Or.inl ⟨by rfl, ?_⟩) ?_
  rotate_left
  · (intro w' hSw; (try dsimp only at hSw); obtain ⟨hs0, hs1, hs2, hs3, hs4, hs5, hs6, hs7⟩ := hSw; go_simp <;> with_reducible rfl)
  try simp only [Act.put, List.getElem_toArray, List.getElem_cons_succ, List.getElem_cons_zero, List.setIfInBounds_toArray, List.set_cons_zero, List.set_cons_succ]
  refine but_take (i := 2) (v := ?_) 8 rfl (by kernel_rfl) (by kernel_rfl) (by kernel_rfl) (by kernel_rfl) (by kernel_rfl) (fun _ _ _ h => h) (HS.out _ (grownBy_of_grow GD _)) (Or.inl ⟨by rfl, ?_⟩) ?_
  rotate_left
  · (intro w' hSw; (try dsimp only at hSw); obtain ⟨hs0, hs1, hs2, hs3, hs4, hs5, hs6, hs7⟩ := hSw; go_simp <;> with_reducible rfl)
  try simp only [Act.put, List.getElem_toArray, List.getElem_cons_succ, List.getElem_cons_zero, List.setIfInBounds_toArray, List.set_cons_zero, List.set_cons_succ]
  refine but_take (i := 3) (v := ?_) 8 rfl (by kernel_rfl) (by kernel_rfl) (by kernel_rfl) (by kernel_rfl) (by kernel_rfl) (fun _ _ _ h => h) (HS.out _ (grownBy_of_grow GD _)) (Or.inl ⟨by rfl, ?_⟩) ?_
  rotate_left
  · (intro w' hSw; (try dsimp only at hSw); obtain ⟨hs0, hs1, hs2, hs3, hs4, hs5, hs6, hs7⟩ := hSw; go_simp <;> with_reducible rfl)
  try simp only [Act.put, List.getElem_toArray, List.getElem_cons_succ, List.getElem_cons_zero, List.setIfInBounds_toArray, List.set_cons_zero, List.set_cons_succ]
  refine but_take (i := 4) (v := ?_) 8 rfl (by kernel_rfl) (by kernel_rfl) (by kernel_rfl) (by kernel_rfl) (by kernel_rfl) (fun _ _ _ h => h) (HS.out _ (grownBy_of_grow GD _)) (Or.inl ⟨by rfl, ?_⟩) ?_
  rotate_left
  · (intro w' hSw; (try dsimp only at hSw); obtain ⟨hs0, hs1, hs2, hs3, hs4, hs5, hs6, hs7⟩ := hSw; go_simp <;> with_reducible rfl)
  try simp only [Act.put, List.getElem_toArray, List.getElem_cons_succ, List.getElem_cons_zero, List.setIfInBounds_toArray, List.set_cons_zero, List.set_cons_succ]
  refine but_take (i := 5) (v := ?_) 8 rfl (by kernel_rfl) (by kernel_rfl) (by kernel_rfl) (by kernel_rfl) (by kernel_rfl) (fun _ _ _ h => h) (HS.out _ (grownBy_of_grow GD _)) (Or.inl ⟨by rfl, ?_⟩) ?_
  rotate_left
  · (intro w' hSw; (try dsimp only at hSw); obtain ⟨hs0, hs1, hs2, hs3, hs4, hs5, hs6, hs7⟩ := hSw; go_simp <;> with_reducible rfl)
  try simp only [Act.put, List.getElem_toArray, List.getElem_cons_succ, List.getElem_cons_zero, List.setIfInBounds_toArray, List.set_cons_zero, List.set_cons_succ]
  refine but_two (i := 6) (j := 7) (by kernel_rfl) rfl rfl ?_ ?_
  · skip
    intro K HK'
    have HK := Lib.hid HK'
    clear HK'
    skip
    try simp only [List.getElem_toArray, List.getElem_cons_succ, List.getElem_cons_zero]
    go_simp
    refine HK.out _ _ ⟨fun _ => HS.out _ (grownBy_trans (grownBy_of_grow GD _) (grownBy_of_grow ((Grow.refl _).alloc _) _)), ?_⟩
    clear HK K
    try simp only [Act.put, List.getElem_toArray, List.getElem_cons_succ, List.getElem_cons_zero, List.setIfInBounds_toArray, List.set_cons_zero, List.set_cons_succ]
    refine but_one (i := 7) (by kernel_rfl) rfl ?_
    intro K HK'
    have HK := Lib.hid HK'
    clear HK'
    refine wanted_go rfl ?_
    try simp only [List.getElem_toArray, List.getElem_cons_succ, List.getElem_cons_zero]
    refine wp_store_row (.tmp 6) (.tmp 67) rfl rfl rfl (row_grow R6.out (GD.alloc _)) info_hs rfl rfl ?_
    intro w7 r7 g7
    refine HK.out _ _ ⟨fun _ => HS.out _ (grownBy_trans (grownBy_trans (grownBy_of_grow GD _) (grownBy_of_grow ((Grow.refl _).alloc _) _)) g7), ?_⟩
    clear HK K
    try simp only [Act.put]
    refine but_one (i := 8) (by kernel_rfl) rfl ?_
    intro K HK'
    have HK := Lib.hid HK'
    clear HK'
    skip
    try simp only [List.getElem_toArray, List.getElem_cons_succ, List.getElem_cons_zero]
    go_simp
    refine HK.out _ _ ⟨fun h => absurd rfl h, ?_⟩
    clear HK K
    try simp only [Act.put, List.getElem_toArray, List.getElem_cons_succ, List.getElem_cons_zero, List.setIfInBounds_toArray, List.set_cons_zero, List.set_cons_succ]
    refine but_done (by kernel_rfl) ?_
    obtain ⟨p0, p1, p2, p3, p4, p5, p6⟩ := cells7 r7
    go_wp2
    refine bodyPost_ret (v := .tuple #[.agg #[.slice al h.log.length cl, .int .i64 h.sums.a, .int .i64 h.sums.b, .int .i64 h.sums.c, .int .i64 h.sums.d, .slice ar h.ready.length cr, .slice ad h.done.length cd], .slice (some ⟨wd.heap.size, 0, none⟩) 1 1]) (by simp [results, Try.results35, go_sem, p0, p1, p2, p3, p4, p5, p6]) rfl ?_
    refine FIN.out _ wd.heap.size hzw (fun a h1 h2 => (by_cell g7 (by simp; omega) h2).trans (((Grow.refl wd).alloc _).cell h1)) (fun j u e => (by_cell g7 (by simp) (by simp; omega)).trans (at_new wd _ _ j u e)) ?_
    exact (HGW.out.trans (GD.alloc _)).grown g7 (fun k hk => by simp at hk; omega)
  · skip
    intro K HK'
    have HK := Lib.hid HK'
    clear HK'
    refine wanted_go rfl ?_
    try simp only [List.getElem_toArray, List.getElem_cons_succ, List.getElem_cons_zero]
    refine wp_store_row (.tmp 6) (.tmp 67) rfl rfl rfl (row_grow R6.out GD) info_hs rfl rfl ?_
    intro w7 r7 g7
    refine HK.out _ _ ⟨fun _ => HS.out _ (grownBy_trans (grownBy_of_grow GD _) g7), ?_⟩
    clear HK K
    try simp only [Act.put]
    refine but_one (i := 6) (by kernel_rfl) rfl ?_
    intro K HK'
    have HK := Lib.hid HK'
    clear HK'
    skip
    try simp only [List.getElem_toArray, List.getElem_cons_succ, List.getElem_cons_zero]
    go_simp
    refine HK.out _ _ ⟨fun _ => HS.out _ (grownBy_trans (grownBy_trans (grownBy_of_grow GD _) g7) (grownBy_of_grow ((Grow.refl _).alloc _) _)), ?_⟩
    clear HK K
    try simp only [Act.put, List.getElem_toArray, List.getElem_cons_succ, List.getElem_cons_zero, List.setIfInBounds_toArray, List.set_cons_zero, List.set_cons_succ]
    refine but_one (i := 8) (by kernel_rfl) rfl ?_
    intro K HK'
    have HK := Lib.hid HK'
    clear HK'
    skip
    try simp only [List.getElem_toArray, List.getElem_cons_succ, List.getElem_cons_zero]
    go_simp
    refine HK.out _ _ ⟨fun h => absurd rfl h, ?_⟩
    clear HK K
    try simp only [Act.put, List.getElem_toArray, List.getElem_cons_succ, List.getElem_cons_zero, List.setIfInBounds_toArray, List.set_cons_zero, List.set_cons_succ]
    refine but_done (by kernel_rfl) ?_
    obtain ⟨p0, p1, p2, p3, p4, p5, p6⟩ := cells7 (heap_later r7 (.cells #[.int .i64 3, .int .i64 dd, .int .i64 me, .slice none 0 0] 39))
    go_wp2
    refine bodyPost_ret (v := .tuple #[.agg #[.slice al h.log.length cl, .int .i64 h.sums.a, .int .i64 h.sums.b, .int .i64 h.sums.c, .int .i64 h.sums.d, .slice ar h.ready.length cr, .slice ad h.done.length cd], .slice (some ⟨w7.heap.size, 0, none⟩) 1 1]) (by simp [results, Try.results35, go_sem, p0, p1, p2, p3, p4, p5, p6]) rfl ?_
    refine FIN.out _ w7.heap.size (Nat.le_trans hzw g7.size) (fun a h1 h2 => (((Grow.refl w7).alloc _).cell (Nat.lt_of_lt_of_le h1 g7.size)).trans (by_cell g7 h1 h2)) (at_new w7 _ _) ?_
    exact ((HGW.out.trans GD).grown g7 (fun k hk => by simp at hk; omega)).alloc _
end Go.Proofs.Ytgbhpghgohggcaa

/- Walks: Hear of the document's answer: whoever is asked (4R). -/
namespace Go.Proofs.Ytgbhpghgohggcaa
open Go.RowKit
set_option maxRecDepth 100000 in
set_option maxHeartbeats 1000000 in
theorem hear_com4R {c : CM} {v vm : Value} {h : Hs} {dd hh me : Int} {ps : List Pt} (w : World) (hc : Sub c w.cell?) (hv : Of Ty.hs c v h) (hm : Of Ty.ms c vm ⟨4, dd, hh, ps⟩) (hk : ∀ x ∈ h.log, KeysOk x.parts) (hkm : KeysOk ps) (hn : (h.log.length + 1) * 40 ≤ 140737488355328) (hme : I64 me) (rd : readyE h.ready dd = true) (hin : dd ∈ (noteE h ⟨2, dd, []⟩).done) :
    Calls Try.prog 35 #[v, .int .i64 me, vm] w fun e w' => ∃ v1 v2, e = .returned (.tuple #[v1, v2]) ∧ Of Ty.hs (ov c w w') v1 (hearH h ⟨4, dd, hh, ps⟩) ∧ Sl Ty.ms (ov c w w') v2 (hearM h me ⟨4, dd, hh, ps⟩) ∧ Grow w w' := by
  obtain ⟨al, cl, ar, cr, ad, cd, rfl⟩ := hv.hs_form
  obtain ⟨ap, cp, rfl⟩ : ∃ ap cp, vm = .agg #[.int .i64 4, .int .i64 dd, .int .i64 hh, .slice ap ps.length cp] := hm.ms_form
  have hms : Sl Ty.pt c (.slice ap ps.length cp) ps ∧ I64 4 ∧ I64 dd ∧ I64 hh := Of.ms_parts hm
  have HMS := Lib.hid hms
  have HV0 := Lib.hid hv
  have HC := Lib.hid hc
  have HK0 := Lib.hid hk
  have HKM := Lib.hid hkm
  have HN := Lib.hid hn
  have HME := Lib.hid hme
  have HVO := Lib.hid (fun (W : World) (hW : Grow w W) => ref_vote (d := dd) W (hv.mono (hc.trans hW.sub)) (hms.1.mono (hc.trans hW.sub)) hkm)
  have HRD := Lib.hid (fun (W : World) (hW : Grow w W) => ref_ready (d := dd) W (hv.mono (hc.trans hW.sub)))
  have HIN := Lib.hid (fun (W : World) (hW : Grow w W) => ref_in (n := dd) W ((Of.hs_log hv).2.2.mono (hc.trans hW.sub)))
  have HG0 : Hid (Grow w (((w.alloc (.cells #[.slice al h.log.length cl, .int .i64 h.sums.a, .int .i64 h.sums.b, .int .i64 h.sums.c, .int .i64 h.sums.d, .slice ar h.ready.length cr, .slice ad h.done.length cd] 29)).alloc (.cells #[.int .i64 4, .int .i64 dd, .int .i64 hh, .slice ap ps.length cp] 39)).alloc (.cells #[.slice none 0 0, .int .i64 0, .int .i64 0, .int .i64 0, .int .i64 0, .slice none 0 0, .slice none 0 0] 29))) := Lib.hid ((((Grow.refl w).alloc _).alloc _).alloc _)
  have HR3 : Hid ((((w.alloc (.cells #[.slice al h.log.length cl, .int .i64 h.sums.a, .int .i64 h.sums.b, .int .i64 h.sums.c, .int .i64 h.sums.d, .slice ar h.ready.length cr, .slice ad h.done.length cd] 29)).alloc (.cells #[.int .i64 4, .int .i64 dd, .int .i64 hh, .slice ap ps.length cp] 39)).alloc (.cells #[.slice none 0 0, .int .i64 0, .int .i64 0, .int .i64 0, .int .i64 0, .slice none 0 0, .slice none 0 0] 29)).heap[w.heap.size]? = some (.cells #[.slice al h.log.length cl, .int .i64 h.sums.a, .int .i64 h.sums.b, .int .i64 h.sums.c, .int .i64 h.sums.d, .slice ar h.ready.length cr, .slice ad h.done.length cd] 29 (0, 0))) := Lib.hid (heap_later (heap_later (row_new _ _) _) _)
  have HR5 : Hid ((((w.alloc (.cells #[.slice al h.log.length cl, .int .i64 h.sums.a, .int .i64 h.sums.b, .int .i64 h.sums.c, .int .i64 h.sums.d, .slice ar h.ready.length cr, .slice ad h.done.length cd] 29)).alloc (.cells #[.int .i64 4, .int .i64 dd, .int .i64 hh, .slice ap ps.length cp] 39)).alloc (.cells #[.slice none 0 0, .int .i64 0, .int .i64 0, .int .i64 0, .int .i64 0, .slice none 0 0, .slice none 0 0] 29)).heap[w.heap.size + 1]? = some (.cells #[.int .i64 4, .int .i64 dd, .int .i64 hh, .slice ap ps.length cp] 39 (0, 0))) := Lib.hid (heap_later (by simpa using row_new (w.alloc (.cells #[.slice al h.log.length cl, .int .i64 h.sums.a, .int .i64 h.sums.b, .int .i64 h.sums.c, .int .i64 h.sums.d, .slice ar h.ready.length cr, .slice ad h.done.length cd] 29)) _) _)
  have HR6 : Hid ((((w.alloc (.cells #[.slice al h.log.length cl, .int .i64 h.sums.a, .int .i64 h.sums.b, .int .i64 h.sums.c, .int .i64 h.sums.d, .slice ar h.ready.length cr, .slice ad h.done.length cd] 29)).alloc (.cells #[.int .i64 4, .int .i64 dd, .int .i64 hh, .slice ap ps.length cp] 39)).alloc (.cells #[.slice none 0 0, .int .i64 0, .int .i64 0, .int .i64 0, .int .i64 0, .slice none 0 0, .slice none 0 0] 29)).heap[w.heap.size + 1 + 1]? = some (.cells #[.slice none 0 0, .int .i64 0, .int .i64 0, .int .i64 0, .int .i64 0, .slice none 0 0, .slice none 0 0] 29 (0, 0))) := Lib.hid (by simpa using row_new ((w.alloc (.cells #[.slice al h.log.length cl, .int .i64 h.sums.a, .int .i64 h.sums.b, .int .i64 h.sums.c, .int .i64 h.sums.d, .slice ar h.ready.length cr, .slice ad h.done.length cd] 29)).alloc (.cells #[.int .i64 4, .int .i64 dd, .int .i64 hh, .slice ap ps.length cp] 39)) _)
  clear hv hm hc hk hkm hn hme hms
  have HEH : Hid (hearH h ⟨4, dd, hh, ps⟩ = noteE h ⟨2, dd, []⟩) := by
    show hearH h ⟨4, dd, hh, ps⟩ = noteE h ⟨2, dd, []⟩
    unfold hearH
    rw [if_neg (fun e => by cases e), if_pos rfl, if_pos rd]
  have HEM : Hid (hearM h me ⟨4, dd, hh, ps⟩ = sayE 6 dd me) := by
    show hearM h me ⟨4, dd, hh, ps⟩ = sayE 6 dd me
    unfold hearM
    rw [if_neg (fun e => by cases e), if_pos rfl, HEH.out, if_pos hin]
  have HIN2 := Lib.hid hin
  clear hin
  have RD := Lib.hid rd
  clear rd
  go_enter Try.func35, Try.ntmps35
  go_wp2_with fail
  refine (HRD.out _ HG0.out).mono ?_
  rw [RD.out]
  rintro e v1 ⟨rfl, hbv1⟩
  (obtain ⟨cv1, fv1⟩ := bcell hbv1; have zv10 : w.heap.size < v1.heap.size := (by have := hbv1.size; (try simp at this); omega); have zv11 : w.heap.size + 1 < v1.heap.size := (by have := hbv1.size; (try simp at this); omega); have zv12 : w.heap.size + 1 + 1 < v1.heap.size := (by have := hbv1.size; (try simp at this); omega); have Gv1 := Lib.hid hbv1; clear hbv1)
  have GV0 : Hid (Grow _ v1) := Lib.hid Gv1.out
  have hz : ∀ u, (zeroValue 3).run Try.prog u = .ok (.int .i64 0) u := fun u => by kernel_rfl
  have hmm := @run_makeMap Try.prog
  go_wp2_with (first | (refine wp_insert keyInt Try.underlying142 rfl _ _ _ rfl (MapIs.new (enc := encInt) _) 4 (.int .i64 2) rfl rfl rfl ?_))
  clear hmm
  intro m1 hM1 hm1
  have gm1 : Grow v1 m1 := ((Grow.refl _).alloc (.map #[] 0)).grown hm1 (fun k hk => by simp at hk; omega)
  have HM1 := Lib.hid hM1
  clear hM1 hm1
  go_wp2_with (first | (refine wp_insert keyInt Try.underlying142 rfl _ _ _ rfl HM1.out 5 (.int .i64 3) rfl rfl rfl ?_))
  intro m2 hM2 hm2
  have gm2 : Grow v1 m2 := gm1.grown hm2 (fun k hk => by simp at hk; omega)
  have HM2 := Lib.hid hM2
  clear hM2 hm2 gm1
  have GM2 := Lib.hid gm2
  have GW2 : Hid (Grow _ m2) := Lib.hid (GV0.out.trans gm2)
  obtain ⟨k0, k1, k2, k3, k4, k5, k6⟩ := cells7 (row_grow HR3.out GW2.out)
  obtain ⟨n0, n1, n2, n3⟩ := cells4 (row_grow HR5.out GW2.out)
  clear gm2
  go_wp2_with (first | (at_lookup; refine wp_lookup' keyInt Try.underlying142 hz rfl _ _ rfl HM2.out 4 (.int .i64 2) (by rfl) rfl rfl ?_))
  clear k0 k1 k2 k3 k4 k5 k6
  obtain ⟨k0, k1, k2, k3, k4, k5, k6⟩ := cells7 (row_grow HR3.out GW2.out)
  go_wp2_with fail
  have GW : Hid (Grow _ m2) := Lib.hid GW2.out
  have GV : Hid (Grow w m2) := Lib.hid (HG0.out.trans GW.out)
  have ZV : Hid (w.heap.size + 1 + 1 < m2.heap.size) := Lib.hid (Array.getElem?_eq_some_iff.1 (row_grow HR6.out GW.out)).1
  have hrr : Ty.rc.R (wk w.heap.size 3 (ov c w m2)) [.int .i64 (⟨2, dd, []⟩ : Rc).kind, .int .i64 dd, .slice none 0 0] ⟨2, dd, []⟩ := Ty.rc.mono (wk_in HC.out 3) (show Ty.rc.R c [.int .i64 2, .int .i64 dd, .slice none 0 0] ⟨2, dd, []⟩ from ⟨_, rfl, (show I64 2 from by unfold I64; decide), HMS.out.2.2.1, Sl.nil _ _⟩)
  refine (ref_note (c := wk w.heap.size 3 (ov c w m2)) (r := ⟨2, dd, []⟩) m2 (wk_ov HC.out GV.out 3) (HV0.out.mono (wk_in HC.out 3)) ⟨_, rfl, hrr⟩ HK0.out (by intro p hp; simp at hp) HN.out).mono ?_
  clear hrr
  generalize noteE h ⟨2, dd, []⟩ = x at *
  rintro e v3 ⟨vx, rfl, hX, hbv3⟩
  obtain ⟨al2, cl2, ar2, cr2, ad2, cd2, rfl⟩ := hX.hs_form
  have HX := Lib.hid hX
  have HG3 := Lib.hid hbv3
  clear hX
  have GW3 : Hid (Grow _ v3) := Lib.hid (GW.out.trans hbv3)
  obtain ⟨k0, k1, k2, k3, k4, k5, k6⟩ := cells7 (row_grow HR3.out GW3.out)
  have kf := row_free (row_grow HR3.out GW3.out)
  obtain ⟨m0, m1, m2, m3⟩ := cells4 (row_grow HR5.out GW3.out)
  clear hbv3
  go_wp2_with (first | (refine wpList_store_row rfl (.tmp 3) (.tmp 54) rfl rfl rfl (row_grow HR3.out GW3.out) info_hs rfl rfl ?_))
  intro v4 r4 g4
  have R3 := Lib.hid r4
  have BY4 := Lib.hid g4
  clear r4 g4
  have R5 : Hid (v4.heap[w.heap.size + 1]? = _) := Lib.hid (row_by (row_grow HR5.out GW3.out) BY4.out (by simp))
  have R6 : Hid (v4.heap[w.heap.size + 1 + 1]? = _) := Lib.hid (row_by (row_grow HR6.out GW3.out) BY4.out (by simp; omega))
  clear k0 k1 k2 k3 k4 k5 k6 kf m0 m1 m2 m3
  have HG4 : Hid (Grow w v4) := Lib.hid ((GV.out.trans HG3.out).grown BY4.out (fun k hk => by simp at hk; omega))
  obtain ⟨k0, k1, k2, k3, k4, k5, k6⟩ := cells7 R3.out
  obtain ⟨m0, m1, m2, m3⟩ := cells4 R5.out
  go_wp2_with fail
  have HIX := Lib.hid (fun (W : World) (hW : Grow v4 W) => ref_in (n := dd) W ((Of.hs_log ((HX.out.mono (ov_boxes (w' := v4) (k := 3) GV.out HG3.out (by have := ZV.out; omega) fun a u ha e => by rw [by_cell BY4.out (World.block_lt_of_cell? v3 a e) (by omega)]; exact e)).mono (ov_sub HC.out HG4.out))).2.2.mono hW.sub))
  go_wp2_with fail
  refine (HIX.out _ (Grow.refl _)).mono ?_
  rw [decide_eq_true HIN2.out]
  rintro e v5 ⟨rfl, hbv5⟩
  have HB5 := Lib.hid hbv5
  clear k0 k1 k2 k3 k4 k5 k6 m0 m1 m2 m3
  obtain ⟨k0, k1, k2, k3, k4, k5, k6⟩ := cells7 (row_grow R3.out HB5.out)
  obtain ⟨m0, m1, m2, m3⟩ := cells4 (row_grow R5.out HB5.out)
  clear hbv5
  go_wp2_with fail
  have hS : v5.cell? ⟨w.heap.size, 0, none⟩ = some (.slice al2 x.log.length cl2) ∧ v5.cell? ⟨w.heap.size, 1, none⟩ = some (.int .i64 x.sums.a) ∧ v5.cell? ⟨w.heap.size, 2, none⟩ = some (.int .i64 x.sums.b) ∧ v5.cell? ⟨w.heap.size, 3, none⟩ = some (.int .i64 x.sums.c) ∧ v5.cell? ⟨w.heap.size, 4, none⟩ = some (.int .i64 x.sums.d) ∧ v5.cell? ⟨w.heap.size, 5, none⟩ = some (.slice ar2 x.ready.length cr2) ∧ v5.cell? ⟨w.heap.size, 6, none⟩ = some (.slice ad2 x.done.length cd2) ∧ v5.cell? ⟨w.heap.size + 1, 1, none⟩ = some (.int .i64 dd) := by refine ⟨?_, ?_, ?_, ?_, ?_, ?_, ?_, ?_⟩ <;> go_simp
  have HGW : Hid (Grow w v5) := Lib.hid (HG4.out.trans HB5.out)
  have R6 : Hid (v5.heap[w.heap.size + 1 + 1]? = some (.cells #[.slice none 0 0, .int .i64 0, .int .i64 0, .int .i64 0, .int .i64 0, .slice none 0 0, .slice none 0 0] 29 (0, 0))) := Lib.hid (row_grow R6.out HB5.out)
  have hz0 : w.heap.size + 1 + 1 < v5.heap.size := (Array.getElem?_eq_some_iff.1 R6.out).1
  obtain ⟨s0, s1, s2, s3, s4, s5, s6, s7⟩ := hS
  have HS : Hid (∀ W, v5.grownBy W (some (w.heap.size + 1 + 1)) → W.cell? ⟨w.heap.size, 0, none⟩ = some (.slice al2 x.log.length cl2) ∧ W.cell? ⟨w.heap.size, 1, none⟩ = some (.int .i64 x.sums.a) ∧ W.cell? ⟨w.heap.size, 2, none⟩ = some (.int .i64 x.sums.b) ∧ W.cell? ⟨w.heap.size, 3, none⟩ = some (.int .i64 x.sums.c) ∧ W.cell? ⟨w.heap.size, 4, none⟩ = some (.int .i64 x.sums.d) ∧ W.cell? ⟨w.heap.size, 5, none⟩ = some (.slice ar2 x.ready.length cr2) ∧ W.cell? ⟨w.heap.size, 6, none⟩ = some (.slice ad2 x.done.length cd2) ∧ W.cell? ⟨w.heap.size + 1, 1, none⟩ = some (.int .i64 dd)) := fun W hW => by
    have k : ∀ (b o : Nat) (u : Value), b < w.heap.size + 1 + 1 → v5.cell? ⟨b, o, none⟩ = some u → W.cell? ⟨b, o, none⟩ = some u := fun b o u hb e => by
      rw [by_cell hW (World.block_lt_of_cell? v5 _ e) (by simp; omega)]; exact e
    exact ⟨k _ _ _ (by omega) s0, k _ _ _ (by omega) s1, k _ _ _ (by omega) s2, k _ _ _ (by omega) s3, k _ _ _ (by omega) s4, k _ _ _ (by omega) s5, k _ _ _ (by omega) s6, k _ _ _ (by omega) s7⟩
  clear s0 s1 s2 s3 s4 s5 s6 s7
  refine but_start (fun w' => w'.cell? ⟨w.heap.size, 0, none⟩ = some (.slice al2 x.log.length cl2) ∧ w'.cell? ⟨w.heap.size, 1, none⟩ = some (.int .i64 x.sums.a) ∧ w'.cell? ⟨w.heap.size, 2, none⟩ = some (.int .i64 x.sums.b) ∧ w'.cell? ⟨w.heap.size, 3, none⟩ = some (.int .i64 x.sums.c) ∧ w'.cell? ⟨w.heap.size, 4, none⟩ = some (.int .i64 x.sums.d) ∧ w'.cell? ⟨w.heap.size, 5, none⟩ = some (.slice ar2 x.ready.length cr2) ∧ w'.cell? ⟨w.heap.size, 6, none⟩ = some (.slice ad2 x.done.length cd2) ∧ w'.cell? ⟨w.heap.size + 1, 1, none⟩ = some (.int .i64 dd)) 8 (by kernel_rfl) ?_
  obtain ⟨wd, hWd⟩ : ∃ x : World, x = v5.drew := ⟨_, rfl⟩
  rw [← hWd]
  have GD : Grow v5 wd := by rw [hWd]; exact (Grow.refl _).drew
  have zD : v5.heap.size = wd.heap.size := by rw [hWd]; rfl
  have ZD := Lib.hid zD
  clear hWd zD
  have hzd : w.heap.size + 1 + 1 < wd.heap.size := by have := ZD.out; omega
  have hzw : w.heap.size ≤ wd.heap.size := by have := hzd; omega
  have FIN : Hid (∀ (Wf : World) (q : Nat), w.heap.size ≤ q → (∀ a : Addr, a.block < wd.heap.size → a.block ≠ w.heap.size + 1 + 1 → Wf.cell? a = wd.cell? a) → At Wf.cell? q 0 (#[.int .i64 6, .int .i64 dd, .int .i64 me, .slice none 0 0] : Array Value).toList → Grow w Wf → ∃ v1 v2, Ending.returned (.tuple #[.agg #[.slice al2 x.log.length cl2, .int .i64 x.sums.a, .int .i64 x.sums.b, .int .i64 x.sums.c, .int .i64 x.sums.d, .slice ar2 x.ready.length cr2, .slice ad2 x.done.length cd2], .slice (some ⟨q, 0, none⟩) 1 1]) = .returned (.tuple #[v1, v2]) ∧ Of Ty.hs (ov c w Wf) v1 (hearH h ⟨4, dd, hh, ps⟩) ∧ Sl Ty.ms (ov c w Wf) v2 (hearM h me ⟨4, dd, hh, ps⟩) ∧ Grow w Wf) := by
    intro Wf q hq hA hAt hGf
    refine ⟨_, _, rfl, ?_, ?_, hGf⟩
    · rw [HEH.out]
      exact HX.out.mono (ov_boxes (k := 3) GV.out HG3.out (by have := ZV.out; omega) fun a u ha e => by
        have l1 := World.block_lt_of_cell? v3 a e
        have l2 := BY4.out.size
        have l3 := HB5.out.size
        have l4 := GD.size
        rw [hA a (by omega) (by omega), GD.cell (by omega), HB5.out.cell (by omega), by_cell BY4.out l1 (by omega)]
        exact e)
    · rw [HEM.out]
      exact sl_one (T := Ty.ms) ⟨_, rfl, (show I64 6 from by unfold I64; decide), HMS.out.2.2.1, HME.out, Sl.nil _ _⟩ (at_ov hAt hq) (by decide) (by decide)
  refine but_take (i := 0) (v := ?_) 8 rfl (by kernel_rfl) (by kernel_rfl) (by kernel_rfl) (by kernel_rfl) (by kernel_rfl) (fun _ _ _ h => h) (HS.out _ (grownBy_of_grow GD _)) (Or.inl ⟨by rfl, ?_⟩) ?_
  rotate_left
  · (intro w' hSw; (try dsimp only at hSw); obtain ⟨hs0, hs1, hs2, hs3, hs4, hs5, hs6, hs7⟩ := hSw; go_simp <;> with_reducible rfl)
  try simp only [Act.put, List.getElem_toArray, List.getElem_cons_zero, List.setIfInBounds_toArray, List.set_cons_zero, List.set_cons_succ]
  refine but_take (i := 1) (v := ?_) 8 rfl (by kernel_rfl) (by kernel_rfl) (by kernel_rfl) (by kernel_rfl) (by kernel_rfl) (fun _ _ _ h => h) (HS.out _ (grownBy_of_grow GD _)) (Or.inl ⟨by rfl, ?_⟩) ?_
  rotate_left
  · (intro w' hSw; (try dsimp only at hSw); obtain ⟨hs0, hs1, hs2, hs3, hs4, hs5, hs6, hs7⟩ := hSw; go_simp <;> with_reducible rfl)
  try simp only [Act.put, List.getElem_toArray, List.getElem_cons_succ, List.getElem_cons_zero, List.setIfInBounds_toArray, List.set_cons_zero, List.set_cons_succ]
  refine but_take (i := 2) (v := ?_) 8 rfl (by kernel_rfl) (by kernel_rfl) (by kernel_rfl) (by kernel_rfl) (by kernel_rfl) (fun _ _ _ h => h) (HS.out _ (grownBy_of_grow GD _)) (Or.inl ⟨by rfl, ?_⟩) ?_
  rotate_left
  · (intro w' hSw; (try dsimp only at hSw); obtain ⟨hs0, hs1, hs2, hs3, hs4, hs5, hs6, hs7⟩ := hSw; go_simp <;> with_reducible rfl)
  try simp only [Act.put, List.getElem_toArray, List.getElem_cons_succ, List.getElem_cons_zero, List.setIfInBounds_toArray, List.set_cons_zero, List.set_cons_succ]
  refine but_take (i := 3) (v := ?_) 8 rfl (by kernel_rfl) (by kernel_rfl) (by kernel_rfl) (by kernel_rfl) (by kernel_rfl) (fun _ _ _ h => h) (HS.out _ (grownBy_of_grow GD _)) (Or.inl ⟨by rfl, ?_⟩) ?_
  rotate_left
  · (intro w' hSw; (try dsimp only at hSw); obtain ⟨hs0, hs1, hs2, hs3, hs4, hs5, hs6, hs7⟩ := hSw; go_simp <;> with_reducible rfl)
  try simp only [Act.put, List.getElem_toArray, List.getElem_cons_succ, List.getElem_cons_zero, List.setIfInBounds_toArray, List.set_cons_zero, List.set_cons_succ]
  refine but_take (i := 4) (v := ?_) 8 rfl (by kernel_rfl) (by kernel_rfl) (by kernel_rfl) (by kernel_rfl) (by kernel_rfl) (fun _ _ _ h => h) (HS.out _ (grownBy_of_grow GD _)) (Or.inl ⟨by rfl, ?_⟩) ?_
  rotate_left
  · (intro w' hSw; (try dsimp only at hSw); obtain ⟨hs0, hs1, hs2, hs3, hs4, hs5, hs6, hs7⟩ := hSw; go_simp <;> with_reducible rfl)
  try simp only [Act.put, List.getElem_toArray, List.getElem_cons_succ, List.getElem_cons_zero, List.setIfInBounds_toArray, List.set_cons_zero, List.set_cons_succ]
  refine but_take (i := 5) (v := ?_) 8 rfl (by kernel_rfl) (by kernel_rfl) (by kernel_rfl) (by kernel_rfl) (by kernel_rfl) (fun _ _ _ h => h) (HS.out _ (grownBy_of_grow GD _)) (Or.inl ⟨by rfl, ?_⟩) ?_
  rotate_left
  · (intro w' hSw; (try dsimp only at hSw); obtain ⟨hs0, hs1, hs2, hs3, hs4, hs5, hs6, hs7⟩ := hSw; go_simp <;> with_reducible rfl)
  try simp only [Act.put, List.getElem_toArray, List.getElem_cons_succ, List.getElem_cons_zero, List.setIfInBounds_toArray, List.set_cons_zero, List.set_cons_succ]
  refine but_two (i := 6) (j := 7) (by kernel_rfl) rfl rfl ?_ ?_
  · skip
    intro K HK'
    have HK := Lib.hid HK'
    clear HK'
    skip
    try simp only [List.getElem_toArray, List.getElem_cons_succ, List.getElem_cons_zero]
    go_simp
    refine HK.out _ _ ⟨fun _ => HS.out _ (grownBy_trans (grownBy_of_grow GD _) (grownBy_of_grow ((Grow.refl _).alloc _) _)), ?_⟩
    clear HK K
    try simp only [Act.put, List.getElem_toArray, List.getElem_cons_succ, List.getElem_cons_zero, List.setIfInBounds_toArray, List.set_cons_zero, List.set_cons_succ]
    refine but_one (i := 7) (by kernel_rfl) rfl ?_
    intro K HK'
    have HK := Lib.hid HK'
    clear HK'
    refine wanted_go rfl ?_
    try simp only [List.getElem_toArray, List.getElem_cons_succ, List.getElem_cons_zero]
    refine wp_store_row (.tmp 6) (.tmp 67) rfl rfl rfl (row_grow R6.out (GD.alloc _)) info_hs rfl rfl ?_
    intro w7 r7 g7
    refine HK.out _ _ ⟨fun _ => HS.out _ (grownBy_trans (grownBy_trans (grownBy_of_grow GD _) (grownBy_of_grow ((Grow.refl _).alloc _) _)) g7), ?_⟩
    clear HK K
    try simp only [Act.put]
    refine but_one (i := 8) (by kernel_rfl) rfl ?_
    intro K HK'
    have HK := Lib.hid HK'
    clear HK'
    skip
    try simp only [List.getElem_toArray, List.getElem_cons_succ, List.getElem_cons_zero]
    go_simp
    refine HK.out _ _ ⟨fun h => absurd rfl h, ?_⟩
    clear HK K
    try simp only [Act.put, List.getElem_toArray, List.getElem_cons_succ, List.getElem_cons_zero, List.setIfInBounds_toArray, List.set_cons_zero, List.set_cons_succ]
    refine but_done (by kernel_rfl) ?_
    obtain ⟨p0, p1, p2, p3, p4, p5, p6⟩ := cells7 r7
    go_wp2
    refine bodyPost_ret (v := .tuple #[.agg #[.slice al2 x.log.length cl2, .int .i64 x.sums.a, .int .i64 x.sums.b, .int .i64 x.sums.c, .int .i64 x.sums.d, .slice ar2 x.ready.length cr2, .slice ad2 x.done.length cd2], .slice (some ⟨wd.heap.size, 0, none⟩) 1 1]) (by simp [results, Try.results35, go_sem, p0, p1, p2, p3, p4, p5, p6]) rfl ?_
    refine FIN.out _ wd.heap.size hzw (fun a h1 h2 => (by_cell g7 (by simp; omega) h2).trans (((Grow.refl wd).alloc _).cell h1)) (fun j u e => (by_cell g7 (by simp) (by simp; omega)).trans (at_new wd _ _ j u e)) ?_
    exact (HGW.out.trans (GD.alloc _)).grown g7 (fun k hk => by simp at hk; omega)
  · skip
    intro K HK'
    have HK := Lib.hid HK'
    clear HK'
    refine wanted_go rfl ?_
    try simp only [List.getElem_toArray, List.getElem_cons_succ, List.getElem_cons_zero]
    refine wp_store_row (.tmp 6) (.tmp 67) rfl rfl rfl (row_grow R6.out GD) info_hs rfl rfl ?_
    intro w7 r7 g7
    refine HK.out _ _ ⟨fun _ => HS.out _ (grownBy_trans (grownBy_of_grow GD _) g7), ?_⟩
    clear HK K
    try simp only [Act.put]
    refine but_one (i := 6) (by kernel_rfl) rfl ?_
    intro K HK'
    have HK := Lib.hid HK'
    clear HK'
    skip
    try simp only [List.getElem_toArray, List.getElem_cons_succ, List.getElem_cons_zero]
    go_simp
    refine HK.out _ _ ⟨fun _ => HS.out _ (grownBy_trans (grownBy_trans (grownBy_of_grow GD _) g7) (grownBy_of_grow ((Grow.refl _).alloc _) _)), ?_⟩
    clear HK K
    try simp only [Act.put, List.getElem_toArray, List.getElem_cons_succ, List.getElem_cons_zero, List.setIfInBounds_toArray, List.set_cons_zero, List.set_cons_succ]
    refine but_one (i := 8) (by kernel_rfl) rfl ?_
    intro K HK'
    have HK := Lib.hid HK'
    clear HK'
    skip
    try simp only [List.getElem_toArray, List.getElem_cons_succ, List.getElem_cons_zero]
    go_simp
    refine HK.out _ _ ⟨fun h => absurd rfl h, ?_⟩
    clear HK K
    try simp only [Act.put, List.getElem_toArray, List.getElem_cons_succ, List.getElem_cons_zero, List.setIfInBounds_toArray, List.set_cons_zero, List.set_cons_succ]
    refine but_done (by kernel_rfl) ?_
    obtain ⟨p0, p1, p2, p3, p4, p5, p6⟩ := cells7 (heap_later r7 (.cells #[.int .i64 6, .int .i64 dd, .int .i64 me, .slice none 0 0] 39))
    go_wp2
    refine bodyPost_ret (v := .tuple #[.agg #[.slice al2 x.log.length cl2, .int .i64 x.sums.a, .int .i64 x.sums.b, .int .i64 x.sums.c, .int .i64 x.sums.d, .slice ar2 x.ready.length cr2, .slice ad2 x.done.length cd2], .slice (some ⟨w7.heap.size, 0, none⟩) 1 1]) (by simp [results, Try.results35, go_sem, p0, p1, p2, p3, p4, p5, p6]) rfl ?_
    refine FIN.out _ w7.heap.size (Nat.le_trans hzw g7.size) (fun a h1 h2 => (((Grow.refl w7).alloc _).cell (Nat.lt_of_lt_of_le h1 g7.size)).trans (by_cell g7 h1 h2)) (at_new w7 _ _) ?_
    exact ((HGW.out.trans GD).grown g7 (fun k hk => by simp at hk; omega)).alloc _
end Go.Proofs.Ytgbhpghgohggcaa

/- Walks: Hear of the document's answer: whoever is asked (4D). -/
namespace Go.Proofs.Ytgbhpghgohggcaa
open Go.RowKit
set_option maxRecDepth 100000 in
set_option maxHeartbeats 1000000 in
theorem hear_com4D {c : CM} {v vm : Value} {h : Hs} {dd hh me : Int} {ps : List Pt} (w : World) (hc : Sub c w.cell?) (hv : Of Ty.hs c v h) (hm : Of Ty.ms c vm ⟨4, dd, hh, ps⟩) (hk : ∀ x ∈ h.log, KeysOk x.parts) (hkm : KeysOk ps) (hn : (h.log.length + 1) * 40 ≤ 140737488355328) (hme : I64 me) (rd : readyE h.ready dd = false) (hin : dd ∈ h.done) :
    Calls Try.prog 35 #[v, .int .i64 me, vm] w fun e w' => ∃ v1 v2, e = .returned (.tuple #[v1, v2]) ∧ Of Ty.hs (ov c w w') v1 (hearH h ⟨4, dd, hh, ps⟩) ∧ Sl Ty.ms (ov c w w') v2 (hearM h me ⟨4, dd, hh, ps⟩) ∧ Grow w w' := by
  obtain ⟨al, cl, ar, cr, ad, cd, rfl⟩ := hv.hs_form
  obtain ⟨ap, cp, rfl⟩ : ∃ ap cp, vm = .agg #[.int .i64 4, .int .i64 dd, .int .i64 hh, .slice ap ps.length cp] := hm.ms_form
  have hms : Sl Ty.pt c (.slice ap ps.length cp) ps ∧ I64 4 ∧ I64 dd ∧ I64 hh := Of.ms_parts hm
  have HMS := Lib.hid hms
  have HV0 := Lib.hid hv
  have HC := Lib.hid hc
  have HK0 := Lib.hid hk
  have HKM := Lib.hid hkm
  have HN := Lib.hid hn
  have HME := Lib.hid hme
  have HVO := Lib.hid (fun (W : World) (hW : Grow w W) => ref_vote (d := dd) W (hv.mono (hc.trans hW.sub)) (hms.1.mono (hc.trans hW.sub)) hkm)
  have HRD := Lib.hid (fun (W : World) (hW : Grow w W) => ref_ready (d := dd) W (hv.mono (hc.trans hW.sub)))
  have HIN := Lib.hid (fun (W : World) (hW : Grow w W) => ref_in (n := dd) W ((Of.hs_log hv).2.2.mono (hc.trans hW.sub)))
  have HG0 : Hid (Grow w (((w.alloc (.cells #[.slice al h.log.length cl, .int .i64 h.sums.a, .int .i64 h.sums.b, .int .i64 h.sums.c, .int .i64 h.sums.d, .slice ar h.ready.length cr, .slice ad h.done.length cd] 29)).alloc (.cells #[.int .i64 4, .int .i64 dd, .int .i64 hh, .slice ap ps.length cp] 39)).alloc (.cells #[.slice none 0 0, .int .i64 0, .int .i64 0, .int .i64 0, .int .i64 0, .slice none 0 0, .slice none 0 0] 29))) := Lib.hid ((((Grow.refl w).alloc _).alloc _).alloc _)
  have HR3 : Hid ((((w.alloc (.cells #[.slice al h.log.length cl, .int .i64 h.sums.a, .int .i64 h.sums.b, .int .i64 h.sums.c, .int .i64 h.sums.d, .slice ar h.ready.length cr, .slice ad h.done.length cd] 29)).alloc (.cells #[.int .i64 4, .int .i64 dd, .int .i64 hh, .slice ap ps.length cp] 39)).alloc (.cells #[.slice none 0 0, .int .i64 0, .int .i64 0, .int .i64 0, .int .i64 0, .slice none 0 0, .slice none 0 0] 29)).heap[w.heap.size]? = some (.cells #[.slice al h.log.length cl, .int .i64 h.sums.a, .int .i64 h.sums.b, .int .i64 h.sums.c, .int .i64 h.sums.d, .slice ar h.ready.length cr, .slice ad h.done.length cd] 29 (0, 0))) := Lib.hid (heap_later (heap_later (row_new _ _) _) _)
  have HR5 : Hid ((((w.alloc (.cells #[.slice al h.log.length cl, .int .i64 h.sums.a, .int .i64 h.sums.b, .int .i64 h.sums.c, .int .i64 h.sums.d, .slice ar h.ready.length cr, .slice ad h.done.length cd] 29)).alloc (.cells #[.int .i64 4, .int .i64 dd, .int .i64 hh, .slice ap ps.length cp] 39)).alloc (.cells #[.slice none 0 0, .int .i64 0, .int .i64 0, .int .i64 0, .int .i64 0, .slice none 0 0, .slice none 0 0] 29)).heap[w.heap.size + 1]? = some (.cells #[.int .i64 4, .int .i64 dd, .int .i64 hh, .slice ap ps.length cp] 39 (0, 0))) := Lib.hid (heap_later (by simpa using row_new (w.alloc (.cells #[.slice al h.log.length cl, .int .i64 h.sums.a, .int .i64 h.sums.b, .int .i64 h.sums.c, .int .i64 h.sums.d, .slice ar h.ready.length cr, .slice ad h.done.length cd] 29)) _) _)
  have HR6 : Hid ((((w.alloc (.cells #[.slice al h.log.length cl, .int .i64 h.sums.a, .int .i64 h.sums.b, .int .i64 h.sums.c, .int .i64 h.sums.d, .slice ar h.ready.length cr, .slice ad h.done.length cd] 29)).alloc (.cells #[.int .i64 4, .int .i64 dd, .int .i64 hh, .slice ap ps.length cp] 39)).alloc (.cells #[.slice none 0 0, .int .i64 0, .int .i64 0, .int .i64 0, .int .i64 0, .slice none 0 0, .slice none 0 0] 29)).heap[w.heap.size + 1 + 1]? = some (.cells #[.slice none 0 0, .int .i64 0, .int .i64 0, .int .i64 0, .int .i64 0, .slice none 0 0, .slice none 0 0] 29 (0, 0))) := Lib.hid (by simpa using row_new ((w.alloc (.cells #[.slice al h.log.length cl, .int .i64 h.sums.a, .int .i64 h.sums.b, .int .i64 h.sums.c, .int .i64 h.sums.d, .slice ar h.ready.length cr, .slice ad h.done.length cd] 29)).alloc (.cells #[.int .i64 4, .int .i64 dd, .int .i64 hh, .slice ap ps.length cp] 39)) _)
  clear hv hm hc hk hkm hn hme hms
  have HEH : Hid (hearH h ⟨4, dd, hh, ps⟩ = h) := by
    show hearH h ⟨4, dd, hh, ps⟩ = h
    unfold hearH
    rw [if_neg (fun e => by cases e), if_pos rfl, if_neg (by rw [show readyE h.ready (Ms.deed ⟨4, dd, hh, ps⟩) = false from rd]; simp)]
  have HEM : Hid (hearM h me ⟨4, dd, hh, ps⟩ = sayE 6 dd me) := by
    show hearM h me ⟨4, dd, hh, ps⟩ = sayE 6 dd me
    unfold hearM
    rw [if_neg (fun e => by cases e), if_pos rfl, HEH.out, if_pos hin]
  have HIN2 := Lib.hid hin
  clear hin
  have RD := Lib.hid rd
  clear rd
  go_enter Try.func35, Try.ntmps35
  go_wp2_with fail
  refine (HRD.out _ HG0.out).mono ?_
  rw [RD.out]
  rintro e v1 ⟨rfl, hbv1⟩
  (obtain ⟨cv1, fv1⟩ := bcell hbv1; have zv10 : w.heap.size < v1.heap.size := (by have := hbv1.size; (try simp at this); omega); have zv11 : w.heap.size + 1 < v1.heap.size := (by have := hbv1.size; (try simp at this); omega); have zv12 : w.heap.size + 1 + 1 < v1.heap.size := (by have := hbv1.size; (try simp at this); omega); have Gv1 := Lib.hid hbv1; clear hbv1)
  go_wp2_with fail
  refine (HIN.out _ (HG0.out.trans Gv1.out)).mono ?_
  rw [decide_eq_true HIN2.out]
  rintro e v2 ⟨rfl, hbv2⟩
  (obtain ⟨cv2, fv2⟩ := bcell hbv2; have zv20 : w.heap.size < v2.heap.size := (by have := hbv2.size; (try simp at this); omega); have zv21 : w.heap.size + 1 < v2.heap.size := (by have := hbv2.size; (try simp at this); omega); have zv22 : w.heap.size + 1 + 1 < v2.heap.size := (by have := hbv2.size; (try simp at this); omega); have Gv2 := Lib.hid hbv2; clear hbv2)
  go_wp2_with fail
  have hS : v2.cell? ⟨w.heap.size, 0, none⟩ = some (.slice al h.log.length cl) ∧ v2.cell? ⟨w.heap.size, 1, none⟩ = some (.int .i64 h.sums.a) ∧ v2.cell? ⟨w.heap.size, 2, none⟩ = some (.int .i64 h.sums.b) ∧ v2.cell? ⟨w.heap.size, 3, none⟩ = some (.int .i64 h.sums.c) ∧ v2.cell? ⟨w.heap.size, 4, none⟩ = some (.int .i64 h.sums.d) ∧ v2.cell? ⟨w.heap.size, 5, none⟩ = some (.slice ar h.ready.length cr) ∧ v2.cell? ⟨w.heap.size, 6, none⟩ = some (.slice ad h.done.length cd) ∧ v2.cell? ⟨w.heap.size + 1, 1, none⟩ = some (.int .i64 dd) := by refine ⟨?_, ?_, ?_, ?_, ?_, ?_, ?_, ?_⟩ <;> go_simp
  have HGW : Hid (Grow w v2) := Lib.hid ((HG0.out.trans Gv1.out).trans Gv2.out)
  have R6 : Hid (v2.heap[w.heap.size + 1 + 1]? = some (.cells #[.slice none 0 0, .int .i64 0, .int .i64 0, .int .i64 0, .int .i64 0, .slice none 0 0, .slice none 0 0] 29 (0, 0))) := Lib.hid (row_grow HR6.out (Gv1.out.trans Gv2.out))
  have hz0 : w.heap.size + 1 + 1 < v2.heap.size := (Array.getElem?_eq_some_iff.1 R6.out).1
  obtain ⟨s0, s1, s2, s3, s4, s5, s6, s7⟩ := hS
  have HS : Hid (∀ W, v2.grownBy W (some (w.heap.size + 1 + 1)) → W.cell? ⟨w.heap.size, 0, none⟩ = some (.slice al h.log.length cl) ∧ W.cell? ⟨w.heap.size, 1, none⟩ = some (.int .i64 h.sums.a) ∧ W.cell? ⟨w.heap.size, 2, none⟩ = some (.int .i64 h.sums.b) ∧ W.cell? ⟨w.heap.size, 3, none⟩ = some (.int .i64 h.sums.c) ∧ W.cell? ⟨w.heap.size, 4, none⟩ = some (.int .i64 h.sums.d) ∧ W.cell? ⟨w.heap.size, 5, none⟩ = some (.slice ar h.ready.length cr) ∧ W.cell? ⟨w.heap.size, 6, none⟩ = some (.slice ad h.done.length cd) ∧ W.cell? ⟨w.heap.size + 1, 1, none⟩ = some (.int .i64 dd)) := fun W hW => by
    have k : ∀ (b o : Nat) (u : Value), b < w.heap.size + 1 + 1 → v2.cell? ⟨b, o, none⟩ = some u → W.cell? ⟨b, o, none⟩ = some u := fun b o u hb e => by
      rw [by_cell hW (World.block_lt_of_cell? v2 _ e) (by simp; omega)]; exact e
    exact ⟨k _ _ _ (by omega) s0, k _ _ _ (by omega) s1, k _ _ _ (by omega) s2, k _ _ _ (by omega) s3, k _ _ _ (by omega) s4, k _ _ _ (by omega) s5, k _ _ _ (by omega) s6, k _ _ _ (by omega) s7⟩
  clear s0 s1 s2 s3 s4 s5 s6 s7
  refine but_start (fun w' => w'.cell? ⟨w.heap.size, 0, none⟩ = some (.slice al h.log.length cl) ∧ w'.cell? ⟨w.heap.size, 1, none⟩ = some (.int .i64 h.sums.a) ∧ w'.cell? ⟨w.heap.size, 2, none⟩ = some (.int .i64 h.sums.b) ∧ w'.cell? ⟨w.heap.size, 3, none⟩ = some (.int .i64 h.sums.c) ∧ w'.cell? ⟨w.heap.size, 4, none⟩ = some (.int .i64 h.sums.d) ∧ w'.cell? ⟨w.heap.size, 5, none⟩ = some (.slice ar h.ready.length cr) ∧ w'.cell? ⟨w.heap.size, 6, none⟩ = some (.slice ad h.done.length cd) ∧ w'.cell? ⟨w.heap.size + 1, 1, none⟩ = some (.int .i64 dd)) 8 (by kernel_rfl) ?_
  obtain ⟨wd, hWd⟩ : ∃ x : World, x = v2.drew := ⟨_, rfl⟩
  rw [← hWd]
  have GD : Grow v2 wd := by rw [hWd]; exact (Grow.refl _).drew
  have zD : v2.heap.size = wd.heap.size := by rw [hWd]; rfl
  have ZD := Lib.hid zD
  clear hWd zD
  have hzd : w.heap.size + 1 + 1 < wd.heap.size := by have := ZD.out; omega
  have hzw : w.heap.size ≤ wd.heap.size := by have := hzd; omega
  have FIN : Hid (∀ (Wf : World) (q : Nat), w.heap.size ≤ q → (∀ a : Addr, a.block < wd.heap.size → a.block ≠ w.heap.size + 1 + 1 → Wf.cell? a = wd.cell? a) → At Wf.cell? q 0 (#[.int .i64 6, .int .i64 dd, .int .i64 me, .slice none 0 0] : Array Value).toList → Grow w Wf → ∃ v1 v2, Ending.returned (.tuple #[.agg #[.slice al h.log.length cl, .int .i64 h.sums.a, .int .i64 h.sums.b, .int .i64 h.sums.c, .int .i64 h.sums.d, .slice ar h.ready.length cr, .slice ad h.done.length cd], .slice (some ⟨q, 0, none⟩) 1 1]) = .returned (.tuple #[v1, v2]) ∧ Of Ty.hs (ov c w Wf) v1 (hearH h ⟨4, dd, hh, ps⟩) ∧ Sl Ty.ms (ov c w Wf) v2 (hearM h me ⟨4, dd, hh, ps⟩) ∧ Grow w Wf) := by
    intro Wf q hq hA hAt hGf
    refine ⟨_, _, rfl, ?_, ?_, hGf⟩
    · rw [HEH.out]
      exact HV0.out.mono (ov_in HC.out)
    · rw [HEM.out]
      exact sl_one (T := Ty.ms) ⟨_, rfl, (show I64 6 from by unfold I64; decide), HMS.out.2.2.1, HME.out, Sl.nil _ _⟩ (at_ov hAt hq) (by decide) (by decide)
  refine but_take (i := 0) (v := ?_) 8 rfl (by kernel_rfl) (by kernel_rfl) (by kernel_rfl) (by kernel_rfl) (by kernel_rfl) (fun _ _ _ h => h) (HS.out _ (grownBy_of_grow GD _)) (Or.inl ⟨by rfl, ?_⟩) ?_
  rotate_left
  · (intro w' hSw; (try dsimp only at hSw); obtain ⟨hs0, hs1, hs2, hs3, hs4, hs5, hs6, hs7⟩ := hSw; go_simp <;> with_reducible rfl)
  try simp only [Act.put, List.getElem_toArray, List.getElem_cons_zero, List.setIfInBounds_toArray, List.set_cons_zero, List.set_cons_succ]
  refine but_take (i := 1) (v := ?_) 8 rfl (by kernel_rfl) (by kernel_rfl) (by kernel_rfl) (by kernel_rfl) (by kernel_rfl) (fun _ _ _ h => h) (HS.out _ (grownBy_of_grow GD _)) (Or.inl ⟨by rfl, ?_⟩) ?_
  rotate_left
  · (intro w' hSw; (try dsimp only at hSw); obtain ⟨hs0, hs1, hs2, hs3, hs4, hs5, hs6, hs7⟩ := hSw; go_simp <;> with_reducible rfl)
  try simp only [Act.put, List.getElem_toArray, List.getElem_cons_succ, List.getElem_cons_zero, List.setIfInBounds_toArray, List.set_cons_zero, List.set_cons_succ]
  refine but_take (i := 2) (v := ?_) 8 rfl (by kernel_rfl) (by kernel_rfl) (by kernel_rfl) (by kernel_rfl) (by kernel_rfl) (fun _ _ _ h => h) (HS.out _ (grownBy_of_grow GD _)) (Or.inl ⟨by rfl, ?_⟩) ?_
  rotate_left
  · (intro w' hSw; (try dsimp only at hSw); obtain ⟨hs0, hs1, hs2, hs3, hs4, hs5, hs6, hs7⟩ := hSw; go_simp <;> with_reducible rfl)
  try simp only [Act.put, List.getElem_toArray, List.getElem_cons_succ, List.getElem_cons_zero, List.setIfInBounds_toArray, List.set_cons_zero, List.set_cons_succ]
  refine but_take (i := 3) (v := ?_) 8 rfl (by kernel_rfl) (by kernel_rfl) (by kernel_rfl) (by kernel_rfl) (by kernel_rfl) (fun _ _ _ h => h) (HS.out _ (grownBy_of_grow GD _)) (Or.inl ⟨by rfl, ?_⟩) ?_
  rotate_left
  · (intro w' hSw; (try dsimp only at hSw); obtain ⟨hs0, hs1, hs2, hs3, hs4, hs5, hs6, hs7⟩ := hSw; go_simp <;> with_reducible rfl)
  try simp only [Act.put, List.getElem_toArray, List.getElem_cons_succ, List.getElem_cons_zero, List.setIfInBounds_toArray, List.set_cons_zero, List.set_cons_succ]
  refine but_take (i := 4) (v := ?_) 8 rfl (by kernel_rfl) (by kernel_rfl) (by kernel_rfl) (by kernel_rfl) (by kernel_rfl) (fun _ _ _ h => h) (HS.out _ (grownBy_of_grow GD _)) (Or.inl ⟨by rfl, ?_⟩) ?_
  rotate_left
  · (intro w' hSw; (try dsimp only at hSw); obtain ⟨hs0, hs1, hs2, hs3, hs4, hs5, hs6, hs7⟩ := hSw; go_simp <;> with_reducible rfl)
  try simp only [Act.put, List.getElem_toArray, List.getElem_cons_succ, List.getElem_cons_zero, List.setIfInBounds_toArray, List.set_cons_zero, List.set_cons_succ]
  refine but_take (i := 5) (v := ?_) 8 rfl (by kernel_rfl) (by kernel_rfl) (by kernel_rfl) (by kernel_rfl) (by kernel_rfl) (fun _ _ _ h => h) (HS.out _ (grownBy_of_grow GD _)) (Or.inl ⟨by rfl, ?_⟩) ?_
  rotate_left
  · (intro w' hSw; (try dsimp only at hSw); obtain ⟨hs0, hs1, hs2, hs3, hs4, hs5, hs6, hs7⟩ := hSw; go_simp <;> with_reducible rfl)
  try simp only [Act.put, List.getElem_toArray, List.getElem_cons_succ, List.getElem_cons_zero, List.setIfInBounds_toArray, List.set_cons_zero, List.set_cons_succ]
  refine but_two (i := 6) (j := 7) (by kernel_rfl) rfl rfl ?_ ?_
  · skip
    intro K HK'
    have HK := Lib.hid HK'
    clear HK'
    skip
    try simp only [List.getElem_toArray, List.getElem_cons_succ, List.getElem_cons_zero]
    go_simp
    refine HK.out _ _ ⟨fun _ => HS.out _ (grownBy_trans (grownBy_of_grow GD _) (grownBy_of_grow ((Grow.refl _).alloc _) _)), ?_⟩
    clear HK K
    try simp only [Act.put, List.getElem_toArray, List.getElem_cons_succ, List.getElem_cons_zero, List.setIfInBounds_toArray, List.set_cons_zero, List.set_cons_succ]
    refine but_one (i := 7) (by kernel_rfl) rfl ?_
    intro K HK'
    have HK := Lib.hid HK'
    clear HK'
    refine wanted_go rfl ?_
    try simp only [List.getElem_toArray, List.getElem_cons_succ, List.getElem_cons_zero]
    refine wp_store_row (.tmp 6) (.tmp 67) rfl rfl rfl (row_grow R6.out (GD.alloc _)) info_hs rfl rfl ?_
    intro w7 r7 g7
    refine HK.out _ _ ⟨fun _ => HS.out _ (grownBy_trans (grownBy_trans (grownBy_of_grow GD _) (grownBy_of_grow ((Grow.refl _).alloc _) _)) g7), ?_⟩
    clear HK K
    try simp only [Act.put]
    refine but_one (i := 8) (by kernel_rfl) rfl ?_
    intro K HK'
    have HK := Lib.hid HK'
    clear HK'
    skip
    try simp only [List.getElem_toArray, List.getElem_cons_succ, List.getElem_cons_zero]
    go_simp
    refine HK.out _ _ ⟨fun h => absurd rfl h, ?_⟩
    clear HK K
    try simp only [Act.put, List.getElem_toArray, List.getElem_cons_succ, List.getElem_cons_zero, List.setIfInBounds_toArray, List.set_cons_zero, List.set_cons_succ]
    refine but_done (by kernel_rfl) ?_
    obtain ⟨p0, p1, p2, p3, p4, p5, p6⟩ := cells7 r7
    go_wp2
    refine bodyPost_ret (v := .tuple #[.agg #[.slice al h.log.length cl, .int .i64 h.sums.a, .int .i64 h.sums.b, .int .i64 h.sums.c, .int .i64 h.sums.d, .slice ar h.ready.length cr, .slice ad h.done.length cd], .slice (some ⟨wd.heap.size, 0, none⟩) 1 1]) (by simp [results, Try.results35, go_sem, p0, p1, p2, p3, p4, p5, p6]) rfl ?_
    refine FIN.out _ wd.heap.size hzw (fun a h1 h2 => (by_cell g7 (by simp; omega) h2).trans (((Grow.refl wd).alloc _).cell h1)) (fun j u e => (by_cell g7 (by simp) (by simp; omega)).trans (at_new wd _ _ j u e)) ?_
    exact (HGW.out.trans (GD.alloc _)).grown g7 (fun k hk => by simp at hk; omega)
  · skip
    intro K HK'
    have HK := Lib.hid HK'
    clear HK'
    refine wanted_go rfl ?_
    try simp only [List.getElem_toArray, List.getElem_cons_succ, List.getElem_cons_zero]
    refine wp_store_row (.tmp 6) (.tmp 67) rfl rfl rfl (row_grow R6.out GD) info_hs rfl rfl ?_
    intro w7 r7 g7
    refine HK.out _ _ ⟨fun _ => HS.out _ (grownBy_trans (grownBy_of_grow GD _) g7), ?_⟩
    clear HK K
    try simp only [Act.put]
    refine but_one (i := 6) (by kernel_rfl) rfl ?_
    intro K HK'
    have HK := Lib.hid HK'
    clear HK'
    skip
    try simp only [List.getElem_toArray, List.getElem_cons_succ, List.getElem_cons_zero]
    go_simp
    refine HK.out _ _ ⟨fun _ => HS.out _ (grownBy_trans (grownBy_trans (grownBy_of_grow GD _) g7) (grownBy_of_grow ((Grow.refl _).alloc _) _)), ?_⟩
    clear HK K
    try simp only [Act.put, List.getElem_toArray, List.getElem_cons_succ, List.getElem_cons_zero, List.setIfInBounds_toArray, List.set_cons_zero, List.set_cons_succ]
    refine but_one (i := 8) (by kernel_rfl) rfl ?_
    intro K HK'
    have HK := Lib.hid HK'
    clear HK'
    skip
    try simp only [List.getElem_toArray, List.getElem_cons_succ, List.getElem_cons_zero]
    go_simp
    refine HK.out _ _ ⟨fun h => absurd rfl h, ?_⟩
    clear HK K
    try simp only [Act.put, List.getElem_toArray, List.getElem_cons_succ, List.getElem_cons_zero, List.setIfInBounds_toArray, List.set_cons_zero, List.set_cons_succ]
    refine but_done (by kernel_rfl) ?_
    obtain ⟨p0, p1, p2, p3, p4, p5, p6⟩ := cells7 (heap_later r7 (.cells #[.int .i64 6, .int .i64 dd, .int .i64 me, .slice none 0 0] 39))
    go_wp2
    refine bodyPost_ret (v := .tuple #[.agg #[.slice al h.log.length cl, .int .i64 h.sums.a, .int .i64 h.sums.b, .int .i64 h.sums.c, .int .i64 h.sums.d, .slice ar h.ready.length cr, .slice ad h.done.length cd], .slice (some ⟨w7.heap.size, 0, none⟩) 1 1]) (by simp [results, Try.results35, go_sem, p0, p1, p2, p3, p4, p5, p6]) rfl ?_
    refine FIN.out _ w7.heap.size (Nat.le_trans hzw g7.size) (fun a h1 h2 => (((Grow.refl w7).alloc _).cell (Nat.lt_of_lt_of_le h1 g7.size)).trans (by_cell g7 h1 h2)) (at_new w7 _ _) ?_
    exact ((HGW.out.trans GD).grown g7 (fun k hk => by simp at hk; omega)).alloc _
end Go.Proofs.Ytgbhpghgohggcaa

/- Walks: Hear of the document's answer: whoever is asked (4N). -/
namespace Go.Proofs.Ytgbhpghgohggcaa
open Go.RowKit
set_option maxRecDepth 100000 in
set_option maxHeartbeats 1000000 in
theorem hear_com4N {c : CM} {v vm : Value} {h : Hs} {dd hh me : Int} {ps : List Pt} (w : World) (hc : Sub c w.cell?) (hv : Of Ty.hs c v h) (hm : Of Ty.ms c vm ⟨4, dd, hh, ps⟩) (hk : ∀ x ∈ h.log, KeysOk x.parts) (hkm : KeysOk ps) (hn : (h.log.length + 1) * 40 ≤ 140737488355328) (hme : I64 me) (rd : readyE h.ready dd = false) (hin : dd ∉ h.done) :
    Calls Try.prog 35 #[v, .int .i64 me, vm] w fun e w' => ∃ v1 v2, e = .returned (.tuple #[v1, v2]) ∧ Of Ty.hs (ov c w w') v1 (hearH h ⟨4, dd, hh, ps⟩) ∧ Sl Ty.ms (ov c w w') v2 (hearM h me ⟨4, dd, hh, ps⟩) ∧ Grow w w' := by
  obtain ⟨al, cl, ar, cr, ad, cd, rfl⟩ := hv.hs_form
  obtain ⟨ap, cp, rfl⟩ : ∃ ap cp, vm = .agg #[.int .i64 4, .int .i64 dd, .int .i64 hh, .slice ap ps.length cp] := hm.ms_form
  have hms : Sl Ty.pt c (.slice ap ps.length cp) ps ∧ I64 4 ∧ I64 dd ∧ I64 hh := Of.ms_parts hm
  have HMS := Lib.hid hms
  have HV0 := Lib.hid hv
  have HC := Lib.hid hc
  have HK0 := Lib.hid hk
  have HKM := Lib.hid hkm
  have HN := Lib.hid hn
  have HME := Lib.hid hme
  have HVO := Lib.hid (fun (W : World) (hW : Grow w W) => ref_vote (d := dd) W (hv.mono (hc.trans hW.sub)) (hms.1.mono (hc.trans hW.sub)) hkm)
  have HRD := Lib.hid (fun (W : World) (hW : Grow w W) => ref_ready (d := dd) W (hv.mono (hc.trans hW.sub)))
  have HIN := Lib.hid (fun (W : World) (hW : Grow w W) => ref_in (n := dd) W ((Of.hs_log hv).2.2.mono (hc.trans hW.sub)))
  have HG0 : Hid (Grow w (((w.alloc (.cells #[.slice al h.log.length cl, .int .i64 h.sums.a, .int .i64 h.sums.b, .int .i64 h.sums.c, .int .i64 h.sums.d, .slice ar h.ready.length cr, .slice ad h.done.length cd] 29)).alloc (.cells #[.int .i64 4, .int .i64 dd, .int .i64 hh, .slice ap ps.length cp] 39)).alloc (.cells #[.slice none 0 0, .int .i64 0, .int .i64 0, .int .i64 0, .int .i64 0, .slice none 0 0, .slice none 0 0] 29))) := Lib.hid ((((Grow.refl w).alloc _).alloc _).alloc _)
  have HR3 : Hid ((((w.alloc (.cells #[.slice al h.log.length cl, .int .i64 h.sums.a, .int .i64 h.sums.b, .int .i64 h.sums.c, .int .i64 h.sums.d, .slice ar h.ready.length cr, .slice ad h.done.length cd] 29)).alloc (.cells #[.int .i64 4, .int .i64 dd, .int .i64 hh, .slice ap ps.length cp] 39)).alloc (.cells #[.slice none 0 0, .int .i64 0, .int .i64 0, .int .i64 0, .int .i64 0, .slice none 0 0, .slice none 0 0] 29)).heap[w.heap.size]? = some (.cells #[.slice al h.log.length cl, .int .i64 h.sums.a, .int .i64 h.sums.b, .int .i64 h.sums.c, .int .i64 h.sums.d, .slice ar h.ready.length cr, .slice ad h.done.length cd] 29 (0, 0))) := Lib.hid (heap_later (heap_later (row_new _ _) _) _)
  have HR5 : Hid ((((w.alloc (.cells #[.slice al h.log.length cl, .int .i64 h.sums.a, .int .i64 h.sums.b, .int .i64 h.sums.c, .int .i64 h.sums.d, .slice ar h.ready.length cr, .slice ad h.done.length cd] 29)).alloc (.cells #[.int .i64 4, .int .i64 dd, .int .i64 hh, .slice ap ps.length cp] 39)).alloc (.cells #[.slice none 0 0, .int .i64 0, .int .i64 0, .int .i64 0, .int .i64 0, .slice none 0 0, .slice none 0 0] 29)).heap[w.heap.size + 1]? = some (.cells #[.int .i64 4, .int .i64 dd, .int .i64 hh, .slice ap ps.length cp] 39 (0, 0))) := Lib.hid (heap_later (by simpa using row_new (w.alloc (.cells #[.slice al h.log.length cl, .int .i64 h.sums.a, .int .i64 h.sums.b, .int .i64 h.sums.c, .int .i64 h.sums.d, .slice ar h.ready.length cr, .slice ad h.done.length cd] 29)) _) _)
  have HR6 : Hid ((((w.alloc (.cells #[.slice al h.log.length cl, .int .i64 h.sums.a, .int .i64 h.sums.b, .int .i64 h.sums.c, .int .i64 h.sums.d, .slice ar h.ready.length cr, .slice ad h.done.length cd] 29)).alloc (.cells #[.int .i64 4, .int .i64 dd, .int .i64 hh, .slice ap ps.length cp] 39)).alloc (.cells #[.slice none 0 0, .int .i64 0, .int .i64 0, .int .i64 0, .int .i64 0, .slice none 0 0, .slice none 0 0] 29)).heap[w.heap.size + 1 + 1]? = some (.cells #[.slice none 0 0, .int .i64 0, .int .i64 0, .int .i64 0, .int .i64 0, .slice none 0 0, .slice none 0 0] 29 (0, 0))) := Lib.hid (by simpa using row_new ((w.alloc (.cells #[.slice al h.log.length cl, .int .i64 h.sums.a, .int .i64 h.sums.b, .int .i64 h.sums.c, .int .i64 h.sums.d, .slice ar h.ready.length cr, .slice ad h.done.length cd] 29)).alloc (.cells #[.int .i64 4, .int .i64 dd, .int .i64 hh, .slice ap ps.length cp] 39)) _)
  clear hv hm hc hk hkm hn hme hms
  have HEH : Hid (hearH h ⟨4, dd, hh, ps⟩ = h) := by
    show hearH h ⟨4, dd, hh, ps⟩ = h
    unfold hearH
    rw [if_neg (fun e => by cases e), if_pos rfl, if_neg (by rw [show readyE h.ready (Ms.deed ⟨4, dd, hh, ps⟩) = false from rd]; simp)]
  have HEM : Hid (hearM h me ⟨4, dd, hh, ps⟩ = []) := by
    show hearM h me ⟨4, dd, hh, ps⟩ = []
    unfold hearM
    rw [if_neg (fun e => by cases e), if_pos rfl, HEH.out, if_neg hin]
  have HIN2 := Lib.hid hin
  clear hin
  have RD := Lib.hid rd
  clear rd
  go_enter Try.func35, Try.ntmps35
  go_wp2_with fail
  refine (HRD.out _ HG0.out).mono ?_
  rw [RD.out]
  rintro e v1 ⟨rfl, hbv1⟩
  (obtain ⟨cv1, fv1⟩ := bcell hbv1; have zv10 : w.heap.size < v1.heap.size := (by have := hbv1.size; (try simp at this); omega); have zv11 : w.heap.size + 1 < v1.heap.size := (by have := hbv1.size; (try simp at this); omega); have zv12 : w.heap.size + 1 + 1 < v1.heap.size := (by have := hbv1.size; (try simp at this); omega); have Gv1 := Lib.hid hbv1; clear hbv1)
  go_wp2_with fail
  refine (HIN.out _ (HG0.out.trans Gv1.out)).mono ?_
  rw [decide_eq_false HIN2.out]
  rintro e v2 ⟨rfl, hbv2⟩
  (obtain ⟨cv2, fv2⟩ := bcell hbv2; have zv20 : w.heap.size < v2.heap.size := (by have := hbv2.size; (try simp at this); omega); have zv21 : w.heap.size + 1 < v2.heap.size := (by have := hbv2.size; (try simp at this); omega); have zv22 : w.heap.size + 1 + 1 < v2.heap.size := (by have := hbv2.size; (try simp at this); omega); have Gv2 := Lib.hid hbv2; clear hbv2)
  have R6 := row_grow HR6.out (Gv1.out.trans Gv2.out)
  obtain ⟨p0, p1, p2, p3, p4, p5, p6⟩ := cells7 R6
  have pf := row_free R6
  obtain ⟨s0, s1, s2, s3, s4, s5, s6, s7⟩ : v2.cell? ⟨w.heap.size, 0, none⟩ = some (.slice al h.log.length cl) ∧ v2.cell? ⟨w.heap.size, 1, none⟩ = some (.int .i64 h.sums.a) ∧ v2.cell? ⟨w.heap.size, 2, none⟩ = some (.int .i64 h.sums.b) ∧ v2.cell? ⟨w.heap.size, 3, none⟩ = some (.int .i64 h.sums.c) ∧ v2.cell? ⟨w.heap.size, 4, none⟩ = some (.int .i64 h.sums.d) ∧ v2.cell? ⟨w.heap.size, 5, none⟩ = some (.slice ar h.ready.length cr) ∧ v2.cell? ⟨w.heap.size, 6, none⟩ = some (.slice ad h.done.length cd) ∧ v2.cell? ⟨w.heap.size + 1, 1, none⟩ = some (.int .i64 dd) := by refine ⟨?_, ?_, ?_, ?_, ?_, ?_, ?_, ?_⟩ <;> go_simp
  clear R6
  go_wp2
  refine bodyPost_ret (v := .tuple #[.agg #[.slice al h.log.length cl, .int .i64 h.sums.a, .int .i64 h.sums.b, .int .i64 h.sums.c, .int .i64 h.sums.d, .slice ar h.ready.length cr, .slice ad h.done.length cd], .slice none 0 0]) (by simp [results, Try.results35, go_sem, p0, p1, p2, p3, p4, p5, p6]) rfl ?_
  rw [HEH.out, HEM.out]
  refine ⟨_, _, rfl, ?_, Sl.nil _ _, ?_⟩
  · exact HV0.out.mono (ov_in HC.out)
  · (repeat (with_reducible refine Grow.setCell ?_ (by first | (simp; done) | (simp; omega) | omega) _))
    exact (HG0.out.trans Gv1.out).trans Gv2.out
end Go.Proofs.Ytgbhpghgohggcaa

/- Walks: Hear of the document's answer: whoever is asked (5R). -/
namespace Go.Proofs.Ytgbhpghgohggcaa
open Go.RowKit
set_option maxRecDepth 100000 in
set_option maxHeartbeats 1000000 in
theorem hear_abo5R {c : CM} {v vm : Value} {h : Hs} {dd hh me : Int} {ps : List Pt} (w : World) (hc : Sub c w.cell?) (hv : Of Ty.hs c v h) (hm : Of Ty.ms c vm ⟨5, dd, hh, ps⟩) (hk : ∀ x ∈ h.log, KeysOk x.parts) (hkm : KeysOk ps) (hn : (h.log.length + 1) * 40 ≤ 140737488355328) (hme : I64 me) (rd : readyE h.ready dd = true) :
    Calls Try.prog 35 #[v, .int .i64 me, vm] w fun e w' => ∃ v1 v2, e = .returned (.tuple #[v1, v2]) ∧ Of Ty.hs (ov c w w') v1 (hearH h ⟨5, dd, hh, ps⟩) ∧ Sl Ty.ms (ov c w w') v2 (hearM h me ⟨5, dd, hh, ps⟩) ∧ Grow w w' := by
  obtain ⟨al, cl, ar, cr, ad, cd, rfl⟩ := hv.hs_form
  obtain ⟨ap, cp, rfl⟩ : ∃ ap cp, vm = .agg #[.int .i64 5, .int .i64 dd, .int .i64 hh, .slice ap ps.length cp] := hm.ms_form
  have hms : Sl Ty.pt c (.slice ap ps.length cp) ps ∧ I64 5 ∧ I64 dd ∧ I64 hh := Of.ms_parts hm
  have HMS := Lib.hid hms
  have HV0 := Lib.hid hv
  have HC := Lib.hid hc
  have HK0 := Lib.hid hk
  have HKM := Lib.hid hkm
  have HN := Lib.hid hn
  have HME := Lib.hid hme
  have HVO := Lib.hid (fun (W : World) (hW : Grow w W) => ref_vote (d := dd) W (hv.mono (hc.trans hW.sub)) (hms.1.mono (hc.trans hW.sub)) hkm)
  have HRD := Lib.hid (fun (W : World) (hW : Grow w W) => ref_ready (d := dd) W (hv.mono (hc.trans hW.sub)))
  have HIN := Lib.hid (fun (W : World) (hW : Grow w W) => ref_in (n := dd) W ((Of.hs_log hv).2.2.mono (hc.trans hW.sub)))
  have HG0 : Hid (Grow w (((w.alloc (.cells #[.slice al h.log.length cl, .int .i64 h.sums.a, .int .i64 h.sums.b, .int .i64 h.sums.c, .int .i64 h.sums.d, .slice ar h.ready.length cr, .slice ad h.done.length cd] 29)).alloc (.cells #[.int .i64 5, .int .i64 dd, .int .i64 hh, .slice ap ps.length cp] 39)).alloc (.cells #[.slice none 0 0, .int .i64 0, .int .i64 0, .int .i64 0, .int .i64 0, .slice none 0 0, .slice none 0 0] 29))) := Lib.hid ((((Grow.refl w).alloc _).alloc _).alloc _)
  have HR3 : Hid ((((w.alloc (.cells #[.slice al h.log.length cl, .int .i64 h.sums.a, .int .i64 h.sums.b, .int .i64 h.sums.c, .int .i64 h.sums.d, .slice ar h.ready.length cr, .slice ad h.done.length cd] 29)).alloc (.cells #[.int .i64 5, .int .i64 dd, .int .i64 hh, .slice ap ps.length cp] 39)).alloc (.cells #[.slice none 0 0, .int .i64 0, .int .i64 0, .int .i64 0, .int .i64 0, .slice none 0 0, .slice none 0 0] 29)).heap[w.heap.size]? = some (.cells #[.slice al h.log.length cl, .int .i64 h.sums.a, .int .i64 h.sums.b, .int .i64 h.sums.c, .int .i64 h.sums.d, .slice ar h.ready.length cr, .slice ad h.done.length cd] 29 (0, 0))) := Lib.hid (heap_later (heap_later (row_new _ _) _) _)
  have HR5 : Hid ((((w.alloc (.cells #[.slice al h.log.length cl, .int .i64 h.sums.a, .int .i64 h.sums.b, .int .i64 h.sums.c, .int .i64 h.sums.d, .slice ar h.ready.length cr, .slice ad h.done.length cd] 29)).alloc (.cells #[.int .i64 5, .int .i64 dd, .int .i64 hh, .slice ap ps.length cp] 39)).alloc (.cells #[.slice none 0 0, .int .i64 0, .int .i64 0, .int .i64 0, .int .i64 0, .slice none 0 0, .slice none 0 0] 29)).heap[w.heap.size + 1]? = some (.cells #[.int .i64 5, .int .i64 dd, .int .i64 hh, .slice ap ps.length cp] 39 (0, 0))) := Lib.hid (heap_later (by simpa using row_new (w.alloc (.cells #[.slice al h.log.length cl, .int .i64 h.sums.a, .int .i64 h.sums.b, .int .i64 h.sums.c, .int .i64 h.sums.d, .slice ar h.ready.length cr, .slice ad h.done.length cd] 29)) _) _)
  have HR6 : Hid ((((w.alloc (.cells #[.slice al h.log.length cl, .int .i64 h.sums.a, .int .i64 h.sums.b, .int .i64 h.sums.c, .int .i64 h.sums.d, .slice ar h.ready.length cr, .slice ad h.done.length cd] 29)).alloc (.cells #[.int .i64 5, .int .i64 dd, .int .i64 hh, .slice ap ps.length cp] 39)).alloc (.cells #[.slice none 0 0, .int .i64 0, .int .i64 0, .int .i64 0, .int .i64 0, .slice none 0 0, .slice none 0 0] 29)).heap[w.heap.size + 1 + 1]? = some (.cells #[.slice none 0 0, .int .i64 0, .int .i64 0, .int .i64 0, .int .i64 0, .slice none 0 0, .slice none 0 0] 29 (0, 0))) := Lib.hid (by simpa using row_new ((w.alloc (.cells #[.slice al h.log.length cl, .int .i64 h.sums.a, .int .i64 h.sums.b, .int .i64 h.sums.c, .int .i64 h.sums.d, .slice ar h.ready.length cr, .slice ad h.done.length cd] 29)).alloc (.cells #[.int .i64 5, .int .i64 dd, .int .i64 hh, .slice ap ps.length cp] 39)) _)
  clear hv hm hc hk hkm hn hme hms
  have HEH : Hid (hearH h ⟨5, dd, hh, ps⟩ = noteE h ⟨3, dd, []⟩) := by
    show hearH h ⟨5, dd, hh, ps⟩ = noteE h ⟨3, dd, []⟩
    unfold hearH
    rw [if_neg (fun e => by cases e), if_neg (fun e => by cases e), if_pos rfl, if_pos rd]
  have HEM : Hid (hearM h me ⟨5, dd, hh, ps⟩ = []) := by
    show hearM h me ⟨5, dd, hh, ps⟩ = []
    unfold hearM
    rw [if_neg (fun e => by cases e), if_neg (fun e => by cases e)]
  have RD := Lib.hid rd
  clear rd
  go_enter Try.func35, Try.ntmps35
  go_wp2_with fail
  refine (HRD.out _ HG0.out).mono ?_
  rw [RD.out]
  rintro e v1 ⟨rfl, hbv1⟩
  (obtain ⟨cv1, fv1⟩ := bcell hbv1; have zv10 : w.heap.size < v1.heap.size := (by have := hbv1.size; (try simp at this); omega); have zv11 : w.heap.size + 1 < v1.heap.size := (by have := hbv1.size; (try simp at this); omega); have zv12 : w.heap.size + 1 + 1 < v1.heap.size := (by have := hbv1.size; (try simp at this); omega); have Gv1 := Lib.hid hbv1; clear hbv1)
  have GV0 : Hid (Grow _ v1) := Lib.hid Gv1.out
  have hz : ∀ u, (zeroValue 3).run Try.prog u = .ok (.int .i64 0) u := fun u => by kernel_rfl
  have hmm := @run_makeMap Try.prog
  go_wp2_with (first | (refine wp_insert keyInt Try.underlying142 rfl _ _ _ rfl (MapIs.new (enc := encInt) _) 4 (.int .i64 2) rfl rfl rfl ?_))
  clear hmm
  intro m1 hM1 hm1
  have gm1 : Grow v1 m1 := ((Grow.refl _).alloc (.map #[] 0)).grown hm1 (fun k hk => by simp at hk; omega)
  have HM1 := Lib.hid hM1
  clear hM1 hm1
  go_wp2_with (first | (refine wp_insert keyInt Try.underlying142 rfl _ _ _ rfl HM1.out 5 (.int .i64 3) rfl rfl rfl ?_))
  intro m2 hM2 hm2
  have gm2 : Grow v1 m2 := gm1.grown hm2 (fun k hk => by simp at hk; omega)
  have HM2 := Lib.hid hM2
  clear hM2 hm2 gm1
  have GM2 := Lib.hid gm2
  have GW2 : Hid (Grow _ m2) := Lib.hid (GV0.out.trans gm2)
  obtain ⟨k0, k1, k2, k3, k4, k5, k6⟩ := cells7 (row_grow HR3.out GW2.out)
  obtain ⟨n0, n1, n2, n3⟩ := cells4 (row_grow HR5.out GW2.out)
  clear gm2
  go_wp2_with (first | (at_lookup; refine wp_lookup' keyInt Try.underlying142 hz rfl _ _ rfl HM2.out 5 (.int .i64 3) (by rfl) rfl rfl ?_))
  clear k0 k1 k2 k3 k4 k5 k6
  obtain ⟨k0, k1, k2, k3, k4, k5, k6⟩ := cells7 (row_grow HR3.out GW2.out)
  go_wp2_with fail
  have GW : Hid (Grow _ m2) := Lib.hid GW2.out
  have GV : Hid (Grow w m2) := Lib.hid (HG0.out.trans GW.out)
  have ZV : Hid (w.heap.size + 1 + 1 < m2.heap.size) := Lib.hid (Array.getElem?_eq_some_iff.1 (row_grow HR6.out GW.out)).1
  have hrr : Ty.rc.R (wk w.heap.size 3 (ov c w m2)) [.int .i64 (⟨3, dd, []⟩ : Rc).kind, .int .i64 dd, .slice none 0 0] ⟨3, dd, []⟩ := Ty.rc.mono (wk_in HC.out 3) (show Ty.rc.R c [.int .i64 3, .int .i64 dd, .slice none 0 0] ⟨3, dd, []⟩ from ⟨_, rfl, (show I64 3 from by unfold I64; decide), HMS.out.2.2.1, Sl.nil _ _⟩)
  refine (ref_note (c := wk w.heap.size 3 (ov c w m2)) (r := ⟨3, dd, []⟩) m2 (wk_ov HC.out GV.out 3) (HV0.out.mono (wk_in HC.out 3)) ⟨_, rfl, hrr⟩ HK0.out (by intro p hp; simp at hp) HN.out).mono ?_
  clear hrr
  generalize noteE h ⟨3, dd, []⟩ = x at *
  rintro e v3 ⟨vx, rfl, hX, hbv3⟩
  obtain ⟨al2, cl2, ar2, cr2, ad2, cd2, rfl⟩ := hX.hs_form
  have HX := Lib.hid hX
  have HG3 := Lib.hid hbv3
  clear hX
  have GW3 : Hid (Grow _ v3) := Lib.hid (GW.out.trans hbv3)
  obtain ⟨k0, k1, k2, k3, k4, k5, k6⟩ := cells7 (row_grow HR3.out GW3.out)
  have kf := row_free (row_grow HR3.out GW3.out)
  obtain ⟨m0, m1, m2, m3⟩ := cells4 (row_grow HR5.out GW3.out)
  clear hbv3
  go_wp2_with (first | (refine wpList_store_row rfl (.tmp 3) (.tmp 54) rfl rfl rfl (row_grow HR3.out GW3.out) info_hs rfl rfl ?_))
  intro v4 r4 g4
  have R3 := Lib.hid r4
  have BY4 := Lib.hid g4
  clear r4 g4
  have R5 : Hid (v4.heap[w.heap.size + 1]? = _) := Lib.hid (row_by (row_grow HR5.out GW3.out) BY4.out (by simp))
  have R6 : Hid (v4.heap[w.heap.size + 1 + 1]? = _) := Lib.hid (row_by (row_grow HR6.out GW3.out) BY4.out (by simp; omega))
  clear k0 k1 k2 k3 k4 k5 k6 kf m0 m1 m2 m3
  have HG4 : Hid (Grow w v4) := Lib.hid ((GV.out.trans HG3.out).grown BY4.out (fun k hk => by simp at hk; omega))
  obtain ⟨k0, k1, k2, k3, k4, k5, k6⟩ := cells7 R3.out
  obtain ⟨m0, m1, m2, m3⟩ := cells4 R5.out
  have R6b := R6.out
  skip
  obtain ⟨p0, p1, p2, p3, p4, p5, p6⟩ := cells7 R6b
  have pf := row_free R6b
  obtain ⟨s0, s1, s2, s3, s4, s5, s6, s7⟩ : v4.cell? ⟨w.heap.size, 0, none⟩ = some (.slice al2 x.log.length cl2) ∧ v4.cell? ⟨w.heap.size, 1, none⟩ = some (.int .i64 x.sums.a) ∧ v4.cell? ⟨w.heap.size, 2, none⟩ = some (.int .i64 x.sums.b) ∧ v4.cell? ⟨w.heap.size, 3, none⟩ = some (.int .i64 x.sums.c) ∧ v4.cell? ⟨w.heap.size, 4, none⟩ = some (.int .i64 x.sums.d) ∧ v4.cell? ⟨w.heap.size, 5, none⟩ = some (.slice ar2 x.ready.length cr2) ∧ v4.cell? ⟨w.heap.size, 6, none⟩ = some (.slice ad2 x.done.length cd2) ∧ v4.cell? ⟨w.heap.size + 1, 1, none⟩ = some (.int .i64 dd) := by refine ⟨?_, ?_, ?_, ?_, ?_, ?_, ?_, ?_⟩ <;> go_simp
  clear R6b
  go_wp2
  refine bodyPost_ret (v := .tuple #[.agg #[.slice al2 x.log.length cl2, .int .i64 x.sums.a, .int .i64 x.sums.b, .int .i64 x.sums.c, .int .i64 x.sums.d, .slice ar2 x.ready.length cr2, .slice ad2 x.done.length cd2], .slice none 0 0]) (by simp [results, Try.results35, go_sem, p0, p1, p2, p3, p4, p5, p6]) rfl ?_
  rw [HEH.out, HEM.out]
  refine ⟨_, _, rfl, ?_, Sl.nil _ _, ?_⟩
  · refine HX.out.mono (ov_boxes (k := 3) GV.out HG3.out (by have := ZV.out; omega) fun a u ha e => ?_)
    have l1 := World.block_lt_of_cell? v3 a e
    have l2 := BY4.out.size
    have e4 : v4.cell? a = some u := by rw [by_cell BY4.out l1 (by omega)]; exact e
    exact (by_cell (by_set7 v4 (w.heap.size + 1 + 1) _ _ _ _ _ _ _) (show a.block < v4.heap.size by omega) (show a.block ≠ w.heap.size + 1 + 1 by omega)).trans e4
  · (repeat (with_reducible refine Grow.setCell ?_ (by first | (simp; done) | (simp; omega) | omega) _))
    exact HG4.out
end Go.Proofs.Ytgbhpghgohggcaa

/- Walks: Hear of the document's answer: whoever is asked (5N). -/
namespace Go.Proofs.Ytgbhpghgohggcaa
open Go.RowKit
set_option maxRecDepth 100000 in
set_option maxHeartbeats 1000000 in
theorem hear_abo5N {c : CM} {v vm : Value} {h : Hs} {dd hh me : Int} {ps : List Pt} (w : World) (hc : Sub c w.cell?) (hv : Of Ty.hs c v h) (hm : Of Ty.ms c vm ⟨5, dd, hh, ps⟩) (hk : ∀ x ∈ h.log, KeysOk x.parts) (hkm : KeysOk ps) (hn : (h.log.length + 1) * 40 ≤ 140737488355328) (hme : I64 me) (rd : readyE h.ready dd = false) :
    Calls Try.prog 35 #[v, .int .i64 me, vm] w fun e w' => ∃ v1 v2, e = .returned (.tuple #[v1, v2]) ∧ Of Ty.hs (ov c w w') v1 (hearH h ⟨5, dd, hh, ps⟩) ∧ Sl Ty.ms (ov c w w') v2 (hearM h me ⟨5, dd, hh, ps⟩) ∧ Grow w w' := by
  obtain ⟨al, cl, ar, cr, ad, cd, rfl⟩ := hv.hs_form
  obtain ⟨ap, cp, rfl⟩ : ∃ ap cp, vm = .agg #[.int .i64 5, .int .i64 dd, .int .i64 hh, .slice ap ps.length cp] := hm.ms_form
  have hms : Sl Ty.pt c (.slice ap ps.length cp) ps ∧ I64 5 ∧ I64 dd ∧ I64 hh := Of.ms_parts hm
  have HMS := Lib.hid hms
  have HV0 := Lib.hid hv
  have HC := Lib.hid hc
  have HK0 := Lib.hid hk
  have HKM := Lib.hid hkm
  have HN := Lib.hid hn
  have HME := Lib.hid hme
  have HVO := Lib.hid (fun (W : World) (hW : Grow w W) => ref_vote (d := dd) W (hv.mono (hc.trans hW.sub)) (hms.1.mono (hc.trans hW.sub)) hkm)
  have HRD := Lib.hid (fun (W : World) (hW : Grow w W) => ref_ready (d := dd) W (hv.mono (hc.trans hW.sub)))
  have HIN := Lib.hid (fun (W : World) (hW : Grow w W) => ref_in (n := dd) W ((Of.hs_log hv).2.2.mono (hc.trans hW.sub)))
  have HG0 : Hid (Grow w (((w.alloc (.cells #[.slice al h.log.length cl, .int .i64 h.sums.a, .int .i64 h.sums.b, .int .i64 h.sums.c, .int .i64 h.sums.d, .slice ar h.ready.length cr, .slice ad h.done.length cd] 29)).alloc (.cells #[.int .i64 5, .int .i64 dd, .int .i64 hh, .slice ap ps.length cp] 39)).alloc (.cells #[.slice none 0 0, .int .i64 0, .int .i64 0, .int .i64 0, .int .i64 0, .slice none 0 0, .slice none 0 0] 29))) := Lib.hid ((((Grow.refl w).alloc _).alloc _).alloc _)
  have HR3 : Hid ((((w.alloc (.cells #[.slice al h.log.length cl, .int .i64 h.sums.a, .int .i64 h.sums.b, .int .i64 h.sums.c, .int .i64 h.sums.d, .slice ar h.ready.length cr, .slice ad h.done.length cd] 29)).alloc (.cells #[.int .i64 5, .int .i64 dd, .int .i64 hh, .slice ap ps.length cp] 39)).alloc (.cells #[.slice none 0 0, .int .i64 0, .int .i64 0, .int .i64 0, .int .i64 0, .slice none 0 0, .slice none 0 0] 29)).heap[w.heap.size]? = some (.cells #[.slice al h.log.length cl, .int .i64 h.sums.a, .int .i64 h.sums.b, .int .i64 h.sums.c, .int .i64 h.sums.d, .slice ar h.ready.length cr, .slice ad h.done.length cd] 29 (0, 0))) := Lib.hid (heap_later (heap_later (row_new _ _) _) _)
  have HR5 : Hid ((((w.alloc (.cells #[.slice al h.log.length cl, .int .i64 h.sums.a, .int .i64 h.sums.b, .int .i64 h.sums.c, .int .i64 h.sums.d, .slice ar h.ready.length cr, .slice ad h.done.length cd] 29)).alloc (.cells #[.int .i64 5, .int .i64 dd, .int .i64 hh, .slice ap ps.length cp] 39)).alloc (.cells #[.slice none 0 0, .int .i64 0, .int .i64 0, .int .i64 0, .int .i64 0, .slice none 0 0, .slice none 0 0] 29)).heap[w.heap.size + 1]? = some (.cells #[.int .i64 5, .int .i64 dd, .int .i64 hh, .slice ap ps.length cp] 39 (0, 0))) := Lib.hid (heap_later (by simpa using row_new (w.alloc (.cells #[.slice al h.log.length cl, .int .i64 h.sums.a, .int .i64 h.sums.b, .int .i64 h.sums.c, .int .i64 h.sums.d, .slice ar h.ready.length cr, .slice ad h.done.length cd] 29)) _) _)
  have HR6 : Hid ((((w.alloc (.cells #[.slice al h.log.length cl, .int .i64 h.sums.a, .int .i64 h.sums.b, .int .i64 h.sums.c, .int .i64 h.sums.d, .slice ar h.ready.length cr, .slice ad h.done.length cd] 29)).alloc (.cells #[.int .i64 5, .int .i64 dd, .int .i64 hh, .slice ap ps.length cp] 39)).alloc (.cells #[.slice none 0 0, .int .i64 0, .int .i64 0, .int .i64 0, .int .i64 0, .slice none 0 0, .slice none 0 0] 29)).heap[w.heap.size + 1 + 1]? = some (.cells #[.slice none 0 0, .int .i64 0, .int .i64 0, .int .i64 0, .int .i64 0, .slice none 0 0, .slice none 0 0] 29 (0, 0))) := Lib.hid (by simpa using row_new ((w.alloc (.cells #[.slice al h.log.length cl, .int .i64 h.sums.a, .int .i64 h.sums.b, .int .i64 h.sums.c, .int .i64 h.sums.d, .slice ar h.ready.length cr, .slice ad h.done.length cd] 29)).alloc (.cells #[.int .i64 5, .int .i64 dd, .int .i64 hh, .slice ap ps.length cp] 39)) _)
  clear hv hm hc hk hkm hn hme hms
  have HEH : Hid (hearH h ⟨5, dd, hh, ps⟩ = h) := by
    show hearH h ⟨5, dd, hh, ps⟩ = h
    unfold hearH
    rw [if_neg (fun e => by cases e), if_neg (fun e => by cases e), if_pos rfl, if_neg (by rw [show readyE h.ready (Ms.deed ⟨5, dd, hh, ps⟩) = false from rd]; simp)]
  have HEM : Hid (hearM h me ⟨5, dd, hh, ps⟩ = []) := by
    show hearM h me ⟨5, dd, hh, ps⟩ = []
    unfold hearM
    rw [if_neg (fun e => by cases e), if_neg (fun e => by cases e)]
  have RD := Lib.hid rd
  clear rd
  go_enter Try.func35, Try.ntmps35
  go_wp2_with fail
  refine (HRD.out _ HG0.out).mono ?_
  rw [RD.out]
  rintro e v1 ⟨rfl, hbv1⟩
  (obtain ⟨cv1, fv1⟩ := bcell hbv1; have zv10 : w.heap.size < v1.heap.size := (by have := hbv1.size; (try simp at this); omega); have zv11 : w.heap.size + 1 < v1.heap.size := (by have := hbv1.size; (try simp at this); omega); have zv12 : w.heap.size + 1 + 1 < v1.heap.size := (by have := hbv1.size; (try simp at this); omega); have Gv1 := Lib.hid hbv1; clear hbv1)
  have R6 := row_grow HR6.out Gv1.out
  obtain ⟨p0, p1, p2, p3, p4, p5, p6⟩ := cells7 R6
  have pf := row_free R6
  obtain ⟨s0, s1, s2, s3, s4, s5, s6, s7⟩ : v1.cell? ⟨w.heap.size, 0, none⟩ = some (.slice al h.log.length cl) ∧ v1.cell? ⟨w.heap.size, 1, none⟩ = some (.int .i64 h.sums.a) ∧ v1.cell? ⟨w.heap.size, 2, none⟩ = some (.int .i64 h.sums.b) ∧ v1.cell? ⟨w.heap.size, 3, none⟩ = some (.int .i64 h.sums.c) ∧ v1.cell? ⟨w.heap.size, 4, none⟩ = some (.int .i64 h.sums.d) ∧ v1.cell? ⟨w.heap.size, 5, none⟩ = some (.slice ar h.ready.length cr) ∧ v1.cell? ⟨w.heap.size, 6, none⟩ = some (.slice ad h.done.length cd) ∧ v1.cell? ⟨w.heap.size + 1, 1, none⟩ = some (.int .i64 dd) := by refine ⟨?_, ?_, ?_, ?_, ?_, ?_, ?_, ?_⟩ <;> go_simp
  clear R6
  go_wp2
  refine bodyPost_ret (v := .tuple #[.agg #[.slice al h.log.length cl, .int .i64 h.sums.a, .int .i64 h.sums.b, .int .i64 h.sums.c, .int .i64 h.sums.d, .slice ar h.ready.length cr, .slice ad h.done.length cd], .slice none 0 0]) (by simp [results, Try.results35, go_sem, p0, p1, p2, p3, p4, p5, p6]) rfl ?_
  rw [HEH.out, HEM.out]
  refine ⟨_, _, rfl, ?_, Sl.nil _ _, ?_⟩
  · exact HV0.out.mono (ov_in HC.out)
  · (repeat (with_reducible refine Grow.setCell ?_ (by first | (simp; done) | (simp; omega) | omega) _))
    exact HG0.out.trans Gv1.out
end Go.Proofs.Ytgbhpghgohggcaa

/- Walks: Hear of the document's answer: whoever is asked (O). -/
namespace Go.Proofs.Ytgbhpghgohggcaa
open Go.RowKit
set_option maxRecDepth 100000 in
set_option maxHeartbeats 1000000 in
theorem hear_oth {c : CM} {v vm : Value} {h : Hs} {kd dd hh me : Int} {ps : List Pt} (w : World) (hc : Sub c w.cell?) (hv : Of Ty.hs c v h) (hm : Of Ty.ms c vm ⟨kd, dd, hh, ps⟩) (hk : ∀ x ∈ h.log, KeysOk x.parts) (hkm : KeysOk ps) (hn : (h.log.length + 1) * 40 ≤ 140737488355328) (hme : I64 me) (n1 : ¬ kd = 1) (n4 : ¬ kd = 4) (n5 : ¬ kd = 5) :
    Calls Try.prog 35 #[v, .int .i64 me, vm] w fun e w' => ∃ v1 v2, e = .returned (.tuple #[v1, v2]) ∧ Of Ty.hs (ov c w w') v1 (hearH h ⟨kd, dd, hh, ps⟩) ∧ Sl Ty.ms (ov c w w') v2 (hearM h me ⟨kd, dd, hh, ps⟩) ∧ Grow w w' := by
  obtain ⟨al, cl, ar, cr, ad, cd, rfl⟩ := hv.hs_form
  obtain ⟨ap, cp, rfl⟩ : ∃ ap cp, vm = .agg #[.int .i64 kd, .int .i64 dd, .int .i64 hh, .slice ap ps.length cp] := hm.ms_form
  have hms : Sl Ty.pt c (.slice ap ps.length cp) ps ∧ I64 kd ∧ I64 dd ∧ I64 hh := Of.ms_parts hm
  have HMS := Lib.hid hms
  have HV0 := Lib.hid hv
  have HC := Lib.hid hc
  have HK0 := Lib.hid hk
  have HKM := Lib.hid hkm
  have HN := Lib.hid hn
  have HME := Lib.hid hme
  have HVO := Lib.hid (fun (W : World) (hW : Grow w W) => ref_vote (d := dd) W (hv.mono (hc.trans hW.sub)) (hms.1.mono (hc.trans hW.sub)) hkm)
  have HRD := Lib.hid (fun (W : World) (hW : Grow w W) => ref_ready (d := dd) W (hv.mono (hc.trans hW.sub)))
  have HIN := Lib.hid (fun (W : World) (hW : Grow w W) => ref_in (n := dd) W ((Of.hs_log hv).2.2.mono (hc.trans hW.sub)))
  have HG0 : Hid (Grow w (((w.alloc (.cells #[.slice al h.log.length cl, .int .i64 h.sums.a, .int .i64 h.sums.b, .int .i64 h.sums.c, .int .i64 h.sums.d, .slice ar h.ready.length cr, .slice ad h.done.length cd] 29)).alloc (.cells #[.int .i64 kd, .int .i64 dd, .int .i64 hh, .slice ap ps.length cp] 39)).alloc (.cells #[.slice none 0 0, .int .i64 0, .int .i64 0, .int .i64 0, .int .i64 0, .slice none 0 0, .slice none 0 0] 29))) := Lib.hid ((((Grow.refl w).alloc _).alloc _).alloc _)
  have HR3 : Hid ((((w.alloc (.cells #[.slice al h.log.length cl, .int .i64 h.sums.a, .int .i64 h.sums.b, .int .i64 h.sums.c, .int .i64 h.sums.d, .slice ar h.ready.length cr, .slice ad h.done.length cd] 29)).alloc (.cells #[.int .i64 kd, .int .i64 dd, .int .i64 hh, .slice ap ps.length cp] 39)).alloc (.cells #[.slice none 0 0, .int .i64 0, .int .i64 0, .int .i64 0, .int .i64 0, .slice none 0 0, .slice none 0 0] 29)).heap[w.heap.size]? = some (.cells #[.slice al h.log.length cl, .int .i64 h.sums.a, .int .i64 h.sums.b, .int .i64 h.sums.c, .int .i64 h.sums.d, .slice ar h.ready.length cr, .slice ad h.done.length cd] 29 (0, 0))) := Lib.hid (heap_later (heap_later (row_new _ _) _) _)
  have HR5 : Hid ((((w.alloc (.cells #[.slice al h.log.length cl, .int .i64 h.sums.a, .int .i64 h.sums.b, .int .i64 h.sums.c, .int .i64 h.sums.d, .slice ar h.ready.length cr, .slice ad h.done.length cd] 29)).alloc (.cells #[.int .i64 kd, .int .i64 dd, .int .i64 hh, .slice ap ps.length cp] 39)).alloc (.cells #[.slice none 0 0, .int .i64 0, .int .i64 0, .int .i64 0, .int .i64 0, .slice none 0 0, .slice none 0 0] 29)).heap[w.heap.size + 1]? = some (.cells #[.int .i64 kd, .int .i64 dd, .int .i64 hh, .slice ap ps.length cp] 39 (0, 0))) := Lib.hid (heap_later (by simpa using row_new (w.alloc (.cells #[.slice al h.log.length cl, .int .i64 h.sums.a, .int .i64 h.sums.b, .int .i64 h.sums.c, .int .i64 h.sums.d, .slice ar h.ready.length cr, .slice ad h.done.length cd] 29)) _) _)
  have HR6 : Hid ((((w.alloc (.cells #[.slice al h.log.length cl, .int .i64 h.sums.a, .int .i64 h.sums.b, .int .i64 h.sums.c, .int .i64 h.sums.d, .slice ar h.ready.length cr, .slice ad h.done.length cd] 29)).alloc (.cells #[.int .i64 kd, .int .i64 dd, .int .i64 hh, .slice ap ps.length cp] 39)).alloc (.cells #[.slice none 0 0, .int .i64 0, .int .i64 0, .int .i64 0, .int .i64 0, .slice none 0 0, .slice none 0 0] 29)).heap[w.heap.size + 1 + 1]? = some (.cells #[.slice none 0 0, .int .i64 0, .int .i64 0, .int .i64 0, .int .i64 0, .slice none 0 0, .slice none 0 0] 29 (0, 0))) := Lib.hid (by simpa using row_new ((w.alloc (.cells #[.slice al h.log.length cl, .int .i64 h.sums.a, .int .i64 h.sums.b, .int .i64 h.sums.c, .int .i64 h.sums.d, .slice ar h.ready.length cr, .slice ad h.done.length cd] 29)).alloc (.cells #[.int .i64 kd, .int .i64 dd, .int .i64 hh, .slice ap ps.length cp] 39)) _)
  clear hv hm hc hk hkm hn hme hms
  have HEH : Hid (hearH h ⟨kd, dd, hh, ps⟩ = h) := by
    show hearH h ⟨kd, dd, hh, ps⟩ = h
    unfold hearH
    rw [if_neg n1, if_neg n4, if_neg n5]
  have HEM : Hid (hearM h me ⟨kd, dd, hh, ps⟩ = []) := by
    show hearM h me ⟨kd, dd, hh, ps⟩ = []
    unfold hearM
    rw [if_neg n1, if_neg n4]
  have b1 : (kd == 1) = false := by simpa using n1
  have b4 : (kd == 4) = false := by simpa using n4
  have b5 : (kd == 5) = false := by simpa using n5
  clear n1 n4 n5
  go_enter Try.func35, Try.ntmps35
  go_wp2
  refine bodyPost_ret (v := .tuple #[.agg #[.slice al h.log.length cl, .int .i64 h.sums.a, .int .i64 h.sums.b, .int .i64 h.sums.c, .int .i64 h.sums.d, .slice ar h.ready.length cr, .slice ad h.done.length cd], .slice none 0 0]) (by simp [results, Try.results35, go_sem]) rfl ?_
  rw [HEH.out, HEM.out]
  refine ⟨_, _, rfl, ?_, Sl.nil _ _, ?_⟩
  · exact HV0.out.mono (ov_in HC.out)
  · (repeat (with_reducible refine Grow.setCell ?_ (by first | (simp; done) | (simp; omega) | omega) _))
    exact (((Grow.refl w).alloc _).alloc _).alloc _
end Go.Proofs.Ytgbhpghgohggcaa

/- Plain: LocksOne's law. -/
namespace Go.Proofs.Ytgbhpghgohggcaa
def keysOf (l : List Rd) : List Int := l.flatMap fun r => r.parts.map (·.k)
theorem keysOf_cons (x : Rd) (l : List Rd) : keysOf (x :: l) = x.parts.map (·.k) ++ keysOf l := by simp [keysOf]
theorem keysOf_snoc (l : List Rd) (x : Rd) : keysOf (l ++ [x]) = keysOf l ++ x.parts.map (·.k) := by simp [keysOf]
theorem hasKey_mem {key : Int} {x : Rd} : hasKey key x = true ↔ key ∈ x.parts.map (·.k) := by
  unfold hasKey
  rw [List.any_eq_true, List.mem_map]
  constructor
  · rintro ⟨p, hp, h⟩; exact ⟨p, hp, by simpa using h⟩
  · rintro ⟨p, hp, h⟩; exact ⟨p, hp, by simpa using h⟩
theorem who_keys {key : Int} : ∀ {l : List Rd}, (∀ x ∈ l, 0 ≤ x.deed) → (whoE l key < 0 ↔ key ∉ keysOf l)
  | [], _ => by simp [whoE, keysOf]
  | x :: l, hp => by
    have ih := who_keys (l := l) (key := key) fun y hy => hp y (List.mem_cons_of_mem _ hy)
    have hx := hp x List.mem_cons_self
    rw [who_cons, keysOf_cons, List.mem_append, ← hasKey_mem]
    by_cases h : hasKey key x = true
    · simp [h]; exact hx
    · simp only [h, if_false, false_or, Bool.false_eq_true]; exact ih
theorem keysOf_erase (p : Rd → Bool) : ∀ l : List Rd, (keysOf (l.eraseP p)).Sublist (keysOf l)
  | [] => List.Sublist.refl _
  | x :: l => by
    by_cases h : p x = true
    · rw [List.eraseP_cons_of_pos h, keysOf_cons]; exact List.sublist_append_right _ _
    · rw [List.eraseP_cons_of_neg h, keysOf_cons, keysOf_cons]; exact (keysOf_erase p l).append_left _
theorem who_deed {key : Int} : ∀ {l : List Rd}, (keysOf l).Nodup → ∀ r ∈ l, key ∈ r.parts.map (·.k) → whoE l key = r.deed
  | x :: l, hn, r, hr, hk => by
    rw [keysOf_cons, List.nodup_append] at hn
    obtain ⟨h1, h2, h3⟩ := hn
    rw [who_cons]
    rcases List.mem_cons.1 hr with rfl | hr
    · rw [if_pos (hasKey_mem.2 hk)]
    · have hk2 : key ∈ keysOf l := List.mem_flatMap.2 ⟨r, hr, hk⟩
      rw [if_neg (fun h => h3 _ (hasKey_mem.1 h) _ hk2 rfl)]
      exact who_deed h2 r hr hk
/-- deeds that a house is ready for are apart -/
structure Calm (h : Hs) : Prop where
  made : Made h
  fine : Fine h.ready
  apart : (keysOf h.ready).Nodup
theorem calm_zero : Calm ⟨[], ⟨0, 0, 0, 0⟩, [], []⟩ := ⟨rfl, ⟨by simp, by simp⟩, by simp [keysOf]⟩
theorem nodup_keys {l : List Pt} {h : Int} (hn : (l.map fun p => (p.h, p.k)).Nodup) (ha : ∀ p ∈ l, p.h = h) : (l.map (·.k)).Nodup := by
  have e : (l.map fun p => (p.h, p.k)) = (l.map (·.k)).map fun k => (h, k) := by
    rw [List.map_map]
    exact List.map_congr_left fun p hp => by simp [ha p hp]
  rw [e] at hn
  refine List.Pairwise.of_map _ (fun a b hab he => hab (by rw [he])) hn
theorem free_none {l : List Rd} (hp : ∀ x ∈ l, 0 ≤ x.deed) {ps : List Pt} (h : freeE l ps = true) : ∀ p ∈ ps, p.k ∉ keysOf l := by
  rw [free_all, List.all_eq_true] at h
  intro p hm
  exact (who_keys hp).1 (by simpa using h p hm)
/-- right messages, in parts -/
structure RightM (m : Ms) : Prop where
  kind : 1 ≤ m.kind ∧ m.kind ≤ 7
  deed : 0 ≤ m.deed ∧ m.deed ≤ 1343
  house : 0 ≤ m.house ∧ m.house ≤ 2
  none : m.kind ≠ 1 → m.parts = []
  parts : m.kind = 1 → wrongE m.parts 3 = 0 ∧ ∀ p ∈ m.parts, p.h = m.house
theorem wrongE_pos (l : List Pt) (h : Int) : 0 ≤ wrongE l h := by
  have : ∀ (l : List Pt) had, 0 ≤ wrongGo h had l := by
    intro l
    induction l with
    | nil => intro had; simp [wrongGo]
    | cons p l ih => intro had; unfold wrongGo; split; omega; split; omega; exact ih _
  unfold wrongE
  split
  · omega
  · exact this _ _
theorem right_m {m : Ms} : wrongM m = 0 ↔ RightM m := by
  unfold wrongM
  constructor
  · intro h
    split at h
    · cases h
    split at h
    · cases h
    split at h
    · split at h
      · exact ⟨by omega, by omega, by omega, fun _ => ‹_›, fun _ => by omega⟩
      · cases h
    · split at h
      · split at h
        · rename_i h1 h2
          exact ⟨by omega, by omega, by omega, fun _ => by omega, fun _ => ⟨h1, fun p hp => by simpa using List.all_eq_true.1 h2 p hp⟩⟩
        · cases h
      · rename_i h1; exact absurd h h1
  · rintro ⟨h1, h2, h3, h4, h5⟩
    rw [if_neg (by omega), if_neg (by omega)]
    split
    · rw [if_pos (h4 (by omega))]
    · obtain ⟨h6, h7⟩ := h5 (by omega)
      rw [if_pos h6, if_pos (List.all_eq_true.2 fun p hp => by simpa using h7 p hp)]
theorem RightM.keys {m : Ms} (h : RightM m) : KeysOk m.parts := by
  by_cases hk : m.kind = 1
  · exact wrong_keys (h.parts hk).1
  · rw [h.none hk]; intro p hp; simp at hp
theorem calm_note {h : Hs} (hc : Calm h) {r : Rc} (hr : 0 ≤ r.deed) (h1 : r.kind = 1 → (r.parts.map (·.k)).Nodup ∧ ∀ p ∈ r.parts, p.k ∉ keysOf h.ready) : Calm (noteE h r) := by
  have e := note_ready hc.made r
  refine ⟨note_made _ _, by rw [e]; exact fine_step hc.fine hr, ?_⟩
  rw [e, step_ready]
  split
  · split
    · exact hc.apart.sublist (keysOf_erase _ _)
    · exact hc.apart
  · split
    · rename_i hk
      obtain ⟨h2, h3⟩ := h1 hk
      rw [keysOf_snoc, List.nodup_append]
      refine ⟨hc.apart, h2, fun a ha b hb e => ?_⟩
      obtain ⟨p, hp, rfl⟩ := List.mem_map.1 hb
      exact h3 p hp (e ▸ ha)
    · exact hc.apart
theorem vote_free {h : Hs} {d : Int} {ps : List Pt} (hv : voteE h d ps = 0) (hr : readyE h.ready d = false) : freeE h.ready ps = true := by
  unfold voteE at hv
  split at hv
  · cases hv
  · rw [if_neg (by simp [hr])] at hv
    split at hv
    · cases hv
    · rename_i h2; simpa using h2
theorem calm_hear {h : Hs} (hc : Calm h) {m : Ms} (hm : RightM m) : Calm (hearH h m) := by
  unfold hearH
  split
  · rename_i hk
    obtain ⟨hw, hh⟩ := hm.parts hk
    split
    · rename_i hv
      exact calm_note hc hm.deed.1 fun _ => ⟨nodup_keys (wrong_ok hw).2.2.2 hh, free_none hc.fine.pos (vote_free hv.1 hv.2)⟩
    · exact hc
  · split
    · split
      · exact calm_note hc hm.deed.1 (by simp)
      · exact hc
    · split
      · split
        · exact calm_note hc hm.deed.1 (by simp)
        · exact hc
      · exact hc
/-- how often a key occurs -/
def cntKey (key : Int) (l : List Rd) : Nat := (keysOf l).count key
theorem cnt_le {h : Hs} (hc : Calm h) (key : Int) : cntKey key h.ready ≤ 1 := List.nodup_iff_count.1 hc.apart key
theorem cnt_free {h : Hs} (hc : Calm h) (key : Int) : decide (cntKey key h.ready = 1) = !freeE h.ready [⟨0, key, 0⟩] := by
  have h1 := cnt_le hc key
  have h2 : 0 < cntKey key h.ready ↔ key ∈ keysOf h.ready := List.count_pos_iff
  have h3 := who_keys (key := key) hc.fine.pos
  rw [free_all]
  simp only [List.all_cons, List.all_nil, Bool.and_true]
  rw [Bool.eq_iff_iff]
  simp only [decide_eq_true_eq, Bool.not_eq_true', decide_eq_false_iff_not]
  rw [h3, Decidable.not_not, ← h2]
  omega
end Go.Proofs.Ytgbhpghgohggcaa

/- Plain: HouseTwice's and HouseWord's laws. -/
namespace Go.Proofs.Ytgbhpghgohggcaa
theorem note_done {h : Hs} (hm : Made h) (r : Rc) : (noteE h r).done = (refStep h r).done := by rw [note_step hm]
theorem ready_erase {l : List Rd} {d : Int} (hn : (l.map (·.deed)).Nodup) : readyE (l.eraseP (isD d)) d = false := by
  induction l with
  | nil => rfl
  | cons x l ih =>
    rw [List.map_cons, List.nodup_cons] at hn
    by_cases h : isD d x = true
    · rw [List.eraseP_cons_of_pos h]
      unfold readyE
      rw [List.any_eq_false]
      intro y hy hd
      have h1 : x.deed = d := by simpa [isD] using h
      have h2 : y.deed = d := by simpa [isD] using hd
      exact hn.1 (List.mem_map.2 ⟨y, hy, by rw [h1, h2]⟩)
    · rw [List.eraseP_cons_of_neg h]
      have := ih hn.2
      unfold readyE at this ⊢
      rw [List.any_cons, this]
      simpa using h
theorem ready_other {l : List Rd} {d e : Int} (h : readyE l d = true) (hne : e ≠ d) : readyE (l.eraseP (isD e)) d = true := by
  unfold readyE at h ⊢
  rw [List.any_eq_true] at h ⊢
  obtain ⟨x, hx, hd⟩ := h
  refine ⟨x, ?_, hd⟩
  rw [List.mem_eraseP_of_neg]
  · exact hx
  · have : x.deed = d := by simpa [isD] using hd
    simp [isD, this]; exact fun e' => hne e'.symm
theorem find_ready {l : List Rd} {d : Int} (h : readyE l d = true) : ∃ x, l.find? (isD d) = some x := by
  rw [readyE_find] at h
  exact Option.isSome_iff_exists.1 h
theorem find_unready {l : List Rd} {d : Int} (h : readyE l d = false) : l.find? (isD d) = none := by
  rw [readyE_find] at h
  simpa using h
theorem who_ready {l : List Rd} {d key : Int} (hd : 0 ≤ d) (h : readyE l d = false) : whoE l key ≠ d := by
  rcases who_mem l key with h2 | ⟨y, hy, h2⟩
  · omega
  · intro e
    unfold readyE at h
    rw [List.any_eq_false] at h
    exact h y hy (by simp [isD]; omega)
/-- what a note makes of a house, told by kinds -/
theorem note1 {h : Hs} (hm : Made h) {d : Int} (ps : List Pt) (hr : readyE h.ready d = false) : (noteE h ⟨1, d, ps⟩).ready = h.ready ++ [⟨d, ps⟩] ∧ (noteE h ⟨1, d, ps⟩).done = h.done := by
  rw [note_ready hm, note_done hm, step_ready, step_done]
  simp [find_unready hr]
theorem note2 {h : Hs} (hm : Made h) {d : Int} (hr : readyE h.ready d = true) : (noteE h ⟨2, d, []⟩).ready = h.ready.eraseP (isD d) ∧ (noteE h ⟨2, d, []⟩).done = h.done ++ [d] := by
  obtain ⟨x, hx⟩ := find_ready hr
  rw [note_ready hm, note_done hm, step_ready, step_done]
  simp [hx]
theorem note3 {h : Hs} (hm : Made h) {d : Int} (hr : readyE h.ready d = true) : (noteE h ⟨3, d, []⟩).ready = h.ready.eraseP (isD d) ∧ (noteE h ⟨3, d, []⟩).done = h.done := by
  obtain ⟨x, hx⟩ := find_ready hr
  rw [note_ready hm, note_done hm, step_ready, step_done]
  simp [hx]
theorem twice_law {h : Hs} (hm : Made h) (hf : Fine h.ready) (me : Int) (m : Ms) : hearH (hearH h m) m = hearH h m ∧ (m.kind = 5 ∨ hearM (hearH h m) me m = hearM h me m) := by
  obtain ⟨kind, d, house, ps⟩ := m
  by_cases h1 : kind = 1
  · subst h1
    by_cases hv : voteE h d ps = 0 ∧ readyE h.ready d = false
    · have e : hearH h ⟨1, d, house, ps⟩ = noteE h ⟨1, d, ps⟩ := by unfold hearH; rw [if_pos rfl, if_pos hv]
      have hnd : d ∉ h.done := by
        intro hd
        have := hv.1
        unfold voteE at this
        rw [if_pos hd] at this
        cases this
      obtain ⟨e1, e2⟩ := note1 hm ps hv.2
      have er : readyE (noteE h ⟨1, d, ps⟩).ready d = true := by rw [e1]; simp [readyE, isD]
      have ev : voteE (noteE h ⟨1, d, ps⟩) d ps = 0 := by
        unfold voteE
        rw [e2, if_neg hnd, if_pos er]
      refine ⟨?_, .inr ?_⟩
      · rw [e]
        unfold hearH
        rw [if_pos rfl, if_neg (by show ¬ (_ ∧ readyE (noteE h ⟨1, d, ps⟩).ready d = false); rw [er]; simp)]
      · rw [e]
        unfold hearM
        simp only [if_true]
        rw [ev, hv.1]
    · have e : hearH h ⟨1, d, house, ps⟩ = h := by unfold hearH; rw [if_pos rfl, if_neg hv]
      rw [e, e]
      exact ⟨rfl, .inr rfl⟩
  by_cases h4 : kind = 4
  · subst h4
    by_cases hr : readyE h.ready d = true
    · have e : hearH h ⟨4, d, house, ps⟩ = noteE h ⟨2, d, []⟩ := by unfold hearH; simp [hr]
      obtain ⟨e1, e2⟩ := note2 hm hr
      have er : readyE (noteE h ⟨2, d, []⟩).ready d = false := by rw [e1]; exact ready_erase hf.nodup
      have e' : hearH (noteE h ⟨2, d, []⟩) ⟨4, d, house, ps⟩ = noteE h ⟨2, d, []⟩ := by
        unfold hearH
        simp [er]
      rw [e, e']
      refine ⟨rfl, .inr ?_⟩
      unfold hearM
      simp [e', e]
    · have e : hearH h ⟨4, d, house, ps⟩ = h := by unfold hearH; simp [hr]
      rw [e, e]
      exact ⟨rfl, .inr rfl⟩
  by_cases h5 : kind = 5
  · subst h5
    by_cases hr : readyE h.ready d = true
    · have e : hearH h ⟨5, d, house, ps⟩ = noteE h ⟨3, d, []⟩ := by unfold hearH; simp [hr]
      obtain ⟨e1, e2⟩ := note3 hm hr
      have er : readyE (noteE h ⟨3, d, []⟩).ready d = false := by rw [e1]; exact ready_erase hf.nodup
      rw [e]
      refine ⟨?_, .inl rfl⟩
      unfold hearH
      simp [er]
    · have e : hearH h ⟨5, d, house, ps⟩ = h := by unfold hearH; simp [hr]
      rw [e, e]
      exact ⟨rfl, .inl rfl⟩
  · have e : hearH h ⟨kind, d, house, ps⟩ = h := by unfold hearH; simp [h1, h4, h5]
    rw [e, e]
    exact ⟨rfl, .inr rfl⟩
/-- who said yes to a deed is ready for it, or did it -/
def Kept (h : Hs) (d : Int) : Prop := readyE h.ready d = true ∨ d ∈ h.done
theorem kept_hear {h : Hs} (hm : Made h) {d : Int} (hk : Kept h d) {m : Ms} (ha : ¬ (m.deed = d ∧ m.kind = 5)) : Kept (hearH h m) d := by
  obtain ⟨kind, e, house, ps⟩ := m
  by_cases h1 : kind = 1
  · subst h1
    by_cases hv : voteE h e ps = 0 ∧ readyE h.ready e = false
    · rw [show hearH h ⟨1, e, house, ps⟩ = noteE h ⟨1, e, ps⟩ by unfold hearH; rw [if_pos rfl, if_pos hv]]
      obtain ⟨e1, e2⟩ := note1 hm ps hv.2
      unfold Kept
      rw [e1, e2]
      rcases hk with hk | hk
      · refine .inl ?_
        unfold readyE at hk ⊢
        rw [List.any_append, hk]; rfl
      · exact .inr hk
    · rw [show hearH h ⟨1, e, house, ps⟩ = h by unfold hearH; rw [if_pos rfl, if_neg hv]]
      exact hk
  by_cases h4 : kind = 4
  · subst h4
    by_cases hr : readyE h.ready e = true
    · rw [show hearH h ⟨4, e, house, ps⟩ = noteE h ⟨2, e, []⟩ by unfold hearH; simp [hr]]
      obtain ⟨e1, e2⟩ := note2 hm hr
      unfold Kept
      rw [e1, e2]
      by_cases hd : e = d
      · subst hd
        exact .inr (by simp)
      · rcases hk with hk | hk
        · exact .inl (ready_other hk hd)
        · exact .inr (by simp [hk])
    · rw [show hearH h ⟨4, e, house, ps⟩ = h by unfold hearH; simp [hr]]
      exact hk
  by_cases h5 : kind = 5
  · subst h5
    have hd : e ≠ d := fun h => ha ⟨h, rfl⟩
    by_cases hr : readyE h.ready e = true
    · rw [show hearH h ⟨5, e, house, ps⟩ = noteE h ⟨3, e, []⟩ by unfold hearH; simp [hr]]
      obtain ⟨e1, e2⟩ := note3 hm hr
      unfold Kept
      rw [e1, e2]
      rcases hk with hk | hk
      · exact .inl (ready_other hk hd)
      · exact .inr hk
    · rw [show hearH h ⟨5, e, house, ps⟩ = h by unfold hearH; simp [hr]]
      exact hk
  · rw [show hearH h ⟨kind, e, house, ps⟩ = h by unfold hearH; simp [h1, h4, h5]]
    exact hk
theorem kept_yes {h : Hs} (hm : Made h) {me : Int} {m : Ms} (hk : m.kind = 1) {x : Ms} (hx : hearM h me m = [x]) (h2 : x.kind = 2) : Kept (hearH h m) m.deed := by
  obtain ⟨kind, d, house, ps⟩ := m
  simp only at hk
  subst hk
  unfold hearM at hx
  rw [if_pos rfl] at hx
  split at hx
  · cases hx
  split at hx
  · rename_i hv0
    simp only at hv0
    by_cases hv : voteE h d ps = 0 ∧ readyE h.ready d = false
    · rw [show hearH h ⟨1, d, house, ps⟩ = noteE h ⟨1, d, ps⟩ by unfold hearH; rw [if_pos rfl, if_pos hv]]
      obtain ⟨e1, e2⟩ := note1 hm ps hv.2
      exact .inl (by rw [e1]; simp [readyE, isD])
    · rw [show hearH h ⟨1, d, house, ps⟩ = h by unfold hearH; rw [if_pos rfl, if_neg hv]]
      refine .inl ?_
      cases hr : readyE h.ready d with
      | true => rfl
      | false => exact absurd ⟨hv0, hr⟩ hv
  · unfold sayE at hx
    obtain rfl : _ = x := by simpa using hx
    simp at h2
theorem word_law {h : Hs} (hm : Made h) (hf : Fine h.ready) {d me : Int} (hd : 0 ≤ d) (hk : Kept h d) (house key : Int) :
    d ∈ (hearH h ⟨4, d, house, []⟩).done ∧ hearM h me ⟨4, d, house, []⟩ = sayE 6 d me ∧ whoE (hearH h ⟨4, d, house, []⟩).ready key ≠ d := by
  by_cases hr : readyE h.ready d = true
  · have e : hearH h ⟨4, d, house, []⟩ = noteE h ⟨2, d, []⟩ := by unfold hearH; simp [hr]
    obtain ⟨e1, e2⟩ := note2 hm hr
    have hin : d ∈ (noteE h ⟨2, d, []⟩).done := by rw [e2]; simp
    refine ⟨by rw [e]; exact hin, ?_, ?_⟩
    · unfold hearM
      rw [e]
      simp [hin]
    · rw [e, e1]
      exact who_ready hd (ready_erase hf.nodup)
  · have e : hearH h ⟨4, d, house, []⟩ = h := by unfold hearH; simp [hr]
    have hin : d ∈ h.done := by
      rcases hk with hk | hk
      · exact absurd hk hr
      · exact hk
    refine ⟨by rw [e]; exact hin, ?_, ?_⟩
    · unfold hearM
      rw [e]
      simp [hin]
    · rw [e]
      exact who_ready hd (by simpa using hr)
theorem fine_hear {h : Hs} (hm : Made h) (hf : Fine h.ready) {m : Ms} (hd : 0 ≤ m.deed) : Fine (hearH h m).ready := by
  unfold hearH
  split
  · split
    · rw [note_ready hm]; exact fine_step hf hd
    · exact hf
  · split
    · split
      · rw [note_ready hm]; exact fine_step hf hd
      · exact hf
    · split
      · split
        · rw [note_ready hm]; exact fine_step hf hd
        · exact hf
      · exact hf
end Go.Proofs.Ytgbhpghgohggcaa

/- Walks: Hear of the document's answer, whatever comes. -/
namespace Go.Proofs.Ytgbhpghgohggcaa
open Go.RowKit
theorem ref_hear {c : CM} {v vm : Value} {h : Hs} {m : Ms} {me : Int} (w : World) (hc : Sub c w.cell?) (hv : Of Ty.hs c v h) (hm : Of Ty.ms c vm m) (hk : ∀ x ∈ h.log, KeysOk x.parts) (hkm : KeysOk m.parts) (hn : (h.log.length + 1) * 40 ≤ 140737488355328) (hme : I64 me) (hmd : Made h) :
    Calls Try.prog 35 #[v, .int .i64 me, vm] w fun e w' => ∃ v1 v2, e = .returned (.tuple #[v1, v2]) ∧ Of Ty.hs (ov c w w') v1 (hearH h m) ∧ Sl Ty.ms (ov c w w') v2 (hearM h me m) ∧ Grow w w' := by
  obtain ⟨kd, dd, hh, ps⟩ := m
  by_cases h1 : kd = 1
  · subst h1
    by_cases e10 : voteE h dd ps = 10
    · exact hear_prep10 w hc hv hm hk hkm hn hme e10
    by_cases e0 : voteE h dd ps = 0
    · cases rd : readyE h.ready dd with
      | true => exact hear_prepR w hc hv hm hk hkm hn hme e0 rd
      | false => exact hear_prepN w hc hv hm hk hkm hn hme e0 rd
    · exact hear_prepF w hc hv hm hk hkm hn hme e10 e0
  by_cases h4 : kd = 4
  · subst h4
    cases rd : readyE h.ready dd with
    | true => exact hear_com4R w hc hv hm hk hkm hn hme rd (by rw [(note2 hmd rd).2]; simp)
    | false =>
      by_cases hin : dd ∈ h.done
      · exact hear_com4D w hc hv hm hk hkm hn hme rd hin
      · exact hear_com4N w hc hv hm hk hkm hn hme rd hin
  by_cases h5 : kd = 5
  · subst h5
    cases rd : readyE h.ready dd with
    | true => exact hear_abo5R w hc hv hm hk hkm hn hme rd
    | false => exact hear_abo5N w hc hv hm hk hkm hn hme rd
  · exact hear_oth w hc hv hm hk hkm hn hme h1 h4 h5
end Go.Proofs.Ytgbhpghgohggcaa

/- The law LocksOne, walked. -/
namespace Go.Proofs.Ytgbhpghgohggcaa
open Go.RowKit
theorem hear_log {h : Hs} {m : Ms} (hk : ∀ x ∈ h.log, KeysOk x.parts) (hm : KeysOk m.parts) : (∀ x ∈ (hearH h m).log, KeysOk x.parts) ∧ (hearH h m).log.length ≤ h.log.length + 1 := by
  have hn : ∀ r : Rc, KeysOk r.parts → (∀ x ∈ (noteE h r).log, KeysOk x.parts) ∧ (noteE h r).log.length ≤ h.log.length + 1 := by
    intro r hr
    have e : (noteE h r).log = h.log ++ [r] := log_house _
    rw [e]
    refine ⟨fun x hx => ?_, by simp⟩
    rcases List.mem_append.1 hx with hx | hx
    · exact hk x hx
    · rw [List.mem_singleton.1 hx]; exact hr
  have h0 : KeysOk ([] : List Pt) := by intro p hp; simp at hp
  unfold hearH
  split
  · split
    · exact hn _ hm
    · exact ⟨hk, by omega⟩
  · split
    · split
      · exact hn _ h0
      · exact ⟨hk, by omega⟩
    · split
      · split
        · exact hn _ h0
        · exact ⟨hk, by omega⟩
      · exact ⟨hk, by omega⟩
theorem keysOf_take {l : List Rd} {k : Nat} (hlt : k < l.length) : keysOf (l.take (k + 1)) = keysOf (l.take k) ++ l[k].parts.map (·.k) := by
  rw [List.take_succ_eq_append_getElem hlt, keysOf_snoc]
/-- a house of the call's own, in a box -/
structure InBox (wr : World) (B : Nat) (h : Hs) (cs : Array Value) : Prop where
  row : wr.heap[B]? = some (.cells cs 29 (0, 0))
  of : Of Ty.hs (wo B wr.cell?) (.agg cs) h
theorem InBox.cells {wr : World} {B : Nat} {h : Hs} {cs : Array Value} (k : InBox wr B h cs) : ∃ al cl ar cr ad cd, cs = #[.slice al h.log.length cl, .int .i64 h.sums.a, .int .i64 h.sums.b, .int .i64 h.sums.c, .int .i64 h.sums.d, .slice ar h.ready.length cr, .slice ad h.done.length cd] := by
  obtain ⟨al, cl, ar, cr, ad, cd, e⟩ := k.of.hs_form
  exact ⟨al, cl, ar, cr, ad, cd, by simpa using e⟩
theorem InBox.grow {wr w' : World} {B : Nat} {h : Hs} {cs : Array Value} (k : InBox wr B h cs) (hg : Grow wr w') : InBox w' B h cs := ⟨row_grow k.row hg, k.of.mono (wo_mono hg.sub)⟩
/-- a call gave a house, that is stored into the box -/
theorem InBox.put {wr W w1 w2 : World} {B : Nat} {h' : Hs} {cs' : Array Value} (hB : B < wr.heap.size) (hg : Grow wr W) (h1 : Grow W w1) (hof : Of Ty.hs (ov (wo B wr.cell?) W w1) (.agg cs') h') (hr : w2.heap[B]? = some (.cells cs' 29 (0, 0))) (hb : w1.grownBy w2 (some B)) : InBox w2 B h' cs' := by
  refine ⟨hr, hof.mono fun a u e => ?_⟩
  have hs := hg.size
  unfold ov at e
  split at e
  · have hne : a.block ≠ B := by
      intro hx
      unfold wo at e
      rw [if_pos hx] at e; cases e
    have e1 := (hg.trans h1).sub _ _ (wo_sub _ _ _ _ e)
    unfold wo
    rw [if_neg hne, by_cell hb (World.block_lt_of_cell? w1 a e1) hne]
    exact e1
  · have hne : a.block ≠ B := by omega
    unfold wo
    rw [if_neg hne, by_cell hb (World.block_lt_of_cell? w1 a e) hne]
    exact e
set_option maxRecDepth 100000 in
set_option maxHeartbeats 2000000 in
theorem locksOne_walk {v : Value} {ms : List Ms} {key : Int} (w : World) (hv : Sl Ty.ms w.cell? v ms) (hs : ms.length * 48 ≤ 140737488351232) (hkey : I64 key) :
    Calls Try.prog 4 #[v, .int .i64 key] w fun e w' => e = .returned (.bool true) ∧ Grow w w' := by
  have HA := Lib.hid (alive6 w)
  have HK := Lib.hid hkey
  have HS := Lib.hid hs
  obtain ⟨a, cap, rfl, h1, h2, -, hel⟩ := hv
  unfold maxLen at h2
  clear hs hkey
  go_enter Try.func4, Try.ntmps4
  go_wp2_with fail
  refine HA.out.mono ?_
  rintro e w1 ⟨rfl, hb1⟩
  have HB1 := Lib.hid hb1
  have z1 := hb1.size
  clear hb1
  go_wp2
  go_loopw [17] (fun i wr => ∃ (k : Nat) (h : Hs) (cs : Array Value), k ≤ ms.length ∧ i = .int .i64 k ∧ Grow w wr ∧ InBox wr w1.heap.size h cs ∧ Calm h ∧ (∀ x ∈ h.log, KeysOk x.parts) ∧ h.log.length ≤ k) (fun i _ => ms.length - (intOf i).toNat)
  case atStart =>
    refine ⟨0, ⟨[], ⟨0, 0, 0, 0⟩, [], []⟩, _, by omega, rfl, HB1.out.alloc _, ⟨row_new _ _, ⟨_, rfl, _, _, _, rfl, Sl.nil _ _, zero_ok, zero_ok, zero_ok, zero_ok, Sl.nil _ _, Sl.nil _ _⟩⟩, calm_zero, by simp, by simp⟩
  case round =>
    obtain ⟨k, h, cs, hk', rfl, hb, hbox, hcalm, hkeys, hlen⟩ := hrel
    obtain ⟨al, cl, ar, cr, ad, cd, rfl⟩ := hbox.cells
    have HBX := Lib.hid hbox
    have hzB : w1.heap.size < wr.heap.size := (Array.getElem?_eq_some_iff.1 hbox.row).1
    obtain ⟨g0, g1, g2, g3, g4, g5, g6⟩ := cells7 hbox.row
    by_cases hlt : k < ms.length
    · obtain ⟨b, o, vp, rfl, c0, c1, c2, c3, i0, i1, i2, hP⟩ := Mss.at_ hel k hlt
      have hPb := hP
      obtain ⟨ap, cp, rfl, -⟩ := hPb
      replace c0 := hb.sub _ _ c0
      replace c1 := hb.sub _ _ c1
      replace c2 := hb.sub _ _ c2
      replace c3 := hb.sub _ _ c3
      have hlen48 : (h.log.length + 1) * 40 ≤ 140737488355328 := by have := HS.out; omega
      clear hel
      generalize ms[k] = m at *
      have hm0 : Of Ty.ms w.cell? (.agg #[.int .i64 m.kind, .int .i64 m.deed, .int .i64 m.house, .slice ap m.parts.length cp]) m := ⟨_, rfl, _, rfl, i0, i1, i2, hP⟩
      have HWR := Lib.hid (fun (W : World) (hW : Grow wr W) => ref_wrong W (hm0.mono (hb.trans hW).sub))
      by_cases hw : wrongM m = 0
      · by_cases hh : m.house = 0
        · have hR := right_m.1 hw
          have HHR := Lib.hid (fun (W : World) (hW : Grow wr W) => ref_hear (c := wo w1.heap.size wr.cell?) (me := 0) W ((wo_sub _ _).trans hW.sub) hbox.of (hm0.mono ((wo_lt (Sub.refl _) z1).trans (wo_mono hb.sub))) hkeys hR.keys hlen48 zero_ok hcalm.made)
          have HC' := Lib.hid (calm_hear hcalm hR)
          have HL' := Lib.hid (hear_log hkeys hR.keys)
          have hb0 : (wrongM m != 0) = false := by simp [hw]
          have hb2 : (m.house != 0) = false := by simp [hh]
          have HLEN := Lib.hid hlen
          clear hw hh hcalm hkeys hlen48 hbox hm0 hR hP
          generalize hearH h m = h' at *
          generalize wrongM m = wm at *
          go_wp2_with fail
          refine (HWR.out _ ((Grow.refl _).alloc _)).mono ?_
          rintro e w2 ⟨rfl, hb2'⟩
          have HG2 := Lib.hid (((Grow.refl wr).alloc (.cells #[.int .i64 m.kind, .int .i64 m.deed, .int .i64 m.house, .slice ap m.parts.length cp] 39)).trans hb2')
          obtain ⟨cw2, fw2⟩ := bcell hb2'
          have z2 : wr.heap.size < w2.heap.size := by have := hb2'.size; simp at this; omega
          clear hb2'
          go_wp2_with fail
          refine (HHR.out _ HG2.out).mono ?_
          rintro e w3 ⟨v1, v2, rfl, hof, -, hb3⟩
          obtain ⟨al2, cl2, ar2, cr2, ad2, cd2, rfl⟩ := hof.hs_form
          have HOF := Lib.hid hof
          have HB3 := Lib.hid hb3
          clear hof hb3 cw2 fw2
          go_wp2_with (first | (refine wpList_store_row rfl (.tmp 5) (.tmp 33) rfl rfl rfl (row_grow HBX.out.row (HG2.out.trans HB3.out)) info_hs rfl rfl ?_))
          intro w4 r4 g4
          have HX : Hid (InBox w4 w1.heap.size h' _) := Lib.hid (InBox.put hzB HG2.out HB3.out HOF.out r4 g4)
          have HG4 : Hid (Grow w w4) := Lib.hid ((hb.trans (HG2.out.trans HB3.out)).grown g4 (fun k hk => by simp at hk; omega))
          clear r4 g4
          go_wp2
          go_roundw
          case rel => exact ⟨k + 1, h', _, by omega, by go_num, HG4.out, HX.out, HC'.out, HL'.out.1, by have := HL'.out.2; have := HLEN.out; omega⟩
          case measure => simp [intOf]; omega
        · have hb0 : (wrongM m != 0) = false := by simp [hw]
          have hb2 : (m.house != 0) = true := by simp [hh]
          clear hw hh hcalm hkeys hlen48 hbox hm0 hP
          generalize wrongM m = wm at *
          go_wp2_with fail
          refine (HWR.out _ ((Grow.refl _).alloc _)).mono ?_
          rintro e w2 ⟨rfl, hb2'⟩
          have HG2 := Lib.hid (((Grow.refl wr).alloc (.cells #[.int .i64 m.kind, .int .i64 m.deed, .int .i64 m.house, .slice ap m.parts.length cp] 39)).trans hb2')
          obtain ⟨cw2, fw2⟩ := bcell hb2'
          have z2 : wr.heap.size < w2.heap.size := by have := hb2'.size; simp at this; omega
          clear hb2'
          go_wp2
          go_ret
          exact ⟨rfl, hb.trans HG2.out⟩
      · have hb0 : (wrongM m != 0) = true := by simp [hw]
        clear hw hcalm hkeys hlen48 hbox hm0 hP
        generalize wrongM m = wm at *
        go_wp2_with fail
        refine (HWR.out _ ((Grow.refl _).alloc _)).mono ?_
        rintro e w2 ⟨rfl, hb2'⟩
        have HG2 := Lib.hid (((Grow.refl wr).alloc (.cells #[.int .i64 m.kind, .int .i64 m.deed, .int .i64 m.house, .slice ap m.parts.length cp] 39)).trans hb2')
        obtain ⟨cw2, fw2⟩ := bcell hb2'
        have z2 : wr.heap.size < w2.heap.size := by have := hb2'.size; simp at this; omega
        clear hb2'
        go_wp2
        go_ret
        exact ⟨rfl, hb.trans HG2.out⟩
    · clear hel
      have hrd : Sl Ty.rd wr.cell? (.slice ar h.ready.length cr) h.ready := (Of.hs_log (hbox.of.mono (wo_sub _ _))).2.1
      obtain ⟨ar', cr', he, r1, r2, -, hrel'⟩ := hrd
      obtain ⟨rfl, rfl⟩ : ar = ar' ∧ cr = cr' := by simpa using he
      clear he
      unfold maxLen at r2
      have HCALM := Lib.hid hcalm
      clear hcalm hkeys hlen hbox
      go_wp2
      obtain ⟨wv, rfl⟩ : ∃ x : World, x = wr := ⟨_, rfl⟩
      go_loopw [8, 39] (fun s8 i wx => ∃ j : Nat, j ≤ h.ready.length ∧ i = .int .i64 j ∧ s8 = .int .i64 ((keysOf (h.ready.take j)).count key) ∧ Grow wv wx) (fun _ i _ => h.ready.length - (intOf i).toNat)
      case atStart => exact ⟨0, by omega, rfl, rfl, Grow.refl _⟩
      case round =>
        obtain ⟨wx, rfl⟩ : ∃ x : World, x = wr := ⟨_, rfl⟩
        obtain ⟨j, hj', rfl, rfl, hbx⟩ := hrel
        have HGX : Hid (∀ W, Grow wx W → W.cell? ⟨w1.heap.size, 0, none⟩ = some (.slice al h.log.length cl) ∧ W.cell? ⟨w1.heap.size, 1, none⟩ = some (.int .i64 h.sums.a) ∧ W.cell? ⟨w1.heap.size, 2, none⟩ = some (.int .i64 h.sums.b) ∧ W.cell? ⟨w1.heap.size, 3, none⟩ = some (.int .i64 h.sums.c) ∧ W.cell? ⟨w1.heap.size, 4, none⟩ = some (.int .i64 h.sums.d) ∧ W.cell? ⟨w1.heap.size, 5, none⟩ = some (.slice ar h.ready.length cr) ∧ W.cell? ⟨w1.heap.size, 6, none⟩ = some (.slice ad h.done.length cd) ∧ w1.heap.size < W.heap.size) := fun W hW => ⟨(hbx.trans hW).sub _ _ g0, (hbx.trans hW).sub _ _ g1, (hbx.trans hW).sub _ _ g2, (hbx.trans hW).sub _ _ g3, (hbx.trans hW).sub _ _ g4, (hbx.trans hW).sub _ _ g5, (hbx.trans hW).sub _ _ g6, by have := (hbx.trans hW).size; omega⟩
        have HOFX := Lib.hid (fun (W : World) (hW : Grow wx W) => (HBX.out.of.mono (wo_sub _ _)).mono (hbx.trans hW).sub)
        clear g0 g1 g2 g3 g4 g5 g6
        by_cases hlt2 : j < h.ready.length
        · obtain ⟨b2, o2, vp2, rfl, d0, d1, -, hP2⟩ := Rds.at_ hrel' j hlt2
          obtain ⟨ap2, cp2, rfl, p1, p2, -, hpel⟩ := hP2
          unfold maxLen at p2
          replace d0 := hbx.sub _ _ d0
          replace d1 := hbx.sub _ _ d1
          have HTK := Lib.hid (keysOf_take hlt2)
          have HWD : Hid (∀ p ∈ h.ready[j].parts, p.k = key → whoE h.ready key = h.ready[j].deed) := Lib.hid fun p hp e => who_deed HCALM.out.apart _ (List.getElem_mem hlt2) (List.mem_map.2 ⟨p, hp, e⟩)
          have HCB : Hid ((keysOf (h.ready.take j)).count key + (h.ready[j].parts.map (·.k)).count key ≤ 1) := by
            show _ ≤ _
            rw [← List.count_append, ← HTK.out]
            refine Nat.le_trans (List.Sublist.count_le key ?_) (cnt_le HCALM.out key)
            have : h.ready = h.ready.take (j + 1) ++ h.ready.drop (j + 1) := (List.take_append_drop _ _).symm
            conv => rhs; rw [this]
            unfold keysOf
            rw [List.flatMap_append]
            exact List.sublist_append_left _ _
          have HWH := Lib.hid (fun (W : World) (hW : Grow wx W) => locks_who (key := key) W (HOFX.out W hW))
          clear hrel'
          generalize h.ready[j] = r at *
          generalize hc0 : (keysOf (h.ready.take j)).count key = c0 at *
          have HC0 := Lib.hid hc0
          clear hc0
          obtain ⟨g0, g1, g2, g3, g4, g5, g6, gz⟩ := HGX.out wx (Grow.refl _)
          go_wp2
          go_loopw [8, 46] (fun s8 i wy => ∃ q : Nat, q ≤ r.parts.length ∧ i = .int .i64 q ∧ s8 = .int .i64 ((c0 + ((r.parts.take q).map (·.k)).count key : Nat) : Int) ∧ Grow (wx.alloc (.cells #[.int .i64 r.deed, .slice ap2 r.parts.length cp2] 45)) wy) (fun _ i _ => r.parts.length - (intOf i).toNat)
          case atStart => exact ⟨0, by omega, rfl, by simp, Grow.refl _⟩
          case round =>
            obtain ⟨wy, rfl⟩ : ∃ x : World, x = wr := ⟨_, rfl⟩
            obtain ⟨q, hq', rfl, rfl, hby⟩ := hrel
            clear g0 g1 g2 g3 g4 g5 g6 gz
            have x0 := hby.sub ⟨wx.heap.size, 0, none⟩ (.int .i64 r.deed) (by rw [World.cell?_alloc_new]; rfl)
            have xz : wx.heap.size < wy.heap.size := by have := hby.size; simp at this; omega
            have HBY := Lib.hid (((Grow.refl wx).alloc (.cells #[.int .i64 r.deed, .slice ap2 r.parts.length cp2] 45)).trans hby)
            by_cases hlt3 : q < r.parts.length
            · obtain ⟨b3, o3, rfl, e0, e1, e2, -, -, -⟩ := Pts.at_ hpel q hlt3
              replace e0 := HBY.out.sub _ _ (hbx.sub _ _ e0)
              replace e1 := HBY.out.sub _ _ (hbx.sub _ _ e1)
              replace e2 := HBY.out.sub _ _ (hbx.sub _ _ e2)
              have htk : ((r.parts.take (q + 1)).map (·.k)).count key = ((r.parts.take q).map (·.k)).count key + (if r.parts[q].k == key then 1 else 0) := by
                rw [List.take_succ_eq_append_getElem hlt3, List.map_append, List.count_append]
                simp [List.count_cons]
              have hcb : c0 + ((r.parts.take (q + 1)).map (·.k)).count key ≤ 1 := by
                refine Nat.le_trans (Nat.add_le_add_left (List.Sublist.count_le key ((List.take_sublist _ _).map _)) _) HCB.out
              have HTQ := Lib.hid htk
              rw [htk] at hcb
              have HWP : Hid (r.parts[q].k = key → whoE h.ready key = r.deed) := Lib.hid (HWD.out _ (List.getElem_mem hlt3))
              clear hpel htk
              generalize ((r.parts.take q).map (·.k)).count key = c1 at *
              generalize r.parts[q] = p at *
              cases ht : (p.k == key)
              · rw [ht] at hcb HTQ
                have HCC := Lib.hid hcb
                clear hcb
                go_wp2
                go_roundw
                case rel => exact ⟨q + 1, by omega, by go_num, by rw [HTQ.out]; simp, hby.alloc _⟩
                case measure => simp [intOf]; omega
              · rw [ht] at hcb HTQ
                have hwd := HWP.out (by simpa using ht)
                simp only [if_true] at hcb HTQ
                have HWW := Lib.hid (fun (W : World) (hW : Grow wx W) => HWH.out W hW)
                rw [hwd] at HWW
                have HSS : Hid (∀ W, Grow (wy.alloc (.cells #[.int .i64 p.h, .int .i64 p.k, .int .i64 p.n] 32)) W → W.cell? ⟨w1.heap.size, 0, none⟩ = some (.slice al h.log.length cl) ∧ W.cell? ⟨w1.heap.size, 1, none⟩ = some (.int .i64 h.sums.a) ∧ W.cell? ⟨w1.heap.size, 2, none⟩ = some (.int .i64 h.sums.b) ∧ W.cell? ⟨w1.heap.size, 3, none⟩ = some (.int .i64 h.sums.c) ∧ W.cell? ⟨w1.heap.size, 4, none⟩ = some (.int .i64 h.sums.d) ∧ W.cell? ⟨w1.heap.size, 5, none⟩ = some (.slice (some ⟨b2, o2, none⟩) h.ready.length cr) ∧ W.cell? ⟨w1.heap.size, 6, none⟩ = some (.slice ad h.done.length cd) ∧ W.cell? ⟨wx.heap.size, 0, none⟩ = some (.int .i64 r.deed)) := fun W hW => by
                  have hg := HBY.out.trans (((Grow.refl wy).alloc _).trans hW)
                  obtain ⟨g0, g1, g2, g3, g4, g5, g6, -⟩ := HGX.out W hg
                  exact ⟨g0, g1, g2, g3, g4, g5, g6, (((Grow.refl wy).alloc _).trans hW).sub _ _ x0⟩
                have HWV := Lib.hid (fun (W : World) (hW : Grow (wy.alloc (.cells #[.int .i64 p.h, .int .i64 p.k, .int .i64 p.n] 32)) W) => HWW.out W (HBY.out.trans (((Grow.refl wy).alloc _).trans hW)))
                have HCC := Lib.hid hcb
                clear HWW hwd
                go_wp2
                go_region_held3 (fun w' => w'.cell? ⟨w1.heap.size, 0, none⟩ = some (.slice al h.log.length cl) ∧ w'.cell? ⟨w1.heap.size, 1, none⟩ = some (.int .i64 h.sums.a) ∧ w'.cell? ⟨w1.heap.size, 2, none⟩ = some (.int .i64 h.sums.b) ∧ w'.cell? ⟨w1.heap.size, 3, none⟩ = some (.int .i64 h.sums.c) ∧ w'.cell? ⟨w1.heap.size, 4, none⟩ = some (.int .i64 h.sums.d) ∧ w'.cell? ⟨w1.heap.size, 5, none⟩ = some (.slice (some ⟨b2, o2, none⟩) h.ready.length cr) ∧ w'.cell? ⟨w1.heap.size, 6, none⟩ = some (.slice ad h.done.length cd) ∧ w'.cell? ⟨wx.heap.size, 0, none⟩ = some (.int .i64 r.deed)) (first | assumption | exact HSS.out _ (by repeat (first | with_reducible assumption | with_reducible exact Grow.refl _ | with_reducible apply Grow.drewN | with_reducible apply Grow.drew | with_reducible apply Grow.alloc | (refine Grow.trans ?_ (by with_reducible assumption))))) (first | (go_at_call 31; refine (HWV.out _ (by repeat (first | with_reducible assumption | with_reducible exact Grow.refl _ | with_reducible apply Grow.drewN | with_reducible apply Grow.drew | with_reducible apply Grow.alloc | (refine Grow.trans ?_ (by with_reducible assumption))))).mono ?_; rintro e w4 ⟨rfl, hb4⟩))
                go_wp2
                go_roundw
                case rel => exact ⟨q + 1, by omega, by go_num, by rw [HTQ.out]; simp; omega, hby.trans (by repeat (first | with_reducible assumption | with_reducible exact Grow.refl _ | with_reducible apply Grow.drewN | with_reducible apply Grow.drew | with_reducible apply Grow.alloc | (refine Grow.trans ?_ (by with_reducible assumption))))⟩
                case measure => simp [intOf]; omega
            · obtain rfl : q = r.parts.length := by omega
              clear hpel
              go_wp2
              go_roundw
              case rel => exact ⟨j + 1, by omega, by go_num, by rw [HTK.out, List.count_append, HC0.out, List.take_of_length_le (Nat.le_refl _)], hbx.trans HBY.out⟩
              case measure => simp [intOf]; omega
        · have hcnt : (keysOf (h.ready.take j)).count key = cntKey key h.ready := by rw [List.take_of_length_le (by omega)]; rfl
          rw [hcnt]
          have hle := cnt_le HCALM.out key
          have hfr := cnt_free HCALM.out key
          have HFR := Lib.hid (fun (v' : Value) (W : World) (hW : Grow wx W) (hp : Pts W.cell? v' [⟨0, key, 0⟩]) => locks_free W (HOFX.out W hW) hp)
          obtain ⟨g0, g1, g2, g3, g4, g5, g6, gz⟩ := HGX.out wx (Grow.refl _)
          clear hrel' hcnt
          generalize cntKey key h.ready = n at *
          generalize freeE h.ready [⟨0, key, 0⟩] = fr at *
          have HP1 := Lib.hid (pts_one 0 key 0 zero_ok HK.out zero_ok wx)
          have hn : n = 0 ∨ n = 1 := by omega
          rcases hn with rfl | rfl
          · obtain rfl : fr = true := by simpa using hfr
            clear hle hfr
            go_wp2_with fail
            refine (HFR.out _ _ ((Grow.refl _).alloc _) (HP1.out _ _ (Grow.refl _))).mono ?_
            rintro e w4 ⟨rfl, hb4⟩
            go_wp2
            go_ret
            exact ⟨rfl, hb.trans (hbx.trans (((Grow.refl _).alloc _).trans hb4))⟩
          · obtain rfl : fr = false := by simpa using hfr
            clear hle hfr
            go_wp2_with fail
            refine (HFR.out _ _ ((Grow.refl _).alloc _) (HP1.out _ _ (Grow.refl _))).mono ?_
            rintro e w4 ⟨rfl, hb4⟩
            go_wp2
            go_ret
            exact ⟨rfl, hb.trans (hbx.trans (((Grow.refl _).alloc _).trans hb4))⟩
end Go.Proofs.Ytgbhpghgohggcaa

/- Plain: how large a house's log is behind a message. -/
namespace Go.Proofs.Ytgbhpghgohggcaa
open Go.RowKit
theorem hear_small {h : Hs} {m : Ms} (hk : ∀ x ∈ h.log, x.parts.length ≤ 4) (hm : m.parts.length ≤ 4) : ∀ x ∈ (hearH h m).log, x.parts.length ≤ 4 := by
  have hn : ∀ r : Rc, r.parts.length ≤ 4 → ∀ x ∈ (noteE h r).log, x.parts.length ≤ 4 := by
    intro r hr x hx
    have e : (noteE h r).log = h.log ++ [r] := log_house _
    rw [e] at hx
    rcases List.mem_append.1 hx with hx | hx
    · exact hk x hx
    · rw [List.mem_singleton.1 hx]; exact hr
  unfold hearH
  split
  · split
    · exact hn _ hm
    · exact hk
  · split
    · split
      · exact hn _ (by simp)
      · exact hk
    · split
      · split
        · exact hn _ (by simp)
        · exact hk
      · exact hk
theorem RightM.len' {m : Ms} (h : RightM m) : m.parts.length ≤ 4 := by
  by_cases hk : m.kind = 1
  · exact (wrong_ok (h.parts hk).1).2.1
  · rw [h.none hk]; simp
/-- what a walk asks of a house that hears -/
structure HrOk (h : Hs) (n : Nat) : Prop where
  keys : ∀ x ∈ h.log, KeysOk x.parts
  small : ∀ x ∈ h.log, x.parts.length ≤ 4
  len : h.log.length ≤ n
  made : Made h
  fine : Fine h.ready
theorem HrOk.hear {h : Hs} {n : Nat} (o : HrOk h n) {m : Ms} (hm : RightM m) : HrOk (hearH h m) (n + 1) where
  keys := (hear_log o.keys hm.keys).1
  small := hear_small o.small (by have := hm.len'; omega)
  len := by have := (hear_log o.keys hm.keys).2; have := o.len; omega
  made := hear_made o.made m
  fine := fine_hear o.made o.fine hm.deed.1
end Go.Proofs.Ytgbhpghgohggcaa

/- Walks: SameHouse of the document's answer. -/
namespace Go.Proofs.Ytgbhpghgohggcaa
open Go.RowKit
set_option maxRecDepth 100000 in
set_option maxHeartbeats 4000000 in
theorem ref_sameHouse {v v' : Value} {h h' : Hs} (w : World) (hv : Of Ty.hs w.cell? v h) (hv' : Of Ty.hs w.cell? v' h') :
    Calls Try.prog 37 #[v, v'] w fun e w' => e = .returned (.bool (decide (h = h'))) ∧ Grow w w' := by
  obtain ⟨al, cl, ar, cr, ad, cd, rfl⟩ := hv.hs_form
  obtain ⟨al2, cl2, ar2, cr2, ad2, cd2, rfl⟩ := hv'.hs_form
  have k := Of.hs_log hv
  have k' := Of.hs_log hv'
  have HSL := Lib.hid (fun (W : World) (hW : Grow w W) => ref_sameLog W (k.1.mono hW.sub) (k'.1.mono hW.sub))
  have HSR := Lib.hid (fun (W : World) (hW : Grow w W) => ref_sameReady W (k.2.1.mono hW.sub) (k'.2.1.mono hW.sub))
  have HSI := Lib.hid (fun (W : World) (hW : Grow w W) => ref_sameInts W (k.2.2.mono hW.sub) (k'.2.2.mono hW.sub))
  have HG0 : Hid (Grow w ((w.alloc (.cells #[.slice al h.log.length cl, .int .i64 h.sums.a, .int .i64 h.sums.b, .int .i64 h.sums.c, .int .i64 h.sums.d, .slice ar h.ready.length cr, .slice ad h.done.length cd] 29)).alloc (.cells #[.slice al2 h'.log.length cl2, .int .i64 h'.sums.a, .int .i64 h'.sums.b, .int .i64 h'.sums.c, .int .i64 h'.sums.d, .slice ar2 h'.ready.length cr2, .slice ad2 h'.done.length cd2] 29))) := Lib.hid (((Grow.refl w).alloc _).alloc _)
  clear hv hv' k k'
  by_cases hl : h.log = h'.log
  · skip
    by_cases hs : h.sums = h'.sums
    · skip
      by_cases hr : h.ready = h'.ready
      · skip
        by_cases hd : h.done = h'.done
        · skip
          have HE : Hid (decide (h = h') = true) := by show _ = _; rw [decide_eq_true_eq]; cases h; cases h'; simp_all
          have DL := Lib.hid (decide_eq_true hl)
          have HQ : ∀ u : World, (binOp .eql 25 (.agg #[.int .i64 h.sums.a, .int .i64 h.sums.b, .int .i64 h.sums.c, .int .i64 h.sums.d]) (.agg #[.int .i64 h'.sums.a, .int .i64 h'.sums.b, .int .i64 h'.sums.c, .int .i64 h'.sums.d])).run Try.prog u = .ok (.bool true) u := fun u => by rw [eql_sm, decide_eq_true hs]
          have hg := guard_sm
          have DR := Lib.hid (decide_eq_true hr)
          have DD := Lib.hid (decide_eq_true hd)
          clear hl hs hr hd
          go_enter Try.func37, Try.ntmps37
          go_wp2_with fail
          refine (HSL.out _ HG0.out).mono ?_
          rw [DL.out]
          rintro e w1 ⟨rfl, hbw1⟩
          (obtain ⟨cw1, fw1⟩ := bcell hbw1; have zw10 : w.heap.size < w1.heap.size := (by have := hbw1.size; (try simp at this); omega); have zw11 : w.heap.size + 1 < w1.heap.size := (by have := hbw1.size; (try simp at this); omega); have Gw1 := Lib.hid hbw1; clear hbw1)
          go_wp2_with fail
          refine (HSR.out _ (HG0.out.trans Gw1.out)).mono ?_
          rw [DR.out]
          rintro e w2 ⟨rfl, hbw2⟩
          (obtain ⟨cw2, fw2⟩ := bcell hbw2; have zw20 : w.heap.size < w2.heap.size := (by have := hbw2.size; (try simp at this); omega); have zw21 : w.heap.size + 1 < w2.heap.size := (by have := hbw2.size; (try simp at this); omega); have Gw2 := Lib.hid hbw2; clear hbw2)
          go_wp2_with fail
          refine (HSI.out _ ((HG0.out.trans Gw1.out).trans Gw2.out)).mono ?_
          rw [DD.out]
          rintro e w3 ⟨rfl, hbw3⟩
          (obtain ⟨cw3, fw3⟩ := bcell hbw3; have zw30 : w.heap.size < w3.heap.size := (by have := hbw3.size; (try simp at this); omega); have zw31 : w.heap.size + 1 < w3.heap.size := (by have := hbw3.size; (try simp at this); omega); have Gw3 := Lib.hid hbw3; clear hbw3)
          go_wp2
          go_ret
          exact ⟨ret_bool HE.out.symm, (((HG0.out.trans Gw1.out).trans Gw2.out).trans Gw3.out)⟩
        · skip
          have HE : Hid (decide (h = h') = false) := by show _ = _; rw [decide_eq_false_iff_not]; rintro rfl; exact hd rfl
          have DL := Lib.hid (decide_eq_true hl)
          have HQ : ∀ u : World, (binOp .eql 25 (.agg #[.int .i64 h.sums.a, .int .i64 h.sums.b, .int .i64 h.sums.c, .int .i64 h.sums.d]) (.agg #[.int .i64 h'.sums.a, .int .i64 h'.sums.b, .int .i64 h'.sums.c, .int .i64 h'.sums.d])).run Try.prog u = .ok (.bool true) u := fun u => by rw [eql_sm, decide_eq_true hs]
          have hg := guard_sm
          have DR := Lib.hid (decide_eq_true hr)
          have DD := Lib.hid (decide_eq_false hd)
          clear hl hs hr hd
          go_enter Try.func37, Try.ntmps37
          go_wp2_with fail
          refine (HSL.out _ HG0.out).mono ?_
          rw [DL.out]
          rintro e w1 ⟨rfl, hbw1⟩
          (obtain ⟨cw1, fw1⟩ := bcell hbw1; have zw10 : w.heap.size < w1.heap.size := (by have := hbw1.size; (try simp at this); omega); have zw11 : w.heap.size + 1 < w1.heap.size := (by have := hbw1.size; (try simp at this); omega); have Gw1 := Lib.hid hbw1; clear hbw1)
          go_wp2_with fail
          refine (HSR.out _ (HG0.out.trans Gw1.out)).mono ?_
          rw [DR.out]
          rintro e w2 ⟨rfl, hbw2⟩
          (obtain ⟨cw2, fw2⟩ := bcell hbw2; have zw20 : w.heap.size < w2.heap.size := (by have := hbw2.size; (try simp at this); omega); have zw21 : w.heap.size + 1 < w2.heap.size := (by have := hbw2.size; (try simp at this); omega); have Gw2 := Lib.hid hbw2; clear hbw2)
          go_wp2_with fail
          refine (HSI.out _ ((HG0.out.trans Gw1.out).trans Gw2.out)).mono ?_
          rw [DD.out]
          rintro e w3 ⟨rfl, hbw3⟩
          (obtain ⟨cw3, fw3⟩ := bcell hbw3; have zw30 : w.heap.size < w3.heap.size := (by have := hbw3.size; (try simp at this); omega); have zw31 : w.heap.size + 1 < w3.heap.size := (by have := hbw3.size; (try simp at this); omega); have Gw3 := Lib.hid hbw3; clear hbw3)
          go_wp2
          go_ret
          exact ⟨ret_bool HE.out.symm, (((HG0.out.trans Gw1.out).trans Gw2.out).trans Gw3.out)⟩
      · skip
        have HE : Hid (decide (h = h') = false) := by show _ = _; rw [decide_eq_false_iff_not]; rintro rfl; exact hr rfl
        have DL := Lib.hid (decide_eq_true hl)
        have HQ : ∀ u : World, (binOp .eql 25 (.agg #[.int .i64 h.sums.a, .int .i64 h.sums.b, .int .i64 h.sums.c, .int .i64 h.sums.d]) (.agg #[.int .i64 h'.sums.a, .int .i64 h'.sums.b, .int .i64 h'.sums.c, .int .i64 h'.sums.d])).run Try.prog u = .ok (.bool true) u := fun u => by rw [eql_sm, decide_eq_true hs]
        have hg := guard_sm
        have DR := Lib.hid (decide_eq_false hr)
        clear hl hs hr
        go_enter Try.func37, Try.ntmps37
        go_wp2_with fail
        refine (HSL.out _ HG0.out).mono ?_
        rw [DL.out]
        rintro e w1 ⟨rfl, hbw1⟩
        (obtain ⟨cw1, fw1⟩ := bcell hbw1; have zw10 : w.heap.size < w1.heap.size := (by have := hbw1.size; (try simp at this); omega); have zw11 : w.heap.size + 1 < w1.heap.size := (by have := hbw1.size; (try simp at this); omega); have Gw1 := Lib.hid hbw1; clear hbw1)
        go_wp2_with fail
        refine (HSR.out _ (HG0.out.trans Gw1.out)).mono ?_
        rw [DR.out]
        rintro e w2 ⟨rfl, hbw2⟩
        (obtain ⟨cw2, fw2⟩ := bcell hbw2; have zw20 : w.heap.size < w2.heap.size := (by have := hbw2.size; (try simp at this); omega); have zw21 : w.heap.size + 1 < w2.heap.size := (by have := hbw2.size; (try simp at this); omega); have Gw2 := Lib.hid hbw2; clear hbw2)
        go_wp2
        go_ret
        exact ⟨ret_bool HE.out.symm, ((HG0.out.trans Gw1.out).trans Gw2.out)⟩
    · skip
      have HE : Hid (decide (h = h') = false) := by show _ = _; rw [decide_eq_false_iff_not]; rintro rfl; exact hs rfl
      have DL := Lib.hid (decide_eq_true hl)
      have HQ : ∀ u : World, (binOp .eql 25 (.agg #[.int .i64 h.sums.a, .int .i64 h.sums.b, .int .i64 h.sums.c, .int .i64 h.sums.d]) (.agg #[.int .i64 h'.sums.a, .int .i64 h'.sums.b, .int .i64 h'.sums.c, .int .i64 h'.sums.d])).run Try.prog u = .ok (.bool false) u := fun u => by rw [eql_sm, decide_eq_false hs]
      have hg := guard_sm
      clear hl hs
      go_enter Try.func37, Try.ntmps37
      go_wp2_with fail
      refine (HSL.out _ HG0.out).mono ?_
      rw [DL.out]
      rintro e w1 ⟨rfl, hbw1⟩
      (obtain ⟨cw1, fw1⟩ := bcell hbw1; have zw10 : w.heap.size < w1.heap.size := (by have := hbw1.size; (try simp at this); omega); have zw11 : w.heap.size + 1 < w1.heap.size := (by have := hbw1.size; (try simp at this); omega); have Gw1 := Lib.hid hbw1; clear hbw1)
      go_wp2
      go_ret
      exact ⟨ret_bool HE.out.symm, (HG0.out.trans Gw1.out)⟩
  · skip
    have HE : Hid (decide (h = h') = false) := by show _ = _; rw [decide_eq_false_iff_not]; rintro rfl; exact hl rfl
    have DL := Lib.hid (decide_eq_false hl)
    clear hl
    go_enter Try.func37, Try.ntmps37
    go_wp2_with fail
    refine (HSL.out _ HG0.out).mono ?_
    rw [DL.out]
    rintro e w1 ⟨rfl, hbw1⟩
    (obtain ⟨cw1, fw1⟩ := bcell hbw1; have zw10 : w.heap.size < w1.heap.size := (by have := hbw1.size; (try simp at this); omega); have zw11 : w.heap.size + 1 < w1.heap.size := (by have := hbw1.size; (try simp at this); omega); have Gw1 := Lib.hid hbw1; clear hbw1)
    go_wp2
    go_ret
    exact ⟨ret_bool HE.out.symm, (HG0.out.trans Gw1.out)⟩
end Go.Proofs.Ytgbhpghgohggcaa

/- Walks: SameMsg, SameMsgs; Tick of the program and of the document's answer; is. -/
namespace Go.Proofs.Ytgbhpghgohggcaa
open Go.RowKit
set_option maxRecDepth 100000 in
set_option maxHeartbeats 4000000 in
theorem ref_sameMsg {v v' : Value} {m m' : Ms} (w : World) (hv : Of Ty.ms w.cell? v m) (hv' : Of Ty.ms w.cell? v' m') :
    Calls Try.prog 61 #[v, v'] w fun e w' => e = .returned (.bool (decide (m = m'))) ∧ Grow w w' := by
  obtain ⟨ap, cp, rfl⟩ := hv.ms_form
  obtain ⟨aq, cq, rfl⟩ := hv'.ms_form
  have k := hv.ms_parts
  have k' := hv'.ms_parts
  have HSP := Lib.hid (fun (W : World) (hW : Grow w W) => ref_sameParts W (k.1.mono hW.sub) (k'.1.mono hW.sub))
  clear hv hv' k k'
  by_cases h1 : m.kind = m'.kind
  · have b1 : (m.kind == m'.kind) = true := by simp [h1]
    by_cases h2 : m.deed = m'.deed
    · have b2 : (m.deed == m'.deed) = true := by simp [h2]
      by_cases h3 : m.house = m'.house
      · have b3 : (m.house == m'.house) = true := by simp [h3]
        have HE : Hid (decide (m.parts = m'.parts) = decide (m = m')) := by
          show _ = _
          rw [Bool.eq_iff_iff, decide_eq_true_eq, decide_eq_true_eq]
          constructor
          · intro e; cases m; cases m'; simp_all
          · rintro rfl; rfl
        clear h1 h2 h3
        go_enter Try.func61, Try.ntmps61
        go_wp2_with fail
        refine (HSP.out _ (((Grow.refl w).alloc _).alloc _)).mono ?_
        rintro e w1 ⟨rfl, hb1⟩
        go_wp2
        go_ret
        exact ⟨ret_bool HE.out, (((Grow.refl w).alloc _).alloc _).trans hb1⟩
      · have b3 : (m.house == m'.house) = false := by simp [h3]
        have HE : Hid (decide (m = m') = false) := by show _ = _; rw [decide_eq_false_iff_not]; rintro rfl; exact h3 rfl
        clear h1 h2 h3
        go_enter Try.func61, Try.ntmps61
        go_wp2
        go_ret
        exact ⟨ret_bool HE.out.symm, (by repeat (first | with_reducible assumption | with_reducible exact Grow.refl _ | with_reducible apply Grow.drewN | with_reducible apply Grow.drew | with_reducible apply Grow.alloc | (refine Grow.setCell ?_ (by simp; done) _)))⟩
    · have b2 : (m.deed == m'.deed) = false := by simp [h2]
      have HE : Hid (decide (m = m') = false) := by show _ = _; rw [decide_eq_false_iff_not]; rintro rfl; exact h2 rfl
      clear h1 h2
      go_enter Try.func61, Try.ntmps61
      go_wp2
      go_ret
      exact ⟨ret_bool HE.out.symm, (by repeat (first | with_reducible assumption | with_reducible exact Grow.refl _ | with_reducible apply Grow.drewN | with_reducible apply Grow.drew | with_reducible apply Grow.alloc | (refine Grow.setCell ?_ (by simp; done) _)))⟩
  · have b1 : (m.kind == m'.kind) = false := by simp [h1]
    have HE : Hid (decide (m = m') = false) := by show _ = _; rw [decide_eq_false_iff_not]; rintro rfl; exact h1 rfl
    clear h1
    go_enter Try.func61, Try.ntmps61
    go_wp2
    go_ret
    exact ⟨ret_bool HE.out.symm, (by repeat (first | with_reducible assumption | with_reducible exact Grow.refl _ | with_reducible apply Grow.drewN | with_reducible apply Grow.drew | with_reducible apply Grow.alloc | (refine Grow.setCell ?_ (by simp; done) _)))⟩
set_option maxRecDepth 100000 in
set_option maxHeartbeats 4000000 in
theorem ref_sameMsgs {v v' : Value} {l l' : List Ms} (w : World) (hv : Sl Ty.ms w.cell? v l) (hv' : Sl Ty.ms w.cell? v' l') :
    Calls Try.prog 53 #[v, v'] w fun e w' => e = .returned (.bool (decide (l = l'))) ∧ Grow w w' := by
  obtain ⟨a, cap, rfl, h1, h2, -, hel⟩ := hv
  obtain ⟨a', cap', rfl, h1', h2', -, hel'⟩ := hv'
  unfold maxLen at h2 h2'
  by_cases hlen : l.length = l'.length
  · have hb : ((l.length : Int) != l'.length) = false := by simp [hlen]
    have HL := Lib.hid hlen
    clear hlen
    go_enter Try.func53, Try.ntmps53
    go_wp2
    go_loopw [4, 5, 13] (fun _ _ i wr => ∃ k : Nat, k ≤ l.length ∧ i = .int .i64 k ∧ Grow w wr ∧ ∀ j, j < k → l[j]? = l'[j]?) (fun _ _ i _ => l.length - (intOf i).toNat)
    case atStart => exact ⟨0, by omega, rfl, (by repeat (first | with_reducible assumption | with_reducible exact Grow.refl _ | with_reducible apply Grow.drewN | with_reducible apply Grow.drew | with_reducible apply Grow.alloc | (refine Grow.setCell ?_ (by simp; done) _))), fun j h => by omega⟩
    case round =>
      obtain ⟨k, hk', rfl, hb, hE⟩ := hrel
      by_cases hlt : k < l.length
      · have hlt' : k < l'.length := by have := HL.out; omega
        have H1 := Lib.hid (same_next hlt hlt' hE)
        have H2 : Hid (¬ l[k] = l'[k] → decide (l = l') = false) := fun h => same_not hlt hlt' h
        clear hE
        obtain ⟨b, o, vp, rfl, c0, c1, c2, c3, i0, i1, i2, hp⟩ := Mss.at_ hel k hlt
        obtain ⟨b', o', vp', rfl, c0', c1', c2', c3', i0', i1', i2', hp'⟩ := Mss.at_ hel' k hlt'
        obtain ⟨ap, cp, rfl, -⟩ := id hp
        obtain ⟨ap', cp', rfl, -⟩ := id hp'
        have HSM := Lib.hid (fun (W : World) (hW : Grow wr W) => ref_sameMsg (v := .agg #[.int .i64 l[k].kind, .int .i64 l[k].deed, .int .i64 l[k].house, .slice ap l[k].parts.length cp]) (v' := .agg #[.int .i64 l'[k].kind, .int .i64 l'[k].deed, .int .i64 l'[k].house, .slice ap' l'[k].parts.length cp']) W ⟨_, rfl, _, rfl, i0, i1, i2, hp.mono (hb.trans hW).sub⟩ ⟨_, rfl, _, rfl, i0', i1', i2', hp'.mono (hb.trans hW).sub⟩)
        replace c0 := hb.sub _ _ c0
        replace c1 := hb.sub _ _ c1
        replace c2 := hb.sub _ _ c2
        replace c3 := hb.sub _ _ c3
        replace c0' := hb.sub _ _ c0'
        replace c1' := hb.sub _ _ c1'
        replace c2' := hb.sub _ _ c2'
        replace c3' := hb.sub _ _ c3'
        clear hel hel' hp hp' i0 i1 i2 i0' i1' i2'
        generalize l[k] = p at *
        generalize l'[k] = p' at *
        have HS : Hid (∀ W, Grow wr W → W.cell? ⟨b, o + k * 4, none⟩ = some (.int .i64 p.kind) ∧ W.cell? ⟨b, o + k * 4 + 1, none⟩ = some (.int .i64 p.deed) ∧ W.cell? ⟨b, o + k * 4 + 2, none⟩ = some (.int .i64 p.house) ∧ W.cell? ⟨b, o + k * 4 + 3, none⟩ = some (.slice ap p.parts.length cp) ∧ W.cell? ⟨b', o' + k * 4, none⟩ = some (.int .i64 p'.kind) ∧ W.cell? ⟨b', o' + k * 4 + 1, none⟩ = some (.int .i64 p'.deed) ∧ W.cell? ⟨b', o' + k * 4 + 2, none⟩ = some (.int .i64 p'.house) ∧ W.cell? ⟨b', o' + k * 4 + 3, none⟩ = some (.slice ap' p'.parts.length cp')) := fun W hW => ⟨hW.sub _ _ c0, hW.sub _ _ c1, hW.sub _ _ c2, hW.sub _ _ c3, hW.sub _ _ c0', hW.sub _ _ c1', hW.sub _ _ c2', hW.sub _ _ c3'⟩
        by_cases hpp : p = p'
        · have H3 := Lib.hid (H1.out hpp)
          have hdec := decide_eq_true hpp
          rw [hdec] at HSM
          clear hpp H1 H2 hdec
          go_wp2
          go_region_held3 (fun w' => w'.cell? ⟨b, o + k * 4, none⟩ = some (.int .i64 p.kind) ∧ w'.cell? ⟨b, o + k * 4 + 1, none⟩ = some (.int .i64 p.deed) ∧ w'.cell? ⟨b, o + k * 4 + 2, none⟩ = some (.int .i64 p.house) ∧ w'.cell? ⟨b, o + k * 4 + 3, none⟩ = some (.slice ap p.parts.length cp) ∧ w'.cell? ⟨b', o' + k * 4, none⟩ = some (.int .i64 p'.kind) ∧ w'.cell? ⟨b', o' + k * 4 + 1, none⟩ = some (.int .i64 p'.deed) ∧ w'.cell? ⟨b', o' + k * 4 + 2, none⟩ = some (.int .i64 p'.house) ∧ w'.cell? ⟨b', o' + k * 4 + 3, none⟩ = some (.slice ap' p'.parts.length cp')) (first | assumption | exact HS.out _ (by repeat (first | with_reducible assumption | with_reducible exact Grow.refl _ | with_reducible apply Grow.drewN | with_reducible apply Grow.drew | with_reducible apply Grow.alloc | (refine Grow.trans ?_ (by with_reducible assumption))))) (first | (go_at_call 61; refine (HSM.out _ (by repeat (first | with_reducible assumption | with_reducible exact Grow.refl _ | with_reducible apply Grow.drewN | with_reducible apply Grow.drew | with_reducible apply Grow.alloc | (refine Grow.trans ?_ (by with_reducible assumption))))).mono ?_; rintro e w4 ⟨rfl, hb4⟩))
          go_wp2
          go_roundw
          case rel => exact ⟨k + 1, by omega, by go_num, hb.trans (by repeat (first | with_reducible assumption | with_reducible exact Grow.refl _ | with_reducible apply Grow.drewN | with_reducible apply Grow.drew | with_reducible apply Grow.alloc | (refine Grow.trans ?_ (by with_reducible assumption)))), H3.out⟩
          case measure => simp [intOf]; omega
        · have H3 := Lib.hid (H2.out hpp)
          have hdec := decide_eq_false hpp
          rw [hdec] at HSM
          clear hpp H1 H2 hdec
          go_wp2
          go_region_held3 (fun w' => w'.cell? ⟨b, o + k * 4, none⟩ = some (.int .i64 p.kind) ∧ w'.cell? ⟨b, o + k * 4 + 1, none⟩ = some (.int .i64 p.deed) ∧ w'.cell? ⟨b, o + k * 4 + 2, none⟩ = some (.int .i64 p.house) ∧ w'.cell? ⟨b, o + k * 4 + 3, none⟩ = some (.slice ap p.parts.length cp) ∧ w'.cell? ⟨b', o' + k * 4, none⟩ = some (.int .i64 p'.kind) ∧ w'.cell? ⟨b', o' + k * 4 + 1, none⟩ = some (.int .i64 p'.deed) ∧ w'.cell? ⟨b', o' + k * 4 + 2, none⟩ = some (.int .i64 p'.house) ∧ w'.cell? ⟨b', o' + k * 4 + 3, none⟩ = some (.slice ap' p'.parts.length cp')) (first | assumption | exact HS.out _ (by repeat (first | with_reducible assumption | with_reducible exact Grow.refl _ | with_reducible apply Grow.drewN | with_reducible apply Grow.drew | with_reducible apply Grow.alloc | (refine Grow.trans ?_ (by with_reducible assumption))))) (first | (go_at_call 61; refine (HSM.out _ (by repeat (first | with_reducible assumption | with_reducible exact Grow.refl _ | with_reducible apply Grow.drewN | with_reducible apply Grow.drew | with_reducible apply Grow.alloc | (refine Grow.trans ?_ (by with_reducible assumption))))).mono ?_; rintro e w4 ⟨rfl, hb4⟩))
          go_wp2
          go_ret
          exact ⟨ret_bool H3.out.symm, hb.trans (by repeat (first | with_reducible assumption | with_reducible exact Grow.refl _ | with_reducible apply Grow.drewN | with_reducible apply Grow.drew | with_reducible apply Grow.alloc | (refine Grow.trans ?_ (by with_reducible assumption))))⟩
      · have HE := Lib.hid hE
        clear hel hel' hE
        go_wp2
        go_ret
        refine ⟨ret_bool ?_, hb⟩
        rw [eq_comm, decide_eq_true_eq]
        exact same_all HL.out (by omega) HE.out
  · have hb : ((l.length : Int) != l'.length) = true := by simp; omega
    have HE : Hid (decide (l = l') = false) := by show _ = _; rw [decide_eq_false_iff_not]; rintro rfl; exact hlen rfl
    clear hlen hel hel'
    go_enter Try.func53, Try.ntmps53
    go_wp2
    go_ret
    exact ⟨ret_bool HE.out.symm, (by repeat (first | with_reducible assumption | with_reducible exact Grow.refl _ | with_reducible apply Grow.drewN | with_reducible apply Grow.drew | with_reducible apply Grow.alloc | (refine Grow.setCell ?_ (by simp; done) _)))⟩
set_option maxRecDepth 100000 in
set_option maxHeartbeats 2000000 in
theorem house_tick {v : Value} {h : Hs} {me : Int} (w : World) (hv : Of Ty.hs w.cell? v h) (hme : I64 me) (hm : h.ready.length * 48 ≤ 140737488355328) :
    Calls Try.prog 54 #[v, .int .i64 me] w fun e w' => ∃ v', e = .returned v' ∧ OwnC Ty.ms (fun _ => none) w' w.heap.size 39 v' (hTickE h me) ∧ Grow w w' := by
  obtain ⟨al, cl, ar, cr, ad, cd, rfl⟩ := hv.hs_form
  obtain ⟨ar', cr', he, h1, h2, -, hel⟩ := (Of.hs_log hv).2.1
  obtain ⟨rfl, rfl⟩ : ar = ar' ∧ cr = cr' := by simpa using he
  unfold maxLen at h2
  have HM := Lib.hid hm
  have HME := Lib.hid hme
  clear hm hme he hv
  go_enter Try.func54, Try.ntmps54
  go_wp2
  go_loopw [5, 11] (fun s5 i wr => ∃ k : Nat, k ≤ h.ready.length ∧ i = .int .i64 k ∧ Grow w wr ∧ OwnC Ty.ms (fun _ => none) wr w.heap.size 39 s5 ((h.ready.take k).map fun r => (⟨7, r.deed, me, []⟩ : Ms))) (fun _ i _ => h.ready.length - (intOf i).toNat)
  case atStart => exact ⟨0, by omega, rfl, (by repeat (first | with_reducible assumption | with_reducible exact Grow.refl _ | with_reducible apply Grow.drewN | with_reducible apply Grow.drew | with_reducible apply Grow.alloc | (refine Grow.setCell ?_ (by simp; done) _))), OwnC.nil _ _ _ _ _⟩
  case round =>
    obtain ⟨k, hk', rfl, hb, hown⟩ := hrel
    by_cases hlt : k < h.ready.length
    · obtain ⟨b, o, vp, rfl, c0, c1, i0, hP⟩ := Rds.at_ hel k hlt
      obtain ⟨ap, cp, rfl, -⟩ := id hP
      replace c0 := hb.sub _ _ c0
      replace c1 := hb.sub _ _ c1
      have HTK := Lib.hid (show (h.ready.take (k + 1)).map (fun r => (⟨7, r.deed, me, []⟩ : Ms)) = (h.ready.take k).map (fun r => (⟨7, r.deed, me, []⟩ : Ms)) ++ [⟨7, h.ready[k].deed, me, []⟩] by rw [List.take_succ_eq_append_getElem hlt, List.map_append]; rfl)
      have HLK := Lib.hid (show ((h.ready.take k).map fun r => (⟨7, r.deed, me, []⟩ : Ms)).length ≤ k by simp; omega)
      have HOWN := Lib.hid hown
      have HI := Lib.hid i0
      obtain ⟨av, cv, rfl⟩ := hown.form
      clear hel hP hown i0
      generalize h.ready[k] = r at *
      generalize (h.ready.take k).map (fun r => (⟨7, r.deed, me, []⟩ : Ms)) = ms at *
      go_wp2_with (first | (at_builtin; refine wpList_appc (c := fun _ => none) (base := w.heap.size) (l := ms) (m := [⟨7, r.deed, me, []⟩]) ei_ms rfl one_Tms (by decide) rfl (.tmp 15) (.tmp 20) rfl rfl ?own rfl (Src.of_new (T := Ty.ms) (cs := #[.int .i64 7, .int .i64 r.deed, .int .i64 me, .slice none 0 0]) ⟨_, rfl, (show I64 7 from by unfold I64; decide), HI.out, HME.out, Sl.nil _ _⟩ _ _ ?d1) ?d2 ?d3 ?_))
      case own => exact HOWN.out.grow (((Grow.refl _).alloc _).alloc _)
      case d1 => simp
      case d2 => have := HM.out; have := HLK.out; simp; omega
      case d3 => have := hb.size; simp; omega
      intro a9 c9 w9 ho9 hg9 hb9
      have HG9 : Hid (Grow w w9) := Lib.hid (grow_by (w0 := w) ((hb.alloc _).alloc _) hg9 (fun q hq => (HOWN.out.lt q hq).1))
      have HO9 := Lib.hid ho9
      clear ho9 hg9 hb9
      go_wp2
      go_roundw
      case rel => exact ⟨k + 1, by omega, by go_num, HG9.out, by rw [HTK.out]; exact HO9.out⟩
      case measure => simp [intOf]; omega
    · clear hel
      go_wp2
      go_ret
      have h9 := hown
      rw [List.take_of_length_le (by omega)] at h9
      exact ⟨_, rfl, h9, hb⟩
set_option maxRecDepth 100000 in
set_option maxHeartbeats 2000000 in
theorem ref_houseTick {v : Value} {h : Hs} {me : Int} (w : World) (hv : Of Ty.hs w.cell? v h) (hme : I64 me) (hm : h.ready.length * 48 ≤ 140737488355328) :
    Calls Try.prog 55 #[v, .int .i64 me] w fun e w' => ∃ v', e = .returned v' ∧ OwnC Ty.ms (fun _ => none) w' w.heap.size 39 v' (hTickE h me) ∧ Grow w w' := by
  obtain ⟨al, cl, ar, cr, ad, cd, rfl⟩ := hv.hs_form
  obtain ⟨ar', cr', he, h1, h2, -, hel⟩ := (Of.hs_log hv).2.1
  obtain ⟨rfl, rfl⟩ : ar = ar' ∧ cr = cr' := by simpa using he
  unfold maxLen at h2
  have HM := Lib.hid hm
  have HME := Lib.hid hme
  clear hm hme he hv
  go_enter Try.func55, Try.ntmps55
  go_wp2
  go_loopw [5, 11] (fun s5 i wr => ∃ k : Nat, k ≤ h.ready.length ∧ i = .int .i64 k ∧ Grow w wr ∧ OwnC Ty.ms (fun _ => none) wr w.heap.size 39 s5 ((h.ready.take k).map fun r => (⟨7, r.deed, me, []⟩ : Ms))) (fun _ i _ => h.ready.length - (intOf i).toNat)
  case atStart => exact ⟨0, by omega, rfl, (by repeat (first | with_reducible assumption | with_reducible exact Grow.refl _ | with_reducible apply Grow.drewN | with_reducible apply Grow.drew | with_reducible apply Grow.alloc | (refine Grow.setCell ?_ (by simp; done) _))), OwnC.nil _ _ _ _ _⟩
  case round =>
    obtain ⟨k, hk', rfl, hb, hown⟩ := hrel
    by_cases hlt : k < h.ready.length
    · obtain ⟨b, o, vp, rfl, c0, c1, i0, hP⟩ := Rds.at_ hel k hlt
      obtain ⟨ap, cp, rfl, -⟩ := id hP
      replace c0 := hb.sub _ _ c0
      replace c1 := hb.sub _ _ c1
      have HTK := Lib.hid (show (h.ready.take (k + 1)).map (fun r => (⟨7, r.deed, me, []⟩ : Ms)) = (h.ready.take k).map (fun r => (⟨7, r.deed, me, []⟩ : Ms)) ++ [⟨7, h.ready[k].deed, me, []⟩] by rw [List.take_succ_eq_append_getElem hlt, List.map_append]; rfl)
      have HLK := Lib.hid (show ((h.ready.take k).map fun r => (⟨7, r.deed, me, []⟩ : Ms)).length ≤ k by simp; omega)
      have HOWN := Lib.hid hown
      have HI := Lib.hid i0
      obtain ⟨av, cv, rfl⟩ := hown.form
      clear hel hP hown i0
      generalize h.ready[k] = r at *
      generalize (h.ready.take k).map (fun r => (⟨7, r.deed, me, []⟩ : Ms)) = ms at *
      go_wp2_with (first | (at_builtin; refine wpList_appc (c := fun _ => none) (base := w.heap.size) (l := ms) (m := [⟨7, r.deed, me, []⟩]) ei_ms rfl one_Tms (by decide) rfl (.tmp 15) (.tmp 20) rfl rfl ?own rfl (Src.of_new (T := Ty.ms) (cs := #[.int .i64 7, .int .i64 r.deed, .int .i64 me, .slice none 0 0]) ⟨_, rfl, (show I64 7 from by unfold I64; decide), HI.out, HME.out, Sl.nil _ _⟩ _ _ ?d1) ?d2 ?d3 ?_))
      case own => exact HOWN.out.grow (((Grow.refl _).alloc _).alloc _)
      case d1 => simp
      case d2 => have := HM.out; have := HLK.out; simp; omega
      case d3 => have := hb.size; simp; omega
      intro a9 c9 w9 ho9 hg9 hb9
      have HG9 : Hid (Grow w w9) := Lib.hid (grow_by (w0 := w) ((hb.alloc _).alloc _) hg9 (fun q hq => (HOWN.out.lt q hq).1))
      have HO9 := Lib.hid ho9
      clear ho9 hg9 hb9
      go_wp2
      go_roundw
      case rel => exact ⟨k + 1, by omega, by go_num, HG9.out, by rw [HTK.out]; exact HO9.out⟩
      case measure => simp [intOf]; omega
    · clear hel
      go_wp2
      go_ret
      have h9 := hown
      rw [List.take_of_length_le (by omega)] at h9
      exact ⟨_, rfl, h9, hb⟩
theorem is_lit (w : World) (B : Nat) (d : Int) (wx : World) (cs : List Value) (x : Rd) (hc : w.cell? ⟨B, 0, none⟩ = some (.int .i64 d)) (hg : Grow w wx) (hR : Ty.rd.R wx.cell? cs x) :
    Calls Try.prog 164 #[.agg cs.toArray, .pointer (some ⟨B, 0, none⟩)] wx fun e w' => e = .returned (.bool (isD d x)) ∧ Grow wx w' := by
  obtain ⟨vp, rfl, -, hp⟩ := hR
  obtain ⟨ap, cp, rfl, -⟩ := hp
  have hB := World.block_lt_of_cell? w _ hc
  simp only at hB
  have hBx : B < wx.heap.size := Nat.lt_of_lt_of_le hB hg.size
  replace hc := hg.sub _ _ hc
  go_enter Try.func164, Try.ntmps164
  go_wp2
  go_ret
  exact ⟨rfl, (by repeat (first | with_reducible assumption | with_reducible exact Grow.refl _ | with_reducible apply Grow.drewN | with_reducible apply Grow.drew | with_reducible apply Grow.alloc | (refine Grow.setCell ?_ (by simp; done) _)))⟩
theorem is_tells (w : World) (B : Nat) (d : Int) (l : List Rd) (hc : w.cell? ⟨B, 0, none⟩ = some (.int .i64 d)) : Tells Try.prog Ty.rd aggOf w 164 #[.pointer (some ⟨B, 0, none⟩)] l (isD d) where
  ent := fun args w => by kernel_rfl
  say := fun wx cs x hg _ hR => is_lit w B d wx cs x hc hg hR
theorem house_is {B : Nat} {d : Int} {l : List Rd} {a : Option Addr} {cap : Nat} (w : World) (hb : B < w.heap.size) (hc : w.cell? ⟨B, 5, none⟩ = some (.slice a l.length cap)) (hv : Sl Ty.rd w.cell? (.slice a l.length cap) l) :
    Calls Try.prog 127 #[.pointer (some ⟨B, 0, none⟩), .int .i64 d] w fun e w' => e = .returned (.bool (readyE l d)) ∧ Grow w w' := by
  have HX := Lib.hid (containsFunc_rd (w.alloc (.cells #[.int .i64 d] 3)) (hv.mono ((Grow.refl w).alloc _).sub) (is_tells (w.alloc (.cells #[.int .i64 d] 3)) w.heap.size d l (by rw [World.cell?_alloc_new]; rfl)))
  clear hv
  go_enter Try.func127, Try.ntmps127
  go_wp2_with fail
  refine HX.out.mono ?_
  rintro e w1 ⟨rfl, hb1⟩
  have HB := Lib.hid hb1
  clear hb1
  go_wp2
  go_ret
  exact ⟨rfl, ((Grow.refl w).alloc _).trans HB.out⟩
end Go.Proofs.Ytgbhpghgohggcaa
