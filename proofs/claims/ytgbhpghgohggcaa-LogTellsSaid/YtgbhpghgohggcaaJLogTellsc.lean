/- The parts that LogTells is proved of, joined: E1, E2, K6, K5, M9, E3, E4, K8, Trod, Trod2. No condition beside those that each theorem names. -/
import Derived.Deep.Slices
import Derived.OpenShut
import Derived.Below
import Derived.ChangeOld
import Derived.ProofKit
import Derived.SizedLaws
import Derived.Test.YtgbhpghgohggcaaJLogTellsb
/- Walks: SameInts, SameReady, SameLog of the document's answer. -/
namespace Go.Proofs.Ytgbhpghgohggcaa
open Go.RowKit
theorem same_all {α : Type} {l l' : List α} {k : Nat} (hl : l.length = l'.length) (hk : l.length ≤ k) (h : ∀ j, j < k → l[j]? = l'[j]?) : l = l' := by
  apply List.ext_getElem?
  intro j
  by_cases hj : j < k
  · exact h j hj
  · rw [List.getElem?_eq_none (by omega), List.getElem?_eq_none (by omega)]
theorem same_next {α : Type} {l l' : List α} {k : Nat} (h1 : k < l.length) (h2 : k < l'.length) (h : ∀ j, j < k → l[j]? = l'[j]?) (he : l[k] = l'[k]) : ∀ j, j < k + 1 → l[j]? = l'[j]? := by
  intro j hj
  by_cases e : j = k
  · subst e; rw [List.getElem?_eq_getElem h1, List.getElem?_eq_getElem h2, he]
  · exact h j (by omega)
theorem same_not {α : Type} [DecidableEq α] {l l' : List α} {k : Nat} (h1 : k < l.length) (h2 : k < l'.length) (he : ¬ l[k] = l'[k]) : decide (l = l') = false := by
  rw [decide_eq_false_iff_not]
  rintro rfl
  exact he rfl
set_option maxHeartbeats 400000 in
theorem ref_sameInts {v v' : Value} {l l' : List Int} (w : World) (hv : Ints w.cell? v l) (hv' : Ints w.cell? v' l') :
    Calls Try.prog 48 #[v, v'] w fun e w' => e = .returned (.bool (decide (l = l'))) ∧ Grow w w' := by
  obtain ⟨a, cap, rfl, h1, h2, -, hel⟩ := hv
  obtain ⟨a', cap', rfl, h1', h2', -, hel'⟩ := hv'
  unfold maxLen at h2 h2'
  by_cases hlen : l.length = l'.length
  · have hb : ((l.length : Int) != l'.length) = false := by simp [hlen]
    have HL := Lib.hid hlen
    clear hlen
    go_enter Try.func48, Try.ntmps48
    go_wp2
    go_loopw [4, 5, 13] (fun _ _ i wr => ∃ k : Nat, k ≤ l.length ∧ i = .int .i64 k ∧ Grow w wr ∧ ∀ j, j < k → l[j]? = l'[j]?) (fun _ _ i _ => l.length - (intOf i).toNat)
    case atStart => exact ⟨0, by omega, rfl, (by repeat (first | with_reducible assumption | with_reducible exact Grow.refl _ | with_reducible apply Grow.drewN | with_reducible apply Grow.drew | with_reducible apply Grow.alloc | (refine Grow.setCell ?_ (by simp; done) _))), fun j h => by omega⟩
    case round =>
      obtain ⟨k, hk', rfl, hb, hE⟩ := hrel
      by_cases hlt : k < l.length
      · have hlt' : k < l'.length := by have := HL.out; omega
        have H1 := Lib.hid (same_next hlt hlt' hE)
        have H2 : Hid (¬ l[k] = l'[k] → decide (l = l') = false) := fun h => same_not hlt hlt' h
        clear hE
        obtain ⟨b, o, rfl, c0, -⟩ := intAt hel k hlt
        obtain ⟨b', o', rfl, c0', -⟩ := intAt hel' k hlt'
        replace c0 := hb.sub _ _ c0
        replace c0' := hb.sub _ _ c0'
        clear hel hel'
        generalize l[k] = p at *
        generalize l'[k] = p' at *
        by_cases hpp : p = p'
        · have H3 := Lib.hid (H1.out hpp)
          have hne : (p != p') = false := by simp [hpp]
          clear hpp H1 H2
          go_wp2_with (go_quiet (fail))
          go_roundw
          case rel => exact ⟨k + 1, by omega, by go_num, (by repeat (first | with_reducible assumption | with_reducible exact Grow.refl _ | with_reducible apply Grow.drewN | with_reducible apply Grow.drew | with_reducible apply Grow.alloc | (refine Grow.setCell ?_ (by simp; done) _))), H3.out⟩
          case measure => simp [intOf]; omega
        · have H3 := Lib.hid (H2.out hpp)
          have hne : (p != p') = true := by simp [hpp]
          clear hpp H1 H2
          go_wp2_with (go_quiet (fail))
          go_ret
          exact ⟨ret_bool H3.out.symm, (by repeat (first | with_reducible assumption | with_reducible exact Grow.refl _ | with_reducible apply Grow.drewN | with_reducible apply Grow.drew | with_reducible apply Grow.alloc | (refine Grow.setCell ?_ (by simp; done) _)))⟩
      · have HE := Lib.hid hE
        clear hel hel' hE
        go_wp2
        go_ret
        refine ⟨ret_bool ?_, hb⟩
        rw [eq_comm, decide_eq_true_eq]
        exact same_all HL.out (by omega) HE.out
  · have hb : ((l.length : Int) != l'.length) = true := by simp; omega
    have HE : Hid (decide (l = l') = false) := by show _ = _; rw [decide_eq_false_iff_not]; rintro rfl; exact hlen rfl
    clear hlen hel hel'
    go_enter Try.func48, Try.ntmps48
    go_wp2
    go_ret
    exact ⟨ret_bool HE.out.symm, (by repeat (first | with_reducible assumption | with_reducible exact Grow.refl _ | with_reducible apply Grow.drewN | with_reducible apply Grow.drew | with_reducible apply Grow.alloc | (refine Grow.setCell ?_ (by simp; done) _)))⟩
set_option maxRecDepth 100000 in
set_option maxHeartbeats 1000000 in
theorem ref_sameReady {v v' : Value} {l l' : List Rd} (w : World) (hv : Sl Ty.rd w.cell? v l) (hv' : Sl Ty.rd w.cell? v' l') :
    Calls Try.prog 44 #[v, v'] w fun e w' => e = .returned (.bool (decide (l = l'))) ∧ Grow w w' := by
  obtain ⟨a, cap, rfl, h1, h2, -, hel⟩ := hv
  obtain ⟨a', cap', rfl, h1', h2', -, hel'⟩ := hv'
  unfold maxLen at h2 h2'
  by_cases hlen : l.length = l'.length
  · have hb : ((l.length : Int) != l'.length) = false := by simp [hlen]
    have HL := Lib.hid hlen
    clear hlen
    go_enter Try.func44, Try.ntmps44
    go_wp2
    go_loopw [4, 5, 13] (fun _ _ i wr => ∃ k : Nat, k ≤ l.length ∧ i = .int .i64 k ∧ Grow w wr ∧ ∀ j, j < k → l[j]? = l'[j]?) (fun _ _ i _ => l.length - (intOf i).toNat)
    case atStart => exact ⟨0, by omega, rfl, (by repeat (first | with_reducible assumption | with_reducible exact Grow.refl _ | with_reducible apply Grow.drewN | with_reducible apply Grow.drew | with_reducible apply Grow.alloc | (refine Grow.setCell ?_ (by simp; done) _))), fun j h => by omega⟩
    case round =>
      obtain ⟨k, hk', rfl, hb, hE⟩ := hrel
      by_cases hlt : k < l.length
      · have hlt' : k < l'.length := by have := HL.out; omega
        have H1 := Lib.hid (same_next hlt hlt' hE)
        have H2 : Hid (¬ l[k] = l'[k] → decide (l = l') = false) := fun h => same_not hlt hlt' h
        clear hE
        obtain ⟨b, o, vp, rfl, c0, c1, -, hp⟩ := Rds.at_ hel k hlt
        obtain ⟨b', o', vp', rfl, c0', c1', -, hp'⟩ := Rds.at_ hel' k hlt'
        obtain ⟨ap, cp, rfl, -⟩ := id hp
        obtain ⟨ap', cp', rfl, -⟩ := id hp'
        have HSP := Lib.hid (fun (W : World) (hW : Grow wr W) => ref_sameParts W (hp.mono (hb.trans hW).sub) (hp'.mono (hb.trans hW).sub))
        replace c0 := hb.sub _ _ c0
        replace c0' := hb.sub _ _ c0'
        replace c1 := hb.sub _ _ c1
        replace c1' := hb.sub _ _ c1'
        clear hel hel' hp hp'
        generalize l[k] = p at *
        generalize l'[k] = p' at *
        have HS : Hid (∀ W, Grow wr W → W.cell? ⟨b, o + k * 2, none⟩ = some (.int .i64 p.deed) ∧ W.cell? ⟨b, o + k * 2 + 1, none⟩ = some (.slice ap p.parts.length cp) ∧ W.cell? ⟨b', o' + k * 2, none⟩ = some (.int .i64 p'.deed) ∧ W.cell? ⟨b', o' + k * 2 + 1, none⟩ = some (.slice ap' p'.parts.length cp')) := fun W hW => ⟨hW.sub _ _ c0, hW.sub _ _ c1, hW.sub _ _ c0', hW.sub _ _ c1'⟩
        by_cases hd : p.deed = p'.deed
        · have hne : (p.deed != p'.deed) = false := by simp [hd]
          by_cases hpp : p.parts = p'.parts
          · have hpe : p = p' := by cases p; cases p'; simp_all
            have H3 := Lib.hid (H1.out hpe)
            have hdec := decide_eq_true hpp
            rw [hdec] at HSP
            clear hd hpp hpe H1 H2 hdec
            go_wp2
            go_region_held3 (fun w' => w'.cell? ⟨b, o + k * 2, none⟩ = some (.int .i64 p.deed) ∧ w'.cell? ⟨b, o + k * 2 + 1, none⟩ = some (.slice ap p.parts.length cp) ∧ w'.cell? ⟨b', o' + k * 2, none⟩ = some (.int .i64 p'.deed) ∧ w'.cell? ⟨b', o' + k * 2 + 1, none⟩ = some (.slice ap' p'.parts.length cp')) (first | assumption | exact HS.out _ (by repeat (first | with_reducible assumption | with_reducible exact Grow.refl _ | with_reducible apply Grow.drewN | with_reducible apply Grow.drew | with_reducible apply Grow.alloc | (refine Grow.trans ?_ (by with_reducible assumption))))) (first | (go_at_call 84; refine (HSP.out _ (by repeat (first | with_reducible assumption | with_reducible exact Grow.refl _ | with_reducible apply Grow.drewN | with_reducible apply Grow.drew | with_reducible apply Grow.alloc | (refine Grow.trans ?_ (by with_reducible assumption))))).mono ?_; rintro e w4 ⟨rfl, hb4⟩))
            go_wp2
            go_roundw
            case rel => exact ⟨k + 1, by omega, by go_num, hb.trans (by repeat (first | with_reducible assumption | with_reducible exact Grow.refl _ | with_reducible apply Grow.drewN | with_reducible apply Grow.drew | with_reducible apply Grow.alloc | (refine Grow.trans ?_ (by with_reducible assumption)))), H3.out⟩
            case measure => simp [intOf]; omega
          · have H3 := Lib.hid (H2.out (fun e => hpp (by rw [e])))
            have hdec := decide_eq_false hpp
            rw [hdec] at HSP
            clear hd hpp H1 H2 hdec
            go_wp2
            go_region_held3 (fun w' => w'.cell? ⟨b, o + k * 2, none⟩ = some (.int .i64 p.deed) ∧ w'.cell? ⟨b, o + k * 2 + 1, none⟩ = some (.slice ap p.parts.length cp) ∧ w'.cell? ⟨b', o' + k * 2, none⟩ = some (.int .i64 p'.deed) ∧ w'.cell? ⟨b', o' + k * 2 + 1, none⟩ = some (.slice ap' p'.parts.length cp')) (first | assumption | exact HS.out _ (by repeat (first | with_reducible assumption | with_reducible exact Grow.refl _ | with_reducible apply Grow.drewN | with_reducible apply Grow.drew | with_reducible apply Grow.alloc | (refine Grow.trans ?_ (by with_reducible assumption))))) (first | (go_at_call 84; refine (HSP.out _ (by repeat (first | with_reducible assumption | with_reducible exact Grow.refl _ | with_reducible apply Grow.drewN | with_reducible apply Grow.drew | with_reducible apply Grow.alloc | (refine Grow.trans ?_ (by with_reducible assumption))))).mono ?_; rintro e w4 ⟨rfl, hb4⟩))
            go_wp2
            go_ret
            exact ⟨ret_bool H3.out.symm, hb.trans (by repeat (first | with_reducible assumption | with_reducible exact Grow.refl _ | with_reducible apply Grow.drewN | with_reducible apply Grow.drew | with_reducible apply Grow.alloc | (refine Grow.trans ?_ (by with_reducible assumption))))⟩
        · have H3 := Lib.hid (H2.out (fun e => hd (by rw [e])))
          have hne : (p.deed != p'.deed) = true := by simp [hd]
          clear hd H1 H2
          go_wp2_with (go_quiet (fail))
          go_ret
          exact ⟨ret_bool H3.out.symm, (by repeat (first | with_reducible assumption | with_reducible exact Grow.refl _ | with_reducible apply Grow.drewN | with_reducible apply Grow.drew | with_reducible apply Grow.alloc | (refine Grow.setCell ?_ (by simp; done) _)))⟩
      · have HE := Lib.hid hE
        clear hel hel' hE
        go_wp2
        go_ret
        refine ⟨ret_bool ?_, hb⟩
        rw [eq_comm, decide_eq_true_eq]
        exact same_all HL.out (by omega) HE.out
  · have hb : ((l.length : Int) != l'.length) = true := by simp; omega
    have HE : Hid (decide (l = l') = false) := by show _ = _; rw [decide_eq_false_iff_not]; rintro rfl; exact hlen rfl
    clear hlen hel hel'
    go_enter Try.func44, Try.ntmps44
    go_wp2
    go_ret
    exact ⟨ret_bool HE.out.symm, (by repeat (first | with_reducible assumption | with_reducible exact Grow.refl _ | with_reducible apply Grow.drewN | with_reducible apply Grow.drew | with_reducible apply Grow.alloc | (refine Grow.setCell ?_ (by simp; done) _)))⟩
end Go.Proofs.Ytgbhpghgohggcaa

/- Walks: SameLog of the document's answer; four sums compared. -/
namespace Go.Proofs.Ytgbhpghgohggcaa
open Go.RowKit
set_option maxRecDepth 100000 in
set_option maxHeartbeats 4000000 in
theorem ref_sameLog {v v' : Value} {l l' : List Rc} (w : World) (hv : Sl Ty.rc w.cell? v l) (hv' : Sl Ty.rc w.cell? v' l') :
    Calls Try.prog 39 #[v, v'] w fun e w' => e = .returned (.bool (decide (l = l'))) ∧ Grow w w' := by
  obtain ⟨a, cap, rfl, h1, h2, -, hel⟩ := hv
  obtain ⟨a', cap', rfl, h1', h2', -, hel'⟩ := hv'
  unfold maxLen at h2 h2'
  by_cases hlen : l.length = l'.length
  · have hb : ((l.length : Int) != l'.length) = false := by simp [hlen]
    have HL := Lib.hid hlen
    clear hlen
    go_enter Try.func39, Try.ntmps39
    go_wp2
    go_loopw [4, 5, 13] (fun _ _ i wr => ∃ k : Nat, k ≤ l.length ∧ i = .int .i64 k ∧ Grow w wr ∧ ∀ j, j < k → l[j]? = l'[j]?) (fun _ _ i _ => l.length - (intOf i).toNat)
    case atStart => exact ⟨0, by omega, rfl, (by repeat (first | with_reducible assumption | with_reducible exact Grow.refl _ | with_reducible apply Grow.drewN | with_reducible apply Grow.drew | with_reducible apply Grow.alloc | (refine Grow.setCell ?_ (by simp; done) _))), fun j h => by omega⟩
    case round =>
      obtain ⟨k, hk', rfl, hb, hE⟩ := hrel
      by_cases hlt : k < l.length
      · have hlt' : k < l'.length := by have := HL.out; omega
        have H1 := Lib.hid (same_next hlt hlt' hE)
        have H2 : Hid (¬ l[k] = l'[k] → decide (l = l') = false) := fun h => same_not hlt hlt' h
        clear hE
        obtain ⟨b, o, vp, rfl, c0, c1, c2, -, -, hp⟩ := Rcs.at_ hel k hlt
        obtain ⟨b', o', vp', rfl, c0', c1', c2', -, -, hp'⟩ := Rcs.at_ hel' k hlt'
        obtain ⟨ap, cp, rfl, -⟩ := id hp
        obtain ⟨ap', cp', rfl, -⟩ := id hp'
        have HSP := Lib.hid (fun (W : World) (hW : Grow wr W) => ref_sameParts W (hp.mono (hb.trans hW).sub) (hp'.mono (hb.trans hW).sub))
        replace c0 := hb.sub _ _ c0
        replace c0' := hb.sub _ _ c0'
        replace c1 := hb.sub _ _ c1
        replace c1' := hb.sub _ _ c1'
        replace c2 := hb.sub _ _ c2
        replace c2' := hb.sub _ _ c2'
        clear hel hel' hp hp'
        generalize l[k] = p at *
        generalize l'[k] = p' at *
        have HS : Hid (∀ W, Grow wr W → W.cell? ⟨b, o + k * 3, none⟩ = some (.int .i64 p.kind) ∧ W.cell? ⟨b, o + k * 3 + 1, none⟩ = some (.int .i64 p.deed) ∧ W.cell? ⟨b, o + k * 3 + 2, none⟩ = some (.slice ap p.parts.length cp) ∧ W.cell? ⟨b', o' + k * 3, none⟩ = some (.int .i64 p'.kind) ∧ W.cell? ⟨b', o' + k * 3 + 1, none⟩ = some (.int .i64 p'.deed) ∧ W.cell? ⟨b', o' + k * 3 + 2, none⟩ = some (.slice ap' p'.parts.length cp')) := fun W hW => ⟨hW.sub _ _ c0, hW.sub _ _ c1, hW.sub _ _ c2, hW.sub _ _ c0', hW.sub _ _ c1', hW.sub _ _ c2'⟩
        by_cases hk : p.kind = p'.kind
        · have hnk : (p.kind != p'.kind) = false := by simp [hk]
          by_cases hd : p.deed = p'.deed
          · have hne : (p.deed != p'.deed) = false := by simp [hd]
            by_cases hpp : p.parts = p'.parts
            · have hpe : p = p' := by cases p; cases p'; simp_all
              have H3 := Lib.hid (H1.out hpe)
              have hdec := decide_eq_true hpp
              rw [hdec] at HSP
              clear hk hd hpp hpe H1 H2 hdec
              go_wp2
              go_region_held3 (fun w' => w'.cell? ⟨b, o + k * 3, none⟩ = some (.int .i64 p.kind) ∧ w'.cell? ⟨b, o + k * 3 + 1, none⟩ = some (.int .i64 p.deed) ∧ w'.cell? ⟨b, o + k * 3 + 2, none⟩ = some (.slice ap p.parts.length cp) ∧ w'.cell? ⟨b', o' + k * 3, none⟩ = some (.int .i64 p'.kind) ∧ w'.cell? ⟨b', o' + k * 3 + 1, none⟩ = some (.int .i64 p'.deed) ∧ w'.cell? ⟨b', o' + k * 3 + 2, none⟩ = some (.slice ap' p'.parts.length cp')) (first | assumption | exact HS.out _ (by repeat (first | with_reducible assumption | with_reducible exact Grow.refl _ | with_reducible apply Grow.drewN | with_reducible apply Grow.drew | with_reducible apply Grow.alloc | (refine Grow.trans ?_ (by with_reducible assumption))))) (first | (go_at_call 84; refine (HSP.out _ (by repeat (first | with_reducible assumption | with_reducible exact Grow.refl _ | with_reducible apply Grow.drewN | with_reducible apply Grow.drew | with_reducible apply Grow.alloc | (refine Grow.trans ?_ (by with_reducible assumption))))).mono ?_; rintro e w4 ⟨rfl, hb4⟩))
              go_wp2
              go_roundw
              case rel => exact ⟨k + 1, by omega, by go_num, hb.trans (by repeat (first | with_reducible assumption | with_reducible exact Grow.refl _ | with_reducible apply Grow.drewN | with_reducible apply Grow.drew | with_reducible apply Grow.alloc | (refine Grow.trans ?_ (by with_reducible assumption)))), H3.out⟩
              case measure => simp [intOf]; omega
            · have H3 := Lib.hid (H2.out (fun e => hpp (by rw [e])))
              have hdec := decide_eq_false hpp
              rw [hdec] at HSP
              clear hk hd hpp H1 H2 hdec
              go_wp2
              go_region_held3 (fun w' => w'.cell? ⟨b, o + k * 3, none⟩ = some (.int .i64 p.kind) ∧ w'.cell? ⟨b, o + k * 3 + 1, none⟩ = some (.int .i64 p.deed) ∧ w'.cell? ⟨b, o + k * 3 + 2, none⟩ = some (.slice ap p.parts.length cp) ∧ w'.cell? ⟨b', o' + k * 3, none⟩ = some (.int .i64 p'.kind) ∧ w'.cell? ⟨b', o' + k * 3 + 1, none⟩ = some (.int .i64 p'.deed) ∧ w'.cell? ⟨b', o' + k * 3 + 2, none⟩ = some (.slice ap' p'.parts.length cp')) (first | assumption | exact HS.out _ (by repeat (first | with_reducible assumption | with_reducible exact Grow.refl _ | with_reducible apply Grow.drewN | with_reducible apply Grow.drew | with_reducible apply Grow.alloc | (refine Grow.trans ?_ (by with_reducible assumption))))) (first | (go_at_call 84; refine (HSP.out _ (by repeat (first | with_reducible assumption | with_reducible exact Grow.refl _ | with_reducible apply Grow.drewN | with_reducible apply Grow.drew | with_reducible apply Grow.alloc | (refine Grow.trans ?_ (by with_reducible assumption))))).mono ?_; rintro e w4 ⟨rfl, hb4⟩))
              go_wp2
              go_ret
              exact ⟨ret_bool H3.out.symm, hb.trans (by repeat (first | with_reducible assumption | with_reducible exact Grow.refl _ | with_reducible apply Grow.drewN | with_reducible apply Grow.drew | with_reducible apply Grow.alloc | (refine Grow.trans ?_ (by with_reducible assumption))))⟩
          · have H3 := Lib.hid (H2.out (fun e => hd (by rw [e])))
            have hne : (p.deed != p'.deed) = true := by simp [hd]
            clear hk hd H1 H2
            go_wp2_with (go_quiet (fail))
            go_ret
            exact ⟨ret_bool H3.out.symm, (by repeat (first | with_reducible assumption | with_reducible exact Grow.refl _ | with_reducible apply Grow.drewN | with_reducible apply Grow.drew | with_reducible apply Grow.alloc | (refine Grow.setCell ?_ (by simp; done) _)))⟩
        · have H3 := Lib.hid (H2.out (fun e => hk (by rw [e])))
          have hnk : (p.kind != p'.kind) = true := by simp [hk]
          clear hk H1 H2
          go_wp2_with (go_quiet (fail))
          go_ret
          exact ⟨ret_bool H3.out.symm, (by repeat (first | with_reducible assumption | with_reducible exact Grow.refl _ | with_reducible apply Grow.drewN | with_reducible apply Grow.drew | with_reducible apply Grow.alloc | (refine Grow.setCell ?_ (by simp; done) _)))⟩
      · have HE := Lib.hid hE
        clear hel hel' hE
        go_wp2
        go_ret
        refine ⟨ret_bool ?_, hb⟩
        rw [eq_comm, decide_eq_true_eq]
        exact same_all HL.out (by omega) HE.out
  · have hb : ((l.length : Int) != l'.length) = true := by simp; omega
    have HE : Hid (decide (l = l') = false) := by show _ = _; rw [decide_eq_false_iff_not]; rintro rfl; exact hlen rfl
    clear hlen hel hel'
    go_enter Try.func39, Try.ntmps39
    go_wp2
    go_ret
    exact ⟨ret_bool HE.out.symm, (by repeat (first | with_reducible assumption | with_reducible exact Grow.refl _ | with_reducible apply Grow.drewN | with_reducible apply Grow.drew | with_reducible apply Grow.alloc | (refine Grow.setCell ?_ (by simp; done) _)))⟩
theorem eql_sm (s t : Sm) (w : World) : (binOp .eql 25 (.agg #[.int .i64 s.a, .int .i64 s.b, .int .i64 s.c, .int .i64 s.d]) (.agg #[.int .i64 t.a, .int .i64 t.b, .int .i64 t.c, .int .i64 t.d])).run Try.prog w = .ok (.bool (decide (s = t))) w := by
  have u3 := Try.underlying3
  have a3 := Try.isAgg3
  have z3 := Try.sizeOf3
  obtain ⟨i, z, hi, _⟩ := ei_int.hi
  have hc : Try.prog.cellsOf 3 = 1 := by kernel_rfl
  rw [run_eql_struct, show (10000 : Nat) = 9999 + 1 from rfl, run_equalIn_array w 9999 _ _ Try.underlying25 hi, hc, show List.range 4 = [0, 1, 2, 3] from rfl]
  clear hi
  simp only [Op.eqItems]
  obtain ⟨a, b, c, d⟩ := s
  obtain ⟨a', b', c', d'⟩ := t
  go_simp
  by_cases h1 : a = a' <;> by_cases h2 : b = b' <;> by_cases h3 : c = c' <;> by_cases h4 : d = d' <;> simp [h1, h2, h3, h4]
theorem guard_sm : Try.prog.eqGuardType Try.prog.depth 25 = false := by kernel_rfl
end Go.Proofs.Ytgbhpghgohggcaa

/- The law LocksGo, walked. -/
namespace Go.Proofs.Ytgbhpghgohggcaa
open Go.RowKit
theorem go_ready {l : List Rc} {kind deed : Int} (hk : kind = 2 ∨ kind = 3) : (houseR (l ++ [⟨kind, deed, []⟩])).ready = (houseR l).ready.eraseP (isD deed) := by
  rw [house_snoc]
  show (refStep (houseR l) ⟨kind, deed, []⟩).ready = _
  rw [step_ready]
  by_cases h : ((houseR l).ready.find? (isD deed)).isSome = true
  · rw [if_pos h, if_pos hk]
  · rw [if_neg h, if_neg (by show ¬ kind = 1; omega), List.eraseP_of_forall_not]
    intro x hx hx2
    exact h (by rw [List.find?_isSome]; exact ⟨x, hx, hx2⟩)
theorem go_law {l : List Rc} {kind deed : Int} (key : Int) (hl : ∀ r ∈ l, 0 ≤ r.deed) (hk : kind = 2 ∨ kind = 3) (hd : 0 ≤ deed) :
    whoE (houseR (l ++ [⟨kind, deed, []⟩])).ready key ≠ deed ∧ (whoE (houseR l).ready key = deed ∨ whoE (houseR l).ready key = whoE (houseR (l ++ [⟨kind, deed, []⟩])).ready key) := by
  rw [go_ready hk]
  exact who_drop hd (house_fine hl).nodup key
theorem right_deeds {l : List Rc} (h : rightLog l = true) : ∀ r ∈ l, 0 ≤ r.deed := by
  unfold rightLog at h
  intro r hr
  exact (of_decide_eq_true ((of_decide_eq_true h).1 r hr)).1
set_option maxRecDepth 100000 in
set_option maxHeartbeats 2000000 in
theorem locksGo_walk {v : Value} {l : List Rc} {deed kind key : Int} (w : World) (hv : Rcs w.cell? v l) (hd : I64 deed) (hki : I64 kind) :
    Calls Try.prog 5 #[v, .int .i64 deed, .int .i64 kind, .int .i64 key] w fun e w' => e = .returned (.bool true) ∧ Grow w w' := by
  have HRL := Lib.hid (fun (W : World) (hW : Grow w W) => ref_rightLog W (hv.mono hW.sub))
  have HV := Lib.hid hv
  have HI := Lib.hid (And.intro hd hki)
  have HA := Lib.hid (alive6 w)
  obtain ⟨al, cl, rfl, -⟩ := hv
  clear hd hki
  cases hok : rightLog l with
  | false =>
    go_enter Try.func5, Try.ntmps5
    go_wp2_with fail
    refine HA.out.mono ?_
    rintro e w1 ⟨rfl, hb1⟩
    have HB1 := Lib.hid hb1
    clear hb1
    go_wp2_with fail
    refine (HRL.out _ HB1.out).mono ?_
    rw [hok]
    rintro e w2 ⟨rfl, hb2⟩
    have HB2 := Lib.hid (HB1.out.trans hb2)
    clear hb2
    go_wp2
    go_ret
    exact ⟨rfl, HB2.out⟩
  | true =>
    have HOK := Lib.hid hok
    clear hok
    by_cases hk : kind = 2 ∨ kind = 3
    · have hlen := (keys_of_right HOK.out).2
      have HKS := Lib.hid (keys_of_right HOK.out).1
      have hne : ∀ x ∈ houseR l |>.ready, True := fun _ _ => trivial
      have HLAW : Hid (0 ≤ deed → whoE (houseR (l ++ [⟨kind, deed, []⟩])).ready key ≠ deed ∧ (whoE (houseR l).ready key = deed ∨ whoE (houseR l).ready key = whoE (houseR (l ++ [⟨kind, deed, []⟩])).ready key)) := go_law key (right_deeds HOK.out) hk
      have HHS := Lib.hid (fun (W : World) (hW : Grow w W) => ref_house W (HV.out.mono hW.sub) HKS.out (by omega))
      have HSRC := Lib.hid (fun (W : World) (hW : Grow w W) => (Src.of_sl (T := Ty.rc) (by decide) HV.out).grow hW)
      clear hne
      rcases hk with rfl | rfl
      · go_enter Try.func5, Try.ntmps5
        go_wp2_with fail
        refine HA.out.mono ?_
        rintro e w1 ⟨rfl, hb1⟩
        have HB1 := Lib.hid hb1
        clear hb1
        go_wp2_with fail
        refine (HRL.out _ HB1.out).mono ?_
        rw [HOK.out]
        rintro e w2 ⟨rfl, hb2⟩
        have HB2 := Lib.hid (HB1.out.trans hb2)
        clear hb2
        go_wp2_with fail
        refine (HHS.out _ HB2.out).mono ?_
        rintro e w3 ⟨vh, rfl, hO, hb3⟩
        have HB3 := Lib.hid (HB2.out.trans hb3)
        obtain ⟨al1, cl1, ar1, cr1, ad1, cd1, rfl⟩ := hO.hs_form
        have HO := Lib.hid hO
        clear hO hb3
        have HW1 := Lib.hid (fun (W : World) (hW : Grow w3 W) => locks_who (key := key) W (HO.out.mono hW.sub))
        generalize houseR l = h at *
        go_wp2_with (first | (at_builtin; refine wpList_appc ei_rc rfl one_Trc (by decide) rfl (.tmp 28) (.tmp 29) rfl rfl (OwnC.made0 Ty.rc w.cell? _ (w3.heap.size + 1) _ ?c1 ?c1') rfl (HSRC.out _ ?c2) ?c3 ?c4 ?_))
        case c1 => simp
        case c1' => simp
        case c2 => exact (HB3.out.alloc _).alloc _
        case c3 => simp; omega
        case c4 => simp
        intro a1 c1 w4 hown1 hg1 hb1
        try simp only [List.length_nil, Nat.zero_add, List.nil_append] at hown1 hb1 ⊢
        have g4 := grow_by (w0 := (w3.alloc (.cells #[.slice al1 h.log.length cl1, .int .i64 h.sums.a, .int .i64 h.sums.b, .int .i64 h.sums.c, .int .i64 h.sums.d, .slice ar1 h.ready.length cr1, .slice ad1 h.done.length cd1] 29))) ((Grow.refl _).alloc _) hg1 (own_at (by simp))
        have b4 := own_new (B := w3.heap.size + 1) (by simp) hb1 (own_at (Nat.le_refl _))
        have GW4 : Hid (Grow w w4) := Lib.hid ((HB3.out.alloc _).trans g4)
        have HO4 := Lib.hid hown1
        have HG4 := Lib.hid g4
        have HB4 := Lib.hid b4
        obtain ⟨cw4, fw4⟩ := bcell g4
        have z4 : w3.heap.size < w4.heap.size := by have := g4.size; simp at this; omega
        clear hown1 hg1 hb1 g4 b4
        go_wp2_with (first | (at_builtin; refine wpList_appc (c := w.cell?) (base := w3.heap.size + 1) (m := [⟨2, deed, []⟩]) ei_rc rfl one_Trc (by decide) rfl (.tmp 30) (.tmp 34) rfl rfl (HO4.out.grow ((Grow.refl _).alloc _)) rfl (Src.of_new (cs := #[.int .i64 2, .int .i64 deed, .slice none 0 0]) ?d0 _ _ ?d1) ?d2 ?d3 ?_))
        case d0 => exact ⟨_, rfl, HI.out.2, HI.out.1, Sl.nil _ _⟩
        case d1 => rfl
        case d2 => simp; omega
        case d3 => simp; omega
        intro a2 c2 w5 hown2 hg2 hb2
        have g5 := grow_by (w0 := (w3.alloc (.cells #[.slice al1 h.log.length cl1, .int .i64 h.sums.a, .int .i64 h.sums.b, .int .i64 h.sums.c, .int .i64 h.sums.d, .slice ar1 h.ready.length cr1, .slice ad1 h.done.length cd1] 29))) (HG4.out.alloc _) hg2 (fun k hk => by have := HB4.out k hk; simpa using this)
        have GW5 : Hid (Grow w w5) := Lib.hid ((HB3.out.alloc _).trans g5)
        have HG5 := Lib.hid g5
        have hv5 := hown2.sl (by decide) GW5.out.sub
        have HV5 := Lib.hid hv5
        obtain ⟨cw5, fw5⟩ := bcell g5
        have z5 : w3.heap.size < w5.heap.size := by have := g5.size; simp at this; omega
        clear hown2 hg2 hb2 g5 hv5 cw4 fw4
        go_wp2_with fail
        refine (ref_house w5 HV5.out (by intro r hr; rcases List.mem_append.1 hr with hr | hr; exact HKS.out r hr; simp at hr; subst hr; intro p hp; simp at hp) (by simp; omega)).mono ?_
        rintro e w6 ⟨vx, rfl, hX, hb6⟩
        obtain ⟨al2, cl2, ar2, cr2, ad2, cd2, rfl⟩ := hX.hs_form
        have HX := Lib.hid hX
        have G6 : Hid (Grow (w3.alloc (.cells #[.slice al1 h.log.length cl1, .int .i64 h.sums.a, .int .i64 h.sums.b, .int .i64 h.sums.c, .int .i64 h.sums.d, .slice ar1 h.ready.length cr1, .slice ad1 h.done.length cd1] 29)) w6) := Lib.hid (HG5.out.trans hb6)
        have GW6 : Hid (Grow w w6) := Lib.hid (GW5.out.trans hb6)
        obtain ⟨cw6, fw6⟩ := bcell G6.out
        have z6 : w3.heap.size < w6.heap.size := by have := G6.out.size; simp at this; omega
        have HW2 := Lib.hid (fun (W : World) (hW : Grow w6 W) => locks_who (key := key) W (HX.out.mono hW.sub))
        clear hX hb6 cw5 fw5
        generalize houseR (l ++ [⟨2, deed, []⟩]) = x at *
        go_wp2_with fail
        have HS : Hid (∀ W, Grow (w6.alloc (.cells #[.slice al2 x.log.length cl2, .int .i64 x.sums.a, .int .i64 x.sums.b, .int .i64 x.sums.c, .int .i64 x.sums.d, .slice ar2 x.ready.length cr2, .slice ad2 x.done.length cd2] 29)) W → W.cell? ⟨w3.heap.size, 0, none⟩ = some (.slice al1 h.log.length cl1) ∧ W.cell? ⟨w3.heap.size, 1, none⟩ = some (.int .i64 h.sums.a) ∧ W.cell? ⟨w3.heap.size, 2, none⟩ = some (.int .i64 h.sums.b) ∧ W.cell? ⟨w3.heap.size, 3, none⟩ = some (.int .i64 h.sums.c) ∧ W.cell? ⟨w3.heap.size, 4, none⟩ = some (.int .i64 h.sums.d) ∧ W.cell? ⟨w3.heap.size, 5, none⟩ = some (.slice ar1 h.ready.length cr1) ∧ W.cell? ⟨w3.heap.size, 6, none⟩ = some (.slice ad1 h.done.length cd1) ∧ W.cell? ⟨w6.heap.size, 0, none⟩ = some (.slice al2 x.log.length cl2) ∧ W.cell? ⟨w6.heap.size, 1, none⟩ = some (.int .i64 x.sums.a) ∧ W.cell? ⟨w6.heap.size, 2, none⟩ = some (.int .i64 x.sums.b) ∧ W.cell? ⟨w6.heap.size, 3, none⟩ = some (.int .i64 x.sums.c) ∧ W.cell? ⟨w6.heap.size, 4, none⟩ = some (.int .i64 x.sums.d) ∧ W.cell? ⟨w6.heap.size, 5, none⟩ = some (.slice ar2 x.ready.length cr2) ∧ W.cell? ⟨w6.heap.size, 6, none⟩ = some (.slice ad2 x.done.length cd2)) := fun W hW => by
          have k := fun i u (e : (w3.alloc (.cells #[.slice al1 h.log.length cl1, .int .i64 h.sums.a, .int .i64 h.sums.b, .int .i64 h.sums.c, .int .i64 h.sums.d, .slice ar1 h.ready.length cr1, .slice ad1 h.done.length cd1] 29)).cell? ⟨w3.heap.size, i, none⟩ = some u) => (((Grow.refl w6).alloc _).trans hW).sub _ _ (G6.out.sub _ _ e)
          have m := fun i u (e : (w6.alloc (.cells #[.slice al2 x.log.length cl2, .int .i64 x.sums.a, .int .i64 x.sums.b, .int .i64 x.sums.c, .int .i64 x.sums.d, .slice ar2 x.ready.length cr2, .slice ad2 x.done.length cd2] 29)).cell? ⟨w6.heap.size, i, none⟩ = some u) => hW.sub _ _ e
          refine ⟨k 0 _ ?_, k 1 _ ?_, k 2 _ ?_, k 3 _ ?_, k 4 _ ?_, k 5 _ ?_, k 6 _ ?_, m 0 _ ?_, m 1 _ ?_, m 2 _ ?_, m 3 _ ?_, m 4 _ ?_, m 5 _ ?_, m 6 _ ?_⟩ <;> (rw [World.cell?_alloc_new]; rfl)
        have HW1' := Lib.hid (fun (W : World) (hW : Grow (w6.alloc (.cells #[.slice al2 x.log.length cl2, .int .i64 x.sums.a, .int .i64 x.sums.b, .int .i64 x.sums.c, .int .i64 x.sums.d, .slice ar2 x.ready.length cr2, .slice ad2 x.done.length cd2] 29)) W) => HW1.out W (by have h1 := G6.out; have h2 := (Grow.refl w3).alloc (.cells #[.slice al1 h.log.length cl1, .int .i64 h.sums.a, .int .i64 h.sums.b, .int .i64 h.sums.c, .int .i64 h.sums.d, .slice ar1 h.ready.length cr1, .slice ad1 h.done.length cd1] 29); exact (h2.trans h1).trans (((Grow.refl w6).alloc _).trans hW)))
        have HW2' := Lib.hid (fun (W : World) (hW : Grow (w6.alloc (.cells #[.slice al2 x.log.length cl2, .int .i64 x.sums.a, .int .i64 x.sums.b, .int .i64 x.sums.c, .int .i64 x.sums.d, .slice ar2 x.ready.length cr2, .slice ad2 x.done.length cd2] 29)) W) => HW2.out W (((Grow.refl w6).alloc _).trans hW))
        clear HW1 HW2
        generalize whoE h.ready key = wo at *
        generalize whoE x.ready key = wn at *
        generalize hW7 : (w6.alloc (.cells #[.slice al2 x.log.length cl2, .int .i64 x.sums.a, .int .i64 x.sums.b, .int .i64 x.sums.c, .int .i64 x.sums.d, .slice ar2 x.ready.length cr2, .slice ad2 x.done.length cd2] 29)) = w7 at *
        have HW7 := Lib.hid hW7
        clear hW7 cw6 fw6 z6 z5 z4
        go_region_held3 (fun w' => w'.cell? ⟨w3.heap.size, 0, none⟩ = some (.slice al1 h.log.length cl1) ∧ w'.cell? ⟨w3.heap.size, 1, none⟩ = some (.int .i64 h.sums.a) ∧ w'.cell? ⟨w3.heap.size, 2, none⟩ = some (.int .i64 h.sums.b) ∧ w'.cell? ⟨w3.heap.size, 3, none⟩ = some (.int .i64 h.sums.c) ∧ w'.cell? ⟨w3.heap.size, 4, none⟩ = some (.int .i64 h.sums.d) ∧ w'.cell? ⟨w3.heap.size, 5, none⟩ = some (.slice ar1 h.ready.length cr1) ∧ w'.cell? ⟨w3.heap.size, 6, none⟩ = some (.slice ad1 h.done.length cd1) ∧ w'.cell? ⟨w6.heap.size, 0, none⟩ = some (.slice al2 x.log.length cl2) ∧ w'.cell? ⟨w6.heap.size, 1, none⟩ = some (.int .i64 x.sums.a) ∧ w'.cell? ⟨w6.heap.size, 2, none⟩ = some (.int .i64 x.sums.b) ∧ w'.cell? ⟨w6.heap.size, 3, none⟩ = some (.int .i64 x.sums.c) ∧ w'.cell? ⟨w6.heap.size, 4, none⟩ = some (.int .i64 x.sums.d) ∧ w'.cell? ⟨w6.heap.size, 5, none⟩ = some (.slice ar2 x.ready.length cr2) ∧ w'.cell? ⟨w6.heap.size, 6, none⟩ = some (.slice ad2 x.done.length cd2)) (first | assumption | exact HS.out _ (by repeat (first | with_reducible assumption | with_reducible exact Grow.refl _ | with_reducible apply Grow.drewN | with_reducible apply Grow.drew | with_reducible apply Grow.alloc | (refine Grow.trans ?_ (by with_reducible assumption))))) (first | (go_at_call 31; first | ((with_reducible refine (HW1'.out _ (by repeat (first | with_reducible assumption | with_reducible exact Grow.refl _ | with_reducible apply Grow.drewN | with_reducible apply Grow.drew | with_reducible apply Grow.alloc | (refine Grow.trans ?_ (by with_reducible assumption))))).mono ?_); rintro e wa ⟨rfl, hba⟩) | ((with_reducible refine (HW2'.out _ (by repeat (first | with_reducible assumption | with_reducible exact Grow.refl _ | with_reducible apply Grow.drewN | with_reducible apply Grow.drew | with_reducible apply Grow.alloc | (refine Grow.trans ?_ (by with_reducible assumption))))).mono ?_); rintro e wb ⟨rfl, hbb⟩)))
        have HF : Hid (deed < 0 ∨ wn ≠ deed ∧ (wo = deed ∨ wo = wn)) := by
          by_cases h0 : deed < 0
          · exact .inl h0
          · exact .inr (HLAW.out (by omega))
        have HGW : Hid (Grow w w7) := by rw [← HW7.out]; exact GW6.out.alloc _
        go_wp2
        all_goals
          go_ret
          refine ⟨ret_bool ?_, HGW.out.trans (by repeat (first | with_reducible assumption | with_reducible exact Grow.refl _ | with_reducible apply Grow.drewN | with_reducible apply Grow.drew | with_reducible apply Grow.alloc | (refine Grow.trans ?_ (by with_reducible assumption))))⟩
          have hf := HF.out
          first
            | rfl
            | (simp; omega)
      · go_enter Try.func5, Try.ntmps5
        go_wp2_with fail
        refine HA.out.mono ?_
        rintro e w1 ⟨rfl, hb1⟩
        have HB1 := Lib.hid hb1
        clear hb1
        go_wp2_with fail
        refine (HRL.out _ HB1.out).mono ?_
        rw [HOK.out]
        rintro e w2 ⟨rfl, hb2⟩
        have HB2 := Lib.hid (HB1.out.trans hb2)
        clear hb2
        go_wp2_with fail
        refine (HHS.out _ HB2.out).mono ?_
        rintro e w3 ⟨vh, rfl, hO, hb3⟩
        have HB3 := Lib.hid (HB2.out.trans hb3)
        obtain ⟨al1, cl1, ar1, cr1, ad1, cd1, rfl⟩ := hO.hs_form
        have HO := Lib.hid hO
        clear hO hb3
        have HW1 := Lib.hid (fun (W : World) (hW : Grow w3 W) => locks_who (key := key) W (HO.out.mono hW.sub))
        generalize houseR l = h at *
        go_wp2_with (first | (at_builtin; refine wpList_appc ei_rc rfl one_Trc (by decide) rfl (.tmp 28) (.tmp 29) rfl rfl (OwnC.made0 Ty.rc w.cell? _ (w3.heap.size + 1) _ ?c1 ?c1') rfl (HSRC.out _ ?c2) ?c3 ?c4 ?_))
        case c1 => simp
        case c1' => simp
        case c2 => exact (HB3.out.alloc _).alloc _
        case c3 => simp; omega
        case c4 => simp
        intro a1 c1 w4 hown1 hg1 hb1
        try simp only [List.length_nil, Nat.zero_add, List.nil_append] at hown1 hb1 ⊢
        have g4 := grow_by (w0 := (w3.alloc (.cells #[.slice al1 h.log.length cl1, .int .i64 h.sums.a, .int .i64 h.sums.b, .int .i64 h.sums.c, .int .i64 h.sums.d, .slice ar1 h.ready.length cr1, .slice ad1 h.done.length cd1] 29))) ((Grow.refl _).alloc _) hg1 (own_at (by simp))
        have b4 := own_new (B := w3.heap.size + 1) (by simp) hb1 (own_at (Nat.le_refl _))
        have GW4 : Hid (Grow w w4) := Lib.hid ((HB3.out.alloc _).trans g4)
        have HO4 := Lib.hid hown1
        have HG4 := Lib.hid g4
        have HB4 := Lib.hid b4
        obtain ⟨cw4, fw4⟩ := bcell g4
        have z4 : w3.heap.size < w4.heap.size := by have := g4.size; simp at this; omega
        clear hown1 hg1 hb1 g4 b4
        go_wp2_with (first | (at_builtin; refine wpList_appc (c := w.cell?) (base := w3.heap.size + 1) (m := [⟨3, deed, []⟩]) ei_rc rfl one_Trc (by decide) rfl (.tmp 30) (.tmp 34) rfl rfl (HO4.out.grow ((Grow.refl _).alloc _)) rfl (Src.of_new (cs := #[.int .i64 3, .int .i64 deed, .slice none 0 0]) ?d0 _ _ ?d1) ?d2 ?d3 ?_))
        case d0 => exact ⟨_, rfl, HI.out.2, HI.out.1, Sl.nil _ _⟩
        case d1 => rfl
        case d2 => simp; omega
        case d3 => simp; omega
        intro a2 c2 w5 hown2 hg2 hb2
        have g5 := grow_by (w0 := (w3.alloc (.cells #[.slice al1 h.log.length cl1, .int .i64 h.sums.a, .int .i64 h.sums.b, .int .i64 h.sums.c, .int .i64 h.sums.d, .slice ar1 h.ready.length cr1, .slice ad1 h.done.length cd1] 29))) (HG4.out.alloc _) hg2 (fun k hk => by have := HB4.out k hk; simpa using this)
        have GW5 : Hid (Grow w w5) := Lib.hid ((HB3.out.alloc _).trans g5)
        have HG5 := Lib.hid g5
        have hv5 := hown2.sl (by decide) GW5.out.sub
        have HV5 := Lib.hid hv5
        obtain ⟨cw5, fw5⟩ := bcell g5
        have z5 : w3.heap.size < w5.heap.size := by have := g5.size; simp at this; omega
        clear hown2 hg2 hb2 g5 hv5 cw4 fw4
        go_wp2_with fail
        refine (ref_house w5 HV5.out (by intro r hr; rcases List.mem_append.1 hr with hr | hr; exact HKS.out r hr; simp at hr; subst hr; intro p hp; simp at hp) (by simp; omega)).mono ?_
        rintro e w6 ⟨vx, rfl, hX, hb6⟩
        obtain ⟨al2, cl2, ar2, cr2, ad2, cd2, rfl⟩ := hX.hs_form
        have HX := Lib.hid hX
        have G6 : Hid (Grow (w3.alloc (.cells #[.slice al1 h.log.length cl1, .int .i64 h.sums.a, .int .i64 h.sums.b, .int .i64 h.sums.c, .int .i64 h.sums.d, .slice ar1 h.ready.length cr1, .slice ad1 h.done.length cd1] 29)) w6) := Lib.hid (HG5.out.trans hb6)
        have GW6 : Hid (Grow w w6) := Lib.hid (GW5.out.trans hb6)
        obtain ⟨cw6, fw6⟩ := bcell G6.out
        have z6 : w3.heap.size < w6.heap.size := by have := G6.out.size; simp at this; omega
        have HW2 := Lib.hid (fun (W : World) (hW : Grow w6 W) => locks_who (key := key) W (HX.out.mono hW.sub))
        clear hX hb6 cw5 fw5
        generalize houseR (l ++ [⟨3, deed, []⟩]) = x at *
        go_wp2_with fail
        have HS : Hid (∀ W, Grow (w6.alloc (.cells #[.slice al2 x.log.length cl2, .int .i64 x.sums.a, .int .i64 x.sums.b, .int .i64 x.sums.c, .int .i64 x.sums.d, .slice ar2 x.ready.length cr2, .slice ad2 x.done.length cd2] 29)) W → W.cell? ⟨w3.heap.size, 0, none⟩ = some (.slice al1 h.log.length cl1) ∧ W.cell? ⟨w3.heap.size, 1, none⟩ = some (.int .i64 h.sums.a) ∧ W.cell? ⟨w3.heap.size, 2, none⟩ = some (.int .i64 h.sums.b) ∧ W.cell? ⟨w3.heap.size, 3, none⟩ = some (.int .i64 h.sums.c) ∧ W.cell? ⟨w3.heap.size, 4, none⟩ = some (.int .i64 h.sums.d) ∧ W.cell? ⟨w3.heap.size, 5, none⟩ = some (.slice ar1 h.ready.length cr1) ∧ W.cell? ⟨w3.heap.size, 6, none⟩ = some (.slice ad1 h.done.length cd1) ∧ W.cell? ⟨w6.heap.size, 0, none⟩ = some (.slice al2 x.log.length cl2) ∧ W.cell? ⟨w6.heap.size, 1, none⟩ = some (.int .i64 x.sums.a) ∧ W.cell? ⟨w6.heap.size, 2, none⟩ = some (.int .i64 x.sums.b) ∧ W.cell? ⟨w6.heap.size, 3, none⟩ = some (.int .i64 x.sums.c) ∧ W.cell? ⟨w6.heap.size, 4, none⟩ = some (.int .i64 x.sums.d) ∧ W.cell? ⟨w6.heap.size, 5, none⟩ = some (.slice ar2 x.ready.length cr2) ∧ W.cell? ⟨w6.heap.size, 6, none⟩ = some (.slice ad2 x.done.length cd2)) := fun W hW => by
          have k := fun i u (e : (w3.alloc (.cells #[.slice al1 h.log.length cl1, .int .i64 h.sums.a, .int .i64 h.sums.b, .int .i64 h.sums.c, .int .i64 h.sums.d, .slice ar1 h.ready.length cr1, .slice ad1 h.done.length cd1] 29)).cell? ⟨w3.heap.size, i, none⟩ = some u) => (((Grow.refl w6).alloc _).trans hW).sub _ _ (G6.out.sub _ _ e)
          have m := fun i u (e : (w6.alloc (.cells #[.slice al2 x.log.length cl2, .int .i64 x.sums.a, .int .i64 x.sums.b, .int .i64 x.sums.c, .int .i64 x.sums.d, .slice ar2 x.ready.length cr2, .slice ad2 x.done.length cd2] 29)).cell? ⟨w6.heap.size, i, none⟩ = some u) => hW.sub _ _ e
          refine ⟨k 0 _ ?_, k 1 _ ?_, k 2 _ ?_, k 3 _ ?_, k 4 _ ?_, k 5 _ ?_, k 6 _ ?_, m 0 _ ?_, m 1 _ ?_, m 2 _ ?_, m 3 _ ?_, m 4 _ ?_, m 5 _ ?_, m 6 _ ?_⟩ <;> (rw [World.cell?_alloc_new]; rfl)
        have HW1' := Lib.hid (fun (W : World) (hW : Grow (w6.alloc (.cells #[.slice al2 x.log.length cl2, .int .i64 x.sums.a, .int .i64 x.sums.b, .int .i64 x.sums.c, .int .i64 x.sums.d, .slice ar2 x.ready.length cr2, .slice ad2 x.done.length cd2] 29)) W) => HW1.out W (by have h1 := G6.out; have h2 := (Grow.refl w3).alloc (.cells #[.slice al1 h.log.length cl1, .int .i64 h.sums.a, .int .i64 h.sums.b, .int .i64 h.sums.c, .int .i64 h.sums.d, .slice ar1 h.ready.length cr1, .slice ad1 h.done.length cd1] 29); exact (h2.trans h1).trans (((Grow.refl w6).alloc _).trans hW)))
        have HW2' := Lib.hid (fun (W : World) (hW : Grow (w6.alloc (.cells #[.slice al2 x.log.length cl2, .int .i64 x.sums.a, .int .i64 x.sums.b, .int .i64 x.sums.c, .int .i64 x.sums.d, .slice ar2 x.ready.length cr2, .slice ad2 x.done.length cd2] 29)) W) => HW2.out W (((Grow.refl w6).alloc _).trans hW))
        clear HW1 HW2
        generalize whoE h.ready key = wo at *
        generalize whoE x.ready key = wn at *
        generalize hW7 : (w6.alloc (.cells #[.slice al2 x.log.length cl2, .int .i64 x.sums.a, .int .i64 x.sums.b, .int .i64 x.sums.c, .int .i64 x.sums.d, .slice ar2 x.ready.length cr2, .slice ad2 x.done.length cd2] 29)) = w7 at *
        have HW7 := Lib.hid hW7
        clear hW7 cw6 fw6 z6 z5 z4
        go_region_held3 (fun w' => w'.cell? ⟨w3.heap.size, 0, none⟩ = some (.slice al1 h.log.length cl1) ∧ w'.cell? ⟨w3.heap.size, 1, none⟩ = some (.int .i64 h.sums.a) ∧ w'.cell? ⟨w3.heap.size, 2, none⟩ = some (.int .i64 h.sums.b) ∧ w'.cell? ⟨w3.heap.size, 3, none⟩ = some (.int .i64 h.sums.c) ∧ w'.cell? ⟨w3.heap.size, 4, none⟩ = some (.int .i64 h.sums.d) ∧ w'.cell? ⟨w3.heap.size, 5, none⟩ = some (.slice ar1 h.ready.length cr1) ∧ w'.cell? ⟨w3.heap.size, 6, none⟩ = some (.slice ad1 h.done.length cd1) ∧ w'.cell? ⟨w6.heap.size, 0, none⟩ = some (.slice al2 x.log.length cl2) ∧ w'.cell? ⟨w6.heap.size, 1, none⟩ = some (.int .i64 x.sums.a) ∧ w'.cell? ⟨w6.heap.size, 2, none⟩ = some (.int .i64 x.sums.b) ∧ w'.cell? ⟨w6.heap.size, 3, none⟩ = some (.int .i64 x.sums.c) ∧ w'.cell? ⟨w6.heap.size, 4, none⟩ = some (.int .i64 x.sums.d) ∧ w'.cell? ⟨w6.heap.size, 5, none⟩ = some (.slice ar2 x.ready.length cr2) ∧ w'.cell? ⟨w6.heap.size, 6, none⟩ = some (.slice ad2 x.done.length cd2)) (first | assumption | exact HS.out _ (by repeat (first | with_reducible assumption | with_reducible exact Grow.refl _ | with_reducible apply Grow.drewN | with_reducible apply Grow.drew | with_reducible apply Grow.alloc | (refine Grow.trans ?_ (by with_reducible assumption))))) (first | (go_at_call 31; first | ((with_reducible refine (HW1'.out _ (by repeat (first | with_reducible assumption | with_reducible exact Grow.refl _ | with_reducible apply Grow.drewN | with_reducible apply Grow.drew | with_reducible apply Grow.alloc | (refine Grow.trans ?_ (by with_reducible assumption))))).mono ?_); rintro e wa ⟨rfl, hba⟩) | ((with_reducible refine (HW2'.out _ (by repeat (first | with_reducible assumption | with_reducible exact Grow.refl _ | with_reducible apply Grow.drewN | with_reducible apply Grow.drew | with_reducible apply Grow.alloc | (refine Grow.trans ?_ (by with_reducible assumption))))).mono ?_); rintro e wb ⟨rfl, hbb⟩)))
        have HF : Hid (deed < 0 ∨ wn ≠ deed ∧ (wo = deed ∨ wo = wn)) := by
          by_cases h0 : deed < 0
          · exact .inl h0
          · exact .inr (HLAW.out (by omega))
        have HGW : Hid (Grow w w7) := by rw [← HW7.out]; exact GW6.out.alloc _
        go_wp2
        all_goals
          go_ret
          refine ⟨ret_bool ?_, HGW.out.trans (by repeat (first | with_reducible assumption | with_reducible exact Grow.refl _ | with_reducible apply Grow.drewN | with_reducible apply Grow.drew | with_reducible apply Grow.alloc | (refine Grow.trans ?_ (by with_reducible assumption))))⟩
          have hf := HF.out
          first
            | rfl
            | (simp; omega)
    · have hk2 : (kind != 2) = true := by simp; omega
      have hk3 : (kind != 3) = true := by simp; omega
      clear hk
      go_enter Try.func5, Try.ntmps5
      go_wp2_with fail
      refine HA.out.mono ?_
      rintro e w1 ⟨rfl, hb1⟩
      have HB1 := Lib.hid hb1
      clear hb1
      go_wp2_with fail
      refine (HRL.out _ HB1.out).mono ?_
      rw [HOK.out]
      rintro e w2 ⟨rfl, hb2⟩
      have HB2 := Lib.hid (HB1.out.trans hb2)
      clear hb2
      go_wp2
      go_ret
      exact ⟨rfl, HB2.out⟩

theorem locksGo_law {v : Value} {l : List Rc} {deed kind key : Int} (w : World) (hv : Sl Ty.rc w.cell? v l) (_hs : l.length * 40 ≤ 140737488351232) (hd : (Lit.int .i64 deed).wf = true) (hki : (Lit.int .i64 kind).wf = true) (_hk : (Lit.int .i64 key).wf = true) :
    Calls Try.prog 5 #[v, .int .i64 deed, .int .i64 kind, .int .i64 key] w fun e w' => e = .returned (.bool true) ∧ Grow w w' := locksGo_walk w hv hd hki
end Go.Proofs.Ytgbhpghgohggcaa

/- The law LogStill, walked. -/
namespace Go.Proofs.Ytgbhpghgohggcaa
open Go.RowKit
theorem right_small {l : List Rc} (h : rightLog l = true) : ∀ r ∈ l, r.parts.length ≤ 4 := by
  unfold rightLog at h
  intro r hr
  have h1 := of_decide_eq_true ((of_decide_eq_true h).1 r hr)
  by_cases e : r.parts = []
  · rw [e]; simp
  · exact (wrong_ok (h1.2.1 e)).2.1
theorem still_take {r : Rc} {s : Sm} {l : List Rd} {j : Nat} (h : j < l.length) : stillF r s (l.take (j + 1)) = (if l[j].deed = r.deed ∧ r.kind = 2 then doP (stillF r s (l.take j)) l[j].parts else stillF r s (l.take j)) := by
  unfold stillF
  rw [List.take_succ_eq_append_getElem h, List.foldl_append]
  rfl
theorem note_house (l : List Rc) (r : Rc) : noteE (houseR l) r = houseR (l ++ [r]) := by
  unfold noteE
  rw [log_house]
theorem ready_keys {l : List Rc} (h : ∀ r ∈ l, KeysOk r.parts) : ∀ x ∈ (houseR l).ready, KeysOk x.parts := by
  have : ∀ (l : List Rc) (h0 : Hs), (∀ x ∈ h0.ready, KeysOk x.parts) → (∀ r ∈ l, KeysOk r.parts) → ∀ x ∈ (l.foldl refStep h0).ready, KeysOk x.parts := by
    intro l
    induction l with
    | nil => intro h0 h1 _; exact h1
    | cons r l ih =>
      intro h0 h1 h2
      rw [List.foldl_cons]
      refine ih _ (fun x hx => ?_) fun y hy => h2 y (List.mem_cons_of_mem _ hy)
      rw [step_ready] at hx
      split at hx
      · split at hx
        · exact h1 x (List.eraseP_sublist.subset hx)
        · exact h1 x hx
      · split at hx
        · rcases List.mem_append.1 hx with hx | hx
          · exact h1 x hx
          · rw [List.mem_singleton.1 hx]; exact h2 r List.mem_cons_self
        · exact h1 x hx
  exact this l _ (by simp) h
theorem house_len (l : List Rc) : (houseR l).ready.length ≤ l.length := by
  have : ∀ (l : List Rc) (h0 : Hs), (l.foldl refStep h0).ready.length ≤ h0.ready.length + l.length := by
    intro l
    induction l with
    | nil => intro h0; simp
    | cons r l ih =>
      intro h0
      rw [List.foldl_cons]
      have h1 := ih (refStep h0 r)
      have h2 : (refStep h0 r).ready.length ≤ h0.ready.length + 1 := by
        rw [step_ready]
        split
        · split
          · exact Nat.le_trans List.eraseP_sublist.length_le (by omega)
          · omega
        · split
          · simp
          · omega
      simp only [List.length_cons]
      omega
  simpa [houseR] using this l ⟨l, ⟨0, 0, 0, 0⟩, [], []⟩
set_option maxRecDepth 100000 in
set_option maxHeartbeats 4000000 in
theorem logStill_walk {v vr : Value} {l : List Rc} {r : Rc} (w : World) (hv : Rcs w.cell? v l) (_hs : l.length * 40 ≤ 140737488351232) (hr : Of Ty.rc w.cell? vr r) :
    Calls Try.prog 7 #[v, vr] w fun e w' => e = .returned (.bool true) ∧ Grow w w' := by
  obtain ⟨ap, cp, rfl⟩ := hr.rc_form
  have hr3 : Ty.rc.R w.cell? [.int .i64 r.kind, .int .i64 r.deed, .slice ap r.parts.length cp] r := Of.cells hr
  have HR := Lib.hid hr3
  have HOR := Lib.hid hr
  have HV := Lib.hid hv
  have HRL := Lib.hid (fun (W : World) (hW : Grow w W) => ref_rightLog W (hv.mono hW.sub))
  have HAL := Lib.hid (fun (W : World) => alive5 W)
  have HR1 := Lib.hid (fun (W : World) (hW : Grow w W) => ref_rightLog (v := .slice (some ⟨W.heap.size, 0, none⟩) 1 1) (l := [r]) (W.alloc (.cells #[.int .i64 r.kind, .int .i64 r.deed, .slice ap r.parts.length cp] 48)) (sl_one (T := Ty.rc) (Ty.rc.mono (hW.trans ((Grow.refl W).alloc _)).sub hr3) (at_new W _ _) (by decide) (by decide)))
  obtain ⟨al, cl, rfl, -⟩ := hv
  clear hr hr3
  cases hok : rightLog l with
  | false =>
    go_enter Try.func7, Try.ntmps7
    go_wp2_with fail
    refine (HAL.out _).mono ?_
    rintro e w1 ⟨rfl, hb1⟩
    have HB1 := Lib.hid (((Grow.refl w).alloc (.cells #[.int .i64 r.kind, .int .i64 r.deed, .slice ap r.parts.length cp] 48)).trans hb1)
    clear hb1
    go_wp2_with fail
    refine (HRL.out _ HB1.out).mono ?_
    rw [hok]
    rintro e w2 ⟨rfl, hb2⟩
    go_wp2
    go_ret
    exact ⟨rfl, HB1.out.trans hb2⟩
  | true =>
    have HOK := Lib.hid hok
    clear hok
    cases hok1 : rightLog [r] with
    | false =>
      go_enter Try.func7, Try.ntmps7
      go_wp2_with fail
      refine (HAL.out _).mono ?_
      rintro e w1 ⟨rfl, hb1⟩
      have HB1 := Lib.hid (((Grow.refl w).alloc (.cells #[.int .i64 r.kind, .int .i64 r.deed, .slice ap r.parts.length cp] 48)).trans hb1)
      have R3 := Lib.hid (row_grow (row_new w (.cells #[.int .i64 r.kind, .int .i64 r.deed, .slice ap r.parts.length cp] 48)) hb1)
      clear hb1
      go_wp2_with fail
      refine (HRL.out _ HB1.out).mono ?_
      rw [HOK.out]
      rintro e w2 ⟨rfl, hb2⟩
      have HB2 := Lib.hid (HB1.out.trans hb2)
      obtain ⟨q0, q1, q2⟩ := cells3 (row_grow R3.out hb2)
      have qz : w.heap.size < w2.heap.size := (Array.getElem?_eq_some_iff.1 (row_grow R3.out hb2)).1
      clear hb2
      go_wp2_with fail
      refine (HR1.out _ HB2.out).mono ?_
      rw [hok1]
      rintro e w3 ⟨rfl, hb3⟩
      go_wp2
      go_ret
      exact ⟨rfl, (HB2.out.alloc _).trans hb3⟩
    | true =>
      have hkeys := keys_of_right HOK.out
      have hkr : KeysOk r.parts := (keys_of_right hok1).1 r (by simp)
      have hsm := right_small HOK.out
      have hsr := right_small hok1 r (by simp)
      have HHS := Lib.hid (fun (W : World) (hW : Grow w W) => wlog_house W (HV.out.mono hW.sub) hkeys.1 (by omega) (fun x hx => by have := hsm x hx; omega))
      have HNT := Lib.hid (fun (vx : Value) (W : World) (hW : Grow w W) (hx : Of Ty.hs W.cell? vx (houseR l)) => wlog_note W hx (HOR.out.mono hW.sub) (by rw [log_house]; exact hkeys.1) hkr (by rw [log_house]; omega) (by rw [log_house]; exact fun x hx => by have := hsm x hx; omega) (by omega))
      have HLAW := Lib.hid (still_law r (right_deeds HOK.out))
      have HRK := Lib.hid (ready_keys hkeys.1)
      have HO1 := Lib.hid hok1
      have HHO : Hid ((houseR l).ready.length ≤ 60) := by
        have := house_len l
        have := hkeys.2
        show _ ≤ _; omega
      clear hkeys hkr hsm hsr hok1
      go_enter Try.func7, Try.ntmps7
      go_wp2_with fail
      refine (HAL.out _).mono ?_
      rintro e w1 ⟨rfl, hb1⟩
      have HB1 := Lib.hid (((Grow.refl w).alloc (.cells #[.int .i64 r.kind, .int .i64 r.deed, .slice ap r.parts.length cp] 48)).trans hb1)
      have R3 := Lib.hid (row_grow (row_new w (.cells #[.int .i64 r.kind, .int .i64 r.deed, .slice ap r.parts.length cp] 48)) hb1)
      clear hb1
      go_wp2_with fail
      refine (HRL.out _ HB1.out).mono ?_
      rw [HOK.out]
      rintro e w2 ⟨rfl, hb2⟩
      have HB2 := Lib.hid (HB1.out.trans hb2)
      have R32 := Lib.hid (row_grow R3.out hb2)
      obtain ⟨q0, q1, q2⟩ := cells3 R32.out
      have qz : w.heap.size < w2.heap.size := (Array.getElem?_eq_some_iff.1 R32.out).1
      clear hb2
      go_wp2_with fail
      refine (HR1.out _ HB2.out).mono ?_
      rw [HO1.out]
      rintro e w3 ⟨rfl, hb3⟩
      have HB3 := Lib.hid ((HB2.out.alloc _).trans hb3)
      have R33 := Lib.hid (row_grow R32.out (((Grow.refl w2).alloc _).trans hb3))
      clear hb3 q0 q1 q2 qz
      go_wp2_with fail
      refine (HHS.out _ HB3.out).mono ?_
      rintro e w4 ⟨vx, rfl, hX, hb4⟩
      have hX' := hX.mono (ov_none hb4)
      obtain ⟨xl, kl, xr, kr, xd, kd, rfl⟩ := hX'.hs_form
      have HX := Lib.hid hX'
      have HB4 := Lib.hid (HB3.out.trans hb4)
      have R34 := Lib.hid (row_grow R33.out (hb4.trans ((Grow.refl w4).alloc (.cells #[.slice xl (houseR l).log.length kl, .int .i64 (houseR l).sums.a, .int .i64 (houseR l).sums.b, .int .i64 (houseR l).sums.c, .int .i64 (houseR l).sums.d, .slice xr (houseR l).ready.length kr, .slice xd (houseR l).done.length kd] 29))))
      obtain ⟨q0, q1, q2⟩ := cells3 R34.out
      have qz : w.heap.size < w4.heap.size := by have := (Array.getElem?_eq_some_iff.1 (row_grow R33.out hb4)).1; exact this
      obtain ⟨t0, t1, t2⟩ := cells3 (row_grow R33.out hb4)
      clear hX hX' hb4
      go_wp2_with fail
      refine (HNT.out _ _ (HB4.out.alloc _) (HX.out.mono ((Grow.refl _).alloc _).sub)).mono ?_
      rintro e w5 ⟨vy, rfl, hY, hb5⟩
      obtain ⟨yl, ml, yr, mr, yd, md, rfl⟩ := hY.hs_form
      have HB5 := Lib.hid ((HB4.out.alloc _).trans hb5)
      have R35 := Lib.hid (row_grow R34.out hb5)
      have RX := Lib.hid (row_grow (row_new w4 (.cells #[.slice xl (houseR l).log.length kl, .int .i64 (houseR l).sums.a, .int .i64 (houseR l).sums.b, .int .i64 (houseR l).sums.c, .int .i64 (houseR l).sums.d, .slice xr (houseR l).ready.length kr, .slice xd (houseR l).done.length kd] 29)) hb5)
      have HXR := Lib.hid ((Of.hs_log HX.out).2.1.mono (((Grow.refl w4).alloc _).trans hb5).sub)
      rw [note_house] at hY ⊢
      generalize houseR (l ++ [r]) = y at *
      have HY0 : Hid True := Lib.hid trivial
      clear hY hb5
      generalize houseR l = x at *
      obtain ⟨xr', kr', he, r1, r2, -, hxel⟩ := HXR.out
      obtain ⟨rfl, rfl⟩ : xr = xr' ∧ kr = kr' := by simpa using he
      unfold maxLen at r2
      have hrl : x.ready.length ≤ 60 := HHO.out
      clear he
      obtain ⟨u0, u1, u2, u3, u4, u5, u6⟩ := cells7 RX.out
      have uz : w4.heap.size < w5.heap.size := (Array.getElem?_eq_some_iff.1 RX.out).1
      clear q0 q1 q2 qz t0 t1 t2
      go_wp2
      go_loopw [33] (fun i wr => ∃ (j : Nat) (s : Sm), j ≤ x.ready.length ∧ i = .int .i64 j ∧ Grow (w5.alloc (.cells #[.slice yl y.log.length ml, .int .i64 y.sums.a, .int .i64 y.sums.b, .int .i64 y.sums.c, .int .i64 y.sums.d, .slice yr y.ready.length mr, .slice yd y.done.length md] 29)) wr ∧ wr.heap[w5.heap.size + 1]? = some (.cells #[.int .i64 s.a, .int .i64 s.b, .int .i64 s.c, .int .i64 s.d] 25 (0, 0)) ∧ s = stillF r x.sums (x.ready.take j)) (fun i _ => x.ready.length - (intOf i).toNat)
      case atStart => exact ⟨0, x.sums, by omega, rfl, (Grow.refl _).alloc _, by simpa using row_new (w5.alloc (.cells #[.slice yl y.log.length ml, .int .i64 y.sums.a, .int .i64 y.sums.b, .int .i64 y.sums.c, .int .i64 y.sums.d, .slice yr y.ready.length mr, .slice yd y.done.length md] 29)) (.cells #[.int .i64 x.sums.a, .int .i64 x.sums.b, .int .i64 x.sums.c, .int .i64 x.sums.d] 25), rfl⟩
      case round =>
        obtain ⟨j, s, hj', rfl, hb, hrow, hE⟩ := hrel
        have HE := Lib.hid hE
        have HG := Lib.hid (((Grow.refl w5).alloc (.cells #[.slice yl y.log.length ml, .int .i64 y.sums.a, .int .i64 y.sums.b, .int .i64 y.sums.c, .int .i64 y.sums.d, .slice yr y.ready.length mr, .slice yd y.done.length md] 29)).trans hb)
        have HROW := Lib.hid hrow
        obtain ⟨q0, q1, q2⟩ := cells3 (row_grow R35.out HG.out)
        have qz : w.heap.size < wr.heap.size := (Array.getElem?_eq_some_iff.1 (row_grow R35.out HG.out)).1
        clear u0 u1 u2 u3 u4 u5 u6 uz hE hrow
        by_cases hlt : j < x.ready.length
        · obtain ⟨b, o, vp, rfl, d0, d1, -, hP⟩ := Rds.at_ hxel j hlt
          obtain ⟨aq, cq, rfl, p1, p2, -, hpel⟩ := hP
          unfold maxLen at p2
          replace d0 := HG.out.sub _ _ d0
          replace d1 := HG.out.sub _ _ d1
          have HST := Lib.hid (still_take (r := r) (s := x.sums) hlt)
          have hkq := HRK.out x.ready[j] (List.getElem_mem _)
          clear hxel
          generalize x.ready[j] = q at *
          by_cases hq : q.deed = r.deed ∧ r.kind = 2
          · have b1 : (q.deed == r.deed) = true := by simp [hq.1]
            have b2 : (r.kind == 2) = true := by simp [hq.2]
            have HQ := Lib.hid hq
            clear hq
            go_wp2
            obtain ⟨wo, rfl⟩ : ∃ x : World, x = wr := ⟨_, rfl⟩
            go_loopw [50] (fun i wx => ∃ (m : Nat) (s' : Sm), m ≤ q.parts.length ∧ i = .int .i64 m ∧ Grow (w5.alloc (.cells #[.slice yl y.log.length ml, .int .i64 y.sums.a, .int .i64 y.sums.b, .int .i64 y.sums.c, .int .i64 y.sums.d, .slice yr y.ready.length mr, .slice yd y.done.length md] 29)) wx ∧ wx.heap[w5.heap.size + 1]? = some (.cells #[.int .i64 s'.a, .int .i64 s'.b, .int .i64 s'.c, .int .i64 s'.d] 25 (0, 0)) ∧ doP s' (q.parts.drop m) = doP s q.parts) (fun i _ => q.parts.length - (intOf i).toNat)
            case atStart => exact ⟨0, s, by omega, rfl, hb.alloc _, heap_later HROW.out _, rfl⟩
            case round =>
              obtain ⟨wx, rfl⟩ : ∃ x : World, x = wr := ⟨_, rfl⟩
              obtain ⟨m, s', hm', rfl, hbx, hrow, hF⟩ := hrel
              have HF := Lib.hid hF
              have HRX := Lib.hid hrow
              clear hF q0 q1 q2 qz d0 d1
              by_cases hlm : m < q.parts.length
              · obtain ⟨b', o', rfl, e0, e1, e2, -, -, -⟩ := Pts.at_ hpel m hlm
                have hg5 := ((Grow.refl w5).alloc (.cells #[.slice yl y.log.length ml, .int .i64 y.sums.a, .int .i64 y.sums.b, .int .i64 y.sums.c, .int .i64 y.sums.d, .slice yr y.ready.length mr, .slice yd y.done.length md] 29)).trans hbx
                replace e0 := hg5.sub _ _ e0
                replace e1 := hg5.sub _ _ e1
                replace e2 := hg5.sub _ _ e2
                obtain ⟨hk0, hk1⟩ := hkq q.parts[m] (List.getElem_mem _)
                have cs := Sm.row_cell hrow _ hk0 hk1
                have cf := Sm.row_free hrow q.parts[m].k.toNat
                have hsz : w5.heap.size + 1 < wx.heap.size := (Array.getElem?_eq_some_iff.1 hrow).1
                have HD := Lib.hid (List.drop_eq_getElem_cons hlm)
                clear hpel hkq hrow hg5
                generalize hp : q.parts[m] = p at *
                obtain ⟨ph, pk, pn⟩ := p
                clear hp
                simp only at e0 e1 e2 hk0 hk1 cs cf
                go_wp2
                go_region
                go_wp2
                go_roundw
                case rel => exact ⟨m + 1, s'.add pk pn, by omega, by go_num, (by repeat (first | with_reducible assumption | with_reducible exact Grow.refl _ | with_reducible apply Grow.drewN | with_reducible apply Grow.drew | with_reducible apply Grow.alloc | (refine Grow.setCell ?_ (by simp; done) _))), heap_later (Sm.row_set HRX.out _ _ hk0 hk1) _, by rw [← HF.out, HD.out]; rfl⟩
                case measure => simp [intOf]; omega
              · have hs : s' = doP s q.parts := by rw [← HF.out, List.drop_of_length_le (by omega)]; rfl
                have HS := Lib.hid hs
                clear hpel hkq hrow hs
                go_wp2
                go_roundw
                case rel => exact ⟨j + 1, s', by omega, by go_num, hbx, HRX.out, by rw [HST.out, if_pos HQ.out, ← HE.out]; exact HS.out⟩
                case measure => simp [intOf]; omega
          · have HQ := Lib.hid hq
            by_cases h1 : q.deed = r.deed
            · have b1 : (q.deed == r.deed) = true := by simp [h1]
              have b2 : (r.kind == 2) = false := by simp; exact fun e => hq ⟨h1, e⟩
              clear hq h1
              go_wp2
              go_roundw
              case rel => exact ⟨j + 1, s, by omega, by go_num, hb.alloc _, heap_later HROW.out _, by rw [HST.out, if_neg HQ.out]; exact HE.out⟩
              case measure => simp [intOf]; omega
            · have b1 : (q.deed == r.deed) = false := by simp [h1]
              clear hq h1
              go_wp2
              go_roundw
              case rel => exact ⟨j + 1, s, by omega, by go_num, hb.alloc _, heap_later HROW.out _, by rw [HST.out, if_neg HQ.out]; exact HE.out⟩
              case measure => simp [intOf]; omega
        · have hs : y.sums = s := by rw [HLAW.out, HE.out, List.take_of_length_le (by omega)]
          have RY := row_grow (row_new w5 (.cells #[.slice yl y.log.length ml, .int .i64 y.sums.a, .int .i64 y.sums.b, .int .i64 y.sums.c, .int .i64 y.sums.d, .slice yr y.ready.length mr, .slice yd y.done.length md] 29)) hb
          obtain ⟨g0, g1, g2, g3, g4, g5, g6⟩ := cells7 RY
          have gz : w5.heap.size < wr.heap.size := (Array.getElem?_eq_some_iff.1 RY).1
          obtain ⟨f0, f1, f2, f3⟩ := cells4 HROW.out
          have fz : w5.heap.size + 1 < wr.heap.size := (Array.getElem?_eq_some_iff.1 HROW.out).1
          have HQ : ∀ u : World, (binOp .eql 25 (.agg #[.int .i64 y.sums.a, .int .i64 y.sums.b, .int .i64 y.sums.c, .int .i64 y.sums.d]) (.agg #[.int .i64 s.a, .int .i64 s.b, .int .i64 s.c, .int .i64 s.d])).run Try.prog u = .ok (.bool true) u := fun u => by rw [eql_sm, decide_eq_true hs]
          have hg := guard_sm
          clear hs RY hxel
          go_wp2
          go_ret
          exact ⟨rfl, HB5.out.trans HG.out⟩
end Go.Proofs.Ytgbhpghgohggcaa

/- Walks: Head of the document's answer. -/
namespace Go.Proofs.Ytgbhpghgohggcaa
open Go.RowKit
/-- what a record leaves open -/
def keepO (r : Rc) (o : Opn) : Bool := !(r.kind == 6 && o.deed == r.deed)
theorem keep_all {r : Rc} (h : ¬ r.kind = 6) (l : List Opn) : l.filter (keepO r) = l := by
  rw [List.filter_eq_self]
  intro o _
  simp [keepO, h]
theorem keep_six {r : Rc} (h : r.kind = 6) (l : List Opn) : l.filter (keepO r) = l.filter fun o => !(o.deed == r.deed) := by
  refine List.filter_congr fun o _ => ?_
  simp [keepO, h]
theorem filter_take_next (q : Opn → Bool) {l : List Opn} {j : Nat} (h : j < l.length) : (l.take (j + 1)).filter q = if q l[j] = true then (l.take j).filter q ++ [l[j]] else (l.take j).filter q := by
  rw [List.take_succ_eq_append_getElem h, List.filter_append]
  by_cases hq : q l[j] = true <;> simp [hq]
structure RBox (c : CM) (w wr : World) (vl vo : Value) (h : Hd) : Prop where
  res : wr.heap[w.heap.size]? = some (.cells zhead 57 (0, 0))
  row : wr.heap[w.heap.size + 1]? = some (.cells #[vl, .int .i64 h.boot, .int .i64 h.next, vo] 57 (0, 0))
  opn : OwnC Ty.opn c wr (w.heap.size + 2) 136 vo h.opn
  grow : Grow w wr
  size : w.heap.size + 2 ≤ wr.heap.size
theorem RBox.later {c : CM} {w wr w' : World} {vl vo : Value} {h : Hd} (b : RBox c w wr vl vo h) (hg : Grow wr w') : RBox c w w' vl vo h :=
  ⟨row_grow b.res hg, row_grow b.row hg, b.opn.grow hg, b.grow.trans hg, Nat.le_trans b.size hg.size⟩
/-- the open ones are others -/
theorem RBox.opns {c : CM} {w wr w' : World} {vl vo vo' : Value} {h : Hd} {os : List Opn} {row : Option Nat} (b : RBox c w wr vl vo h) (hg : wr.grownBy w' row) (hr : ∀ k, row = some k → w.heap.size + 2 ≤ k) (ho : OwnC Ty.opn c w' (w.heap.size + 2) 136 vo' os) :
    RBox c w (w'.setCell ⟨w.heap.size + 1, 3, none⟩ vo') vl vo' { h with opn := os } := by
  have hs := b.size
  have hB : ∀ k, k ≠ w.heap.size + 1 → (w'.setCell ⟨w.heap.size + 1, 3, none⟩ vo').heap[k]? = w'.heap[k]? := fun k hk => Below.heap_setCell _ _ _ _ (fun e => hk e)
  refine ⟨?_, row_set4_3 (row_by b.row hg (fun e => by have := hr _ e.symm; omega)) _, ho.block fun k hk => hB k (by have := (ho.lt k hk).1; omega), (b.grow.grown hg (fun k hk => by have := hr k hk; omega)).setCell (by simp) _, ?_⟩
  · rw [hB _ (by omega)]; exact row_by b.res hg (fun e => by have := hr _ e.symm; omega)
  · have := hg.size; simp; omega
theorem RBox.boot {c : CM} {w wr : World} {vl vo : Value} {h : Hd} (b : RBox c w wr vl vo h) (x : Int) : RBox c w (wr.setCell ⟨w.heap.size + 1, 1, none⟩ (.int .i64 x)) vl vo { h with boot := x } := by
  have hs := b.size
  have hB : ∀ k, k ≠ w.heap.size + 1 → (wr.setCell ⟨w.heap.size + 1, 1, none⟩ (.int .i64 x)).heap[k]? = wr.heap[k]? := fun k hk => Below.heap_setCell _ _ _ _ (fun e => hk e)
  exact ⟨by rw [hB _ (by omega)]; exact b.res, row_set4_1 b.row _, b.opn.block fun k hk => hB k (by have := (b.opn.lt k hk).1; omega), b.grow.setCell (by simp) _, by simpa using b.size⟩
set_option maxRecDepth 100000 in
set_option maxHeartbeats 4000000 in
theorem ref_head {c : CM} {v : Value} {l : List Rc} (w : World) (hc : Sub c w.cell?) (hv : Rcs c v l) (hm : l.length * 64 ≤ 140737488351232) :
    Calls Try.prog 43 #[v] w fun e w' => ∃ v', e = .returned v' ∧ Of Ty.hd (ov c w w') v' (headR l) ∧ Grow w w' := by
  have HC := Lib.hid hc
  have HV := Lib.hid hv
  obtain ⟨al, cl, rfl, h1, h2, -, hel⟩ := hv
  have hlm : l.length ≤ 2199023255489 := by omega
  clear hm
  go_enter Try.func43, Try.ntmps43
  go_wp2
  go_loopw [13] (fun i wr => ∃ (k : Nat) (h : Hd) (vo : Value), k ≤ l.length ∧ i = .int .i64 k ∧ (l.take k).foldl headStep ⟨l, 0, 0, []⟩ = h ∧ RBox c w wr (.slice al l.length cl) vo h ∧ KOk h k) (fun i _ => l.length - (intOf i).toNat)
  case atStart =>
    exact ⟨0, ⟨l, 0, 0, []⟩, .slice none 0 0, by omega, rfl, rfl, ⟨heap_later (row_new _ _) _, by simpa using row_new (w.alloc (.cells zhead 57)) (.cells #[.slice al l.length cl, .int .i64 0, .int .i64 0, .slice none 0 0] 57), OwnC.nil _ _ _ _ _, ((Grow.refl w).alloc _).alloc _, by simp⟩, ⟨by simp, zero_ok, zero_ok⟩⟩
  case round =>
    obtain ⟨wo, rfl⟩ : ∃ x : World, x = wr := ⟨_, rfl⟩
    obtain ⟨k, h, vo, hk', rfl, hfold, hbox, hok⟩ := hrel
    obtain ⟨ar, cr, rfl⟩ := hbox.opn.form
    have HFD := Lib.hid hfold
    have HBX := Lib.hid hbox
    have HOK0 := Lib.hid hok
    have z3 := hbox.size
    have z4 : w.heap.size + 1 < wo.heap.size := by omega
    have z5 : w.heap.size < wo.heap.size := by omega
    obtain ⟨s0, s1, s2, s3⟩ := cells4 hbox.row
    have sf := row_free hbox.row
    by_cases hlt : k < l.length
    · obtain ⟨b, o, vp, rfl, c0, c1, c2, i0, i1, hP⟩ := Rcs.at_ hel k hlt
      obtain ⟨ap, cp, rfl, -⟩ := id hP
      replace c0 := hbox.grow.sub _ _ (hc _ _ c0)
      replace c1 := hbox.grow.sub _ _ (hc _ _ c1)
      replace c2 := hbox.grow.sub _ _ (hc _ _ c2)
      have htk : (l.take (k + 1)).foldl headStep ⟨l, 0, 0, []⟩ = headStep h l[k] := by rw [List.take_succ_eq_append_getElem hlt, List.foldl_append, HFD.out]; rfl
      have HTK := Lib.hid htk
      have HOK1 := Lib.hid (kok_step hok l[k])
      have HI := Lib.hid (And.intro i1 hP)
      have hrl : h.opn.length ≤ 2199023255489 := by have := hok.opn; omega
      clear hfold hok htk hP i0 i1 hbox hel
      generalize l[k] = r at *
      go_wp2
      go_loopw [6, 20] (fun s6 i wx => ∃ m : Nat, m ≤ h.opn.length ∧ i = .int .i64 m ∧ Grow (wo.alloc (.cells #[.int .i64 r.kind, .int .i64 r.deed, .slice ap r.parts.length cp] 48)) wx ∧ OwnC Ty.opn c wx (wo.heap.size + 1) 136 s6 ((h.opn.take m).filter (keepO r))) (fun _ i _ => h.opn.length - (intOf i).toNat)
      case atStart => exact ⟨0, by omega, rfl, Grow.refl _, OwnC.nil _ _ _ _ _⟩
      case round =>
        obtain ⟨wx, rfl⟩ : ∃ x : World, x = wr := ⟨_, rfl⟩
        obtain ⟨m, hm', rfl, hbx, hown⟩ := hrel
        have HG := Lib.hid (((Grow.refl wo).alloc (.cells #[.int .i64 r.kind, .int .i64 r.deed, .slice ap r.parts.length cp] 48)).trans hbx)
        obtain ⟨q0, q1, q2⟩ := cells3 (row_grow (row_new wo (.cells #[.int .i64 r.kind, .int .i64 r.deed, .slice ap r.parts.length cp] 48)) hbx)
        have q9 : wo.heap.size < wx.heap.size := by have := hbx.size; simp at this; omega
        have HOWN := Lib.hid hown
        obtain ⟨av, cv, rfl⟩ := hown.form
        have hfl : ((h.opn.take m).filter (keepO r)).length ≤ h.opn.length := Nat.le_trans (List.length_filter_le _ _) (by simp; omega)
        have HFL := Lib.hid hfl
        clear hown c0 c1 c2 s0 s1 s2 s3 sf hfl
        by_cases hlm : m < h.opn.length
        · obtain ⟨gx, csx, rfl, ⟨vx, vh, rfl, j0, j1, j2⟩, hAx⟩ := HBX.out.opn.get (by decide) m hlm
          obtain ⟨ax, cx, rfl, -⟩ := id j1
          obtain ⟨ah, ch, rfl, -⟩ := id j2
          have x0 := HG.out.sub _ _ (hAx 0 _ rfl)
          have x1 := HG.out.sub _ _ (hAx 1 _ rfl)
          have x2 := HG.out.sub _ _ (hAx 2 _ rfl)
          have x3 := HG.out.sub _ _ (hAx 3 _ rfl)
          simp only [Ty.opn, Nat.add_zero] at x0 x1 x2 x3
          have HNX := Lib.hid (filter_take_next (keepO r) hlm)
          have HJ := Lib.hid (And.intro j0 (And.intro j1 j2))
          clear hAx j0 j1 j2
          generalize h.opn[m] = q at *
          generalize (h.opn.take m).filter (keepO r) = fs at *
          by_cases hq : keepO r q = true
          · have HQ := Lib.hid hq
            have hcase : (r.kind != 6) = true ∨ ((r.kind != 6) = false ∧ (q.deed != r.deed) = true) := by
              by_cases h6 : r.kind = 6
              · right
                simp [keepO, h6] at hq
                exact ⟨by simp [h6], by simpa using hq⟩
              · left; simp [h6]
            clear hq
            rcases hcase with b6 | ⟨b6, bd⟩
            all_goals
              go_wp2_with (first | (at_builtin; refine wpList_appc (c := c) (base := wo.heap.size + 1) (l := fs) (m := [q]) ei_opn rfl one_Topn (by decide) rfl (.tmp 34) (.tmp 36) rfl rfl ?own rfl (Src.of_new (T := Ty.opn) (cs := #[.int .i64 q.deed, .slice ax q.parts.length cx, .bool q.dec, .slice ah q.heard.length ch]) ⟨_, _, rfl, HJ.out.1, HJ.out.2.1, HJ.out.2.2⟩ _ _ ?d1) ?d2 ?d3 ?_))
              case own => exact HOWN.out.grow (((Grow.refl _).alloc _).alloc _)
              case d1 => simp
              case d2 => have := HFL.out; simp; omega
              case d3 => have := HG.out.size; simp; omega
              intro a9 c9 w9 ho9 hg9 hb9
              have HG9 := Lib.hid (grow_by (w0 := wo.alloc (.cells #[.int .i64 r.kind, .int .i64 r.deed, .slice ap r.parts.length cp] 48)) ((hbx.alloc _).alloc _) hg9 (fun q hq => by have := (HOWN.out.lt q hq).1; simpa using this))
              have HO9 := Lib.hid ho9
              clear ho9 hg9 hb9
              go_wp2
              go_roundw
              case rel => exact ⟨m + 1, by omega, by go_num, HG9.out, by rw [HNX.out, if_pos HQ.out]; exact HO9.out⟩
              case measure => simp [intOf]; omega
          · have HQ := Lib.hid hq
            have h6 : r.kind = 6 ∧ q.deed = r.deed := by
              simp [keepO] at hq
              exact hq
            have b6 : (r.kind != 6) = false := by simp [h6.1]
            have bd : (q.deed != r.deed) = false := by simp [h6.2]
            clear hq h6
            go_wp2
            go_roundw
            case rel => exact ⟨m + 1, by omega, by go_num, hbx.alloc _, by rw [HNX.out, if_neg HQ.out]; exact HOWN.out.grow ((Grow.refl _).alloc _)⟩
            case measure => simp [intOf]; omega
        · have hfin : (h.opn.take m).filter (keepO r) = h.opn.filter (keepO r) := by rw [List.take_of_length_le (by omega)]
          have HOW2 : Hid (OwnC Ty.opn c wx (wo.heap.size + 1) 136 (.slice av (h.opn.filter (keepO r)).length cv) (h.opn.filter (keepO r))) := by
            have := HOWN.out
            rw [hfin] at this
            exact Lib.hid this
          rw [hfin]
          have hf2 : (h.opn.filter (keepO r)).length ≤ 2199023255489 := Nat.le_trans (List.length_filter_le _ _) hrl
          clear hfin
          have b2 := HBX.out.later HG.out
          obtain ⟨s0, s1, s2, s3⟩ := cells4 b2.row
          have sf := row_free b2.row
          have zz : w.heap.size + 1 < wx.heap.size := by have := b2.size; omega
          have HR := Lib.hid (RBox.opns (row := none) b2 (grownBy_of_grow (Grow.refl wx) none) (by simp) (HOW2.out.base (by omega)))
          have HGR := Lib.hid (b2.grow)
          clear b2
          generalize hfs : h.opn.filter (keepO r) = fs at *
          have HFS := Lib.hid hfs
          clear hfs
          have q9' : w.heap.size + 1 ≠ wo.heap.size := by omega
          by_cases k4 : r.kind = 4
          · have b4 : (r.kind == 4) = true := by simp [k4]
            have b5 : (r.kind == 5) = false := by simp [k4]
            have hst : headStep h r = { h with opn := fs, boot := wrap64 (h.boot + 1) } := by unfold headStep; rw [if_pos k4, ← HFS.out, keep_all (by omega)]
            have HFO := Lib.hid (HTK.out.trans hst)
            have HOK := Lib.hid (hst ▸ HOK1.out)
            clear hst k4
            go_wp2
            go_roundw
            case rel => exact ⟨k + 1, _, _, by omega, by go_num, HFO.out, HR.out.boot _, HOK.out⟩
            case measure => simp [intOf]; omega
          · have b4 : (r.kind == 4) = false := by simp [k4]
            by_cases k5 : r.kind = 5
            · have b5 : (r.kind == 5) = true := by simp [k5]
              have hst : headStep h r = { h with opn := fs ++ [⟨r.deed, r.parts, true, []⟩] } := by unfold headStep; rw [if_neg k4, if_pos k5, ← HFS.out, keep_all (by omega)]
              have HFO := Lib.hid (HTK.out.trans hst)
              have HOK := Lib.hid (hst ▸ HOK1.out)
              clear hst k4 k5
              go_wp2_with (first | (at_builtin; refine wpList_appc (c := c) (base := w.heap.size + 2) (l := fs) (m := [⟨r.deed, r.parts, true, []⟩]) ei_opn rfl one_Topn (by decide) rfl (.tmp 52) (.tmp 58) rfl rfl ?own rfl (Src.of_new (T := Ty.opn) (cs := #[.int .i64 r.deed, .slice ap r.parts.length cp, .bool true, .slice none 0 0]) ⟨_, _, rfl, HI.out.1, HI.out.2, Sl.nil _ _⟩ _ _ ?d1) ?d2 ?d3 ?_))
              case own => exact HR.out.opn.grow ((Grow.refl _).alloc _)
              case d1 => simp
              case d2 => simp; omega
              case d3 => have := HR.out.size; simp at this ⊢; omega
              intro a9 c9 w9 ho9 hg9 hb9
              have hr9 : ∀ q, (Value.slice av fs.length cv).ownBlock = some q → w.heap.size + 2 ≤ q := fun q hq => (HR.out.opn.lt q hq).1
              have t9 := row_by (row_grow HR.out.row ((Grow.refl _).alloc (.cells #[.int .i64 r.deed, .slice ap r.parts.length cp, .bool true, .slice none 0 0] 136))) hg9 (fun e => by have := hr9 _ e.symm; omega)
              have HX := Lib.hid (RBox.opns HR.out (grownBy_trans (grownBy_of_grow ((Grow.refl _).alloc _) _) hg9) hr9 ho9)
              clear s0 s1 s2 s3 sf hg9 ho9 hb9 hr9
              obtain ⟨s0, s1, s2, s3⟩ := cells4 t9
              have sf := row_free t9
              have s9 : w.heap.size + 1 < w9.heap.size := (Array.getElem?_eq_some_iff.1 t9).1
              clear t9
              go_wp2
              go_roundw
              case rel => exact ⟨k + 1, _, _, by omega, by go_num, HFO.out, HX.out, HOK.out⟩
              case measure => simp [intOf]; omega
            · have b5 : (r.kind == 5) = false := by simp [k5]
              have hst : headStep h r = { h with opn := fs } := by
                unfold headStep
                rw [if_neg k4, if_neg k5, ← HFS.out]
                by_cases k6 : r.kind = 6
                · rw [if_pos k6, keep_six k6]
                · rw [if_neg k6, keep_all k6]
              have HFO := Lib.hid (HTK.out.trans hst)
              have HOK := Lib.hid (hst ▸ HOK1.out)
              clear hst k4 k5
              go_wp2
              go_roundw
              case rel => exact ⟨k + 1, _, _, by omega, by go_num, HFO.out, HR.out, HOK.out⟩
              case measure => simp [intOf]; omega
    · have HH : Hid (h = headR l) := by show h = _; rw [← HFD.out, List.take_of_length_le (by omega)]; rfl
      clear hfold hok hbox hel
      go_wp2_with (first | (refine wpList_store_row rfl (.tmp 2) (.tmp 62) rfl rfl rfl HBX.out.res info_hd rfl rfl ?_))
      intro wf r2 g2
      obtain ⟨p0, p1, p2, p3⟩ := cells4 r2
      have pf := row_free r2
      clear s0 s1 s2 s3 sf
      go_wp2
      refine bodyPost_ret (v := .agg #[.slice al l.length cl, .int .i64 h.boot, .int .i64 h.next, .slice ar h.opn.length cr]) (by simp [results, Try.results43, go_sem, p0, p1, p2, p3]) rfl ?_
      have hlog : h.log = l := by rw [HH.out]; exact (headR_next l).2
      have e2 := ((HBX.out.opn.mono (ov_in HC.out)).block fun k hk => g2.block k (HBX.out.opn.lt k hk).2 (by have := (HBX.out.opn.lt k hk).1; simp; omega)).slc (by decide) (Sub.refl _) fun a ha => ov_new (by omega)
      rw [← HH.out]
      refine ⟨_, rfl, ⟨_, rfl, _, _, rfl, ?_, HOK0.out.boot, HOK0.out.next, e2⟩, HBX.out.grow.grown g2 (fun k hk => by simp at hk; omega)⟩
      rw [hlog]; exact HV.out.mono (ov_in HC.out)
end Go.Proofs.Ytgbhpghgohggcaa

/- Walks: SameHouse of the document's answer. -/
namespace Go.Proofs.Ytgbhpghgohggcaa
open Go.RowKit
set_option maxRecDepth 100000 in
set_option maxHeartbeats 4000000 in
theorem ref_sameHouse {v v' : Value} {h h' : Hs} (w : World) (hv : Of Ty.hs w.cell? v h) (hv' : Of Ty.hs w.cell? v' h') :
    Calls Try.prog 37 #[v, v'] w fun e w' => e = .returned (.bool (decide (h = h'))) ∧ Grow w w' := by
  obtain ⟨al, cl, ar, cr, ad, cd, rfl⟩ := hv.hs_form
  obtain ⟨al2, cl2, ar2, cr2, ad2, cd2, rfl⟩ := hv'.hs_form
  have k := Of.hs_log hv
  have k' := Of.hs_log hv'
  have HSL := Lib.hid (fun (W : World) (hW : Grow w W) => ref_sameLog W (k.1.mono hW.sub) (k'.1.mono hW.sub))
  have HSR := Lib.hid (fun (W : World) (hW : Grow w W) => ref_sameReady W (k.2.1.mono hW.sub) (k'.2.1.mono hW.sub))
  have HSI := Lib.hid (fun (W : World) (hW : Grow w W) => ref_sameInts W (k.2.2.mono hW.sub) (k'.2.2.mono hW.sub))
  have HG0 : Hid (Grow w ((w.alloc (.cells #[.slice al h.log.length cl, .int .i64 h.sums.a, .int .i64 h.sums.b, .int .i64 h.sums.c, .int .i64 h.sums.d, .slice ar h.ready.length cr, .slice ad h.done.length cd] 29)).alloc (.cells #[.slice al2 h'.log.length cl2, .int .i64 h'.sums.a, .int .i64 h'.sums.b, .int .i64 h'.sums.c, .int .i64 h'.sums.d, .slice ar2 h'.ready.length cr2, .slice ad2 h'.done.length cd2] 29))) := Lib.hid (((Grow.refl w).alloc _).alloc _)
  clear hv hv' k k'
  by_cases hl : h.log = h'.log
  · skip
    by_cases hs : h.sums = h'.sums
    · skip
      by_cases hr : h.ready = h'.ready
      · skip
        by_cases hd : h.done = h'.done
        · skip
          have HE : Hid (decide (h = h') = true) := by show _ = _; rw [decide_eq_true_eq]; cases h; cases h'; simp_all
          have DL := Lib.hid (decide_eq_true hl)
          have HQ : ∀ u : World, (binOp .eql 25 (.agg #[.int .i64 h.sums.a, .int .i64 h.sums.b, .int .i64 h.sums.c, .int .i64 h.sums.d]) (.agg #[.int .i64 h'.sums.a, .int .i64 h'.sums.b, .int .i64 h'.sums.c, .int .i64 h'.sums.d])).run Try.prog u = .ok (.bool true) u := fun u => by rw [eql_sm, decide_eq_true hs]
          have hg := guard_sm
          have DR := Lib.hid (decide_eq_true hr)
          have DD := Lib.hid (decide_eq_true hd)
          clear hl hs hr hd
          go_enter Try.func37, Try.ntmps37
          go_wp2_with fail
          refine (HSL.out _ HG0.out).mono ?_
          rw [DL.out]
          rintro e w1 ⟨rfl, hbw1⟩
          (obtain ⟨cw1, fw1⟩ := bcell hbw1; have zw10 : w.heap.size < w1.heap.size := (by have := hbw1.size; (try simp at this); omega); have zw11 : w.heap.size + 1 < w1.heap.size := (by have := hbw1.size; (try simp at this); omega); have Gw1 := Lib.hid hbw1; clear hbw1)
          go_wp2_with fail
          refine (HSR.out _ (HG0.out.trans Gw1.out)).mono ?_
          rw [DR.out]
          rintro e w2 ⟨rfl, hbw2⟩
          (obtain ⟨cw2, fw2⟩ := bcell hbw2; have zw20 : w.heap.size < w2.heap.size := (by have := hbw2.size; (try simp at this); omega); have zw21 : w.heap.size + 1 < w2.heap.size := (by have := hbw2.size; (try simp at this); omega); have Gw2 := Lib.hid hbw2; clear hbw2)
          go_wp2_with fail
          refine (HSI.out _ ((HG0.out.trans Gw1.out).trans Gw2.out)).mono ?_
          rw [DD.out]
          rintro e w3 ⟨rfl, hbw3⟩
          (obtain ⟨cw3, fw3⟩ := bcell hbw3; have zw30 : w.heap.size < w3.heap.size := (by have := hbw3.size; (try simp at this); omega); have zw31 : w.heap.size + 1 < w3.heap.size := (by have := hbw3.size; (try simp at this); omega); have Gw3 := Lib.hid hbw3; clear hbw3)
          go_wp2
          go_ret
          exact ⟨ret_bool HE.out.symm, (((HG0.out.trans Gw1.out).trans Gw2.out).trans Gw3.out)⟩
        · skip
          have HE : Hid (decide (h = h') = false) := by show _ = _; rw [decide_eq_false_iff_not]; rintro rfl; exact hd rfl
          have DL := Lib.hid (decide_eq_true hl)
          have HQ : ∀ u : World, (binOp .eql 25 (.agg #[.int .i64 h.sums.a, .int .i64 h.sums.b, .int .i64 h.sums.c, .int .i64 h.sums.d]) (.agg #[.int .i64 h'.sums.a, .int .i64 h'.sums.b, .int .i64 h'.sums.c, .int .i64 h'.sums.d])).run Try.prog u = .ok (.bool true) u := fun u => by rw [eql_sm, decide_eq_true hs]
          have hg := guard_sm
          have DR := Lib.hid (decide_eq_true hr)
          have DD := Lib.hid (decide_eq_false hd)
          clear hl hs hr hd
          go_enter Try.func37, Try.ntmps37
          go_wp2_with fail
          refine (HSL.out _ HG0.out).mono ?_
          rw [DL.out]
          rintro e w1 ⟨rfl, hbw1⟩
          (obtain ⟨cw1, fw1⟩ := bcell hbw1; have zw10 : w.heap.size < w1.heap.size := (by have := hbw1.size; (try simp at this); omega); have zw11 : w.heap.size + 1 < w1.heap.size := (by have := hbw1.size; (try simp at this); omega); have Gw1 := Lib.hid hbw1; clear hbw1)
          go_wp2_with fail
          refine (HSR.out _ (HG0.out.trans Gw1.out)).mono ?_
          rw [DR.out]
          rintro e w2 ⟨rfl, hbw2⟩
          (obtain ⟨cw2, fw2⟩ := bcell hbw2; have zw20 : w.heap.size < w2.heap.size := (by have := hbw2.size; (try simp at this); omega); have zw21 : w.heap.size + 1 < w2.heap.size := (by have := hbw2.size; (try simp at this); omega); have Gw2 := Lib.hid hbw2; clear hbw2)
          go_wp2_with fail
          refine (HSI.out _ ((HG0.out.trans Gw1.out).trans Gw2.out)).mono ?_
          rw [DD.out]
          rintro e w3 ⟨rfl, hbw3⟩
          (obtain ⟨cw3, fw3⟩ := bcell hbw3; have zw30 : w.heap.size < w3.heap.size := (by have := hbw3.size; (try simp at this); omega); have zw31 : w.heap.size + 1 < w3.heap.size := (by have := hbw3.size; (try simp at this); omega); have Gw3 := Lib.hid hbw3; clear hbw3)
          go_wp2
          go_ret
          exact ⟨ret_bool HE.out.symm, (((HG0.out.trans Gw1.out).trans Gw2.out).trans Gw3.out)⟩
      · skip
        have HE : Hid (decide (h = h') = false) := by show _ = _; rw [decide_eq_false_iff_not]; rintro rfl; exact hr rfl
        have DL := Lib.hid (decide_eq_true hl)
        have HQ : ∀ u : World, (binOp .eql 25 (.agg #[.int .i64 h.sums.a, .int .i64 h.sums.b, .int .i64 h.sums.c, .int .i64 h.sums.d]) (.agg #[.int .i64 h'.sums.a, .int .i64 h'.sums.b, .int .i64 h'.sums.c, .int .i64 h'.sums.d])).run Try.prog u = .ok (.bool true) u := fun u => by rw [eql_sm, decide_eq_true hs]
        have hg := guard_sm
        have DR := Lib.hid (decide_eq_false hr)
        clear hl hs hr
        go_enter Try.func37, Try.ntmps37
        go_wp2_with fail
        refine (HSL.out _ HG0.out).mono ?_
        rw [DL.out]
        rintro e w1 ⟨rfl, hbw1⟩
        (obtain ⟨cw1, fw1⟩ := bcell hbw1; have zw10 : w.heap.size < w1.heap.size := (by have := hbw1.size; (try simp at this); omega); have zw11 : w.heap.size + 1 < w1.heap.size := (by have := hbw1.size; (try simp at this); omega); have Gw1 := Lib.hid hbw1; clear hbw1)
        go_wp2_with fail
        refine (HSR.out _ (HG0.out.trans Gw1.out)).mono ?_
        rw [DR.out]
        rintro e w2 ⟨rfl, hbw2⟩
        (obtain ⟨cw2, fw2⟩ := bcell hbw2; have zw20 : w.heap.size < w2.heap.size := (by have := hbw2.size; (try simp at this); omega); have zw21 : w.heap.size + 1 < w2.heap.size := (by have := hbw2.size; (try simp at this); omega); have Gw2 := Lib.hid hbw2; clear hbw2)
        go_wp2
        go_ret
        exact ⟨ret_bool HE.out.symm, ((HG0.out.trans Gw1.out).trans Gw2.out)⟩
    · skip
      have HE : Hid (decide (h = h') = false) := by show _ = _; rw [decide_eq_false_iff_not]; rintro rfl; exact hs rfl
      have DL := Lib.hid (decide_eq_true hl)
      have HQ : ∀ u : World, (binOp .eql 25 (.agg #[.int .i64 h.sums.a, .int .i64 h.sums.b, .int .i64 h.sums.c, .int .i64 h.sums.d]) (.agg #[.int .i64 h'.sums.a, .int .i64 h'.sums.b, .int .i64 h'.sums.c, .int .i64 h'.sums.d])).run Try.prog u = .ok (.bool false) u := fun u => by rw [eql_sm, decide_eq_false hs]
      have hg := guard_sm
      clear hl hs
      go_enter Try.func37, Try.ntmps37
      go_wp2_with fail
      refine (HSL.out _ HG0.out).mono ?_
      rw [DL.out]
      rintro e w1 ⟨rfl, hbw1⟩
      (obtain ⟨cw1, fw1⟩ := bcell hbw1; have zw10 : w.heap.size < w1.heap.size := (by have := hbw1.size; (try simp at this); omega); have zw11 : w.heap.size + 1 < w1.heap.size := (by have := hbw1.size; (try simp at this); omega); have Gw1 := Lib.hid hbw1; clear hbw1)
      go_wp2
      go_ret
      exact ⟨ret_bool HE.out.symm, (HG0.out.trans Gw1.out)⟩
  · skip
    have HE : Hid (decide (h = h') = false) := by show _ = _; rw [decide_eq_false_iff_not]; rintro rfl; exact hl rfl
    have DL := Lib.hid (decide_eq_false hl)
    clear hl
    go_enter Try.func37, Try.ntmps37
    go_wp2_with fail
    refine (HSL.out _ HG0.out).mono ?_
    rw [DL.out]
    rintro e w1 ⟨rfl, hbw1⟩
    (obtain ⟨cw1, fw1⟩ := bcell hbw1; have zw10 : w.heap.size < w1.heap.size := (by have := hbw1.size; (try simp at this); omega); have zw11 : w.heap.size + 1 < w1.heap.size := (by have := hbw1.size; (try simp at this); omega); have Gw1 := Lib.hid hbw1; clear hbw1)
    go_wp2
    go_ret
    exact ⟨ret_bool HE.out.symm, (HG0.out.trans Gw1.out)⟩
end Go.Proofs.Ytgbhpghgohggcaa

/- Walks: SameHead of the document's answer. -/
namespace Go.Proofs.Ytgbhpghgohggcaa
open Go.RowKit
theorem Of.hd_form {c : CM} {v : Value} {h : Hd} (hv : Of Ty.hd c v h) : ∃ al cl ar cr, v = .agg #[.slice al h.log.length cl, .int .i64 h.boot, .int .i64 h.next, .slice ar h.opn.length cr] := by
  obtain ⟨cs, rfl, vl, vo, rfl, hl, -, -, ho⟩ := hv
  obtain ⟨al, cl, rfl, -⟩ := id hl
  obtain ⟨ao, co, rfl, -⟩ := id ho
  exact ⟨_, _, _, _, rfl⟩
theorem Of.hd_log {c : CM} {al ar : Option Addr} {nl cl nr cr : Nat} {b n : Value} {h : Hd} (hv : Of Ty.hd c (.agg #[.slice al nl cl, b, n, .slice ar nr cr]) h) : Sl Ty.rc c (.slice al nl cl) h.log ∧ Sl Ty.opn c (.slice ar nr cr) h.opn := by
  obtain ⟨cs, he, vl, vo, rfl, hl, -, -, ho⟩ := hv
  simp at he
  obtain ⟨rfl, -, -, rfl⟩ := he
  exact ⟨hl, ho⟩
set_option maxRecDepth 100000 in
set_option maxHeartbeats 8000000 in
theorem ref_sameHead {v v' : Value} {h h' : Hd} (w : World) (hv : Of Ty.hd w.cell? v h) (hv' : Of Ty.hd w.cell? v' h') :
    Calls Try.prog 41 #[v, v'] w fun e w' => e = .returned (.bool (decide (h = h'))) ∧ Grow w w' := by
  obtain ⟨al, cl, ar, cr, rfl⟩ := hv.hd_form
  obtain ⟨al2, cl2, ar2, cr2, rfl⟩ := hv'.hd_form
  have k := Of.hd_log hv
  have k' := Of.hd_log hv'
  have HSL := Lib.hid (fun (W : World) (hW : Grow w W) => ref_sameLog W (k.1.mono hW.sub) (k'.1.mono hW.sub))
  have HG0 : Hid (Grow w ((w.alloc (.cells #[.slice al h.log.length cl, .int .i64 h.boot, .int .i64 h.next, .slice ar h.opn.length cr] 57)).alloc (.cells #[.slice al2 h'.log.length cl2, .int .i64 h'.boot, .int .i64 h'.next, .slice ar2 h'.opn.length cr2] 57))) := Lib.hid (((Grow.refl w).alloc _).alloc _)
  have HR2 : Hid (((w.alloc (.cells #[.slice al h.log.length cl, .int .i64 h.boot, .int .i64 h.next, .slice ar h.opn.length cr] 57)).alloc (.cells #[.slice al2 h'.log.length cl2, .int .i64 h'.boot, .int .i64 h'.next, .slice ar2 h'.opn.length cr2] 57)).heap[w.heap.size]? = some (.cells #[.slice al h.log.length cl, .int .i64 h.boot, .int .i64 h.next, .slice ar h.opn.length cr] 57 (0, 0))) := Lib.hid (heap_later (row_new _ _) _)
  have HR3 : Hid (((w.alloc (.cells #[.slice al h.log.length cl, .int .i64 h.boot, .int .i64 h.next, .slice ar h.opn.length cr] 57)).alloc (.cells #[.slice al2 h'.log.length cl2, .int .i64 h'.boot, .int .i64 h'.next, .slice ar2 h'.opn.length cr2] 57)).heap[w.heap.size + 1]? = some (.cells #[.slice al2 h'.log.length cl2, .int .i64 h'.boot, .int .i64 h'.next, .slice ar2 h'.opn.length cr2] 57 (0, 0))) := Lib.hid (by simpa using row_new (w.alloc (.cells #[.slice al h.log.length cl, .int .i64 h.boot, .int .i64 h.next, .slice ar h.opn.length cr] 57)) _)
  obtain ⟨ar', cr', he, h1, h2, -, hel⟩ := k.2
  obtain ⟨rfl, rfl⟩ : ar = ar' ∧ cr = cr' := by simpa using he
  obtain ⟨ar3, cr3, he', h1', h2', -, hel'⟩ := k'.2
  obtain ⟨rfl, rfl⟩ : ar2 = ar3 ∧ cr2 = cr3 := by simpa using he'
  unfold maxLen at h2 h2'
  clear hv hv' k k' he he'
  by_cases hl : h.log = h'.log
  · skip
    by_cases hb : h.boot = h'.boot
    · skip
      by_cases hn : h.next = h'.next
      · skip
        by_cases ho : h.opn.length = h'.opn.length
        · skip
          have DL := Lib.hid (decide_eq_true hl)
          have b1 : (h.boot != h'.boot) = false := by simp [hb]
          have b2 : (h.next != h'.next) = false := by simp [hn]
          have b3 : ((h.opn.length : Int) != h'.opn.length) = false := by simp [ho]
          have HEQ : Hid (h.opn = h'.opn → h = h') := fun e => by cases h; cases h'; simp_all
          have HLN := Lib.hid ho
          clear hl hb hn ho
          go_enter Try.func41, Try.ntmps41
          go_wp2_with fail
          refine (HSL.out _ HG0.out).mono ?_
          rw [DL.out]
          rintro e w1 ⟨rfl, hbw1⟩
          (obtain ⟨cw1, fw1⟩ := bcell hbw1; have zw10 : w.heap.size < w1.heap.size := (by have := hbw1.size; (try simp at this); omega); have zw11 : w.heap.size + 1 < w1.heap.size := (by have := hbw1.size; (try simp at this); omega); have Gw1 := Lib.hid hbw1; clear hbw1)
          have HGL : Hid (Grow w w1) := Lib.hid (HG0.out.trans Gw1.out)
          obtain ⟨k0, k1, k2, k3⟩ := cells4 (row_grow HR2.out Gw1.out)
          obtain ⟨m0, m1, m2, m3⟩ := cells4 (row_grow HR3.out Gw1.out)
          have HM3 := Lib.hid m3
          clear cw1 fw1
          go_wp2
          clear k0 k1 k2 k3 m0 m1 m2 m3
          go_loopw [40] (fun i wr => ∃ k : Nat, k ≤ h.opn.length ∧ i = .int .i64 k ∧ Grow w1 wr ∧ ∀ j, j < k → h.opn[j]? = h'.opn[j]?) (fun i _ => h.opn.length - (intOf i).toNat)
          case atStart => exact ⟨0, by omega, rfl, Grow.refl _, fun j h => by omega⟩
          case round =>
            obtain ⟨k, hk', rfl, hb, hE⟩ := hrel
            by_cases hlt : k < h.opn.length
            · skip
              have hlt' : k < h'.opn.length := by have := HLN.out; omega
              have H1 := Lib.hid (same_next hlt hlt' hE)
              have H2 : Hid (¬ h.opn[k] = h'.opn[k] → decide (h = h') = false) := fun h2 => by
                rw [decide_eq_false_iff_not]; intro e; apply h2; simp [e]
              clear hE
              obtain ⟨b, o, vp, vh, rfl, c0, c1, c2, c3, -, hp, hh⟩ := Opns.at_ hel k hlt
              obtain ⟨b', o', vq, vg, rfl, d0, d1, d2, d3, -, hq, hg⟩ := Opns.at_ hel' k hlt'
              obtain ⟨ap, cp, rfl, -⟩ := id hp
              obtain ⟨ah, ch, rfl, -⟩ := id hh
              obtain ⟨aq, cq, rfl, -⟩ := id hq
              obtain ⟨ag, cg, rfl, -⟩ := id hg
              have HSP := Lib.hid (fun (W : World) (hW : Grow wr W) => ref_sameParts W (hp.mono (HGL.out.trans (hb.trans hW)).sub) (hq.mono (HGL.out.trans (hb.trans hW)).sub))
              have HSI := Lib.hid (fun (W : World) (hW : Grow wr W) => ref_sameInts W (hh.mono (HGL.out.trans (hb.trans hW)).sub) (hg.mono (HGL.out.trans (hb.trans hW)).sub))
              replace c0 := (HGL.out.trans hb).sub _ _ c0
              replace c1 := (HGL.out.trans hb).sub _ _ c1
              replace c2 := (HGL.out.trans hb).sub _ _ c2
              replace c3 := (HGL.out.trans hb).sub _ _ c3
              replace d0 := (HGL.out.trans hb).sub _ _ d0
              replace d1 := (HGL.out.trans hb).sub _ _ d1
              replace d2 := (HGL.out.trans hb).sub _ _ d2
              replace d3 := (HGL.out.trans hb).sub _ _ d3
              have m3 := hb.sub _ _ HM3.out
              have z1 : w.heap.size + 1 < wr.heap.size := World.block_lt_of_cell? wr _ m3
              have z2 : b' < wr.heap.size := World.block_lt_of_cell? wr _ d0
              clear hel hel' hp hh hq hg
              generalize h.opn[k] = p at *
              generalize h'.opn[k] = q at *
              generalize hpd : p.dec = bp at *
              generalize hqd : q.dec = bq at *
              by_cases hdeed : p.deed = q.deed
              · skip
                by_cases hdec : bp = bq
                · skip
                  subst hdec
                  by_cases hparts : p.parts = q.parts
                  · skip
                    by_cases hheard : p.heard = q.heard
                    · skip
                      have hpe : p = q := by cases p; cases q; simp_all
                      have H3 := Lib.hid (H1.out hpe)
                      have n1 : (p.deed != q.deed) = false := by simp [hdeed]
                      have DP := Lib.hid (decide_eq_true hparts)
                      have DI := Lib.hid (decide_eq_true hheard)
                      clear hpe hpd hqd hdeed hparts hheard H1 H2
                      go_wp2_with fail
                      refine (HSP.out _ (((Grow.refl wr).alloc (.cells #[.int .i64 p.deed, .slice ap p.parts.length cp, .bool bp, .slice ah p.heard.length ch] 136)).alloc (.cells #[.int .i64 q.deed, .slice aq q.parts.length cq, .bool bp, .slice ag q.heard.length cg] 136))).mono ?_
                      rw [DP.out]
                      rintro e w2 ⟨rfl, hbw2⟩
                      (obtain ⟨cw2, fw2⟩ := bcell hbw2; have zw20 : wr.heap.size < w2.heap.size := (by have := hbw2.size; (try simp at this); omega); have zw21 : wr.heap.size + 1 < w2.heap.size := (by have := hbw2.size; (try simp at this); omega); have Gw2 := Lib.hid hbw2; clear hbw2)
                      go_wp2_with fail
                      refine (HSI.out _ ((((Grow.refl wr).alloc (.cells #[.int .i64 p.deed, .slice ap p.parts.length cp, .bool bp, .slice ah p.heard.length ch] 136)).alloc (.cells #[.int .i64 q.deed, .slice aq q.parts.length cq, .bool bp, .slice ag q.heard.length cg] 136)).trans Gw2.out)).mono ?_
                      rw [DI.out]
                      rintro e w3 ⟨rfl, hbw3⟩
                      (obtain ⟨cw3, fw3⟩ := bcell hbw3; have zw30 : wr.heap.size < w3.heap.size := (by have := hbw3.size; (try simp at this); omega); have zw31 : wr.heap.size + 1 < w3.heap.size := (by have := hbw3.size; (try simp at this); omega); have Gw3 := Lib.hid hbw3; clear hbw3)
                      go_wp2
                      go_roundw
                      case rel => exact ⟨k + 1, by omega, by go_num, hb.trans (((((Grow.refl wr).alloc (.cells #[.int .i64 p.deed, .slice ap p.parts.length cp, .bool bp, .slice ah p.heard.length ch] 136)).alloc (.cells #[.int .i64 q.deed, .slice aq q.parts.length cq, .bool bp, .slice ag q.heard.length cg] 136)).trans Gw2.out).trans Gw3.out), H3.out⟩
                      case measure => simp [intOf]; omega
                    · skip
                      have H3 := Lib.hid (H2.out (fun e => hheard (by rw [e])))
                      have n1 : (p.deed != q.deed) = false := by simp [hdeed]
                      have DP := Lib.hid (decide_eq_true hparts)
                      have DI := Lib.hid (decide_eq_false hheard)
                      clear hpd hqd hdeed hparts hheard H1 H2
                      go_wp2_with fail
                      refine (HSP.out _ (((Grow.refl wr).alloc (.cells #[.int .i64 p.deed, .slice ap p.parts.length cp, .bool bp, .slice ah p.heard.length ch] 136)).alloc (.cells #[.int .i64 q.deed, .slice aq q.parts.length cq, .bool bp, .slice ag q.heard.length cg] 136))).mono ?_
                      rw [DP.out]
                      rintro e w2 ⟨rfl, hbw2⟩
                      (obtain ⟨cw2, fw2⟩ := bcell hbw2; have zw20 : wr.heap.size < w2.heap.size := (by have := hbw2.size; (try simp at this); omega); have zw21 : wr.heap.size + 1 < w2.heap.size := (by have := hbw2.size; (try simp at this); omega); have Gw2 := Lib.hid hbw2; clear hbw2)
                      go_wp2_with fail
                      refine (HSI.out _ ((((Grow.refl wr).alloc (.cells #[.int .i64 p.deed, .slice ap p.parts.length cp, .bool bp, .slice ah p.heard.length ch] 136)).alloc (.cells #[.int .i64 q.deed, .slice aq q.parts.length cq, .bool bp, .slice ag q.heard.length cg] 136)).trans Gw2.out)).mono ?_
                      rw [DI.out]
                      rintro e w3 ⟨rfl, hbw3⟩
                      (obtain ⟨cw3, fw3⟩ := bcell hbw3; have zw30 : wr.heap.size < w3.heap.size := (by have := hbw3.size; (try simp at this); omega); have zw31 : wr.heap.size + 1 < w3.heap.size := (by have := hbw3.size; (try simp at this); omega); have Gw3 := Lib.hid hbw3; clear hbw3)
                      go_wp2
                      go_ret
                      exact ⟨ret_bool H3.out.symm, HGL.out.trans (hb.trans (((((Grow.refl wr).alloc (.cells #[.int .i64 p.deed, .slice ap p.parts.length cp, .bool bp, .slice ah p.heard.length ch] 136)).alloc (.cells #[.int .i64 q.deed, .slice aq q.parts.length cq, .bool bp, .slice ag q.heard.length cg] 136)).trans Gw2.out).trans Gw3.out))⟩
                  · skip
                    have H3 := Lib.hid (H2.out (fun e => hparts (by rw [e])))
                    have n1 : (p.deed != q.deed) = false := by simp [hdeed]
                    have DP := Lib.hid (decide_eq_false hparts)
                    clear hpd hqd hdeed hparts H1 H2
                    go_wp2_with fail
                    refine (HSP.out _ (((Grow.refl wr).alloc (.cells #[.int .i64 p.deed, .slice ap p.parts.length cp, .bool bp, .slice ah p.heard.length ch] 136)).alloc (.cells #[.int .i64 q.deed, .slice aq q.parts.length cq, .bool bp, .slice ag q.heard.length cg] 136))).mono ?_
                    rw [DP.out]
                    rintro e w2 ⟨rfl, hbw2⟩
                    (obtain ⟨cw2, fw2⟩ := bcell hbw2; have zw20 : wr.heap.size < w2.heap.size := (by have := hbw2.size; (try simp at this); omega); have zw21 : wr.heap.size + 1 < w2.heap.size := (by have := hbw2.size; (try simp at this); omega); have Gw2 := Lib.hid hbw2; clear hbw2)
                    go_wp2
                    go_ret
                    exact ⟨ret_bool H3.out.symm, HGL.out.trans (hb.trans ((((Grow.refl wr).alloc (.cells #[.int .i64 p.deed, .slice ap p.parts.length cp, .bool bp, .slice ah p.heard.length ch] 136)).alloc (.cells #[.int .i64 q.deed, .slice aq q.parts.length cq, .bool bp, .slice ag q.heard.length cg] 136)).trans Gw2.out))⟩
                · skip
                  have H3 := Lib.hid (H2.out (fun e => hdec (by rw [← hpd, ← hqd, e])))
                  have n1 : (p.deed != q.deed) = false := by simp [hdeed]
                  have h2b : (bp = true ∧ bq = false) ∨ (bp = false ∧ bq = true) := by cases bp <;> cases bq <;> simp_all
                  clear hpd hqd hdeed hdec H1 H2
                  rcases h2b with ⟨rfl, rfl⟩ | ⟨rfl, rfl⟩
                  all_goals
                    go_wp2
                    go_ret
                    exact ⟨ret_bool H3.out.symm, HGL.out.trans (by repeat (first | with_reducible assumption | with_reducible exact Grow.refl _ | with_reducible apply Grow.drewN | with_reducible apply Grow.drew | with_reducible apply Grow.alloc | (refine Grow.setCell ?_ (by simp; done) _)))⟩
              · skip
                have H3 := Lib.hid (H2.out (fun e => hdeed (by rw [e])))
                have n1 : (p.deed != q.deed) = true := by simp [hdeed]
                clear hpd hqd hdeed H1 H2
                go_wp2
                go_ret
                exact ⟨ret_bool H3.out.symm, HGL.out.trans (by repeat (first | with_reducible assumption | with_reducible exact Grow.refl _ | with_reducible apply Grow.drewN | with_reducible apply Grow.drew | with_reducible apply Grow.alloc | (refine Grow.setCell ?_ (by simp; done) _)))⟩
            · skip
              have H9 := Lib.hid (same_all HLN.out (by omega) hE)
              clear hel hel' hE
              go_wp2
              go_ret
              refine ⟨ret_bool ?_, HGL.out.trans hb⟩
              rw [eq_comm, decide_eq_true_eq]
              exact HEQ.out H9.out
        · skip
          have HE : Hid (decide (h = h') = false) := by show _ = _; rw [decide_eq_false_iff_not]; rintro rfl; exact ho rfl
          have DL := Lib.hid (decide_eq_true hl)
          have b1 : (h.boot != h'.boot) = false := by simp [hb]
          have b2 : (h.next != h'.next) = false := by simp [hn]
          have b3 : ((h.opn.length : Int) != h'.opn.length) = true := by simp; omega
          clear hl hb hn ho hel hel'
          go_enter Try.func41, Try.ntmps41
          go_wp2_with fail
          refine (HSL.out _ HG0.out).mono ?_
          rw [DL.out]
          rintro e w1 ⟨rfl, hbw1⟩
          (obtain ⟨cw1, fw1⟩ := bcell hbw1; have zw10 : w.heap.size < w1.heap.size := (by have := hbw1.size; (try simp at this); omega); have zw11 : w.heap.size + 1 < w1.heap.size := (by have := hbw1.size; (try simp at this); omega); have Gw1 := Lib.hid hbw1; clear hbw1)
          go_wp2
          go_ret
          exact ⟨ret_bool HE.out.symm, HG0.out.trans Gw1.out⟩
      · skip
        have HE : Hid (decide (h = h') = false) := by show _ = _; rw [decide_eq_false_iff_not]; rintro rfl; exact hn rfl
        have DL := Lib.hid (decide_eq_true hl)
        have b1 : (h.boot != h'.boot) = false := by simp [hb]
        have b2 : (h.next != h'.next) = true := by simp [hn]
        clear hl hb hn hel hel'
        go_enter Try.func41, Try.ntmps41
        go_wp2_with fail
        refine (HSL.out _ HG0.out).mono ?_
        rw [DL.out]
        rintro e w1 ⟨rfl, hbw1⟩
        (obtain ⟨cw1, fw1⟩ := bcell hbw1; have zw10 : w.heap.size < w1.heap.size := (by have := hbw1.size; (try simp at this); omega); have zw11 : w.heap.size + 1 < w1.heap.size := (by have := hbw1.size; (try simp at this); omega); have Gw1 := Lib.hid hbw1; clear hbw1)
        go_wp2
        go_ret
        exact ⟨ret_bool HE.out.symm, HG0.out.trans Gw1.out⟩
    · skip
      have HE : Hid (decide (h = h') = false) := by show _ = _; rw [decide_eq_false_iff_not]; rintro rfl; exact hb rfl
      have DL := Lib.hid (decide_eq_true hl)
      have b1 : (h.boot != h'.boot) = true := by simp [hb]
      clear hl hb hel hel'
      go_enter Try.func41, Try.ntmps41
      go_wp2_with fail
      refine (HSL.out _ HG0.out).mono ?_
      rw [DL.out]
      rintro e w1 ⟨rfl, hbw1⟩
      (obtain ⟨cw1, fw1⟩ := bcell hbw1; have zw10 : w.heap.size < w1.heap.size := (by have := hbw1.size; (try simp at this); omega); have zw11 : w.heap.size + 1 < w1.heap.size := (by have := hbw1.size; (try simp at this); omega); have Gw1 := Lib.hid hbw1; clear hbw1)
      go_wp2
      go_ret
      exact ⟨ret_bool HE.out.symm, HG0.out.trans Gw1.out⟩
  · skip
    have HE : Hid (decide (h = h') = false) := by show _ = _; rw [decide_eq_false_iff_not]; rintro rfl; exact hl rfl
    have DL := Lib.hid (decide_eq_false hl)
    clear hl hel hel'
    go_enter Try.func41, Try.ntmps41
    go_wp2_with fail
    refine (HSL.out _ HG0.out).mono ?_
    rw [DL.out]
    rintro e w1 ⟨rfl, hbw1⟩
    (obtain ⟨cw1, fw1⟩ := bcell hbw1; have zw10 : w.heap.size < w1.heap.size := (by have := hbw1.size; (try simp at this); omega); have zw11 : w.heap.size + 1 < w1.heap.size := (by have := hbw1.size; (try simp at this); omega); have Gw1 := Lib.hid hbw1; clear hbw1)
    go_wp2
    go_ret
    exact ⟨ret_bool HE.out.symm, HG0.out.trans Gw1.out⟩
end Go.Proofs.Ytgbhpghgohggcaa

/- The law LogTells, walked. -/
namespace Go.Proofs.Ytgbhpghgohggcaa
open Go.RowKit
/-- memory between two heights -/
def win (lo hi : Nat) (w : World) : CM := fun a => if lo ≤ a.block ∧ a.block < hi then w.cell? a else none
theorem alloc_size (w : World) (o : Obj) : (w.alloc o).heap.size = w.heap.size + 1 := by simp
theorem win_sub (lo hi : Nat) (w : World) : Sub (win lo hi w) w.cell? := fun a v e => by
  unfold win at e
  split at e
  · exact e
  · cases e
theorem win_ov (W w : World) : Sub (ov (fun _ => none) W w) (win W.heap.size w.heap.size w) := fun a v e => by
  unfold ov at e
  split at e
  · cases e
  · unfold win
    rw [if_pos ⟨by omega, World.block_lt_of_cell? w a e⟩]; exact e
theorem win_by {lo hi : Nat} {w w' : World} {row : Option Nat} (h : w.grownBy w' row) (hr : ∀ k, row = some k → k < lo ∨ hi ≤ k) : Sub (win lo hi w) (win lo hi w') := fun a v e => by
  unfold win at e ⊢
  split at e
  · rename_i hc
    rw [if_pos hc, World.cell?_of_block (h.block a.block (World.block_lt_of_cell? w a e) (fun e => by have := hr a.block e.symm; omega))]
    exact e
  · cases e
theorem win_grow {w w' : World} (h : Grow w w') (lo hi : Nat) : Sub (win lo hi w) (win lo hi w') := win_by (grownBy_of_grow h none) (fun k e => by cases e)
theorem wanted_yes {o : Oper} {y : Nat → Option Bool} {X E : Prop} {inst : Decidable (Region.wanted o y = true)} (hgd : Region.wanted o y = true) (h : X) : @ite Prop (Region.wanted o y = true) inst X E := by
  rw [if_pos hgd]
  exact h
set_option maxRecDepth 100000 in
set_option maxHeartbeats 8000000 in
theorem logTells_walk {v vr : Value} {l : List Rc} {r : Rc} (w : World) (hv : Rcs w.cell? v l) (_hs : l.length * 40 ≤ 140737488351232) (hr : Of Ty.rc w.cell? vr r) :
    Calls Try.prog 6 #[v, vr] w fun e w' => e = .returned (.bool true) ∧ Grow w w' := by
  obtain ⟨ap, cp, rfl⟩ := hr.rc_form
  have hr3 : Ty.rc.R w.cell? [.int .i64 r.kind, .int .i64 r.deed, .slice ap r.parts.length cp] r := Of.cells hr
  have HR := Lib.hid hr3
  have HOR := Lib.hid hr
  have HV := Lib.hid hv
  have HRL := Lib.hid (fun (W : World) (hW : Grow w W) => ref_rightLog W (hv.mono hW.sub))
  have HSRC := Lib.hid (fun (W : World) (hW : Grow w W) => (Src.of_sl (T := Ty.rc) (by decide) hv).grow hW)
  have HR1 := Lib.hid (fun (W : World) (hW : Grow w W) => ref_rightLog (v := .slice (some ⟨W.heap.size, 0, none⟩) 1 1) (l := [r]) (W.alloc (.cells #[.int .i64 r.kind, .int .i64 r.deed, .slice ap r.parts.length cp] 48)) (sl_one (T := Ty.rc) (Ty.rc.mono (hW.trans ((Grow.refl W).alloc _)).sub hr3) (at_new W _ _) (by decide) (by decide)))
  obtain ⟨al, cl, rfl, -⟩ := hv
  clear hr hr3
  cases hok : rightLog l with
  | false =>
    go_enter Try.func6, Try.ntmps6
    go_wp2_with fail
    refine (HRL.out _ ((Grow.refl w).alloc _)).mono ?_
    rw [hok]
    rintro e w2 ⟨rfl, hb2⟩
    go_wp2
    go_ret
    exact ⟨rfl, ((Grow.refl w).alloc _).trans hb2⟩
  | true =>
    have HOK := Lib.hid hok
    clear hok
    cases hok1 : rightLog [r] with
    | false =>
      go_enter Try.func6, Try.ntmps6
      go_wp2_with fail
      have R3 := Lib.hid (row_new w (.cells #[.int .i64 r.kind, .int .i64 r.deed, .slice ap r.parts.length cp] 48))
      refine (HRL.out _ ((Grow.refl w).alloc _)).mono ?_
      rw [HOK.out]
      rintro e w2 ⟨rfl, hb2⟩
      have HB2 := Lib.hid (((Grow.refl w).alloc (.cells #[.int .i64 r.kind, .int .i64 r.deed, .slice ap r.parts.length cp] 48)).trans hb2)
      obtain ⟨q0, q1, q2⟩ := cells3 (row_grow R3.out hb2)
      have qz : w.heap.size < w2.heap.size := (Array.getElem?_eq_some_iff.1 (row_grow R3.out hb2)).1
      clear hb2
      go_wp2_with fail
      refine (HR1.out _ HB2.out).mono ?_
      rw [hok1]
      rintro e w3 ⟨rfl, hb3⟩
      go_wp2
      go_ret
      exact ⟨rfl, (HB2.out.alloc _).trans hb3⟩
    | true =>
      have hkeys := keys_of_right HOK.out
      have hkr : KeysOk r.parts := (keys_of_right hok1).1 r (by simp)
      have hsm := right_small HOK.out
      have hsr := right_small hok1 r (by simp)
      have hl60 := hkeys.2
      have HL : Hid (l.length ≤ 60) := Lib.hid (by omega)
      have HHS := Lib.hid (fun (W : World) (hW : Grow w W) => wlog_house W (HV.out.mono hW.sub) hkeys.1 (by omega) (fun x hx => by have := hsm x hx; omega))
      have HRHS := Lib.hid (fun (W : World) (hW : Grow w W) => ref_house W (HV.out.mono hW.sub) hkeys.1 (by omega))
      have HNT0 := Lib.hid (fun (vx : Value) (W : World) (hW : Grow w W) (hx : Of Ty.hs W.cell? vx (houseR l)) => wlog_note W hx (HOR.out.mono hW.sub) (by rw [log_house]; exact hkeys.1) hkr (by rw [log_house]; omega) (by rw [log_house]; exact fun x hx => by have := hsm x hx; omega) (by omega))
      have HRH := Lib.hid (fun (vx : Value) (W : World) (hx : Rcs W.cell? vx (l ++ [r])) => ref_house W hx (fun x hx => by rcases List.mem_append.1 hx with hx | hx; exact hkeys.1 x hx; rw [List.mem_singleton.1 hx]; exact hkr) (by simp; omega))
      have HOW0 := Lib.hid (fun (W : World) (hW : Grow w W) => log_own W (HV.out.mono hW.sub) (by omega) (fun x hx => by have := hsm x hx; omega))
      have HSL0 := Lib.hid (fun (vx : Value) (W : World) (hW : Grow w W) (hx : Rcs W.cell? vx l) => by have h := ref_sameLog W hx (HV.out.mono hW.sub); rw [decide_eq_true rfl] at h; exact h)
      have HSE := Lib.hid (fun (vx vy : Value) (W : World) (hx : Of Ty.hs W.cell? vx (houseR (l ++ [r]))) (hy : Of Ty.hs W.cell? vy (houseR (l ++ [r]))) => by have h := ref_sameHouse W hx hy; rw [decide_eq_true rfl] at h; exact h)
      have HWH := Lib.hid (fun (W : World) (hW : Grow w W) => wlog_head W (HV.out.mono hW.sub) (by omega) (fun x hx => by have := hsm x hx; omega))
      have HREH := Lib.hid (fun (W : World) (hW : Grow w W) => ref_head W hW.sub HV.out (by omega))
      have HWD := Lib.hid (fun (W : World) (hW : Grow w W) => wlog_decided W (HV.out.mono hW.sub) (by omega) (fun x hx => by have := hsm x hx; omega))
      have HRD := Lib.hid (fun (W : World) (hW : Grow w W) => ref_decided W hW.sub HV.out (by omega))
      have HO1 := Lib.hid hok1
      clear hkeys hkr hsm hsr hok1 hl60
      go_enter Try.func6, Try.ntmps6
      go_wp2_with fail
      have R3 := Lib.hid (row_new w (.cells #[.int .i64 r.kind, .int .i64 r.deed, .slice ap r.parts.length cp] 48))
      refine (HRL.out _ ((Grow.refl w).alloc _)).mono ?_
      rw [HOK.out]
      rintro e w2 ⟨rfl, hb2⟩
      have HB2 := Lib.hid (((Grow.refl w).alloc (.cells #[.int .i64 r.kind, .int .i64 r.deed, .slice ap r.parts.length cp] 48)).trans hb2)
      have R32 := Lib.hid (row_grow R3.out hb2)
      obtain ⟨q0, q1, q2⟩ := cells3 R32.out
      have qz : w.heap.size < w2.heap.size := (Array.getElem?_eq_some_iff.1 R32.out).1
      clear hb2
      go_wp2_with fail
      refine (HR1.out _ HB2.out).mono ?_
      rw [HO1.out]
      rintro e w3 ⟨rfl, hb3⟩
      have HB3 := Lib.hid ((HB2.out.alloc _).trans hb3)
      have R33 := Lib.hid (row_grow R32.out (((Grow.refl w2).alloc _).trans hb3))
      clear hb3 q0 q1 q2 qz
      go_wp2_with fail
      refine (HHS.out _ HB3.out).mono ?_
      rintro e w4 ⟨vx, rfl, hX, hb4⟩
      have hX' := hX.mono (ov_none hb4)
      obtain ⟨xl, kl, xr, kr, xd, kd, rfl⟩ := hX'.hs_form
      have HX := Lib.hid hX'
      have HB4 := Lib.hid (HB3.out.trans hb4)
      have R34 := Lib.hid (row_grow R33.out hb4)
      clear hX hX' hb4
      go_wp2_with fail
      refine (HRHS.out _ HB4.out).mono ?_
      rintro e w5 ⟨vy, rfl, hY, hb5⟩
      obtain ⟨yl, ml, yr, mr, yd, md, rfl⟩ := hY.hs_form
      have HY := Lib.hid hY
      have HX5 := Lib.hid (HX.out.mono hb5.sub)
      have HB5 := Lib.hid (HB4.out.trans hb5)
      have R35 := Lib.hid (row_grow R34.out hb5)
      clear hY hb5
      generalize hxe : houseR l = x at *
      have HXE := Lib.hid hxe
      clear hxe
      go_wp2
      obtain ⟨w8, hWE⟩ : ∃ u : World, u = ((w5.alloc (.cells #[.slice xl x.log.length kl, .int .i64 x.sums.a, .int .i64 x.sums.b, .int .i64 x.sums.c, .int .i64 x.sums.d, .slice xr x.ready.length kr, .slice xd x.done.length kd] 29)).alloc (.cells #[.slice yl x.log.length ml, .int .i64 x.sums.a, .int .i64 x.sums.b, .int .i64 x.sums.c, .int .i64 x.sums.d, .slice yr x.ready.length mr, .slice yd x.done.length md] 29)) := ⟨_, rfl⟩
      rw [← hWE]
      have HG58 : Hid (Grow w5 w8) := Lib.hid (by rw [hWE]; exact ((Grow.refl w5).alloc _).alloc _)
      have HG8 : Hid (Grow w w8) := Lib.hid (HB5.out.trans HG58.out)
      have k5 : w8.heap[w5.heap.size]? = some (.cells #[.slice xl x.log.length kl, .int .i64 x.sums.a, .int .i64 x.sums.b, .int .i64 x.sums.c, .int .i64 x.sums.d, .slice xr x.ready.length kr, .slice xd x.done.length kd] 29 (0, 0)) := by rw [hWE]; exact heap_later (row_new _ _) _
      have k6 : w8.heap[w5.heap.size + 1]? = some (.cells #[.slice yl x.log.length ml, .int .i64 x.sums.a, .int .i64 x.sums.b, .int .i64 x.sums.c, .int .i64 x.sums.d, .slice yr x.ready.length mr, .slice yd x.done.length md] 29 (0, 0)) := by rw [hWE]; simpa using row_new (w5.alloc (.cells #[.slice xl x.log.length kl, .int .i64 x.sums.a, .int .i64 x.sums.b, .int .i64 x.sums.c, .int .i64 x.sums.d, .slice xr x.ready.length kr, .slice xd x.done.length kd] 29)) (.cells #[.slice yl x.log.length ml, .int .i64 x.sums.a, .int .i64 x.sums.b, .int .i64 x.sums.c, .int .i64 x.sums.d, .slice yr x.ready.length mr, .slice yd x.done.length md] 29)
      have k3 := row_grow R35.out HG58.out
      clear hWE
      obtain ⟨f0, f1, f2, f3, f4, f5, f6⟩ := cells7 k5
      obtain ⟨g0, g1, g2, g3, g4, g5, g6⟩ := cells7 k6
      obtain ⟨e0, e1, e2⟩ := cells3 k3
      have HS : Hid (∀ W, Grow w8 W → W.cell? ⟨w5.heap.size, 0, none⟩ = some (.slice xl x.log.length kl) ∧ W.cell? ⟨w5.heap.size, 1, none⟩ = some (.int .i64 x.sums.a) ∧ W.cell? ⟨w5.heap.size, 2, none⟩ = some (.int .i64 x.sums.b) ∧ W.cell? ⟨w5.heap.size, 3, none⟩ = some (.int .i64 x.sums.c) ∧ W.cell? ⟨w5.heap.size, 4, none⟩ = some (.int .i64 x.sums.d) ∧ W.cell? ⟨w5.heap.size, 5, none⟩ = some (.slice xr x.ready.length kr) ∧ W.cell? ⟨w5.heap.size, 6, none⟩ = some (.slice xd x.done.length kd) ∧ W.cell? ⟨w5.heap.size + 1, 0, none⟩ = some (.slice yl x.log.length ml) ∧ W.cell? ⟨w5.heap.size + 1, 1, none⟩ = some (.int .i64 x.sums.a) ∧ W.cell? ⟨w5.heap.size + 1, 2, none⟩ = some (.int .i64 x.sums.b) ∧ W.cell? ⟨w5.heap.size + 1, 3, none⟩ = some (.int .i64 x.sums.c) ∧ W.cell? ⟨w5.heap.size + 1, 4, none⟩ = some (.int .i64 x.sums.d) ∧ W.cell? ⟨w5.heap.size + 1, 5, none⟩ = some (.slice yr x.ready.length mr) ∧ W.cell? ⟨w5.heap.size + 1, 6, none⟩ = some (.slice yd x.done.length md) ∧ W.cell? ⟨w.heap.size, 0, none⟩ = some (.int .i64 r.kind) ∧ W.cell? ⟨w.heap.size, 1, none⟩ = some (.int .i64 r.deed) ∧ W.cell? ⟨w.heap.size, 2, none⟩ = some (.slice ap r.parts.length cp)) := fun W hW => ⟨hW.sub _ _ f0, hW.sub _ _ f1, hW.sub _ _ f2, hW.sub _ _ f3, hW.sub _ _ f4, hW.sub _ _ f5, hW.sub _ _ f6, hW.sub _ _ g0, hW.sub _ _ g1, hW.sub _ _ g2, hW.sub _ _ g3, hW.sub _ _ g4, hW.sub _ _ g5, hW.sub _ _ g6, hW.sub _ _ e0, hW.sub _ _ e1, hW.sub _ _ e2⟩
      have HSH := Lib.hid (fun (W : World) (hW : Grow w8 W) => by have h := ref_sameHouse W (HX5.out.mono (HG58.out.trans hW).sub) (HY.out.mono (HG58.out.trans hW).sub); rw [decide_eq_true rfl] at h; exact h)
      have HNT := Lib.hid (fun (W : World) (hW : Grow w8 W) => HNT0.out _ W (HG8.out.trans hW) (HY.out.mono (HG58.out.trans hW).sub))
      have HOW := Lib.hid (fun (W : World) (hW : Grow w8 W) => HOW0.out W (HG8.out.trans hW))
      have HSL := Lib.hid (fun (vx : Value) (W : World) (hW : Grow w8 W) (hx : Rcs W.cell? vx l) => HSL0.out vx W (HG8.out.trans hW) hx)
      clear f0 f1 f2 f3 f4 f5 f6 g0 g1 g2 g3 g4 g5 g6 e0 e1 e2 k3 k5 k6
      refine but_start (fun w' => w'.cell? ⟨w5.heap.size, 0, none⟩ = some (.slice xl x.log.length kl) ∧ w'.cell? ⟨w5.heap.size, 1, none⟩ = some (.int .i64 x.sums.a) ∧ w'.cell? ⟨w5.heap.size, 2, none⟩ = some (.int .i64 x.sums.b) ∧ w'.cell? ⟨w5.heap.size, 3, none⟩ = some (.int .i64 x.sums.c) ∧ w'.cell? ⟨w5.heap.size, 4, none⟩ = some (.int .i64 x.sums.d) ∧ w'.cell? ⟨w5.heap.size, 5, none⟩ = some (.slice xr x.ready.length kr) ∧ w'.cell? ⟨w5.heap.size, 6, none⟩ = some (.slice xd x.done.length kd) ∧ w'.cell? ⟨w5.heap.size + 1, 0, none⟩ = some (.slice yl x.log.length ml) ∧ w'.cell? ⟨w5.heap.size + 1, 1, none⟩ = some (.int .i64 x.sums.a) ∧ w'.cell? ⟨w5.heap.size + 1, 2, none⟩ = some (.int .i64 x.sums.b) ∧ w'.cell? ⟨w5.heap.size + 1, 3, none⟩ = some (.int .i64 x.sums.c) ∧ w'.cell? ⟨w5.heap.size + 1, 4, none⟩ = some (.int .i64 x.sums.d) ∧ w'.cell? ⟨w5.heap.size + 1, 5, none⟩ = some (.slice yr x.ready.length mr) ∧ w'.cell? ⟨w5.heap.size + 1, 6, none⟩ = some (.slice yd x.done.length md) ∧ w'.cell? ⟨w.heap.size, 0, none⟩ = some (.int .i64 r.kind) ∧ w'.cell? ⟨w.heap.size, 1, none⟩ = some (.int .i64 r.deed) ∧ w'.cell? ⟨w.heap.size, 2, none⟩ = some (.slice ap r.parts.length cp)) 24 (by kernel_rfl) ?_
      obtain ⟨wd, hWd⟩ : ∃ x : World, x = w8.drew := ⟨_, rfl⟩
      rw [← hWd]
      have GD : Grow w8 wd := by rw [hWd]; exact (Grow.refl _).drew
      have zD : w8.heap.size = wd.heap.size := by rw [hWd]; rfl
      have ZD := Lib.hid zD
      clear hWd zD
      refine but_take (i := 0) (v := ?_) 26 rfl (by kernel_rfl) (by kernel_rfl) (by kernel_rfl) (by kernel_rfl) (by kernel_rfl) (fun _ _ _ h => h) (HS.out _ GD) (Or.inl ⟨by rfl, ?_⟩) ?_
      rotate_left
      · (intro w' hSw; (try dsimp only at hSw); obtain ⟨hs0, hs1, hs2, hs3, hs4, hs5, hs6, hs7, hs8, hs9, hs10, hs11, hs12, hs13, hs14, hs15, hs16⟩ := hSw; go_simp <;> with_reducible rfl)
      try simp only [Act.put, List.getElem_toArray, List.getElem_cons_zero, List.setIfInBounds_toArray, List.set_cons_zero, List.set_cons_succ]
      refine but_take (i := 1) (v := ?_) 26 rfl (by kernel_rfl) (by kernel_rfl) (by kernel_rfl) (by kernel_rfl) (by kernel_rfl) (fun _ _ _ h => h) (HS.out _ GD) (Or.inl ⟨by rfl, ?_⟩) ?_
      rotate_left
      · (intro w' hSw; (try dsimp only at hSw); obtain ⟨hs0, hs1, hs2, hs3, hs4, hs5, hs6, hs7, hs8, hs9, hs10, hs11, hs12, hs13, hs14, hs15, hs16⟩ := hSw; go_simp <;> with_reducible rfl)
      try simp only [Act.put, List.getElem_toArray, List.getElem_cons_succ, List.getElem_cons_zero, List.setIfInBounds_toArray, List.set_cons_zero, List.set_cons_succ]
      refine but_one (i := 2) (by kernel_rfl) rfl ?_
      intro K HK'
      have HK := Lib.hid HK'
      clear HK'
      skip
      try simp only [List.getElem_toArray, List.getElem_cons_succ, List.getElem_cons_zero]
      go_simp
      go_at_call 37
      refine (HSH.out _ GD).mono ?_
      rintro e wa ⟨rfl, hbwa⟩
      have Gwa := Grow.trans GD hbwa
      have swa := hbwa.size
      try simp only [alloc_size] at swa
      refine HK.out _ _ ⟨fun _ => HS.out _ Gwa, ?_⟩
      clear HK K
      try simp only [Act.put, List.getElem_toArray, List.getElem_cons_succ, List.getElem_cons_zero, List.setIfInBounds_toArray, List.set_cons_zero, List.set_cons_succ]
      refine but_one (i := 3) (by kernel_rfl) rfl ?_
      intro K HK'
      have HK := Lib.hid HK'
      clear HK'
      skip
      try simp only [List.getElem_toArray, List.getElem_cons_succ, List.getElem_cons_zero]
      go_simp
      refine HK.out _ _ ⟨fun _ => HS.out _ Gwa, ?_⟩
      clear HK K
      try simp only [Act.put, List.getElem_toArray, List.getElem_cons_succ, List.getElem_cons_zero, List.setIfInBounds_toArray, List.set_cons_zero, List.set_cons_succ]
      refine but_one (i := 4) (by kernel_rfl) rfl ?_
      intro K HK'
      have HK := Lib.hid HK'
      clear HK'
      skip
      try simp only [List.getElem_toArray, List.getElem_cons_succ, List.getElem_cons_zero]
      go_simp
      refine HK.out _ _ ⟨fun _ => HS.out _ Gwa, ?_⟩
      clear HK K
      try simp only [Act.put, List.getElem_toArray, List.getElem_cons_succ, List.getElem_cons_zero, List.setIfInBounds_toArray, List.set_cons_zero, List.set_cons_succ]
      refine but_take (i := 5) (v := ?_) 26 rfl (by kernel_rfl) (by kernel_rfl) (by kernel_rfl) (by kernel_rfl) (by kernel_rfl) (fun _ _ _ h => h) (HS.out _ Gwa) (Or.inl ⟨by rfl, ?_⟩) ?_
      rotate_left
      · (intro w' hSw; (try dsimp only at hSw); obtain ⟨hs0, hs1, hs2, hs3, hs4, hs5, hs6, hs7, hs8, hs9, hs10, hs11, hs12, hs13, hs14, hs15, hs16⟩ := hSw; go_simp <;> with_reducible rfl)
      try simp only [Act.put, List.getElem_toArray, List.getElem_cons_succ, List.getElem_cons_zero, List.setIfInBounds_toArray, List.set_cons_zero, List.set_cons_succ]
      refine but_take (i := 6) (v := ?_) 26 rfl (by kernel_rfl) (by kernel_rfl) (by kernel_rfl) (by kernel_rfl) (by kernel_rfl) (fun _ _ _ h => h) (HS.out _ Gwa) (Or.inl ⟨by rfl, ?_⟩) ?_
      rotate_left
      · (intro w' hSw; (try dsimp only at hSw); obtain ⟨hs0, hs1, hs2, hs3, hs4, hs5, hs6, hs7, hs8, hs9, hs10, hs11, hs12, hs13, hs14, hs15, hs16⟩ := hSw; go_simp <;> with_reducible rfl)
      try simp only [Act.put, List.getElem_toArray, List.getElem_cons_succ, List.getElem_cons_zero, List.setIfInBounds_toArray, List.set_cons_zero, List.set_cons_succ]
      refine but_take (i := 9) (v := ?_) 26 rfl (by kernel_rfl) (by kernel_rfl) (by kernel_rfl) (by kernel_rfl) (by kernel_rfl) (fun _ _ _ h => h) (HS.out _ Gwa) (Or.inl ⟨by rfl, ?_⟩) ?_
      rotate_left
      · (intro w' hSw; (try dsimp only at hSw); obtain ⟨hs0, hs1, hs2, hs3, hs4, hs5, hs6, hs7, hs8, hs9, hs10, hs11, hs12, hs13, hs14, hs15, hs16⟩ := hSw; go_simp <;> with_reducible rfl)
      try simp only [Act.put, List.getElem_toArray, List.getElem_cons_succ, List.getElem_cons_zero, List.setIfInBounds_toArray, List.set_cons_zero, List.set_cons_succ]
      refine but_take (i := 11) (v := ?_) 26 rfl (by kernel_rfl) (by kernel_rfl) (by kernel_rfl) (by kernel_rfl) (by kernel_rfl) (fun _ _ _ h => h) (HS.out _ Gwa) (Or.inl ⟨by rfl, ?_⟩) ?_
      rotate_left
      · (intro w' hSw; (try dsimp only at hSw); obtain ⟨hs0, hs1, hs2, hs3, hs4, hs5, hs6, hs7, hs8, hs9, hs10, hs11, hs12, hs13, hs14, hs15, hs16⟩ := hSw; go_simp <;> with_reducible rfl)
      try simp only [Act.put, List.getElem_toArray, List.getElem_cons_succ, List.getElem_cons_zero, List.setIfInBounds_toArray, List.set_cons_zero, List.set_cons_succ]
      refine but_three (i := 7) (j := 8) (k := 12) (by kernel_rfl) rfl rfl rfl ?_ ?_ ?_
      · skip
        intro K HK'
        have HK := Lib.hid HK'
        clear HK'
        skip
        try simp only [List.getElem_toArray, List.getElem_cons_succ, List.getElem_cons_zero]
        go_simp
        go_at_call 38
        refine (HNT.out _ Gwa).mono ?_
        rintro e wn ⟨vn, rfl, hn, hbwn⟩
        have Gwn := Grow.trans Gwa hbwn
        have swn := hbwn.size
        try simp only [alloc_size] at swn
        have eLO : wa.heap.size = wa.heap.size := by (try simp only [])
        have HN : Hid (Of Ty.hs (win (wa.heap.size) wn.heap.size wn) vn (houseR (l ++ [r]))) := Lib.hid (by rw [← note_house, HXE.out, eLO]; exact hn.mono (win_ov _ _))
        clear hn eLO
        refine HK.out _ _ ⟨fun _ => HS.out _ Gwn, ?_⟩
        clear HK K
        try simp only [Act.put, List.getElem_toArray, List.getElem_cons_succ, List.getElem_cons_zero, List.setIfInBounds_toArray, List.set_cons_zero, List.set_cons_succ]
        refine but_two (i := 8) (j := 12) (by kernel_rfl) rfl rfl ?_ ?_
        · skip
          intro K HK'
          have HK := Lib.hid HK'
          clear HK'
          skip
          try simp only [List.getElem_toArray, List.getElem_cons_succ, List.getElem_cons_zero]
          go_simp
          refine HK.out _ _ ⟨fun _ => HS.out _ (Gwn.alloc _), ?_⟩
          clear HK K
          try simp only [Act.put, List.getElem_toArray, List.getElem_cons_succ, List.getElem_cons_zero, List.setIfInBounds_toArray, List.set_cons_zero, List.set_cons_succ]
          refine but_two (i := 10) (j := 12) (by kernel_rfl) rfl rfl ?_ ?_
          · skip
            intro K HK'
            have HK := Lib.hid HK'
            clear HK'
            refine wanted_yes (by rfl) ?_
            try simp only [List.getElem_toArray, List.getElem_cons_succ, List.getElem_cons_zero]
            have q8 : ∀ k, (Value.slice (some ⟨wn.heap.size, 0, none⟩) 0 0).ownBlock = some k → k < wa.heap.size ∨ wn.heap.size ≤ k := fun k hk => by
              obtain rfl : _ = k := by simpa [Value.ownBlock] using hk
              right; have := (Grow.refl wn).size; (try simp only [alloc_size] at this); omega
            refine wp_appc (c := w.cell?) (base := w8.heap.size) (v := .slice (some ⟨wn.heap.size, 0, none⟩) 0 0) (l := []) (m := l) ei_rc rfl one_Trc (by decide) (.tmp 28) (.tmp 29) rfl rfl ((OwnC.made0 Ty.rc w.cell? _ w8.heap.size _ Gwn.size (g := wn.heap.size) (by (try simp only [])))) rfl (HSRC.out _ (HG8.out.trans (Gwn.alloc _))) (by have := HL.out; simp; omega) (Gwn.alloc _).size ?_
            intro a10 c10 w10 ho10 hg10 hb10
            try simp only [List.length_nil, Nat.zero_add, List.nil_append] at ho10 hb10 ⊢
            have G10 := grow_by (w0 := w8) (Gwn.alloc _) hg10 (own_at (by have := Gwn.size; (try simp only [alloc_size] at this); omega))
            have R10 : Hid (∀ k, (Value.slice a10 l.length c10).ownBlock = some k → k < wa.heap.size ∨ wn.heap.size ≤ k) := fun k hk => by
              rcases hb10 with e | ⟨g, e, hg⟩
              · exact q8 k (e ▸ hk)
              · rw [e] at hk; obtain rfl := Option.some.inj hk; exact .inr (Nat.le_trans ((Grow.refl wn).alloc _).size hg)
            have HO10 := Lib.hid ho10
            have s10 := hg10.size
            have B10 : Hid (∀ k, (Value.slice a10 l.length c10).ownBlock = some k → w8.heap.size ≤ k) := Lib.hid (own_new (B := w8.heap.size) (Gwn.alloc _).size hb10 (own_at (by have := Gwn.size; (try simp only [alloc_size] at this); omega)))
            clear ho10 hb10
            refine HK.out _ _ ⟨fun _ => HS.out _ G10, ?_⟩
            clear HK K
            try simp only [Act.put, List.setIfInBounds_toArray, List.set_cons_zero, List.set_cons_succ]
            refine but_one (i := 12) (by kernel_rfl) rfl ?_
            intro K HK'
            have HK := Lib.hid HK'
            clear HK'
            skip
            try simp only [List.getElem_toArray, List.getElem_cons_succ, List.getElem_cons_zero]
            go_simp
            refine HK.out _ _ ⟨fun _ => HS.out _ (G10.alloc _), ?_⟩
            clear HK K
            try simp only [Act.put, List.getElem_toArray, List.getElem_cons_succ, List.getElem_cons_zero, List.setIfInBounds_toArray, List.set_cons_zero, List.set_cons_succ]
            refine but_one (i := 13) (by kernel_rfl) rfl ?_
            intro K HK'
            have HK := Lib.hid HK'
            clear HK'
            refine wanted_yes (by rfl) ?_
            try simp only [List.getElem_toArray, List.getElem_cons_succ, List.getElem_cons_zero]
            have q12 : ∀ k, (Value.slice a10 l.length c10).ownBlock = some k → k < wa.heap.size ∨ wn.heap.size ≤ k := R10.out
            refine wp_appc (c := w.cell?) (base := w8.heap.size) (v := .slice a10 l.length c10) (l := l) (m := [r]) ei_rc rfl one_Trc (by decide) (.tmp 30) (.tmp 32) rfl rfl ((HO10.out).grow ((Grow.refl _).alloc _)) rfl ((Src.of_new (T := Ty.rc) (c := w.cell?) (cs := #[.int .i64 r.kind, .int .i64 r.deed, .slice ap r.parts.length cp]) HR.out _ _ (g := w10.heap.size) (by (try simp only [])))) (by have := HL.out; simp; omega) (G10.alloc _).size ?_
            intro a13 c13 w13 ho13 hg13 hb13
            try simp only [List.length_cons, List.length_nil, Nat.zero_add] at ho13 hb13 ⊢
            have G13 := grow_by (w0 := w8) (G10.alloc _) hg13 B10.out
            have HN13 : Hid (Of Ty.hs w13.cell? vn (houseR (l ++ [r]))) := Lib.hid ((((((HN.out.mono (win_grow ((Grow.refl _).alloc _) _ _)).mono (win_by hg10 q8)).mono (win_grow ((Grow.refl _).alloc _) _ _)).mono (win_by hg13 q12))).mono (win_sub _ _ _))
            have HV13 : Hid (Rcs w13.cell? (.slice a13 (l.length + 1) c13) (l ++ [r])) := Lib.hid (ho13.sl (by decide) (HG8.out.trans G13).sub)
            clear ho13 hg13 hb13 HN
            refine HK.out _ _ ⟨fun _ => HS.out _ G13, ?_⟩
            clear HK K
            try simp only [Act.put, List.setIfInBounds_toArray, List.set_cons_zero, List.set_cons_succ]
            refine but_one (i := 14) (by kernel_rfl) rfl ?_
            intro K HK'
            have HK := Lib.hid HK'
            clear HK'
            skip
            try simp only [List.getElem_toArray, List.getElem_cons_succ, List.getElem_cons_zero]
            go_simp
            go_at_call 29
            refine (HRH.out _ _ HV13.out).mono ?_
            rintro e wh ⟨vh, rfl, hh, hbwh⟩
            have Gwh := Grow.trans G13 hbwh
            have swh := hbwh.size
            try simp only [alloc_size] at swh
            have HH := Lib.hid hh
            clear hh
            refine HK.out _ _ ⟨fun _ => HS.out _ Gwh, ?_⟩
            clear HK K
            try simp only [Act.put, List.getElem_toArray, List.getElem_cons_succ, List.getElem_cons_zero, List.setIfInBounds_toArray, List.set_cons_zero, List.set_cons_succ]
            refine but_one (i := 15) (by kernel_rfl) rfl ?_
            intro K HK'
            have HK := Lib.hid HK'
            clear HK'
            skip
            try simp only [List.getElem_toArray, List.getElem_cons_succ, List.getElem_cons_zero]
            go_simp
            go_at_call 37
            refine (HSE.out _ _ _ (HN13.out.mono hbwh.sub) HH.out).mono ?_
            rintro e we ⟨rfl, hbwe⟩
            have Gwe := Grow.trans Gwh hbwe
            have swe := hbwe.size
            try simp only [alloc_size] at swe
            refine HK.out _ _ ⟨fun _ => HS.out _ Gwe, ?_⟩
            clear HK K
            try simp only [Act.put, List.getElem_toArray, List.getElem_cons_succ, List.getElem_cons_zero, List.setIfInBounds_toArray, List.set_cons_zero, List.set_cons_succ]
            refine but_one (i := 16) (by kernel_rfl) rfl ?_
            intro K HK'
            have HK := Lib.hid HK'
            clear HK'
            skip
            try simp only [List.getElem_toArray, List.getElem_cons_succ, List.getElem_cons_zero]
            go_simp
            refine HK.out _ _ ⟨fun _ => HS.out _ Gwe, ?_⟩
            clear HK K
            try simp only [Act.put, List.getElem_toArray, List.getElem_cons_succ, List.getElem_cons_zero, List.setIfInBounds_toArray, List.set_cons_zero, List.set_cons_succ]
            refine but_one (i := 17) (by kernel_rfl) rfl ?_
            intro K HK'
            have HK := Lib.hid HK'
            clear HK'
            skip
            try simp only [List.getElem_toArray, List.getElem_cons_succ, List.getElem_cons_zero]
            go_simp
            refine HK.out _ _ ⟨fun _ => HS.out _ Gwe, ?_⟩
            clear HK K
            try simp only [Act.put, List.getElem_toArray, List.getElem_cons_succ, List.getElem_cons_zero, List.setIfInBounds_toArray, List.set_cons_zero, List.set_cons_succ]
            refine but_one (i := 18) (by kernel_rfl) rfl ?_
            intro K HK'
            have HK := Lib.hid HK'
            clear HK'
            skip
            try simp only [List.getElem_toArray, List.getElem_cons_succ, List.getElem_cons_zero]
            go_simp
            refine HK.out _ _ ⟨fun _ => HS.out _ Gwe, ?_⟩
            clear HK K
            try simp only [Act.put, List.getElem_toArray, List.getElem_cons_succ, List.getElem_cons_zero, List.setIfInBounds_toArray, List.set_cons_zero, List.set_cons_succ]
            refine but_take (i := 19) (v := ?_) 26 rfl (by kernel_rfl) (by kernel_rfl) (by kernel_rfl) (by kernel_rfl) (by kernel_rfl) (fun _ _ _ h => h) (HS.out _ Gwe) (Or.inl ⟨by rfl, ?_⟩) ?_
            rotate_left
            · (intro w' hSw; (try dsimp only at hSw); obtain ⟨hs0, hs1, hs2, hs3, hs4, hs5, hs6, hs7, hs8, hs9, hs10, hs11, hs12, hs13, hs14, hs15, hs16⟩ := hSw; go_simp <;> with_reducible rfl)
            try simp only [Act.put, List.getElem_toArray, List.getElem_cons_succ, List.getElem_cons_zero, List.setIfInBounds_toArray, List.set_cons_zero, List.set_cons_succ]
            refine but_take (i := 21) (v := ?_) 26 rfl (by kernel_rfl) (by kernel_rfl) (by kernel_rfl) (by kernel_rfl) (by kernel_rfl) (fun _ _ _ h => h) (HS.out _ Gwe) (Or.inl ⟨by rfl, ?_⟩) ?_
            rotate_left
            · (intro w' hSw; (try dsimp only at hSw); obtain ⟨hs0, hs1, hs2, hs3, hs4, hs5, hs6, hs7, hs8, hs9, hs10, hs11, hs12, hs13, hs14, hs15, hs16⟩ := hSw; go_simp <;> with_reducible rfl)
            try simp only [Act.put, List.getElem_toArray, List.getElem_cons_succ, List.getElem_cons_zero, List.setIfInBounds_toArray, List.set_cons_zero, List.set_cons_succ]
            refine but_one (i := 20) (by kernel_rfl) rfl ?_
            intro K HK'
            have HK := Lib.hid HK'
            clear HK'
            skip
            try simp only [List.getElem_toArray, List.getElem_cons_succ, List.getElem_cons_zero]
            go_simp
            go_at_call 40
            refine (HOW.out _ Gwe).mono ?_
            rintro e wo ⟨vo, rfl, ho, hbwo⟩
            have Gwo := Grow.trans Gwe hbwo
            have swo := hbwo.size
            try simp only [alloc_size] at swo
            have HVO : Hid (Rcs wo.cell? vo l) := Lib.hid (ho.sl (by decide) (fr_sub _ _ _))
            clear ho
            refine HK.out _ _ ⟨fun _ => HS.out _ Gwo, ?_⟩
            clear HK K
            try simp only [Act.put, List.getElem_toArray, List.getElem_cons_succ, List.getElem_cons_zero, List.setIfInBounds_toArray, List.set_cons_zero, List.set_cons_succ]
            refine but_one (i := 22) (by kernel_rfl) rfl ?_
            intro K HK'
            have HK := Lib.hid HK'
            clear HK'
            skip
            try simp only [List.getElem_toArray, List.getElem_cons_succ, List.getElem_cons_zero]
            go_simp
            go_at_call 39
            refine (HSL.out _ _ Gwo HVO.out).mono ?_
            rintro e ws ⟨rfl, hbws⟩
            have Gws := Grow.trans Gwo hbws
            have sws := hbws.size
            try simp only [alloc_size] at sws
            refine HK.out _ _ ⟨fun _ => HS.out _ Gws, ?_⟩
            clear HK K
            try simp only [Act.put, List.getElem_toArray, List.getElem_cons_succ, List.getElem_cons_zero, List.setIfInBounds_toArray, List.set_cons_zero, List.set_cons_succ]
            refine but_one (i := 23) (by kernel_rfl) rfl ?_
            intro K HK'
            have HK := Lib.hid HK'
            clear HK'
            skip
            try simp only [List.getElem_toArray, List.getElem_cons_succ, List.getElem_cons_zero]
            go_simp
            refine HK.out _ _ ⟨fun _ => HS.out _ Gws, ?_⟩
            clear HK K
            try simp only [Act.put, List.getElem_toArray, List.getElem_cons_succ, List.getElem_cons_zero, List.setIfInBounds_toArray, List.set_cons_zero, List.set_cons_succ]
            refine but_one (i := 24) (by kernel_rfl) rfl ?_
            intro K HK'
            have HK := Lib.hid HK'
            clear HK'
            skip
            try simp only [List.getElem_toArray, List.getElem_cons_succ, List.getElem_cons_zero]
            go_simp
            refine HK.out _ _ ⟨fun h => absurd rfl h, ?_⟩
            clear HK K
            try simp only [Act.put, List.getElem_toArray, List.getElem_cons_succ, List.getElem_cons_zero, List.setIfInBounds_toArray, List.set_cons_zero, List.set_cons_succ]
            refine but_done (by kernel_rfl) ?_
            have HGE : Hid (Grow w ws) := Lib.hid (HG8.out.trans Gws)
            go_wp2_with fail
            refine (HWH.out _ HGE.out).mono ?_
            rintro e u1 ⟨v1, rfl, h1, hbu1⟩
            have HH1 := Lib.hid (h1.mono (ov_none hbu1))
            have HU1 := Lib.hid (HGE.out.trans hbu1)
            clear h1 hbu1
            go_wp2_with fail
            refine (HREH.out _ HU1.out).mono ?_
            rintro e u2 ⟨v2, rfl, h2, hbu2⟩
            have HU2 := Lib.hid (HU1.out.trans hbu2)
            have h22 := ref_sameHead u2 (HH1.out.mono hbu2.sub) (h2.mono (ov_sub HU1.out.sub hbu2))
            rw [decide_eq_true rfl] at h22
            have HH2 := Lib.hid h22
            clear h2 hbu2 h22
            go_wp2_with fail
            refine HH2.out.mono ?_
            rintro e u3 ⟨rfl, hbu3⟩
            have HU3 := Lib.hid (HU2.out.trans hbu3)
            clear hbu3
            go_wp2_with fail
            refine (HWD.out _ HU3.out).mono ?_
            rintro e u4 ⟨v4, rfl, h4, hbu4⟩
            have HU4 := Lib.hid (HU3.out.trans hbu4)
            have HD4 := Lib.hid (h4.sl (T := Ty.rd) (by decide) (fr_sub _ _ _))
            clear h4 hbu4
            go_wp2_with fail
            refine (HRD.out _ HU4.out).mono ?_
            rintro e u5 ⟨v5, rfl, h5, hbu5⟩
            have HU5 := Lib.hid (HU4.out.trans hbu5)
            have h55 := ref_sameReady u5 (HD4.out.mono hbu5.sub) (h5.sl (T := Ty.rd) (by decide) HU5.out.sub)
            rw [decide_eq_true rfl] at h55
            have HH5 := Lib.hid h55
            clear h5 hbu5 h55
            go_wp2_with fail
            refine HH5.out.mono ?_
            rintro e u6 ⟨rfl, hbu6⟩
            go_wp2
            go_ret
            exact ⟨rfl, HU5.out.trans hbu6⟩
          · skip
            intro K HK'
            have HK := Lib.hid HK'
            clear HK'
            skip
            try simp only [List.getElem_toArray, List.getElem_cons_succ, List.getElem_cons_zero]
            go_simp
            refine HK.out _ _ ⟨fun _ => HS.out _ ((Gwn.alloc _).alloc _), ?_⟩
            clear HK K
            try simp only [Act.put, List.getElem_toArray, List.getElem_cons_succ, List.getElem_cons_zero, List.setIfInBounds_toArray, List.set_cons_zero, List.set_cons_succ]
            refine but_one (i := 10) (by kernel_rfl) rfl ?_
            intro K HK'
            have HK := Lib.hid HK'
            clear HK'
            refine wanted_yes (by rfl) ?_
            try simp only [List.getElem_toArray, List.getElem_cons_succ, List.getElem_cons_zero]
            have q8 : ∀ k, (Value.slice (some ⟨wn.heap.size, 0, none⟩) 0 0).ownBlock = some k → k < wa.heap.size ∨ wn.heap.size ≤ k := fun k hk => by
              obtain rfl : _ = k := by simpa [Value.ownBlock] using hk
              right; have := (Grow.refl wn).size; (try simp only [alloc_size] at this); omega
            refine wp_appc (c := w.cell?) (base := w8.heap.size) (v := .slice (some ⟨wn.heap.size, 0, none⟩) 0 0) (l := []) (m := l) ei_rc rfl one_Trc (by decide) (.tmp 28) (.tmp 29) rfl rfl (((OwnC.made0 Ty.rc w.cell? _ w8.heap.size _ Gwn.size (g := wn.heap.size) (by (try simp only [])))).grow ((Grow.refl _).alloc _)) rfl (HSRC.out _ (HG8.out.trans ((Gwn.alloc _).alloc _))) (by have := HL.out; simp; omega) ((Gwn.alloc _).alloc _).size ?_
            intro a10 c10 w10 ho10 hg10 hb10
            try simp only [List.length_nil, Nat.zero_add, List.nil_append] at ho10 hb10 ⊢
            have G10 := grow_by (w0 := w8) ((Gwn.alloc _).alloc _) hg10 (own_at (by have := Gwn.size; (try simp only [alloc_size] at this); omega))
            have R10 : Hid (∀ k, (Value.slice a10 l.length c10).ownBlock = some k → k < wa.heap.size ∨ wn.heap.size ≤ k) := fun k hk => by
              rcases hb10 with e | ⟨g, e, hg⟩
              · exact q8 k (e ▸ hk)
              · rw [e] at hk; obtain rfl := Option.some.inj hk; exact .inr (Nat.le_trans (((Grow.refl wn).alloc _).alloc _).size hg)
            have HO10 := Lib.hid ho10
            have s10 := hg10.size
            have B10 : Hid (∀ k, (Value.slice a10 l.length c10).ownBlock = some k → w8.heap.size ≤ k) := Lib.hid (own_new (B := w8.heap.size) ((Gwn.alloc _).alloc _).size hb10 (own_at (by have := Gwn.size; (try simp only [alloc_size] at this); omega)))
            clear ho10 hb10
            refine HK.out _ _ ⟨fun _ => HS.out _ G10, ?_⟩
            clear HK K
            try simp only [Act.put, List.setIfInBounds_toArray, List.set_cons_zero, List.set_cons_succ]
            refine but_one (i := 13) (by kernel_rfl) rfl ?_
            intro K HK'
            have HK := Lib.hid HK'
            clear HK'
            refine wanted_yes (by rfl) ?_
            try simp only [List.getElem_toArray, List.getElem_cons_succ, List.getElem_cons_zero]
            have q12 : ∀ k, (Value.slice a10 l.length c10).ownBlock = some k → k < wa.heap.size ∨ wn.heap.size ≤ k := R10.out
            refine wp_appc (c := w.cell?) (base := w8.heap.size) (v := .slice a10 l.length c10) (l := l) (m := [r]) ei_rc rfl one_Trc (by decide) (.tmp 30) (.tmp 32) rfl rfl (HO10.out) rfl (((Src.of_new (T := Ty.rc) (c := w.cell?) (cs := #[.int .i64 r.kind, .int .i64 r.deed, .slice ap r.parts.length cp]) HR.out _ _ (g := wn.heap.size + 1) (by (try simp only [alloc_size])))).kept hg10 (by simp [Value.ownBlock] <;> omega)) (by have := HL.out; simp; omega) G10.size ?_
            intro a13 c13 w13 ho13 hg13 hb13
            try simp only [List.length_cons, List.length_nil, Nat.zero_add] at ho13 hb13 ⊢
            have G13 := grow_by (w0 := w8) G10 hg13 B10.out
            have HN13 : Hid (Of Ty.hs w13.cell? vn (houseR (l ++ [r]))) := Lib.hid ((((((HN.out.mono (win_grow ((Grow.refl _).alloc _) _ _)).mono (win_grow ((Grow.refl _).alloc _) _ _)).mono (win_by hg10 q8)).mono (win_by hg13 q12))).mono (win_sub _ _ _))
            have HV13 : Hid (Rcs w13.cell? (.slice a13 (l.length + 1) c13) (l ++ [r])) := Lib.hid (ho13.sl (by decide) (HG8.out.trans G13).sub)
            clear ho13 hg13 hb13 HN
            refine HK.out _ _ ⟨fun _ => HS.out _ G13, ?_⟩
            clear HK K
            try simp only [Act.put, List.setIfInBounds_toArray, List.set_cons_zero, List.set_cons_succ]
            refine but_one (i := 14) (by kernel_rfl) rfl ?_
            intro K HK'
            have HK := Lib.hid HK'
            clear HK'
            skip
            try simp only [List.getElem_toArray, List.getElem_cons_succ, List.getElem_cons_zero]
            go_simp
            go_at_call 29
            refine (HRH.out _ _ HV13.out).mono ?_
            rintro e wh ⟨vh, rfl, hh, hbwh⟩
            have Gwh := Grow.trans G13 hbwh
            have swh := hbwh.size
            try simp only [alloc_size] at swh
            have HH := Lib.hid hh
            clear hh
            refine HK.out _ _ ⟨fun _ => HS.out _ Gwh, ?_⟩
            clear HK K
            try simp only [Act.put, List.getElem_toArray, List.getElem_cons_succ, List.getElem_cons_zero, List.setIfInBounds_toArray, List.set_cons_zero, List.set_cons_succ]
            refine but_one (i := 15) (by kernel_rfl) rfl ?_
            intro K HK'
            have HK := Lib.hid HK'
            clear HK'
            skip
            try simp only [List.getElem_toArray, List.getElem_cons_succ, List.getElem_cons_zero]
            go_simp
            go_at_call 37
            refine (HSE.out _ _ _ (HN13.out.mono hbwh.sub) HH.out).mono ?_
            rintro e we ⟨rfl, hbwe⟩
            have Gwe := Grow.trans Gwh hbwe
            have swe := hbwe.size
            try simp only [alloc_size] at swe
            refine HK.out _ _ ⟨fun _ => HS.out _ Gwe, ?_⟩
            clear HK K
            try simp only [Act.put, List.getElem_toArray, List.getElem_cons_succ, List.getElem_cons_zero, List.setIfInBounds_toArray, List.set_cons_zero, List.set_cons_succ]
            refine but_one (i := 16) (by kernel_rfl) rfl ?_
            intro K HK'
            have HK := Lib.hid HK'
            clear HK'
            skip
            try simp only [List.getElem_toArray, List.getElem_cons_succ, List.getElem_cons_zero]
            go_simp
            refine HK.out _ _ ⟨fun _ => HS.out _ Gwe, ?_⟩
            clear HK K
            try simp only [Act.put, List.getElem_toArray, List.getElem_cons_succ, List.getElem_cons_zero, List.setIfInBounds_toArray, List.set_cons_zero, List.set_cons_succ]
            refine but_one (i := 17) (by kernel_rfl) rfl ?_
            intro K HK'
            have HK := Lib.hid HK'
            clear HK'
            skip
            try simp only [List.getElem_toArray, List.getElem_cons_succ, List.getElem_cons_zero]
            go_simp
            refine HK.out _ _ ⟨fun _ => HS.out _ Gwe, ?_⟩
            clear HK K
            try simp only [Act.put, List.getElem_toArray, List.getElem_cons_succ, List.getElem_cons_zero, List.setIfInBounds_toArray, List.set_cons_zero, List.set_cons_succ]
            refine but_one (i := 18) (by kernel_rfl) rfl ?_
            intro K HK'
            have HK := Lib.hid HK'
            clear HK'
            skip
            try simp only [List.getElem_toArray, List.getElem_cons_succ, List.getElem_cons_zero]
            go_simp
            refine HK.out _ _ ⟨fun _ => HS.out _ Gwe, ?_⟩
            clear HK K
            try simp only [Act.put, List.getElem_toArray, List.getElem_cons_succ, List.getElem_cons_zero, List.setIfInBounds_toArray, List.set_cons_zero, List.set_cons_succ]
            refine but_take (i := 19) (v := ?_) 26 rfl (by kernel_rfl) (by kernel_rfl) (by kernel_rfl) (by kernel_rfl) (by kernel_rfl) (fun _ _ _ h => h) (HS.out _ Gwe) (Or.inl ⟨by rfl, ?_⟩) ?_
            rotate_left
            · (intro w' hSw; (try dsimp only at hSw); obtain ⟨hs0, hs1, hs2, hs3, hs4, hs5, hs6, hs7, hs8, hs9, hs10, hs11, hs12, hs13, hs14, hs15, hs16⟩ := hSw; go_simp <;> with_reducible rfl)
            try simp only [Act.put, List.getElem_toArray, List.getElem_cons_succ, List.getElem_cons_zero, List.setIfInBounds_toArray, List.set_cons_zero, List.set_cons_succ]
            refine but_take (i := 21) (v := ?_) 26 rfl (by kernel_rfl) (by kernel_rfl) (by kernel_rfl) (by kernel_rfl) (by kernel_rfl) (fun _ _ _ h => h) (HS.out _ Gwe) (Or.inl ⟨by rfl, ?_⟩) ?_
            rotate_left
            · (intro w' hSw; (try dsimp only at hSw); obtain ⟨hs0, hs1, hs2, hs3, hs4, hs5, hs6, hs7, hs8, hs9, hs10, hs11, hs12, hs13, hs14, hs15, hs16⟩ := hSw; go_simp <;> with_reducible rfl)
            try simp only [Act.put, List.getElem_toArray, List.getElem_cons_succ, List.getElem_cons_zero, List.setIfInBounds_toArray, List.set_cons_zero, List.set_cons_succ]
            refine but_one (i := 20) (by kernel_rfl) rfl ?_
            intro K HK'
            have HK := Lib.hid HK'
            clear HK'
            skip
            try simp only [List.getElem_toArray, List.getElem_cons_succ, List.getElem_cons_zero]
            go_simp
            go_at_call 40
            refine (HOW.out _ Gwe).mono ?_
            rintro e wo ⟨vo, rfl, ho, hbwo⟩
            have Gwo := Grow.trans Gwe hbwo
            have swo := hbwo.size
            try simp only [alloc_size] at swo
            have HVO : Hid (Rcs wo.cell? vo l) := Lib.hid (ho.sl (by decide) (fr_sub _ _ _))
            clear ho
            refine HK.out _ _ ⟨fun _ => HS.out _ Gwo, ?_⟩
            clear HK K
            try simp only [Act.put, List.getElem_toArray, List.getElem_cons_succ, List.getElem_cons_zero, List.setIfInBounds_toArray, List.set_cons_zero, List.set_cons_succ]
            refine but_one (i := 22) (by kernel_rfl) rfl ?_
            intro K HK'
            have HK := Lib.hid HK'
            clear HK'
            skip
            try simp only [List.getElem_toArray, List.getElem_cons_succ, List.getElem_cons_zero]
            go_simp
            go_at_call 39
            refine (HSL.out _ _ Gwo HVO.out).mono ?_
            rintro e ws ⟨rfl, hbws⟩
            have Gws := Grow.trans Gwo hbws
            have sws := hbws.size
            try simp only [alloc_size] at sws
            refine HK.out _ _ ⟨fun _ => HS.out _ Gws, ?_⟩
            clear HK K
            try simp only [Act.put, List.getElem_toArray, List.getElem_cons_succ, List.getElem_cons_zero, List.setIfInBounds_toArray, List.set_cons_zero, List.set_cons_succ]
            refine but_one (i := 23) (by kernel_rfl) rfl ?_
            intro K HK'
            have HK := Lib.hid HK'
            clear HK'
            skip
            try simp only [List.getElem_toArray, List.getElem_cons_succ, List.getElem_cons_zero]
            go_simp
            refine HK.out _ _ ⟨fun _ => HS.out _ Gws, ?_⟩
            clear HK K
            try simp only [Act.put, List.getElem_toArray, List.getElem_cons_succ, List.getElem_cons_zero, List.setIfInBounds_toArray, List.set_cons_zero, List.set_cons_succ]
            refine but_one (i := 24) (by kernel_rfl) rfl ?_
            intro K HK'
            have HK := Lib.hid HK'
            clear HK'
            skip
            try simp only [List.getElem_toArray, List.getElem_cons_succ, List.getElem_cons_zero]
            go_simp
            refine HK.out _ _ ⟨fun h => absurd rfl h, ?_⟩
            clear HK K
            try simp only [Act.put, List.getElem_toArray, List.getElem_cons_succ, List.getElem_cons_zero, List.setIfInBounds_toArray, List.set_cons_zero, List.set_cons_succ]
            refine but_done (by kernel_rfl) ?_
            have HGE : Hid (Grow w ws) := Lib.hid (HG8.out.trans Gws)
            go_wp2_with fail
            refine (HWH.out _ HGE.out).mono ?_
            rintro e u1 ⟨v1, rfl, h1, hbu1⟩
            have HH1 := Lib.hid (h1.mono (ov_none hbu1))
            have HU1 := Lib.hid (HGE.out.trans hbu1)
            clear h1 hbu1
            go_wp2_with fail
            refine (HREH.out _ HU1.out).mono ?_
            rintro e u2 ⟨v2, rfl, h2, hbu2⟩
            have HU2 := Lib.hid (HU1.out.trans hbu2)
            have h22 := ref_sameHead u2 (HH1.out.mono hbu2.sub) (h2.mono (ov_sub HU1.out.sub hbu2))
            rw [decide_eq_true rfl] at h22
            have HH2 := Lib.hid h22
            clear h2 hbu2 h22
            go_wp2_with fail
            refine HH2.out.mono ?_
            rintro e u3 ⟨rfl, hbu3⟩
            have HU3 := Lib.hid (HU2.out.trans hbu3)
            clear hbu3
            go_wp2_with fail
            refine (HWD.out _ HU3.out).mono ?_
            rintro e u4 ⟨v4, rfl, h4, hbu4⟩
            have HU4 := Lib.hid (HU3.out.trans hbu4)
            have HD4 := Lib.hid (h4.sl (T := Ty.rd) (by decide) (fr_sub _ _ _))
            clear h4 hbu4
            go_wp2_with fail
            refine (HRD.out _ HU4.out).mono ?_
            rintro e u5 ⟨v5, rfl, h5, hbu5⟩
            have HU5 := Lib.hid (HU4.out.trans hbu5)
            have h55 := ref_sameReady u5 (HD4.out.mono hbu5.sub) (h5.sl (T := Ty.rd) (by decide) HU5.out.sub)
            rw [decide_eq_true rfl] at h55
            have HH5 := Lib.hid h55
            clear h5 hbu5 h55
            go_wp2_with fail
            refine HH5.out.mono ?_
            rintro e u6 ⟨rfl, hbu6⟩
            go_wp2
            go_ret
            exact ⟨rfl, HU5.out.trans hbu6⟩
        · skip
          intro K HK'
          have HK := Lib.hid HK'
          clear HK'
          skip
          try simp only [List.getElem_toArray, List.getElem_cons_succ, List.getElem_cons_zero]
          go_simp
          refine HK.out _ _ ⟨fun _ => HS.out _ (Gwn.alloc _), ?_⟩
          clear HK K
          try simp only [Act.put, List.getElem_toArray, List.getElem_cons_succ, List.getElem_cons_zero, List.setIfInBounds_toArray, List.set_cons_zero, List.set_cons_succ]
          refine but_one (i := 8) (by kernel_rfl) rfl ?_
          intro K HK'
          have HK := Lib.hid HK'
          clear HK'
          skip
          try simp only [List.getElem_toArray, List.getElem_cons_succ, List.getElem_cons_zero]
          go_simp
          refine HK.out _ _ ⟨fun _ => HS.out _ ((Gwn.alloc _).alloc _), ?_⟩
          clear HK K
          try simp only [Act.put, List.getElem_toArray, List.getElem_cons_succ, List.getElem_cons_zero, List.setIfInBounds_toArray, List.set_cons_zero, List.set_cons_succ]
          refine but_one (i := 10) (by kernel_rfl) rfl ?_
          intro K HK'
          have HK := Lib.hid HK'
          clear HK'
          refine wanted_yes (by rfl) ?_
          try simp only [List.getElem_toArray, List.getElem_cons_succ, List.getElem_cons_zero]
          have q8 : ∀ k, (Value.slice (some ⟨wn.heap.size + 1, 0, none⟩) 0 0).ownBlock = some k → k < wa.heap.size ∨ wn.heap.size ≤ k := fun k hk => by
            obtain rfl : _ = k := by simpa [Value.ownBlock] using hk
            right; have := (Grow.refl wn).size; (try simp only [alloc_size] at this); omega
          refine wp_appc (c := w.cell?) (base := w8.heap.size) (v := .slice (some ⟨wn.heap.size + 1, 0, none⟩) 0 0) (l := []) (m := l) ei_rc rfl one_Trc (by decide) (.tmp 28) (.tmp 29) rfl rfl ((OwnC.made0 Ty.rc w.cell? _ w8.heap.size _ (Gwn.alloc _).size (g := wn.heap.size + 1) (by (try simp only [alloc_size])))) rfl (HSRC.out _ (HG8.out.trans ((Gwn.alloc _).alloc _))) (by have := HL.out; simp; omega) ((Gwn.alloc _).alloc _).size ?_
          intro a10 c10 w10 ho10 hg10 hb10
          try simp only [List.length_nil, Nat.zero_add, List.nil_append] at ho10 hb10 ⊢
          have G10 := grow_by (w0 := w8) ((Gwn.alloc _).alloc _) hg10 (own_at (by have := Gwn.size; (try simp only [alloc_size] at this); omega))
          have R10 : Hid (∀ k, (Value.slice a10 l.length c10).ownBlock = some k → k < wa.heap.size ∨ wn.heap.size ≤ k) := fun k hk => by
            rcases hb10 with e | ⟨g, e, hg⟩
            · exact q8 k (e ▸ hk)
            · rw [e] at hk; obtain rfl := Option.some.inj hk; exact .inr (Nat.le_trans (((Grow.refl wn).alloc _).alloc _).size hg)
          have HO10 := Lib.hid ho10
          have s10 := hg10.size
          have B10 : Hid (∀ k, (Value.slice a10 l.length c10).ownBlock = some k → w8.heap.size ≤ k) := Lib.hid (own_new (B := w8.heap.size) ((Gwn.alloc _).alloc _).size hb10 (own_at (by have := Gwn.size; (try simp only [alloc_size] at this); omega)))
          clear ho10 hb10
          refine HK.out _ _ ⟨fun _ => HS.out _ G10, ?_⟩
          clear HK K
          try simp only [Act.put, List.setIfInBounds_toArray, List.set_cons_zero, List.set_cons_succ]
          refine but_one (i := 13) (by kernel_rfl) rfl ?_
          intro K HK'
          have HK := Lib.hid HK'
          clear HK'
          refine wanted_yes (by rfl) ?_
          try simp only [List.getElem_toArray, List.getElem_cons_succ, List.getElem_cons_zero]
          have q12 : ∀ k, (Value.slice a10 l.length c10).ownBlock = some k → k < wa.heap.size ∨ wn.heap.size ≤ k := R10.out
          refine wp_appc (c := w.cell?) (base := w8.heap.size) (v := .slice a10 l.length c10) (l := l) (m := [r]) ei_rc rfl one_Trc (by decide) (.tmp 30) (.tmp 32) rfl rfl (HO10.out) rfl ((((Src.of_new (T := Ty.rc) (c := w.cell?) (cs := #[.int .i64 r.kind, .int .i64 r.deed, .slice ap r.parts.length cp]) HR.out _ _ (g := wn.heap.size) (by (try simp only [])))).grow ((Grow.refl _).alloc _)).kept hg10 (by simp [Value.ownBlock] <;> omega)) (by have := HL.out; simp; omega) G10.size ?_
          intro a13 c13 w13 ho13 hg13 hb13
          try simp only [List.length_cons, List.length_nil, Nat.zero_add] at ho13 hb13 ⊢
          have G13 := grow_by (w0 := w8) G10 hg13 B10.out
          have HN13 : Hid (Of Ty.hs w13.cell? vn (houseR (l ++ [r]))) := Lib.hid ((((((HN.out.mono (win_grow ((Grow.refl _).alloc _) _ _)).mono (win_grow ((Grow.refl _).alloc _) _ _)).mono (win_by hg10 q8)).mono (win_by hg13 q12))).mono (win_sub _ _ _))
          have HV13 : Hid (Rcs w13.cell? (.slice a13 (l.length + 1) c13) (l ++ [r])) := Lib.hid (ho13.sl (by decide) (HG8.out.trans G13).sub)
          clear ho13 hg13 hb13 HN
          refine HK.out _ _ ⟨fun _ => HS.out _ G13, ?_⟩
          clear HK K
          try simp only [Act.put, List.setIfInBounds_toArray, List.set_cons_zero, List.set_cons_succ]
          refine but_one (i := 14) (by kernel_rfl) rfl ?_
          intro K HK'
          have HK := Lib.hid HK'
          clear HK'
          skip
          try simp only [List.getElem_toArray, List.getElem_cons_succ, List.getElem_cons_zero]
          go_simp
          go_at_call 29
          refine (HRH.out _ _ HV13.out).mono ?_
          rintro e wh ⟨vh, rfl, hh, hbwh⟩
          have Gwh := Grow.trans G13 hbwh
          have swh := hbwh.size
          try simp only [alloc_size] at swh
          have HH := Lib.hid hh
          clear hh
          refine HK.out _ _ ⟨fun _ => HS.out _ Gwh, ?_⟩
          clear HK K
          try simp only [Act.put, List.getElem_toArray, List.getElem_cons_succ, List.getElem_cons_zero, List.setIfInBounds_toArray, List.set_cons_zero, List.set_cons_succ]
          refine but_one (i := 15) (by kernel_rfl) rfl ?_
          intro K HK'
          have HK := Lib.hid HK'
          clear HK'
          skip
          try simp only [List.getElem_toArray, List.getElem_cons_succ, List.getElem_cons_zero]
          go_simp
          go_at_call 37
          refine (HSE.out _ _ _ (HN13.out.mono hbwh.sub) HH.out).mono ?_
          rintro e we ⟨rfl, hbwe⟩
          have Gwe := Grow.trans Gwh hbwe
          have swe := hbwe.size
          try simp only [alloc_size] at swe
          refine HK.out _ _ ⟨fun _ => HS.out _ Gwe, ?_⟩
          clear HK K
          try simp only [Act.put, List.getElem_toArray, List.getElem_cons_succ, List.getElem_cons_zero, List.setIfInBounds_toArray, List.set_cons_zero, List.set_cons_succ]
          refine but_one (i := 16) (by kernel_rfl) rfl ?_
          intro K HK'
          have HK := Lib.hid HK'
          clear HK'
          skip
          try simp only [List.getElem_toArray, List.getElem_cons_succ, List.getElem_cons_zero]
          go_simp
          refine HK.out _ _ ⟨fun _ => HS.out _ Gwe, ?_⟩
          clear HK K
          try simp only [Act.put, List.getElem_toArray, List.getElem_cons_succ, List.getElem_cons_zero, List.setIfInBounds_toArray, List.set_cons_zero, List.set_cons_succ]
          refine but_one (i := 17) (by kernel_rfl) rfl ?_
          intro K HK'
          have HK := Lib.hid HK'
          clear HK'
          skip
          try simp only [List.getElem_toArray, List.getElem_cons_succ, List.getElem_cons_zero]
          go_simp
          refine HK.out _ _ ⟨fun _ => HS.out _ Gwe, ?_⟩
          clear HK K
          try simp only [Act.put, List.getElem_toArray, List.getElem_cons_succ, List.getElem_cons_zero, List.setIfInBounds_toArray, List.set_cons_zero, List.set_cons_succ]
          refine but_one (i := 18) (by kernel_rfl) rfl ?_
          intro K HK'
          have HK := Lib.hid HK'
          clear HK'
          skip
          try simp only [List.getElem_toArray, List.getElem_cons_succ, List.getElem_cons_zero]
          go_simp
          refine HK.out _ _ ⟨fun _ => HS.out _ Gwe, ?_⟩
          clear HK K
          try simp only [Act.put, List.getElem_toArray, List.getElem_cons_succ, List.getElem_cons_zero, List.setIfInBounds_toArray, List.set_cons_zero, List.set_cons_succ]
          refine but_take (i := 19) (v := ?_) 26 rfl (by kernel_rfl) (by kernel_rfl) (by kernel_rfl) (by kernel_rfl) (by kernel_rfl) (fun _ _ _ h => h) (HS.out _ Gwe) (Or.inl ⟨by rfl, ?_⟩) ?_
          rotate_left
          · (intro w' hSw; (try dsimp only at hSw); obtain ⟨hs0, hs1, hs2, hs3, hs4, hs5, hs6, hs7, hs8, hs9, hs10, hs11, hs12, hs13, hs14, hs15, hs16⟩ := hSw; go_simp <;> with_reducible rfl)
          try simp only [Act.put, List.getElem_toArray, List.getElem_cons_succ, List.getElem_cons_zero, List.setIfInBounds_toArray, List.set_cons_zero, List.set_cons_succ]
          refine but_take (i := 21) (v := ?_) 26 rfl (by kernel_rfl) (by kernel_rfl) (by kernel_rfl) (by kernel_rfl) (by kernel_rfl) (fun _ _ _ h => h) (HS.out _ Gwe) (Or.inl ⟨by rfl, ?_⟩) ?_
          rotate_left
          · (intro w' hSw; (try dsimp only at hSw); obtain ⟨hs0, hs1, hs2, hs3, hs4, hs5, hs6, hs7, hs8, hs9, hs10, hs11, hs12, hs13, hs14, hs15, hs16⟩ := hSw; go_simp <;> with_reducible rfl)
          try simp only [Act.put, List.getElem_toArray, List.getElem_cons_succ, List.getElem_cons_zero, List.setIfInBounds_toArray, List.set_cons_zero, List.set_cons_succ]
          refine but_one (i := 20) (by kernel_rfl) rfl ?_
          intro K HK'
          have HK := Lib.hid HK'
          clear HK'
          skip
          try simp only [List.getElem_toArray, List.getElem_cons_succ, List.getElem_cons_zero]
          go_simp
          go_at_call 40
          refine (HOW.out _ Gwe).mono ?_
          rintro e wo ⟨vo, rfl, ho, hbwo⟩
          have Gwo := Grow.trans Gwe hbwo
          have swo := hbwo.size
          try simp only [alloc_size] at swo
          have HVO : Hid (Rcs wo.cell? vo l) := Lib.hid (ho.sl (by decide) (fr_sub _ _ _))
          clear ho
          refine HK.out _ _ ⟨fun _ => HS.out _ Gwo, ?_⟩
          clear HK K
          try simp only [Act.put, List.getElem_toArray, List.getElem_cons_succ, List.getElem_cons_zero, List.setIfInBounds_toArray, List.set_cons_zero, List.set_cons_succ]
          refine but_one (i := 22) (by kernel_rfl) rfl ?_
          intro K HK'
          have HK := Lib.hid HK'
          clear HK'
          skip
          try simp only [List.getElem_toArray, List.getElem_cons_succ, List.getElem_cons_zero]
          go_simp
          go_at_call 39
          refine (HSL.out _ _ Gwo HVO.out).mono ?_
          rintro e ws ⟨rfl, hbws⟩
          have Gws := Grow.trans Gwo hbws
          have sws := hbws.size
          try simp only [alloc_size] at sws
          refine HK.out _ _ ⟨fun _ => HS.out _ Gws, ?_⟩
          clear HK K
          try simp only [Act.put, List.getElem_toArray, List.getElem_cons_succ, List.getElem_cons_zero, List.setIfInBounds_toArray, List.set_cons_zero, List.set_cons_succ]
          refine but_one (i := 23) (by kernel_rfl) rfl ?_
          intro K HK'
          have HK := Lib.hid HK'
          clear HK'
          skip
          try simp only [List.getElem_toArray, List.getElem_cons_succ, List.getElem_cons_zero]
          go_simp
          refine HK.out _ _ ⟨fun _ => HS.out _ Gws, ?_⟩
          clear HK K
          try simp only [Act.put, List.getElem_toArray, List.getElem_cons_succ, List.getElem_cons_zero, List.setIfInBounds_toArray, List.set_cons_zero, List.set_cons_succ]
          refine but_one (i := 24) (by kernel_rfl) rfl ?_
          intro K HK'
          have HK := Lib.hid HK'
          clear HK'
          skip
          try simp only [List.getElem_toArray, List.getElem_cons_succ, List.getElem_cons_zero]
          go_simp
          refine HK.out _ _ ⟨fun h => absurd rfl h, ?_⟩
          clear HK K
          try simp only [Act.put, List.getElem_toArray, List.getElem_cons_succ, List.getElem_cons_zero, List.setIfInBounds_toArray, List.set_cons_zero, List.set_cons_succ]
          refine but_done (by kernel_rfl) ?_
          have HGE : Hid (Grow w ws) := Lib.hid (HG8.out.trans Gws)
          go_wp2_with fail
          refine (HWH.out _ HGE.out).mono ?_
          rintro e u1 ⟨v1, rfl, h1, hbu1⟩
          have HH1 := Lib.hid (h1.mono (ov_none hbu1))
          have HU1 := Lib.hid (HGE.out.trans hbu1)
          clear h1 hbu1
          go_wp2_with fail
          refine (HREH.out _ HU1.out).mono ?_
          rintro e u2 ⟨v2, rfl, h2, hbu2⟩
          have HU2 := Lib.hid (HU1.out.trans hbu2)
          have h22 := ref_sameHead u2 (HH1.out.mono hbu2.sub) (h2.mono (ov_sub HU1.out.sub hbu2))
          rw [decide_eq_true rfl] at h22
          have HH2 := Lib.hid h22
          clear h2 hbu2 h22
          go_wp2_with fail
          refine HH2.out.mono ?_
          rintro e u3 ⟨rfl, hbu3⟩
          have HU3 := Lib.hid (HU2.out.trans hbu3)
          clear hbu3
          go_wp2_with fail
          refine (HWD.out _ HU3.out).mono ?_
          rintro e u4 ⟨v4, rfl, h4, hbu4⟩
          have HU4 := Lib.hid (HU3.out.trans hbu4)
          have HD4 := Lib.hid (h4.sl (T := Ty.rd) (by decide) (fr_sub _ _ _))
          clear h4 hbu4
          go_wp2_with fail
          refine (HRD.out _ HU4.out).mono ?_
          rintro e u5 ⟨v5, rfl, h5, hbu5⟩
          have HU5 := Lib.hid (HU4.out.trans hbu5)
          have h55 := ref_sameReady u5 (HD4.out.mono hbu5.sub) (h5.sl (T := Ty.rd) (by decide) HU5.out.sub)
          rw [decide_eq_true rfl] at h55
          have HH5 := Lib.hid h55
          clear h5 hbu5 h55
          go_wp2_with fail
          refine HH5.out.mono ?_
          rintro e u6 ⟨rfl, hbu6⟩
          go_wp2
          go_ret
          exact ⟨rfl, HU5.out.trans hbu6⟩
      · skip
        intro K HK'
        have HK := Lib.hid HK'
        clear HK'
        skip
        try simp only [List.getElem_toArray, List.getElem_cons_succ, List.getElem_cons_zero]
        go_simp
        refine HK.out _ _ ⟨fun _ => HS.out _ (Gwa.alloc _), ?_⟩
        clear HK K
        try simp only [Act.put, List.getElem_toArray, List.getElem_cons_succ, List.getElem_cons_zero, List.setIfInBounds_toArray, List.set_cons_zero, List.set_cons_succ]
        refine but_two (i := 7) (j := 12) (by kernel_rfl) rfl rfl ?_ ?_
        · skip
          intro K HK'
          have HK := Lib.hid HK'
          clear HK'
          skip
          try simp only [List.getElem_toArray, List.getElem_cons_succ, List.getElem_cons_zero]
          go_simp
          go_at_call 38
          refine (HNT.out _ (Gwa.alloc _)).mono ?_
          rintro e wn ⟨vn, rfl, hn, hbwn⟩
          have Gwn := Grow.trans (Gwa.alloc _) hbwn
          have swn := hbwn.size
          try simp only [alloc_size] at swn
          have eLO : wa.heap.size + 1 = (wa.alloc (.cells #[] 48)).heap.size := by (try simp only [alloc_size])
          have HN : Hid (Of Ty.hs (win (wa.heap.size + 1) wn.heap.size wn) vn (houseR (l ++ [r]))) := Lib.hid (by rw [← note_house, HXE.out, eLO]; exact hn.mono (win_ov _ _))
          clear hn eLO
          refine HK.out _ _ ⟨fun _ => HS.out _ Gwn, ?_⟩
          clear HK K
          try simp only [Act.put, List.getElem_toArray, List.getElem_cons_succ, List.getElem_cons_zero, List.setIfInBounds_toArray, List.set_cons_zero, List.set_cons_succ]
          refine but_two (i := 10) (j := 12) (by kernel_rfl) rfl rfl ?_ ?_
          · skip
            intro K HK'
            have HK := Lib.hid HK'
            clear HK'
            refine wanted_yes (by rfl) ?_
            try simp only [List.getElem_toArray, List.getElem_cons_succ, List.getElem_cons_zero]
            have q8 : ∀ k, (Value.slice (some ⟨wa.heap.size, 0, none⟩) 0 0).ownBlock = some k → k < wa.heap.size + 1 ∨ wn.heap.size ≤ k := fun k hk => by
              obtain rfl : _ = k := by simpa [Value.ownBlock] using hk
              left; omega
            refine wp_appc (c := w.cell?) (base := w8.heap.size) (v := .slice (some ⟨wa.heap.size, 0, none⟩) 0 0) (l := []) (m := l) ei_rc rfl one_Trc (by decide) (.tmp 28) (.tmp 29) rfl rfl (((OwnC.made0 Ty.rc w.cell? _ w8.heap.size _ Gwa.size (g := wa.heap.size) (by (try simp only [])))).grow hbwn) rfl (HSRC.out _ (HG8.out.trans Gwn)) (by have := HL.out; simp; omega) Gwn.size ?_
            intro a10 c10 w10 ho10 hg10 hb10
            try simp only [List.length_nil, Nat.zero_add, List.nil_append] at ho10 hb10 ⊢
            have G10 := grow_by (w0 := w8) Gwn hg10 (own_at (by have := Gwa.size; (try simp only [alloc_size] at this); omega))
            have R10 : Hid (∀ k, (Value.slice a10 l.length c10).ownBlock = some k → k < wa.heap.size + 1 ∨ wn.heap.size ≤ k) := fun k hk => by
              rcases hb10 with e | ⟨g, e, hg⟩
              · exact q8 k (e ▸ hk)
              · rw [e] at hk; obtain rfl := Option.some.inj hk; exact .inr (Nat.le_trans (Grow.refl wn).size hg)
            have HO10 := Lib.hid ho10
            have s10 := hg10.size
            have B10 : Hid (∀ k, (Value.slice a10 l.length c10).ownBlock = some k → w8.heap.size ≤ k) := Lib.hid (own_new (B := w8.heap.size) Gwn.size hb10 (own_at (by have := Gwa.size; (try simp only [alloc_size] at this); omega)))
            clear ho10 hb10
            refine HK.out _ _ ⟨fun _ => HS.out _ G10, ?_⟩
            clear HK K
            try simp only [Act.put, List.setIfInBounds_toArray, List.set_cons_zero, List.set_cons_succ]
            refine but_one (i := 12) (by kernel_rfl) rfl ?_
            intro K HK'
            have HK := Lib.hid HK'
            clear HK'
            skip
            try simp only [List.getElem_toArray, List.getElem_cons_succ, List.getElem_cons_zero]
            go_simp
            refine HK.out _ _ ⟨fun _ => HS.out _ (G10.alloc _), ?_⟩
            clear HK K
            try simp only [Act.put, List.getElem_toArray, List.getElem_cons_succ, List.getElem_cons_zero, List.setIfInBounds_toArray, List.set_cons_zero, List.set_cons_succ]
            refine but_one (i := 13) (by kernel_rfl) rfl ?_
            intro K HK'
            have HK := Lib.hid HK'
            clear HK'
            refine wanted_yes (by rfl) ?_
            try simp only [List.getElem_toArray, List.getElem_cons_succ, List.getElem_cons_zero]
            have q12 : ∀ k, (Value.slice a10 l.length c10).ownBlock = some k → k < wa.heap.size + 1 ∨ wn.heap.size ≤ k := R10.out
            refine wp_appc (c := w.cell?) (base := w8.heap.size) (v := .slice a10 l.length c10) (l := l) (m := [r]) ei_rc rfl one_Trc (by decide) (.tmp 30) (.tmp 32) rfl rfl ((HO10.out).grow ((Grow.refl _).alloc _)) rfl ((Src.of_new (T := Ty.rc) (c := w.cell?) (cs := #[.int .i64 r.kind, .int .i64 r.deed, .slice ap r.parts.length cp]) HR.out _ _ (g := w10.heap.size) (by (try simp only [])))) (by have := HL.out; simp; omega) (G10.alloc _).size ?_
            intro a13 c13 w13 ho13 hg13 hb13
            try simp only [List.length_cons, List.length_nil, Nat.zero_add] at ho13 hb13 ⊢
            have G13 := grow_by (w0 := w8) (G10.alloc _) hg13 B10.out
            have HN13 : Hid (Of Ty.hs w13.cell? vn (houseR (l ++ [r]))) := Lib.hid (((((HN.out.mono (win_by hg10 q8)).mono (win_grow ((Grow.refl _).alloc _) _ _)).mono (win_by hg13 q12))).mono (win_sub _ _ _))
            have HV13 : Hid (Rcs w13.cell? (.slice a13 (l.length + 1) c13) (l ++ [r])) := Lib.hid (ho13.sl (by decide) (HG8.out.trans G13).sub)
            clear ho13 hg13 hb13 HN
            refine HK.out _ _ ⟨fun _ => HS.out _ G13, ?_⟩
            clear HK K
            try simp only [Act.put, List.setIfInBounds_toArray, List.set_cons_zero, List.set_cons_succ]
            refine but_one (i := 14) (by kernel_rfl) rfl ?_
            intro K HK'
            have HK := Lib.hid HK'
            clear HK'
            skip
            try simp only [List.getElem_toArray, List.getElem_cons_succ, List.getElem_cons_zero]
            go_simp
            go_at_call 29
            refine (HRH.out _ _ HV13.out).mono ?_
            rintro e wh ⟨vh, rfl, hh, hbwh⟩
            have Gwh := Grow.trans G13 hbwh
            have swh := hbwh.size
            try simp only [alloc_size] at swh
            have HH := Lib.hid hh
            clear hh
            refine HK.out _ _ ⟨fun _ => HS.out _ Gwh, ?_⟩
            clear HK K
            try simp only [Act.put, List.getElem_toArray, List.getElem_cons_succ, List.getElem_cons_zero, List.setIfInBounds_toArray, List.set_cons_zero, List.set_cons_succ]
            refine but_one (i := 15) (by kernel_rfl) rfl ?_
            intro K HK'
            have HK := Lib.hid HK'
            clear HK'
            skip
            try simp only [List.getElem_toArray, List.getElem_cons_succ, List.getElem_cons_zero]
            go_simp
            go_at_call 37
            refine (HSE.out _ _ _ (HN13.out.mono hbwh.sub) HH.out).mono ?_
            rintro e we ⟨rfl, hbwe⟩
            have Gwe := Grow.trans Gwh hbwe
            have swe := hbwe.size
            try simp only [alloc_size] at swe
            refine HK.out _ _ ⟨fun _ => HS.out _ Gwe, ?_⟩
            clear HK K
            try simp only [Act.put, List.getElem_toArray, List.getElem_cons_succ, List.getElem_cons_zero, List.setIfInBounds_toArray, List.set_cons_zero, List.set_cons_succ]
            refine but_one (i := 16) (by kernel_rfl) rfl ?_
            intro K HK'
            have HK := Lib.hid HK'
            clear HK'
            skip
            try simp only [List.getElem_toArray, List.getElem_cons_succ, List.getElem_cons_zero]
            go_simp
            refine HK.out _ _ ⟨fun _ => HS.out _ Gwe, ?_⟩
            clear HK K
            try simp only [Act.put, List.getElem_toArray, List.getElem_cons_succ, List.getElem_cons_zero, List.setIfInBounds_toArray, List.set_cons_zero, List.set_cons_succ]
            refine but_one (i := 17) (by kernel_rfl) rfl ?_
            intro K HK'
            have HK := Lib.hid HK'
            clear HK'
            skip
            try simp only [List.getElem_toArray, List.getElem_cons_succ, List.getElem_cons_zero]
            go_simp
            refine HK.out _ _ ⟨fun _ => HS.out _ Gwe, ?_⟩
            clear HK K
            try simp only [Act.put, List.getElem_toArray, List.getElem_cons_succ, List.getElem_cons_zero, List.setIfInBounds_toArray, List.set_cons_zero, List.set_cons_succ]
            refine but_one (i := 18) (by kernel_rfl) rfl ?_
            intro K HK'
            have HK := Lib.hid HK'
            clear HK'
            skip
            try simp only [List.getElem_toArray, List.getElem_cons_succ, List.getElem_cons_zero]
            go_simp
            refine HK.out _ _ ⟨fun _ => HS.out _ Gwe, ?_⟩
            clear HK K
            try simp only [Act.put, List.getElem_toArray, List.getElem_cons_succ, List.getElem_cons_zero, List.setIfInBounds_toArray, List.set_cons_zero, List.set_cons_succ]
            refine but_take (i := 19) (v := ?_) 26 rfl (by kernel_rfl) (by kernel_rfl) (by kernel_rfl) (by kernel_rfl) (by kernel_rfl) (fun _ _ _ h => h) (HS.out _ Gwe) (Or.inl ⟨by rfl, ?_⟩) ?_
            rotate_left
            · (intro w' hSw; (try dsimp only at hSw); obtain ⟨hs0, hs1, hs2, hs3, hs4, hs5, hs6, hs7, hs8, hs9, hs10, hs11, hs12, hs13, hs14, hs15, hs16⟩ := hSw; go_simp <;> with_reducible rfl)
            try simp only [Act.put, List.getElem_toArray, List.getElem_cons_succ, List.getElem_cons_zero, List.setIfInBounds_toArray, List.set_cons_zero, List.set_cons_succ]
            refine but_take (i := 21) (v := ?_) 26 rfl (by kernel_rfl) (by kernel_rfl) (by kernel_rfl) (by kernel_rfl) (by kernel_rfl) (fun _ _ _ h => h) (HS.out _ Gwe) (Or.inl ⟨by rfl, ?_⟩) ?_
            rotate_left
            · (intro w' hSw; (try dsimp only at hSw); obtain ⟨hs0, hs1, hs2, hs3, hs4, hs5, hs6, hs7, hs8, hs9, hs10, hs11, hs12, hs13, hs14, hs15, hs16⟩ := hSw; go_simp <;> with_reducible rfl)
            try simp only [Act.put, List.getElem_toArray, List.getElem_cons_succ, List.getElem_cons_zero, List.setIfInBounds_toArray, List.set_cons_zero, List.set_cons_succ]
            refine but_one (i := 20) (by kernel_rfl) rfl ?_
            intro K HK'
            have HK := Lib.hid HK'
            clear HK'
            skip
            try simp only [List.getElem_toArray, List.getElem_cons_succ, List.getElem_cons_zero]
            go_simp
            go_at_call 40
            refine (HOW.out _ Gwe).mono ?_
            rintro e wo ⟨vo, rfl, ho, hbwo⟩
            have Gwo := Grow.trans Gwe hbwo
            have swo := hbwo.size
            try simp only [alloc_size] at swo
            have HVO : Hid (Rcs wo.cell? vo l) := Lib.hid (ho.sl (by decide) (fr_sub _ _ _))
            clear ho
            refine HK.out _ _ ⟨fun _ => HS.out _ Gwo, ?_⟩
            clear HK K
            try simp only [Act.put, List.getElem_toArray, List.getElem_cons_succ, List.getElem_cons_zero, List.setIfInBounds_toArray, List.set_cons_zero, List.set_cons_succ]
            refine but_one (i := 22) (by kernel_rfl) rfl ?_
            intro K HK'
            have HK := Lib.hid HK'
            clear HK'
            skip
            try simp only [List.getElem_toArray, List.getElem_cons_succ, List.getElem_cons_zero]
            go_simp
            go_at_call 39
            refine (HSL.out _ _ Gwo HVO.out).mono ?_
            rintro e ws ⟨rfl, hbws⟩
            have Gws := Grow.trans Gwo hbws
            have sws := hbws.size
            try simp only [alloc_size] at sws
            refine HK.out _ _ ⟨fun _ => HS.out _ Gws, ?_⟩
            clear HK K
            try simp only [Act.put, List.getElem_toArray, List.getElem_cons_succ, List.getElem_cons_zero, List.setIfInBounds_toArray, List.set_cons_zero, List.set_cons_succ]
            refine but_one (i := 23) (by kernel_rfl) rfl ?_
            intro K HK'
            have HK := Lib.hid HK'
            clear HK'
            skip
            try simp only [List.getElem_toArray, List.getElem_cons_succ, List.getElem_cons_zero]
            go_simp
            refine HK.out _ _ ⟨fun _ => HS.out _ Gws, ?_⟩
            clear HK K
            try simp only [Act.put, List.getElem_toArray, List.getElem_cons_succ, List.getElem_cons_zero, List.setIfInBounds_toArray, List.set_cons_zero, List.set_cons_succ]
            refine but_one (i := 24) (by kernel_rfl) rfl ?_
            intro K HK'
            have HK := Lib.hid HK'
            clear HK'
            skip
            try simp only [List.getElem_toArray, List.getElem_cons_succ, List.getElem_cons_zero]
            go_simp
            refine HK.out _ _ ⟨fun h => absurd rfl h, ?_⟩
            clear HK K
            try simp only [Act.put, List.getElem_toArray, List.getElem_cons_succ, List.getElem_cons_zero, List.setIfInBounds_toArray, List.set_cons_zero, List.set_cons_succ]
            refine but_done (by kernel_rfl) ?_
            have HGE : Hid (Grow w ws) := Lib.hid (HG8.out.trans Gws)
            go_wp2_with fail
            refine (HWH.out _ HGE.out).mono ?_
            rintro e u1 ⟨v1, rfl, h1, hbu1⟩
            have HH1 := Lib.hid (h1.mono (ov_none hbu1))
            have HU1 := Lib.hid (HGE.out.trans hbu1)
            clear h1 hbu1
            go_wp2_with fail
            refine (HREH.out _ HU1.out).mono ?_
            rintro e u2 ⟨v2, rfl, h2, hbu2⟩
            have HU2 := Lib.hid (HU1.out.trans hbu2)
            have h22 := ref_sameHead u2 (HH1.out.mono hbu2.sub) (h2.mono (ov_sub HU1.out.sub hbu2))
            rw [decide_eq_true rfl] at h22
            have HH2 := Lib.hid h22
            clear h2 hbu2 h22
            go_wp2_with fail
            refine HH2.out.mono ?_
            rintro e u3 ⟨rfl, hbu3⟩
            have HU3 := Lib.hid (HU2.out.trans hbu3)
            clear hbu3
            go_wp2_with fail
            refine (HWD.out _ HU3.out).mono ?_
            rintro e u4 ⟨v4, rfl, h4, hbu4⟩
            have HU4 := Lib.hid (HU3.out.trans hbu4)
            have HD4 := Lib.hid (h4.sl (T := Ty.rd) (by decide) (fr_sub _ _ _))
            clear h4 hbu4
            go_wp2_with fail
            refine (HRD.out _ HU4.out).mono ?_
            rintro e u5 ⟨v5, rfl, h5, hbu5⟩
            have HU5 := Lib.hid (HU4.out.trans hbu5)
            have h55 := ref_sameReady u5 (HD4.out.mono hbu5.sub) (h5.sl (T := Ty.rd) (by decide) HU5.out.sub)
            rw [decide_eq_true rfl] at h55
            have HH5 := Lib.hid h55
            clear h5 hbu5 h55
            go_wp2_with fail
            refine HH5.out.mono ?_
            rintro e u6 ⟨rfl, hbu6⟩
            go_wp2
            go_ret
            exact ⟨rfl, HU5.out.trans hbu6⟩
          · skip
            intro K HK'
            have HK := Lib.hid HK'
            clear HK'
            skip
            try simp only [List.getElem_toArray, List.getElem_cons_succ, List.getElem_cons_zero]
            go_simp
            refine HK.out _ _ ⟨fun _ => HS.out _ (Gwn.alloc _), ?_⟩
            clear HK K
            try simp only [Act.put, List.getElem_toArray, List.getElem_cons_succ, List.getElem_cons_zero, List.setIfInBounds_toArray, List.set_cons_zero, List.set_cons_succ]
            refine but_one (i := 10) (by kernel_rfl) rfl ?_
            intro K HK'
            have HK := Lib.hid HK'
            clear HK'
            refine wanted_yes (by rfl) ?_
            try simp only [List.getElem_toArray, List.getElem_cons_succ, List.getElem_cons_zero]
            have q8 : ∀ k, (Value.slice (some ⟨wa.heap.size, 0, none⟩) 0 0).ownBlock = some k → k < wa.heap.size + 1 ∨ wn.heap.size ≤ k := fun k hk => by
              obtain rfl : _ = k := by simpa [Value.ownBlock] using hk
              left; omega
            refine wp_appc (c := w.cell?) (base := w8.heap.size) (v := .slice (some ⟨wa.heap.size, 0, none⟩) 0 0) (l := []) (m := l) ei_rc rfl one_Trc (by decide) (.tmp 28) (.tmp 29) rfl rfl ((((OwnC.made0 Ty.rc w.cell? _ w8.heap.size _ Gwa.size (g := wa.heap.size) (by (try simp only [])))).grow hbwn).grow ((Grow.refl _).alloc _)) rfl (HSRC.out _ (HG8.out.trans (Gwn.alloc _))) (by have := HL.out; simp; omega) (Gwn.alloc _).size ?_
            intro a10 c10 w10 ho10 hg10 hb10
            try simp only [List.length_nil, Nat.zero_add, List.nil_append] at ho10 hb10 ⊢
            have G10 := grow_by (w0 := w8) (Gwn.alloc _) hg10 (own_at (by have := Gwa.size; (try simp only [alloc_size] at this); omega))
            have R10 : Hid (∀ k, (Value.slice a10 l.length c10).ownBlock = some k → k < wa.heap.size + 1 ∨ wn.heap.size ≤ k) := fun k hk => by
              rcases hb10 with e | ⟨g, e, hg⟩
              · exact q8 k (e ▸ hk)
              · rw [e] at hk; obtain rfl := Option.some.inj hk; exact .inr (Nat.le_trans ((Grow.refl wn).alloc _).size hg)
            have HO10 := Lib.hid ho10
            have s10 := hg10.size
            have B10 : Hid (∀ k, (Value.slice a10 l.length c10).ownBlock = some k → w8.heap.size ≤ k) := Lib.hid (own_new (B := w8.heap.size) (Gwn.alloc _).size hb10 (own_at (by have := Gwa.size; (try simp only [alloc_size] at this); omega)))
            clear ho10 hb10
            refine HK.out _ _ ⟨fun _ => HS.out _ G10, ?_⟩
            clear HK K
            try simp only [Act.put, List.setIfInBounds_toArray, List.set_cons_zero, List.set_cons_succ]
            refine but_one (i := 13) (by kernel_rfl) rfl ?_
            intro K HK'
            have HK := Lib.hid HK'
            clear HK'
            refine wanted_yes (by rfl) ?_
            try simp only [List.getElem_toArray, List.getElem_cons_succ, List.getElem_cons_zero]
            have q12 : ∀ k, (Value.slice a10 l.length c10).ownBlock = some k → k < wa.heap.size + 1 ∨ wn.heap.size ≤ k := R10.out
            refine wp_appc (c := w.cell?) (base := w8.heap.size) (v := .slice a10 l.length c10) (l := l) (m := [r]) ei_rc rfl one_Trc (by decide) (.tmp 30) (.tmp 32) rfl rfl (HO10.out) rfl (((Src.of_new (T := Ty.rc) (c := w.cell?) (cs := #[.int .i64 r.kind, .int .i64 r.deed, .slice ap r.parts.length cp]) HR.out _ _ (g := wn.heap.size) (by (try simp only [])))).kept hg10 (by simp [Value.ownBlock] <;> omega)) (by have := HL.out; simp; omega) G10.size ?_
            intro a13 c13 w13 ho13 hg13 hb13
            try simp only [List.length_cons, List.length_nil, Nat.zero_add] at ho13 hb13 ⊢
            have G13 := grow_by (w0 := w8) G10 hg13 B10.out
            have HN13 : Hid (Of Ty.hs w13.cell? vn (houseR (l ++ [r]))) := Lib.hid (((((HN.out.mono (win_grow ((Grow.refl _).alloc _) _ _)).mono (win_by hg10 q8)).mono (win_by hg13 q12))).mono (win_sub _ _ _))
            have HV13 : Hid (Rcs w13.cell? (.slice a13 (l.length + 1) c13) (l ++ [r])) := Lib.hid (ho13.sl (by decide) (HG8.out.trans G13).sub)
            clear ho13 hg13 hb13 HN
            refine HK.out _ _ ⟨fun _ => HS.out _ G13, ?_⟩
            clear HK K
            try simp only [Act.put, List.setIfInBounds_toArray, List.set_cons_zero, List.set_cons_succ]
            refine but_one (i := 14) (by kernel_rfl) rfl ?_
            intro K HK'
            have HK := Lib.hid HK'
            clear HK'
            skip
            try simp only [List.getElem_toArray, List.getElem_cons_succ, List.getElem_cons_zero]
            go_simp
            go_at_call 29
            refine (HRH.out _ _ HV13.out).mono ?_
            rintro e wh ⟨vh, rfl, hh, hbwh⟩
            have Gwh := Grow.trans G13 hbwh
            have swh := hbwh.size
            try simp only [alloc_size] at swh
            have HH := Lib.hid hh
            clear hh
            refine HK.out _ _ ⟨fun _ => HS.out _ Gwh, ?_⟩
            clear HK K
            try simp only [Act.put, List.getElem_toArray, List.getElem_cons_succ, List.getElem_cons_zero, List.setIfInBounds_toArray, List.set_cons_zero, List.set_cons_succ]
            refine but_one (i := 15) (by kernel_rfl) rfl ?_
            intro K HK'
            have HK := Lib.hid HK'
            clear HK'
            skip
            try simp only [List.getElem_toArray, List.getElem_cons_succ, List.getElem_cons_zero]
            go_simp
            go_at_call 37
            refine (HSE.out _ _ _ (HN13.out.mono hbwh.sub) HH.out).mono ?_
            rintro e we ⟨rfl, hbwe⟩
            have Gwe := Grow.trans Gwh hbwe
            have swe := hbwe.size
            try simp only [alloc_size] at swe
            refine HK.out _ _ ⟨fun _ => HS.out _ Gwe, ?_⟩
            clear HK K
            try simp only [Act.put, List.getElem_toArray, List.getElem_cons_succ, List.getElem_cons_zero, List.setIfInBounds_toArray, List.set_cons_zero, List.set_cons_succ]
            refine but_one (i := 16) (by kernel_rfl) rfl ?_
            intro K HK'
            have HK := Lib.hid HK'
            clear HK'
            skip
            try simp only [List.getElem_toArray, List.getElem_cons_succ, List.getElem_cons_zero]
            go_simp
            refine HK.out _ _ ⟨fun _ => HS.out _ Gwe, ?_⟩
            clear HK K
            try simp only [Act.put, List.getElem_toArray, List.getElem_cons_succ, List.getElem_cons_zero, List.setIfInBounds_toArray, List.set_cons_zero, List.set_cons_succ]
            refine but_one (i := 17) (by kernel_rfl) rfl ?_
            intro K HK'
            have HK := Lib.hid HK'
            clear HK'
            skip
            try simp only [List.getElem_toArray, List.getElem_cons_succ, List.getElem_cons_zero]
            go_simp
            refine HK.out _ _ ⟨fun _ => HS.out _ Gwe, ?_⟩
            clear HK K
            try simp only [Act.put, List.getElem_toArray, List.getElem_cons_succ, List.getElem_cons_zero, List.setIfInBounds_toArray, List.set_cons_zero, List.set_cons_succ]
            refine but_one (i := 18) (by kernel_rfl) rfl ?_
            intro K HK'
            have HK := Lib.hid HK'
            clear HK'
            skip
            try simp only [List.getElem_toArray, List.getElem_cons_succ, List.getElem_cons_zero]
            go_simp
            refine HK.out _ _ ⟨fun _ => HS.out _ Gwe, ?_⟩
            clear HK K
            try simp only [Act.put, List.getElem_toArray, List.getElem_cons_succ, List.getElem_cons_zero, List.setIfInBounds_toArray, List.set_cons_zero, List.set_cons_succ]
            refine but_take (i := 19) (v := ?_) 26 rfl (by kernel_rfl) (by kernel_rfl) (by kernel_rfl) (by kernel_rfl) (by kernel_rfl) (fun _ _ _ h => h) (HS.out _ Gwe) (Or.inl ⟨by rfl, ?_⟩) ?_
            rotate_left
            · (intro w' hSw; (try dsimp only at hSw); obtain ⟨hs0, hs1, hs2, hs3, hs4, hs5, hs6, hs7, hs8, hs9, hs10, hs11, hs12, hs13, hs14, hs15, hs16⟩ := hSw; go_simp <;> with_reducible rfl)
            try simp only [Act.put, List.getElem_toArray, List.getElem_cons_succ, List.getElem_cons_zero, List.setIfInBounds_toArray, List.set_cons_zero, List.set_cons_succ]
            refine but_take (i := 21) (v := ?_) 26 rfl (by kernel_rfl) (by kernel_rfl) (by kernel_rfl) (by kernel_rfl) (by kernel_rfl) (fun _ _ _ h => h) (HS.out _ Gwe) (Or.inl ⟨by rfl, ?_⟩) ?_
            rotate_left
            · (intro w' hSw; (try dsimp only at hSw); obtain ⟨hs0, hs1, hs2, hs3, hs4, hs5, hs6, hs7, hs8, hs9, hs10, hs11, hs12, hs13, hs14, hs15, hs16⟩ := hSw; go_simp <;> with_reducible rfl)
            try simp only [Act.put, List.getElem_toArray, List.getElem_cons_succ, List.getElem_cons_zero, List.setIfInBounds_toArray, List.set_cons_zero, List.set_cons_succ]
            refine but_one (i := 20) (by kernel_rfl) rfl ?_
            intro K HK'
            have HK := Lib.hid HK'
            clear HK'
            skip
            try simp only [List.getElem_toArray, List.getElem_cons_succ, List.getElem_cons_zero]
            go_simp
            go_at_call 40
            refine (HOW.out _ Gwe).mono ?_
            rintro e wo ⟨vo, rfl, ho, hbwo⟩
            have Gwo := Grow.trans Gwe hbwo
            have swo := hbwo.size
            try simp only [alloc_size] at swo
            have HVO : Hid (Rcs wo.cell? vo l) := Lib.hid (ho.sl (by decide) (fr_sub _ _ _))
            clear ho
            refine HK.out _ _ ⟨fun _ => HS.out _ Gwo, ?_⟩
            clear HK K
            try simp only [Act.put, List.getElem_toArray, List.getElem_cons_succ, List.getElem_cons_zero, List.setIfInBounds_toArray, List.set_cons_zero, List.set_cons_succ]
            refine but_one (i := 22) (by kernel_rfl) rfl ?_
            intro K HK'
            have HK := Lib.hid HK'
            clear HK'
            skip
            try simp only [List.getElem_toArray, List.getElem_cons_succ, List.getElem_cons_zero]
            go_simp
            go_at_call 39
            refine (HSL.out _ _ Gwo HVO.out).mono ?_
            rintro e ws ⟨rfl, hbws⟩
            have Gws := Grow.trans Gwo hbws
            have sws := hbws.size
            try simp only [alloc_size] at sws
            refine HK.out _ _ ⟨fun _ => HS.out _ Gws, ?_⟩
            clear HK K
            try simp only [Act.put, List.getElem_toArray, List.getElem_cons_succ, List.getElem_cons_zero, List.setIfInBounds_toArray, List.set_cons_zero, List.set_cons_succ]
            refine but_one (i := 23) (by kernel_rfl) rfl ?_
            intro K HK'
            have HK := Lib.hid HK'
            clear HK'
            skip
            try simp only [List.getElem_toArray, List.getElem_cons_succ, List.getElem_cons_zero]
            go_simp
            refine HK.out _ _ ⟨fun _ => HS.out _ Gws, ?_⟩
            clear HK K
            try simp only [Act.put, List.getElem_toArray, List.getElem_cons_succ, List.getElem_cons_zero, List.setIfInBounds_toArray, List.set_cons_zero, List.set_cons_succ]
            refine but_one (i := 24) (by kernel_rfl) rfl ?_
            intro K HK'
            have HK := Lib.hid HK'
            clear HK'
            skip
            try simp only [List.getElem_toArray, List.getElem_cons_succ, List.getElem_cons_zero]
            go_simp
            refine HK.out _ _ ⟨fun h => absurd rfl h, ?_⟩
            clear HK K
            try simp only [Act.put, List.getElem_toArray, List.getElem_cons_succ, List.getElem_cons_zero, List.setIfInBounds_toArray, List.set_cons_zero, List.set_cons_succ]
            refine but_done (by kernel_rfl) ?_
            have HGE : Hid (Grow w ws) := Lib.hid (HG8.out.trans Gws)
            go_wp2_with fail
            refine (HWH.out _ HGE.out).mono ?_
            rintro e u1 ⟨v1, rfl, h1, hbu1⟩
            have HH1 := Lib.hid (h1.mono (ov_none hbu1))
            have HU1 := Lib.hid (HGE.out.trans hbu1)
            clear h1 hbu1
            go_wp2_with fail
            refine (HREH.out _ HU1.out).mono ?_
            rintro e u2 ⟨v2, rfl, h2, hbu2⟩
            have HU2 := Lib.hid (HU1.out.trans hbu2)
            have h22 := ref_sameHead u2 (HH1.out.mono hbu2.sub) (h2.mono (ov_sub HU1.out.sub hbu2))
            rw [decide_eq_true rfl] at h22
            have HH2 := Lib.hid h22
            clear h2 hbu2 h22
            go_wp2_with fail
            refine HH2.out.mono ?_
            rintro e u3 ⟨rfl, hbu3⟩
            have HU3 := Lib.hid (HU2.out.trans hbu3)
            clear hbu3
            go_wp2_with fail
            refine (HWD.out _ HU3.out).mono ?_
            rintro e u4 ⟨v4, rfl, h4, hbu4⟩
            have HU4 := Lib.hid (HU3.out.trans hbu4)
            have HD4 := Lib.hid (h4.sl (T := Ty.rd) (by decide) (fr_sub _ _ _))
            clear h4 hbu4
            go_wp2_with fail
            refine (HRD.out _ HU4.out).mono ?_
            rintro e u5 ⟨v5, rfl, h5, hbu5⟩
            have HU5 := Lib.hid (HU4.out.trans hbu5)
            have h55 := ref_sameReady u5 (HD4.out.mono hbu5.sub) (h5.sl (T := Ty.rd) (by decide) HU5.out.sub)
            rw [decide_eq_true rfl] at h55
            have HH5 := Lib.hid h55
            clear h5 hbu5 h55
            go_wp2_with fail
            refine HH5.out.mono ?_
            rintro e u6 ⟨rfl, hbu6⟩
            go_wp2
            go_ret
            exact ⟨rfl, HU5.out.trans hbu6⟩
        · skip
          intro K HK'
          have HK := Lib.hid HK'
          clear HK'
          skip
          try simp only [List.getElem_toArray, List.getElem_cons_succ, List.getElem_cons_zero]
          go_simp
          refine HK.out _ _ ⟨fun _ => HS.out _ ((Gwa.alloc _).alloc _), ?_⟩
          clear HK K
          try simp only [Act.put, List.getElem_toArray, List.getElem_cons_succ, List.getElem_cons_zero, List.setIfInBounds_toArray, List.set_cons_zero, List.set_cons_succ]
          refine but_one (i := 7) (by kernel_rfl) rfl ?_
          intro K HK'
          have HK := Lib.hid HK'
          clear HK'
          skip
          try simp only [List.getElem_toArray, List.getElem_cons_succ, List.getElem_cons_zero]
          go_simp
          go_at_call 38
          refine (HNT.out _ ((Gwa.alloc _).alloc _)).mono ?_
          rintro e wn ⟨vn, rfl, hn, hbwn⟩
          have Gwn := Grow.trans ((Gwa.alloc _).alloc _) hbwn
          have swn := hbwn.size
          try simp only [alloc_size] at swn
          have eLO : wa.heap.size + 1 + 1 = ((wa.alloc (.cells #[] 48)).alloc (.cells #[.int .i64 r.kind, .int .i64 r.deed, .slice ap r.parts.length cp] 48)).heap.size := by (try simp only [alloc_size])
          have HN : Hid (Of Ty.hs (win (wa.heap.size + 1 + 1) wn.heap.size wn) vn (houseR (l ++ [r]))) := Lib.hid (by rw [← note_house, HXE.out, eLO]; exact hn.mono (win_ov _ _))
          clear hn eLO
          refine HK.out _ _ ⟨fun _ => HS.out _ Gwn, ?_⟩
          clear HK K
          try simp only [Act.put, List.getElem_toArray, List.getElem_cons_succ, List.getElem_cons_zero, List.setIfInBounds_toArray, List.set_cons_zero, List.set_cons_succ]
          refine but_one (i := 10) (by kernel_rfl) rfl ?_
          intro K HK'
          have HK := Lib.hid HK'
          clear HK'
          refine wanted_yes (by rfl) ?_
          try simp only [List.getElem_toArray, List.getElem_cons_succ, List.getElem_cons_zero]
          have q8 : ∀ k, (Value.slice (some ⟨wa.heap.size, 0, none⟩) 0 0).ownBlock = some k → k < wa.heap.size + 1 + 1 ∨ wn.heap.size ≤ k := fun k hk => by
            obtain rfl : _ = k := by simpa [Value.ownBlock] using hk
            left; omega
          refine wp_appc (c := w.cell?) (base := w8.heap.size) (v := .slice (some ⟨wa.heap.size, 0, none⟩) 0 0) (l := []) (m := l) ei_rc rfl one_Trc (by decide) (.tmp 28) (.tmp 29) rfl rfl ((((OwnC.made0 Ty.rc w.cell? _ w8.heap.size _ Gwa.size (g := wa.heap.size) (by (try simp only [])))).grow ((Grow.refl _).alloc _)).grow hbwn) rfl (HSRC.out _ (HG8.out.trans Gwn)) (by have := HL.out; simp; omega) Gwn.size ?_
          intro a10 c10 w10 ho10 hg10 hb10
          try simp only [List.length_nil, Nat.zero_add, List.nil_append] at ho10 hb10 ⊢
          have G10 := grow_by (w0 := w8) Gwn hg10 (own_at (by have := Gwa.size; (try simp only [alloc_size] at this); omega))
          have R10 : Hid (∀ k, (Value.slice a10 l.length c10).ownBlock = some k → k < wa.heap.size + 1 + 1 ∨ wn.heap.size ≤ k) := fun k hk => by
            rcases hb10 with e | ⟨g, e, hg⟩
            · exact q8 k (e ▸ hk)
            · rw [e] at hk; obtain rfl := Option.some.inj hk; exact .inr (Nat.le_trans (Grow.refl wn).size hg)
          have HO10 := Lib.hid ho10
          have s10 := hg10.size
          have B10 : Hid (∀ k, (Value.slice a10 l.length c10).ownBlock = some k → w8.heap.size ≤ k) := Lib.hid (own_new (B := w8.heap.size) Gwn.size hb10 (own_at (by have := Gwa.size; (try simp only [alloc_size] at this); omega)))
          clear ho10 hb10
          refine HK.out _ _ ⟨fun _ => HS.out _ G10, ?_⟩
          clear HK K
          try simp only [Act.put, List.setIfInBounds_toArray, List.set_cons_zero, List.set_cons_succ]
          refine but_one (i := 13) (by kernel_rfl) rfl ?_
          intro K HK'
          have HK := Lib.hid HK'
          clear HK'
          refine wanted_yes (by rfl) ?_
          try simp only [List.getElem_toArray, List.getElem_cons_succ, List.getElem_cons_zero]
          have q12 : ∀ k, (Value.slice a10 l.length c10).ownBlock = some k → k < wa.heap.size + 1 + 1 ∨ wn.heap.size ≤ k := R10.out
          refine wp_appc (c := w.cell?) (base := w8.heap.size) (v := .slice a10 l.length c10) (l := l) (m := [r]) ei_rc rfl one_Trc (by decide) (.tmp 30) (.tmp 32) rfl rfl (HO10.out) rfl ((((Src.of_new (T := Ty.rc) (c := w.cell?) (cs := #[.int .i64 r.kind, .int .i64 r.deed, .slice ap r.parts.length cp]) HR.out _ _ (g := wa.heap.size + 1) (by (try simp only [alloc_size])))).grow hbwn).kept hg10 (by simp [Value.ownBlock] <;> omega)) (by have := HL.out; simp; omega) G10.size ?_
          intro a13 c13 w13 ho13 hg13 hb13
          try simp only [List.length_cons, List.length_nil, Nat.zero_add] at ho13 hb13 ⊢
          have G13 := grow_by (w0 := w8) G10 hg13 B10.out
          have HN13 : Hid (Of Ty.hs w13.cell? vn (houseR (l ++ [r]))) := Lib.hid ((((HN.out.mono (win_by hg10 q8)).mono (win_by hg13 q12))).mono (win_sub _ _ _))
          have HV13 : Hid (Rcs w13.cell? (.slice a13 (l.length + 1) c13) (l ++ [r])) := Lib.hid (ho13.sl (by decide) (HG8.out.trans G13).sub)
          clear ho13 hg13 hb13 HN
          refine HK.out _ _ ⟨fun _ => HS.out _ G13, ?_⟩
          clear HK K
          try simp only [Act.put, List.setIfInBounds_toArray, List.set_cons_zero, List.set_cons_succ]
          refine but_one (i := 14) (by kernel_rfl) rfl ?_
          intro K HK'
          have HK := Lib.hid HK'
          clear HK'
          skip
          try simp only [List.getElem_toArray, List.getElem_cons_succ, List.getElem_cons_zero]
          go_simp
          go_at_call 29
          refine (HRH.out _ _ HV13.out).mono ?_
          rintro e wh ⟨vh, rfl, hh, hbwh⟩
          have Gwh := Grow.trans G13 hbwh
          have swh := hbwh.size
          try simp only [alloc_size] at swh
          have HH := Lib.hid hh
          clear hh
          refine HK.out _ _ ⟨fun _ => HS.out _ Gwh, ?_⟩
          clear HK K
          try simp only [Act.put, List.getElem_toArray, List.getElem_cons_succ, List.getElem_cons_zero, List.setIfInBounds_toArray, List.set_cons_zero, List.set_cons_succ]
          refine but_one (i := 15) (by kernel_rfl) rfl ?_
          intro K HK'
          have HK := Lib.hid HK'
          clear HK'
          skip
          try simp only [List.getElem_toArray, List.getElem_cons_succ, List.getElem_cons_zero]
          go_simp
          go_at_call 37
          refine (HSE.out _ _ _ (HN13.out.mono hbwh.sub) HH.out).mono ?_
          rintro e we ⟨rfl, hbwe⟩
          have Gwe := Grow.trans Gwh hbwe
          have swe := hbwe.size
          try simp only [alloc_size] at swe
          refine HK.out _ _ ⟨fun _ => HS.out _ Gwe, ?_⟩
          clear HK K
          try simp only [Act.put, List.getElem_toArray, List.getElem_cons_succ, List.getElem_cons_zero, List.setIfInBounds_toArray, List.set_cons_zero, List.set_cons_succ]
          refine but_one (i := 16) (by kernel_rfl) rfl ?_
          intro K HK'
          have HK := Lib.hid HK'
          clear HK'
          skip
          try simp only [List.getElem_toArray, List.getElem_cons_succ, List.getElem_cons_zero]
          go_simp
          refine HK.out _ _ ⟨fun _ => HS.out _ Gwe, ?_⟩
          clear HK K
          try simp only [Act.put, List.getElem_toArray, List.getElem_cons_succ, List.getElem_cons_zero, List.setIfInBounds_toArray, List.set_cons_zero, List.set_cons_succ]
          refine but_one (i := 17) (by kernel_rfl) rfl ?_
          intro K HK'
          have HK := Lib.hid HK'
          clear HK'
          skip
          try simp only [List.getElem_toArray, List.getElem_cons_succ, List.getElem_cons_zero]
          go_simp
          refine HK.out _ _ ⟨fun _ => HS.out _ Gwe, ?_⟩
          clear HK K
          try simp only [Act.put, List.getElem_toArray, List.getElem_cons_succ, List.getElem_cons_zero, List.setIfInBounds_toArray, List.set_cons_zero, List.set_cons_succ]
          refine but_one (i := 18) (by kernel_rfl) rfl ?_
          intro K HK'
          have HK := Lib.hid HK'
          clear HK'
          skip
          try simp only [List.getElem_toArray, List.getElem_cons_succ, List.getElem_cons_zero]
          go_simp
          refine HK.out _ _ ⟨fun _ => HS.out _ Gwe, ?_⟩
          clear HK K
          try simp only [Act.put, List.getElem_toArray, List.getElem_cons_succ, List.getElem_cons_zero, List.setIfInBounds_toArray, List.set_cons_zero, List.set_cons_succ]
          refine but_take (i := 19) (v := ?_) 26 rfl (by kernel_rfl) (by kernel_rfl) (by kernel_rfl) (by kernel_rfl) (by kernel_rfl) (fun _ _ _ h => h) (HS.out _ Gwe) (Or.inl ⟨by rfl, ?_⟩) ?_
          rotate_left
          · (intro w' hSw; (try dsimp only at hSw); obtain ⟨hs0, hs1, hs2, hs3, hs4, hs5, hs6, hs7, hs8, hs9, hs10, hs11, hs12, hs13, hs14, hs15, hs16⟩ := hSw; go_simp <;> with_reducible rfl)
          try simp only [Act.put, List.getElem_toArray, List.getElem_cons_succ, List.getElem_cons_zero, List.setIfInBounds_toArray, List.set_cons_zero, List.set_cons_succ]
          refine but_take (i := 21) (v := ?_) 26 rfl (by kernel_rfl) (by kernel_rfl) (by kernel_rfl) (by kernel_rfl) (by kernel_rfl) (fun _ _ _ h => h) (HS.out _ Gwe) (Or.inl ⟨by rfl, ?_⟩) ?_
          rotate_left
          · (intro w' hSw; (try dsimp only at hSw); obtain ⟨hs0, hs1, hs2, hs3, hs4, hs5, hs6, hs7, hs8, hs9, hs10, hs11, hs12, hs13, hs14, hs15, hs16⟩ := hSw; go_simp <;> with_reducible rfl)
          try simp only [Act.put, List.getElem_toArray, List.getElem_cons_succ, List.getElem_cons_zero, List.setIfInBounds_toArray, List.set_cons_zero, List.set_cons_succ]
          refine but_one (i := 20) (by kernel_rfl) rfl ?_
          intro K HK'
          have HK := Lib.hid HK'
          clear HK'
          skip
          try simp only [List.getElem_toArray, List.getElem_cons_succ, List.getElem_cons_zero]
          go_simp
          go_at_call 40
          refine (HOW.out _ Gwe).mono ?_
          rintro e wo ⟨vo, rfl, ho, hbwo⟩
          have Gwo := Grow.trans Gwe hbwo
          have swo := hbwo.size
          try simp only [alloc_size] at swo
          have HVO : Hid (Rcs wo.cell? vo l) := Lib.hid (ho.sl (by decide) (fr_sub _ _ _))
          clear ho
          refine HK.out _ _ ⟨fun _ => HS.out _ Gwo, ?_⟩
          clear HK K
          try simp only [Act.put, List.getElem_toArray, List.getElem_cons_succ, List.getElem_cons_zero, List.setIfInBounds_toArray, List.set_cons_zero, List.set_cons_succ]
          refine but_one (i := 22) (by kernel_rfl) rfl ?_
          intro K HK'
          have HK := Lib.hid HK'
          clear HK'
          skip
          try simp only [List.getElem_toArray, List.getElem_cons_succ, List.getElem_cons_zero]
          go_simp
          go_at_call 39
          refine (HSL.out _ _ Gwo HVO.out).mono ?_
          rintro e ws ⟨rfl, hbws⟩
          have Gws := Grow.trans Gwo hbws
          have sws := hbws.size
          try simp only [alloc_size] at sws
          refine HK.out _ _ ⟨fun _ => HS.out _ Gws, ?_⟩
          clear HK K
          try simp only [Act.put, List.getElem_toArray, List.getElem_cons_succ, List.getElem_cons_zero, List.setIfInBounds_toArray, List.set_cons_zero, List.set_cons_succ]
          refine but_one (i := 23) (by kernel_rfl) rfl ?_
          intro K HK'
          have HK := Lib.hid HK'
          clear HK'
          skip
          try simp only [List.getElem_toArray, List.getElem_cons_succ, List.getElem_cons_zero]
          go_simp
          refine HK.out _ _ ⟨fun _ => HS.out _ Gws, ?_⟩
          clear HK K
          try simp only [Act.put, List.getElem_toArray, List.getElem_cons_succ, List.getElem_cons_zero, List.setIfInBounds_toArray, List.set_cons_zero, List.set_cons_succ]
          refine but_one (i := 24) (by kernel_rfl) rfl ?_
          intro K HK'
          have HK := Lib.hid HK'
          clear HK'
          skip
          try simp only [List.getElem_toArray, List.getElem_cons_succ, List.getElem_cons_zero]
          go_simp
          refine HK.out _ _ ⟨fun h => absurd rfl h, ?_⟩
          clear HK K
          try simp only [Act.put, List.getElem_toArray, List.getElem_cons_succ, List.getElem_cons_zero, List.setIfInBounds_toArray, List.set_cons_zero, List.set_cons_succ]
          refine but_done (by kernel_rfl) ?_
          have HGE : Hid (Grow w ws) := Lib.hid (HG8.out.trans Gws)
          go_wp2_with fail
          refine (HWH.out _ HGE.out).mono ?_
          rintro e u1 ⟨v1, rfl, h1, hbu1⟩
          have HH1 := Lib.hid (h1.mono (ov_none hbu1))
          have HU1 := Lib.hid (HGE.out.trans hbu1)
          clear h1 hbu1
          go_wp2_with fail
          refine (HREH.out _ HU1.out).mono ?_
          rintro e u2 ⟨v2, rfl, h2, hbu2⟩
          have HU2 := Lib.hid (HU1.out.trans hbu2)
          have h22 := ref_sameHead u2 (HH1.out.mono hbu2.sub) (h2.mono (ov_sub HU1.out.sub hbu2))
          rw [decide_eq_true rfl] at h22
          have HH2 := Lib.hid h22
          clear h2 hbu2 h22
          go_wp2_with fail
          refine HH2.out.mono ?_
          rintro e u3 ⟨rfl, hbu3⟩
          have HU3 := Lib.hid (HU2.out.trans hbu3)
          clear hbu3
          go_wp2_with fail
          refine (HWD.out _ HU3.out).mono ?_
          rintro e u4 ⟨v4, rfl, h4, hbu4⟩
          have HU4 := Lib.hid (HU3.out.trans hbu4)
          have HD4 := Lib.hid (h4.sl (T := Ty.rd) (by decide) (fr_sub _ _ _))
          clear h4 hbu4
          go_wp2_with fail
          refine (HRD.out _ HU4.out).mono ?_
          rintro e u5 ⟨v5, rfl, h5, hbu5⟩
          have HU5 := Lib.hid (HU4.out.trans hbu5)
          have h55 := ref_sameReady u5 (HD4.out.mono hbu5.sub) (h5.sl (T := Ty.rd) (by decide) HU5.out.sub)
          rw [decide_eq_true rfl] at h55
          have HH5 := Lib.hid h55
          clear h5 hbu5 h55
          go_wp2_with fail
          refine HH5.out.mono ?_
          rintro e u6 ⟨rfl, hbu6⟩
          go_wp2
          go_ret
          exact ⟨rfl, HU5.out.trans hbu6⟩
      · skip
        intro K HK'
        have HK := Lib.hid HK'
        clear HK'
        skip
        try simp only [List.getElem_toArray, List.getElem_cons_succ, List.getElem_cons_zero]
        go_simp
        refine HK.out _ _ ⟨fun _ => HS.out _ (Gwa.alloc _), ?_⟩
        clear HK K
        try simp only [Act.put, List.getElem_toArray, List.getElem_cons_succ, List.getElem_cons_zero, List.setIfInBounds_toArray, List.set_cons_zero, List.set_cons_succ]
        refine but_two (i := 7) (j := 8) (by kernel_rfl) rfl rfl ?_ ?_
        · skip
          intro K HK'
          have HK := Lib.hid HK'
          clear HK'
          skip
          try simp only [List.getElem_toArray, List.getElem_cons_succ, List.getElem_cons_zero]
          go_simp
          go_at_call 38
          refine (HNT.out _ (Gwa.alloc _)).mono ?_
          rintro e wn ⟨vn, rfl, hn, hbwn⟩
          have Gwn := Grow.trans (Gwa.alloc _) hbwn
          have swn := hbwn.size
          try simp only [alloc_size] at swn
          have eLO : wa.heap.size + 1 = (wa.alloc (.cells #[.int .i64 r.kind, .int .i64 r.deed, .slice ap r.parts.length cp] 48)).heap.size := by (try simp only [alloc_size])
          have HN : Hid (Of Ty.hs (win (wa.heap.size + 1) wn.heap.size wn) vn (houseR (l ++ [r]))) := Lib.hid (by rw [← note_house, HXE.out, eLO]; exact hn.mono (win_ov _ _))
          clear hn eLO
          refine HK.out _ _ ⟨fun _ => HS.out _ Gwn, ?_⟩
          clear HK K
          try simp only [Act.put, List.getElem_toArray, List.getElem_cons_succ, List.getElem_cons_zero, List.setIfInBounds_toArray, List.set_cons_zero, List.set_cons_succ]
          refine but_one (i := 8) (by kernel_rfl) rfl ?_
          intro K HK'
          have HK := Lib.hid HK'
          clear HK'
          skip
          try simp only [List.getElem_toArray, List.getElem_cons_succ, List.getElem_cons_zero]
          go_simp
          refine HK.out _ _ ⟨fun _ => HS.out _ (Gwn.alloc _), ?_⟩
          clear HK K
          try simp only [Act.put, List.getElem_toArray, List.getElem_cons_succ, List.getElem_cons_zero, List.setIfInBounds_toArray, List.set_cons_zero, List.set_cons_succ]
          refine but_one (i := 10) (by kernel_rfl) rfl ?_
          intro K HK'
          have HK := Lib.hid HK'
          clear HK'
          refine wanted_yes (by rfl) ?_
          try simp only [List.getElem_toArray, List.getElem_cons_succ, List.getElem_cons_zero]
          have q8 : ∀ k, (Value.slice (some ⟨wn.heap.size, 0, none⟩) 0 0).ownBlock = some k → k < wa.heap.size + 1 ∨ wn.heap.size ≤ k := fun k hk => by
            obtain rfl : _ = k := by simpa [Value.ownBlock] using hk
            right; have := (Grow.refl wn).size; (try simp only [alloc_size] at this); omega
          refine wp_appc (c := w.cell?) (base := w8.heap.size) (v := .slice (some ⟨wn.heap.size, 0, none⟩) 0 0) (l := []) (m := l) ei_rc rfl one_Trc (by decide) (.tmp 28) (.tmp 29) rfl rfl ((OwnC.made0 Ty.rc w.cell? _ w8.heap.size _ Gwn.size (g := wn.heap.size) (by (try simp only [])))) rfl (HSRC.out _ (HG8.out.trans (Gwn.alloc _))) (by have := HL.out; simp; omega) (Gwn.alloc _).size ?_
          intro a10 c10 w10 ho10 hg10 hb10
          try simp only [List.length_nil, Nat.zero_add, List.nil_append] at ho10 hb10 ⊢
          have G10 := grow_by (w0 := w8) (Gwn.alloc _) hg10 (own_at (by have := Gwn.size; (try simp only [alloc_size] at this); omega))
          have R10 : Hid (∀ k, (Value.slice a10 l.length c10).ownBlock = some k → k < wa.heap.size + 1 ∨ wn.heap.size ≤ k) := fun k hk => by
            rcases hb10 with e | ⟨g, e, hg⟩
            · exact q8 k (e ▸ hk)
            · rw [e] at hk; obtain rfl := Option.some.inj hk; exact .inr (Nat.le_trans ((Grow.refl wn).alloc _).size hg)
          have HO10 := Lib.hid ho10
          have s10 := hg10.size
          have B10 : Hid (∀ k, (Value.slice a10 l.length c10).ownBlock = some k → w8.heap.size ≤ k) := Lib.hid (own_new (B := w8.heap.size) (Gwn.alloc _).size hb10 (own_at (by have := Gwn.size; (try simp only [alloc_size] at this); omega)))
          clear ho10 hb10
          refine HK.out _ _ ⟨fun _ => HS.out _ G10, ?_⟩
          clear HK K
          try simp only [Act.put, List.setIfInBounds_toArray, List.set_cons_zero, List.set_cons_succ]
          refine but_one (i := 13) (by kernel_rfl) rfl ?_
          intro K HK'
          have HK := Lib.hid HK'
          clear HK'
          refine wanted_yes (by rfl) ?_
          try simp only [List.getElem_toArray, List.getElem_cons_succ, List.getElem_cons_zero]
          have q12 : ∀ k, (Value.slice a10 l.length c10).ownBlock = some k → k < wa.heap.size + 1 ∨ wn.heap.size ≤ k := R10.out
          refine wp_appc (c := w.cell?) (base := w8.heap.size) (v := .slice a10 l.length c10) (l := l) (m := [r]) ei_rc rfl one_Trc (by decide) (.tmp 30) (.tmp 32) rfl rfl (HO10.out) rfl (((((Src.of_new (T := Ty.rc) (c := w.cell?) (cs := #[.int .i64 r.kind, .int .i64 r.deed, .slice ap r.parts.length cp]) HR.out _ _ (g := wa.heap.size) (by (try simp only [])))).grow hbwn).grow ((Grow.refl _).alloc _)).kept hg10 (by simp [Value.ownBlock] <;> omega)) (by have := HL.out; simp; omega) G10.size ?_
          intro a13 c13 w13 ho13 hg13 hb13
          try simp only [List.length_cons, List.length_nil, Nat.zero_add] at ho13 hb13 ⊢
          have G13 := grow_by (w0 := w8) G10 hg13 B10.out
          have HN13 : Hid (Of Ty.hs w13.cell? vn (houseR (l ++ [r]))) := Lib.hid (((((HN.out.mono (win_grow ((Grow.refl _).alloc _) _ _)).mono (win_by hg10 q8)).mono (win_by hg13 q12))).mono (win_sub _ _ _))
          have HV13 : Hid (Rcs w13.cell? (.slice a13 (l.length + 1) c13) (l ++ [r])) := Lib.hid (ho13.sl (by decide) (HG8.out.trans G13).sub)
          clear ho13 hg13 hb13 HN
          refine HK.out _ _ ⟨fun _ => HS.out _ G13, ?_⟩
          clear HK K
          try simp only [Act.put, List.setIfInBounds_toArray, List.set_cons_zero, List.set_cons_succ]
          refine but_one (i := 14) (by kernel_rfl) rfl ?_
          intro K HK'
          have HK := Lib.hid HK'
          clear HK'
          skip
          try simp only [List.getElem_toArray, List.getElem_cons_succ, List.getElem_cons_zero]
          go_simp
          go_at_call 29
          refine (HRH.out _ _ HV13.out).mono ?_
          rintro e wh ⟨vh, rfl, hh, hbwh⟩
          have Gwh := Grow.trans G13 hbwh
          have swh := hbwh.size
          try simp only [alloc_size] at swh
          have HH := Lib.hid hh
          clear hh
          refine HK.out _ _ ⟨fun _ => HS.out _ Gwh, ?_⟩
          clear HK K
          try simp only [Act.put, List.getElem_toArray, List.getElem_cons_succ, List.getElem_cons_zero, List.setIfInBounds_toArray, List.set_cons_zero, List.set_cons_succ]
          refine but_one (i := 15) (by kernel_rfl) rfl ?_
          intro K HK'
          have HK := Lib.hid HK'
          clear HK'
          skip
          try simp only [List.getElem_toArray, List.getElem_cons_succ, List.getElem_cons_zero]
          go_simp
          go_at_call 37
          refine (HSE.out _ _ _ (HN13.out.mono hbwh.sub) HH.out).mono ?_
          rintro e we ⟨rfl, hbwe⟩
          have Gwe := Grow.trans Gwh hbwe
          have swe := hbwe.size
          try simp only [alloc_size] at swe
          refine HK.out _ _ ⟨fun _ => HS.out _ Gwe, ?_⟩
          clear HK K
          try simp only [Act.put, List.getElem_toArray, List.getElem_cons_succ, List.getElem_cons_zero, List.setIfInBounds_toArray, List.set_cons_zero, List.set_cons_succ]
          refine but_one (i := 16) (by kernel_rfl) rfl ?_
          intro K HK'
          have HK := Lib.hid HK'
          clear HK'
          skip
          try simp only [List.getElem_toArray, List.getElem_cons_succ, List.getElem_cons_zero]
          go_simp
          refine HK.out _ _ ⟨fun _ => HS.out _ Gwe, ?_⟩
          clear HK K
          try simp only [Act.put, List.getElem_toArray, List.getElem_cons_succ, List.getElem_cons_zero, List.setIfInBounds_toArray, List.set_cons_zero, List.set_cons_succ]
          refine but_one (i := 17) (by kernel_rfl) rfl ?_
          intro K HK'
          have HK := Lib.hid HK'
          clear HK'
          skip
          try simp only [List.getElem_toArray, List.getElem_cons_succ, List.getElem_cons_zero]
          go_simp
          refine HK.out _ _ ⟨fun _ => HS.out _ Gwe, ?_⟩
          clear HK K
          try simp only [Act.put, List.getElem_toArray, List.getElem_cons_succ, List.getElem_cons_zero, List.setIfInBounds_toArray, List.set_cons_zero, List.set_cons_succ]
          refine but_one (i := 18) (by kernel_rfl) rfl ?_
          intro K HK'
          have HK := Lib.hid HK'
          clear HK'
          skip
          try simp only [List.getElem_toArray, List.getElem_cons_succ, List.getElem_cons_zero]
          go_simp
          refine HK.out _ _ ⟨fun _ => HS.out _ Gwe, ?_⟩
          clear HK K
          try simp only [Act.put, List.getElem_toArray, List.getElem_cons_succ, List.getElem_cons_zero, List.setIfInBounds_toArray, List.set_cons_zero, List.set_cons_succ]
          refine but_take (i := 19) (v := ?_) 26 rfl (by kernel_rfl) (by kernel_rfl) (by kernel_rfl) (by kernel_rfl) (by kernel_rfl) (fun _ _ _ h => h) (HS.out _ Gwe) (Or.inl ⟨by rfl, ?_⟩) ?_
          rotate_left
          · (intro w' hSw; (try dsimp only at hSw); obtain ⟨hs0, hs1, hs2, hs3, hs4, hs5, hs6, hs7, hs8, hs9, hs10, hs11, hs12, hs13, hs14, hs15, hs16⟩ := hSw; go_simp <;> with_reducible rfl)
          try simp only [Act.put, List.getElem_toArray, List.getElem_cons_succ, List.getElem_cons_zero, List.setIfInBounds_toArray, List.set_cons_zero, List.set_cons_succ]
          refine but_take (i := 21) (v := ?_) 26 rfl (by kernel_rfl) (by kernel_rfl) (by kernel_rfl) (by kernel_rfl) (by kernel_rfl) (fun _ _ _ h => h) (HS.out _ Gwe) (Or.inl ⟨by rfl, ?_⟩) ?_
          rotate_left
          · (intro w' hSw; (try dsimp only at hSw); obtain ⟨hs0, hs1, hs2, hs3, hs4, hs5, hs6, hs7, hs8, hs9, hs10, hs11, hs12, hs13, hs14, hs15, hs16⟩ := hSw; go_simp <;> with_reducible rfl)
          try simp only [Act.put, List.getElem_toArray, List.getElem_cons_succ, List.getElem_cons_zero, List.setIfInBounds_toArray, List.set_cons_zero, List.set_cons_succ]
          refine but_one (i := 20) (by kernel_rfl) rfl ?_
          intro K HK'
          have HK := Lib.hid HK'
          clear HK'
          skip
          try simp only [List.getElem_toArray, List.getElem_cons_succ, List.getElem_cons_zero]
          go_simp
          go_at_call 40
          refine (HOW.out _ Gwe).mono ?_
          rintro e wo ⟨vo, rfl, ho, hbwo⟩
          have Gwo := Grow.trans Gwe hbwo
          have swo := hbwo.size
          try simp only [alloc_size] at swo
          have HVO : Hid (Rcs wo.cell? vo l) := Lib.hid (ho.sl (by decide) (fr_sub _ _ _))
          clear ho
          refine HK.out _ _ ⟨fun _ => HS.out _ Gwo, ?_⟩
          clear HK K
          try simp only [Act.put, List.getElem_toArray, List.getElem_cons_succ, List.getElem_cons_zero, List.setIfInBounds_toArray, List.set_cons_zero, List.set_cons_succ]
          refine but_one (i := 22) (by kernel_rfl) rfl ?_
          intro K HK'
          have HK := Lib.hid HK'
          clear HK'
          skip
          try simp only [List.getElem_toArray, List.getElem_cons_succ, List.getElem_cons_zero]
          go_simp
          go_at_call 39
          refine (HSL.out _ _ Gwo HVO.out).mono ?_
          rintro e ws ⟨rfl, hbws⟩
          have Gws := Grow.trans Gwo hbws
          have sws := hbws.size
          try simp only [alloc_size] at sws
          refine HK.out _ _ ⟨fun _ => HS.out _ Gws, ?_⟩
          clear HK K
          try simp only [Act.put, List.getElem_toArray, List.getElem_cons_succ, List.getElem_cons_zero, List.setIfInBounds_toArray, List.set_cons_zero, List.set_cons_succ]
          refine but_one (i := 23) (by kernel_rfl) rfl ?_
          intro K HK'
          have HK := Lib.hid HK'
          clear HK'
          skip
          try simp only [List.getElem_toArray, List.getElem_cons_succ, List.getElem_cons_zero]
          go_simp
          refine HK.out _ _ ⟨fun _ => HS.out _ Gws, ?_⟩
          clear HK K
          try simp only [Act.put, List.getElem_toArray, List.getElem_cons_succ, List.getElem_cons_zero, List.setIfInBounds_toArray, List.set_cons_zero, List.set_cons_succ]
          refine but_one (i := 24) (by kernel_rfl) rfl ?_
          intro K HK'
          have HK := Lib.hid HK'
          clear HK'
          skip
          try simp only [List.getElem_toArray, List.getElem_cons_succ, List.getElem_cons_zero]
          go_simp
          refine HK.out _ _ ⟨fun h => absurd rfl h, ?_⟩
          clear HK K
          try simp only [Act.put, List.getElem_toArray, List.getElem_cons_succ, List.getElem_cons_zero, List.setIfInBounds_toArray, List.set_cons_zero, List.set_cons_succ]
          refine but_done (by kernel_rfl) ?_
          have HGE : Hid (Grow w ws) := Lib.hid (HG8.out.trans Gws)
          go_wp2_with fail
          refine (HWH.out _ HGE.out).mono ?_
          rintro e u1 ⟨v1, rfl, h1, hbu1⟩
          have HH1 := Lib.hid (h1.mono (ov_none hbu1))
          have HU1 := Lib.hid (HGE.out.trans hbu1)
          clear h1 hbu1
          go_wp2_with fail
          refine (HREH.out _ HU1.out).mono ?_
          rintro e u2 ⟨v2, rfl, h2, hbu2⟩
          have HU2 := Lib.hid (HU1.out.trans hbu2)
          have h22 := ref_sameHead u2 (HH1.out.mono hbu2.sub) (h2.mono (ov_sub HU1.out.sub hbu2))
          rw [decide_eq_true rfl] at h22
          have HH2 := Lib.hid h22
          clear h2 hbu2 h22
          go_wp2_with fail
          refine HH2.out.mono ?_
          rintro e u3 ⟨rfl, hbu3⟩
          have HU3 := Lib.hid (HU2.out.trans hbu3)
          clear hbu3
          go_wp2_with fail
          refine (HWD.out _ HU3.out).mono ?_
          rintro e u4 ⟨v4, rfl, h4, hbu4⟩
          have HU4 := Lib.hid (HU3.out.trans hbu4)
          have HD4 := Lib.hid (h4.sl (T := Ty.rd) (by decide) (fr_sub _ _ _))
          clear h4 hbu4
          go_wp2_with fail
          refine (HRD.out _ HU4.out).mono ?_
          rintro e u5 ⟨v5, rfl, h5, hbu5⟩
          have HU5 := Lib.hid (HU4.out.trans hbu5)
          have h55 := ref_sameReady u5 (HD4.out.mono hbu5.sub) (h5.sl (T := Ty.rd) (by decide) HU5.out.sub)
          rw [decide_eq_true rfl] at h55
          have HH5 := Lib.hid h55
          clear h5 hbu5 h55
          go_wp2_with fail
          refine HH5.out.mono ?_
          rintro e u6 ⟨rfl, hbu6⟩
          go_wp2
          go_ret
          exact ⟨rfl, HU5.out.trans hbu6⟩
        · skip
          intro K HK'
          have HK := Lib.hid HK'
          clear HK'
          skip
          try simp only [List.getElem_toArray, List.getElem_cons_succ, List.getElem_cons_zero]
          go_simp
          refine HK.out _ _ ⟨fun _ => HS.out _ ((Gwa.alloc _).alloc _), ?_⟩
          clear HK K
          try simp only [Act.put, List.getElem_toArray, List.getElem_cons_succ, List.getElem_cons_zero, List.setIfInBounds_toArray, List.set_cons_zero, List.set_cons_succ]
          refine but_one (i := 7) (by kernel_rfl) rfl ?_
          intro K HK'
          have HK := Lib.hid HK'
          clear HK'
          skip
          try simp only [List.getElem_toArray, List.getElem_cons_succ, List.getElem_cons_zero]
          go_simp
          go_at_call 38
          refine (HNT.out _ ((Gwa.alloc _).alloc _)).mono ?_
          rintro e wn ⟨vn, rfl, hn, hbwn⟩
          have Gwn := Grow.trans ((Gwa.alloc _).alloc _) hbwn
          have swn := hbwn.size
          try simp only [alloc_size] at swn
          have eLO : wa.heap.size + 1 + 1 = ((wa.alloc (.cells #[.int .i64 r.kind, .int .i64 r.deed, .slice ap r.parts.length cp] 48)).alloc (.cells #[] 48)).heap.size := by (try simp only [alloc_size])
          have HN : Hid (Of Ty.hs (win (wa.heap.size + 1 + 1) wn.heap.size wn) vn (houseR (l ++ [r]))) := Lib.hid (by rw [← note_house, HXE.out, eLO]; exact hn.mono (win_ov _ _))
          clear hn eLO
          refine HK.out _ _ ⟨fun _ => HS.out _ Gwn, ?_⟩
          clear HK K
          try simp only [Act.put, List.getElem_toArray, List.getElem_cons_succ, List.getElem_cons_zero, List.setIfInBounds_toArray, List.set_cons_zero, List.set_cons_succ]
          refine but_one (i := 10) (by kernel_rfl) rfl ?_
          intro K HK'
          have HK := Lib.hid HK'
          clear HK'
          refine wanted_yes (by rfl) ?_
          try simp only [List.getElem_toArray, List.getElem_cons_succ, List.getElem_cons_zero]
          have q8 : ∀ k, (Value.slice (some ⟨wa.heap.size + 1, 0, none⟩) 0 0).ownBlock = some k → k < wa.heap.size + 1 + 1 ∨ wn.heap.size ≤ k := fun k hk => by
            obtain rfl : _ = k := by simpa [Value.ownBlock] using hk
            left; omega
          refine wp_appc (c := w.cell?) (base := w8.heap.size) (v := .slice (some ⟨wa.heap.size + 1, 0, none⟩) 0 0) (l := []) (m := l) ei_rc rfl one_Trc (by decide) (.tmp 28) (.tmp 29) rfl rfl (((OwnC.made0 Ty.rc w.cell? _ w8.heap.size _ (Gwa.alloc _).size (g := wa.heap.size + 1) (by (try simp only [alloc_size])))).grow hbwn) rfl (HSRC.out _ (HG8.out.trans Gwn)) (by have := HL.out; simp; omega) Gwn.size ?_
          intro a10 c10 w10 ho10 hg10 hb10
          try simp only [List.length_nil, Nat.zero_add, List.nil_append] at ho10 hb10 ⊢
          have G10 := grow_by (w0 := w8) Gwn hg10 (own_at (by have := Gwa.size; (try simp only [alloc_size] at this); omega))
          have R10 : Hid (∀ k, (Value.slice a10 l.length c10).ownBlock = some k → k < wa.heap.size + 1 + 1 ∨ wn.heap.size ≤ k) := fun k hk => by
            rcases hb10 with e | ⟨g, e, hg⟩
            · exact q8 k (e ▸ hk)
            · rw [e] at hk; obtain rfl := Option.some.inj hk; exact .inr (Nat.le_trans (Grow.refl wn).size hg)
          have HO10 := Lib.hid ho10
          have s10 := hg10.size
          have B10 : Hid (∀ k, (Value.slice a10 l.length c10).ownBlock = some k → w8.heap.size ≤ k) := Lib.hid (own_new (B := w8.heap.size) Gwn.size hb10 (own_at (by have := Gwa.size; (try simp only [alloc_size] at this); omega)))
          clear ho10 hb10
          refine HK.out _ _ ⟨fun _ => HS.out _ G10, ?_⟩
          clear HK K
          try simp only [Act.put, List.setIfInBounds_toArray, List.set_cons_zero, List.set_cons_succ]
          refine but_one (i := 13) (by kernel_rfl) rfl ?_
          intro K HK'
          have HK := Lib.hid HK'
          clear HK'
          refine wanted_yes (by rfl) ?_
          try simp only [List.getElem_toArray, List.getElem_cons_succ, List.getElem_cons_zero]
          have q12 : ∀ k, (Value.slice a10 l.length c10).ownBlock = some k → k < wa.heap.size + 1 + 1 ∨ wn.heap.size ≤ k := R10.out
          refine wp_appc (c := w.cell?) (base := w8.heap.size) (v := .slice a10 l.length c10) (l := l) (m := [r]) ei_rc rfl one_Trc (by decide) (.tmp 30) (.tmp 32) rfl rfl (HO10.out) rfl (((((Src.of_new (T := Ty.rc) (c := w.cell?) (cs := #[.int .i64 r.kind, .int .i64 r.deed, .slice ap r.parts.length cp]) HR.out _ _ (g := wa.heap.size) (by (try simp only [])))).grow ((Grow.refl _).alloc _)).grow hbwn).kept hg10 (by simp [Value.ownBlock] <;> omega)) (by have := HL.out; simp; omega) G10.size ?_
          intro a13 c13 w13 ho13 hg13 hb13
          try simp only [List.length_cons, List.length_nil, Nat.zero_add] at ho13 hb13 ⊢
          have G13 := grow_by (w0 := w8) G10 hg13 B10.out
          have HN13 : Hid (Of Ty.hs w13.cell? vn (houseR (l ++ [r]))) := Lib.hid ((((HN.out.mono (win_by hg10 q8)).mono (win_by hg13 q12))).mono (win_sub _ _ _))
          have HV13 : Hid (Rcs w13.cell? (.slice a13 (l.length + 1) c13) (l ++ [r])) := Lib.hid (ho13.sl (by decide) (HG8.out.trans G13).sub)
          clear ho13 hg13 hb13 HN
          refine HK.out _ _ ⟨fun _ => HS.out _ G13, ?_⟩
          clear HK K
          try simp only [Act.put, List.setIfInBounds_toArray, List.set_cons_zero, List.set_cons_succ]
          refine but_one (i := 14) (by kernel_rfl) rfl ?_
          intro K HK'
          have HK := Lib.hid HK'
          clear HK'
          skip
          try simp only [List.getElem_toArray, List.getElem_cons_succ, List.getElem_cons_zero]
          go_simp
          go_at_call 29
          refine (HRH.out _ _ HV13.out).mono ?_
          rintro e wh ⟨vh, rfl, hh, hbwh⟩
          have Gwh := Grow.trans G13 hbwh
          have swh := hbwh.size
          try simp only [alloc_size] at swh
          have HH := Lib.hid hh
          clear hh
          refine HK.out _ _ ⟨fun _ => HS.out _ Gwh, ?_⟩
          clear HK K
          try simp only [Act.put, List.getElem_toArray, List.getElem_cons_succ, List.getElem_cons_zero, List.setIfInBounds_toArray, List.set_cons_zero, List.set_cons_succ]
          refine but_one (i := 15) (by kernel_rfl) rfl ?_
          intro K HK'
          have HK := Lib.hid HK'
          clear HK'
          skip
          try simp only [List.getElem_toArray, List.getElem_cons_succ, List.getElem_cons_zero]
          go_simp
          go_at_call 37
          refine (HSE.out _ _ _ (HN13.out.mono hbwh.sub) HH.out).mono ?_
          rintro e we ⟨rfl, hbwe⟩
          have Gwe := Grow.trans Gwh hbwe
          have swe := hbwe.size
          try simp only [alloc_size] at swe
          refine HK.out _ _ ⟨fun _ => HS.out _ Gwe, ?_⟩
          clear HK K
          try simp only [Act.put, List.getElem_toArray, List.getElem_cons_succ, List.getElem_cons_zero, List.setIfInBounds_toArray, List.set_cons_zero, List.set_cons_succ]
          refine but_one (i := 16) (by kernel_rfl) rfl ?_
          intro K HK'
          have HK := Lib.hid HK'
          clear HK'
          skip
          try simp only [List.getElem_toArray, List.getElem_cons_succ, List.getElem_cons_zero]
          go_simp
          refine HK.out _ _ ⟨fun _ => HS.out _ Gwe, ?_⟩
          clear HK K
          try simp only [Act.put, List.getElem_toArray, List.getElem_cons_succ, List.getElem_cons_zero, List.setIfInBounds_toArray, List.set_cons_zero, List.set_cons_succ]
          refine but_one (i := 17) (by kernel_rfl) rfl ?_
          intro K HK'
          have HK := Lib.hid HK'
          clear HK'
          skip
          try simp only [List.getElem_toArray, List.getElem_cons_succ, List.getElem_cons_zero]
          go_simp
          refine HK.out _ _ ⟨fun _ => HS.out _ Gwe, ?_⟩
          clear HK K
          try simp only [Act.put, List.getElem_toArray, List.getElem_cons_succ, List.getElem_cons_zero, List.setIfInBounds_toArray, List.set_cons_zero, List.set_cons_succ]
          refine but_one (i := 18) (by kernel_rfl) rfl ?_
          intro K HK'
          have HK := Lib.hid HK'
          clear HK'
          skip
          try simp only [List.getElem_toArray, List.getElem_cons_succ, List.getElem_cons_zero]
          go_simp
          refine HK.out _ _ ⟨fun _ => HS.out _ Gwe, ?_⟩
          clear HK K
          try simp only [Act.put, List.getElem_toArray, List.getElem_cons_succ, List.getElem_cons_zero, List.setIfInBounds_toArray, List.set_cons_zero, List.set_cons_succ]
          refine but_take (i := 19) (v := ?_) 26 rfl (by kernel_rfl) (by kernel_rfl) (by kernel_rfl) (by kernel_rfl) (by kernel_rfl) (fun _ _ _ h => h) (HS.out _ Gwe) (Or.inl ⟨by rfl, ?_⟩) ?_
          rotate_left
          · (intro w' hSw; (try dsimp only at hSw); obtain ⟨hs0, hs1, hs2, hs3, hs4, hs5, hs6, hs7, hs8, hs9, hs10, hs11, hs12, hs13, hs14, hs15, hs16⟩ := hSw; go_simp <;> with_reducible rfl)
          try simp only [Act.put, List.getElem_toArray, List.getElem_cons_succ, List.getElem_cons_zero, List.setIfInBounds_toArray, List.set_cons_zero, List.set_cons_succ]
          refine but_take (i := 21) (v := ?_) 26 rfl (by kernel_rfl) (by kernel_rfl) (by kernel_rfl) (by kernel_rfl) (by kernel_rfl) (fun _ _ _ h => h) (HS.out _ Gwe) (Or.inl ⟨by rfl, ?_⟩) ?_
          rotate_left
          · (intro w' hSw; (try dsimp only at hSw); obtain ⟨hs0, hs1, hs2, hs3, hs4, hs5, hs6, hs7, hs8, hs9, hs10, hs11, hs12, hs13, hs14, hs15, hs16⟩ := hSw; go_simp <;> with_reducible rfl)
          try simp only [Act.put, List.getElem_toArray, List.getElem_cons_succ, List.getElem_cons_zero, List.setIfInBounds_toArray, List.set_cons_zero, List.set_cons_succ]
          refine but_one (i := 20) (by kernel_rfl) rfl ?_
          intro K HK'
          have HK := Lib.hid HK'
          clear HK'
          skip
          try simp only [List.getElem_toArray, List.getElem_cons_succ, List.getElem_cons_zero]
          go_simp
          go_at_call 40
          refine (HOW.out _ Gwe).mono ?_
          rintro e wo ⟨vo, rfl, ho, hbwo⟩
          have Gwo := Grow.trans Gwe hbwo
          have swo := hbwo.size
          try simp only [alloc_size] at swo
          have HVO : Hid (Rcs wo.cell? vo l) := Lib.hid (ho.sl (by decide) (fr_sub _ _ _))
          clear ho
          refine HK.out _ _ ⟨fun _ => HS.out _ Gwo, ?_⟩
          clear HK K
          try simp only [Act.put, List.getElem_toArray, List.getElem_cons_succ, List.getElem_cons_zero, List.setIfInBounds_toArray, List.set_cons_zero, List.set_cons_succ]
          refine but_one (i := 22) (by kernel_rfl) rfl ?_
          intro K HK'
          have HK := Lib.hid HK'
          clear HK'
          skip
          try simp only [List.getElem_toArray, List.getElem_cons_succ, List.getElem_cons_zero]
          go_simp
          go_at_call 39
          refine (HSL.out _ _ Gwo HVO.out).mono ?_
          rintro e ws ⟨rfl, hbws⟩
          have Gws := Grow.trans Gwo hbws
          have sws := hbws.size
          try simp only [alloc_size] at sws
          refine HK.out _ _ ⟨fun _ => HS.out _ Gws, ?_⟩
          clear HK K
          try simp only [Act.put, List.getElem_toArray, List.getElem_cons_succ, List.getElem_cons_zero, List.setIfInBounds_toArray, List.set_cons_zero, List.set_cons_succ]
          refine but_one (i := 23) (by kernel_rfl) rfl ?_
          intro K HK'
          have HK := Lib.hid HK'
          clear HK'
          skip
          try simp only [List.getElem_toArray, List.getElem_cons_succ, List.getElem_cons_zero]
          go_simp
          refine HK.out _ _ ⟨fun _ => HS.out _ Gws, ?_⟩
          clear HK K
          try simp only [Act.put, List.getElem_toArray, List.getElem_cons_succ, List.getElem_cons_zero, List.setIfInBounds_toArray, List.set_cons_zero, List.set_cons_succ]
          refine but_one (i := 24) (by kernel_rfl) rfl ?_
          intro K HK'
          have HK := Lib.hid HK'
          clear HK'
          skip
          try simp only [List.getElem_toArray, List.getElem_cons_succ, List.getElem_cons_zero]
          go_simp
          refine HK.out _ _ ⟨fun h => absurd rfl h, ?_⟩
          clear HK K
          try simp only [Act.put, List.getElem_toArray, List.getElem_cons_succ, List.getElem_cons_zero, List.setIfInBounds_toArray, List.set_cons_zero, List.set_cons_succ]
          refine but_done (by kernel_rfl) ?_
          have HGE : Hid (Grow w ws) := Lib.hid (HG8.out.trans Gws)
          go_wp2_with fail
          refine (HWH.out _ HGE.out).mono ?_
          rintro e u1 ⟨v1, rfl, h1, hbu1⟩
          have HH1 := Lib.hid (h1.mono (ov_none hbu1))
          have HU1 := Lib.hid (HGE.out.trans hbu1)
          clear h1 hbu1
          go_wp2_with fail
          refine (HREH.out _ HU1.out).mono ?_
          rintro e u2 ⟨v2, rfl, h2, hbu2⟩
          have HU2 := Lib.hid (HU1.out.trans hbu2)
          have h22 := ref_sameHead u2 (HH1.out.mono hbu2.sub) (h2.mono (ov_sub HU1.out.sub hbu2))
          rw [decide_eq_true rfl] at h22
          have HH2 := Lib.hid h22
          clear h2 hbu2 h22
          go_wp2_with fail
          refine HH2.out.mono ?_
          rintro e u3 ⟨rfl, hbu3⟩
          have HU3 := Lib.hid (HU2.out.trans hbu3)
          clear hbu3
          go_wp2_with fail
          refine (HWD.out _ HU3.out).mono ?_
          rintro e u4 ⟨v4, rfl, h4, hbu4⟩
          have HU4 := Lib.hid (HU3.out.trans hbu4)
          have HD4 := Lib.hid (h4.sl (T := Ty.rd) (by decide) (fr_sub _ _ _))
          clear h4 hbu4
          go_wp2_with fail
          refine (HRD.out _ HU4.out).mono ?_
          rintro e u5 ⟨v5, rfl, h5, hbu5⟩
          have HU5 := Lib.hid (HU4.out.trans hbu5)
          have h55 := ref_sameReady u5 (HD4.out.mono hbu5.sub) (h5.sl (T := Ty.rd) (by decide) HU5.out.sub)
          rw [decide_eq_true rfl] at h55
          have HH5 := Lib.hid h55
          clear h5 hbu5 h55
          go_wp2_with fail
          refine HH5.out.mono ?_
          rintro e u6 ⟨rfl, hbu6⟩
          go_wp2
          go_ret
          exact ⟨rfl, HU5.out.trans hbu6⟩
end Go.Proofs.Ytgbhpghgohggcaa

/- From the form's reading of an argument to plain readings of cells. -/
namespace Go.Proofs.Ytgbhpghgohggcaa
open Go.RowKit Go.ChangeShapes Go.WideShapes Go.ChangeAt

def Reads {α : Type} (P : Program) (t : TypeId) (T : Ty α) : Prop := ∀ (H : Type) (enc : TypeId × Value → H) (W : World) (fuel : Nat) (cs : List Value) (x : DataW H × List MemPlace),
  DataW.trod enc P W 0 (fun _ => true) true fuel t cs = some x → ∃ y, T.R W.cell? cs y
theorem reads_int {P : Program} {t : TypeId} (ht : P.underlying t = some (.int .i64)) : Reads P t Ty.int := by
  intro H enc W fuel cs x h
  obtain ⟨n, rfl, _, hw⟩ := DataW.trod_int ht h
  exact ⟨n, rfl, hw⟩
theorem reads_sl {α : Type} {P : Program} {t e : TypeId} {T : Ty α} (hR : Reads P e T) (ht : P.underlying t = some (.slice e)) (hc : P.cellsOf e = T.size) (h0 : 0 < T.size) : Reads P t T.sl := by
  intro H enc W fuel cs x h
  rcases Deep.open_slice ht h with ⟨rfl, _⟩ | ⟨a, len, cap, m, n, D, Pl, rfl, _, hl, hm, hmm, hxe, hx⟩
  · exact ⟨[], _, rfl, none, 0, rfl, Nat.le_refl _, Nat.zero_le _, fun _ => rfl, fun i x e => by simp at e⟩
  · simp only [if_true] at hmm
    subst m
    have h2 : ∀ i, i < len → ∃ (p : List Value × α), T.R W.cell? p.1 p.2 ∧ W.cells? 0 (a.add (i * T.size)) T.size = some p.1 := by
      intro i hi
      obtain ⟨cs', h1, h2⟩ := hx i (by omega)
      obtain ⟨y, hy⟩ := hR H enc W n cs' _ h2
      rw [hc] at h1
      exact ⟨(cs', y), hy, h1⟩
    have h3 : ∃ l : List α, l.length = len ∧ ∀ i y, l[i]? = some y → ∃ cs', T.R W.cell? cs' y ∧ W.cells? 0 (a.add (i * T.size)) T.size = some cs' := by
      clear hx hl h hxe
      induction len with
      | zero => exact ⟨[], rfl, by simp⟩
      | succ len ih =>
        obtain ⟨l, hl, hi⟩ := ih (by intro i hi; exact h2 i (by omega))
        obtain ⟨⟨cs', y⟩, hy, h1⟩ := h2 len (by omega)
        refine ⟨l ++ [y], by simp [hl], fun i z hz => ?_⟩
        rcases Nat.lt_or_ge i l.length with hlt | hge
        · rw [List.getElem?_append_left hlt] at hz; exact hi i z hz
        · have hb := (List.getElem?_eq_some_iff.1 hz).1
          simp at hb
          obtain rfl : i = len := by omega
          rw [List.getElem?_append_right hge, hl] at hz
          simp at hz
          subst hz
          exact ⟨cs', hy, h1⟩
    obtain ⟨l, hlen, hl2⟩ := h3
    refine ⟨l, _, rfl, some a, cap, by rw [hlen], by omega, hm, by simp, fun i y hy => ?_⟩
    obtain ⟨cs', hR', hcs⟩ := hl2 i y hy
    obtain ⟨_, hlen', hat⟩ := World.cells?_some hcs
    have hpos : 0 < l.length := by have := (List.getElem?_eq_some_iff.1 hy).1; omega
    obtain ⟨cs0, _, hcs0⟩ := hl2 0 l[0] (List.getElem?_eq_getElem hpos)
    obtain ⟨_, hlen0, hat0⟩ := World.cells?_some hcs0
    have hfirst := hat0 0 h0
    rw [List.getElem?_eq_getElem (by omega)] at hfirst
    have hsp := World.cell?_spot hfirst
    obtain ⟨b, o, s⟩ := a
    have hs : s = none := by simpa [Addr.add] using hsp
    subst hs
    refine ⟨b, o, cs', rfl, hR', fun j u hu => ?_⟩
    have hj : j < T.size := by rw [← hlen']; exact (List.getElem?_eq_some_iff.1 hu).1
    have := hat j hj
    rw [Addr.add_lit, Addr.add_lit, hu] at this
    exact this
/-- a struct's fields: type, place, cells -/
def structOf (P : Program) (t : TypeId) : Option (List (TypeId × Nat × Nat)) :=
  match P.underlying t with
  | some (.struct fs) => some (fs.toList.map fun f => (f.type, f.offset, P.cellsOf f.type))
  | _ => none
theorem struct_fields {P : Program} {t : TypeId} {fs' : List (TypeId × Nat × Nat)} (hs : structOf P t = some fs') {H : Type} {enc : TypeId × Value → H} {W : World} {fuel : Nat} {cs : List Value} {x : DataW H × List MemPlace}
    (h : DataW.trod enc P W 0 (fun _ => true) true fuel t cs = some x) : cs.length = P.cellsOf t ∧ ∀ (i : Nat) (f : TypeId × Nat × Nat), fs'[i]? = some f → ∃ n y, DataW.trod enc P W 0 (fun _ => true) true n f.1 ((cs.drop f.2.1).take f.2.2) = some y := by
  unfold structOf at hs
  split at hs
  · rename_i fs hu
    obtain rfl := Option.some.inj hs
    obtain ⟨xs, n, _, _, hl, hlen, hf⟩ := DataW.trod_struct hu h
    refine ⟨hl, fun i f hi => ?_⟩
    rw [List.getElem?_map] at hi
    cases hfi : fs.toList[i]? with
    | none => rw [hfi] at hi; cases hi
    | some fd =>
      rw [hfi] at hi
      obtain rfl := Option.some.inj hi
      have hfi' : fs[i]? = some fd := by simpa using hfi
      have hlt : i < xs.length := by rw [hlen]; exact (Array.getElem?_eq_some_iff.1 hfi').1
      have := hf i fd hfi'
      rw [List.getElem?_eq_getElem hlt] at this
      exact ⟨n, _, this⟩
  · cases hs
theorem reads_pt : Reads Try.prog 32 Ty.pt := by
  intro H enc W fuel cs x h
  obtain ⟨hl, hf⟩ := struct_fields (fs' := [(3, 0, 1), (3, 1, 1), (3, 2, 1)]) (by kernel_rfl) h
  rw [show (Try.prog).cellsOf 32 = 3 by kernel_rfl] at hl
  match cs, hl with
  | [a, b, c], _ =>
    obtain ⟨_, _, h0⟩ := hf 0 _ rfl
    obtain ⟨_, _, h1⟩ := hf 1 _ rfl
    obtain ⟨_, _, h2⟩ := hf 2 _ rfl
    obtain ⟨x0, e0, w0⟩ := reads_int (by kernel_rfl) _ _ _ _ _ _ h0
    obtain ⟨x1, e1, w1⟩ := reads_int (by kernel_rfl) _ _ _ _ _ _ h1
    obtain ⟨x2, e2, w2⟩ := reads_int (by kernel_rfl) _ _ _ _ _ _ h2
    refine ⟨⟨x0, x1, x2⟩, ?_, w0, w1, w2⟩
    simp at e0 e1 e2
    subst e0 e1 e2
    rfl
theorem reads_pts : Reads Try.prog 23 Ty.pts := reads_sl reads_pt (by kernel_rfl) (by kernel_rfl) (by decide)
theorem reads_ints : Reads Try.prog 27 (Ty.sl Ty.int) := reads_sl (reads_int (t := 3) (by kernel_rfl)) (by kernel_rfl) (by kernel_rfl) (by decide)
theorem reads_rc : Reads Try.prog 48 Ty.rc := by
  intro H enc W fuel cs x h
  obtain ⟨hl, hf⟩ := struct_fields (fs' := [(3, 0, 1), (3, 1, 1), (23, 2, 1)]) (by kernel_rfl) h
  rw [show (Try.prog).cellsOf 48 = 3 by kernel_rfl] at hl
  match cs, hl with
  | [a, b, c], _ =>
    obtain ⟨_, _, h0⟩ := hf 0 _ rfl
    obtain ⟨_, _, h1⟩ := hf 1 _ rfl
    obtain ⟨_, _, h2⟩ := hf 2 _ rfl
    obtain ⟨x0, e0, w0⟩ := reads_int (by kernel_rfl) _ _ _ _ _ _ h0
    obtain ⟨x1, e1, w1⟩ := reads_int (by kernel_rfl) _ _ _ _ _ _ h1
    obtain ⟨x2, v2, e2, w2⟩ := reads_pts _ _ _ _ _ _ h2
    refine ⟨⟨x0, x1, x2⟩, v2, ?_, w0, w1, w2⟩
    simp at e0 e1 e2
    subst e0 e1 e2
    rfl
theorem reads_rcs : Reads Try.prog 22 (Ty.sl Ty.rc) := reads_sl reads_rc (by kernel_rfl) (by kernel_rfl) (by decide)
theorem reads_rd : Reads Try.prog 45 Ty.rd := by
  intro H enc W fuel cs x h
  obtain ⟨hl, hf⟩ := struct_fields (fs' := [(3, 0, 1), (23, 1, 1)]) (by kernel_rfl) h
  rw [show (Try.prog).cellsOf 45 = 2 by kernel_rfl] at hl
  match cs, hl with
  | [a, b], _ =>
    obtain ⟨_, _, h0⟩ := hf 0 _ rfl
    obtain ⟨_, _, h1⟩ := hf 1 _ rfl
    obtain ⟨x0, e0, w0⟩ := reads_int (by kernel_rfl) _ _ _ _ _ _ h0
    obtain ⟨x2, v2, e2, w2⟩ := reads_pts _ _ _ _ _ _ h1
    refine ⟨⟨x0, x2⟩, v2, ?_, w0, w2⟩
    simp at e0 e2
    subst e0 e2
    rfl
theorem reads_ms : Reads Try.prog 39 Ty.ms := by
  intro H enc W fuel cs x h
  obtain ⟨hl, hf⟩ := struct_fields (fs' := [(3, 0, 1), (3, 1, 1), (3, 2, 1), (23, 3, 1)]) (by kernel_rfl) h
  rw [show (Try.prog).cellsOf 39 = 4 by kernel_rfl] at hl
  match cs, hl with
  | [a, b, c, d], _ =>
    obtain ⟨_, _, h0⟩ := hf 0 _ rfl
    obtain ⟨_, _, h1⟩ := hf 1 _ rfl
    obtain ⟨_, _, h2⟩ := hf 2 _ rfl
    obtain ⟨_, _, h3⟩ := hf 3 _ rfl
    obtain ⟨x0, e0, w0⟩ := reads_int (by kernel_rfl) _ _ _ _ _ _ h0
    obtain ⟨x1, e1, w1⟩ := reads_int (by kernel_rfl) _ _ _ _ _ _ h1
    obtain ⟨x2, e2, w2⟩ := reads_int (by kernel_rfl) _ _ _ _ _ _ h2
    obtain ⟨x3, v3, e3, w3⟩ := reads_pts _ _ _ _ _ _ h3
    refine ⟨⟨x0, x1, x2, x3⟩, v3, ?_, w0, w1, w2, w3⟩
    simp at e0 e1 e2 e3
    subst e0 e1 e2 e3
    rfl
theorem reads_mss : Reads Try.prog 36 (Ty.sl Ty.ms) := reads_sl reads_ms (by kernel_rfl) (by kernel_rfl) (by decide)
/-- an argument that is a slice -/
theorem arg_sl {α : Type} {P : Program} {t e : TypeId} {T : Ty α} (hR : Reads P t T.sl) (ht : P.underlying t = some (.slice e)) {H : Type} {enc : TypeId × Value → H} {W : World} {r : Reach} {b : Nat} {v : Value} {d : DataW H} {p : List MemPlace}
    (hval : Value.okWide P W r b t v) (h : DataW.Trod enc P W 0 (fun _ => true) true t v d p) : ∃ l, Sl T W.cell? v l := by
  obtain ⟨a, len, cap, rfl⟩ := okWide_slice ht hval
  obtain ⟨fuel, hf⟩ := h
  obtain ⟨l, v, e, hv⟩ := hR _ _ _ _ _ _ hf
  simp [Value.cells] at e
  subst e
  exact ⟨l, hv⟩
theorem own : ownKnob (Try.prog).godebug = none := by kernel_rfl
theorem laidOut : laidOutB Try.prog = true := by kernel_rfl
end Go.Proofs.Ytgbhpghgohggcaa

/- More readings of the form's arguments; how large they are. -/
namespace Go.Proofs.Ytgbhpghgohggcaa
open Go.RowKit Go.ChangeShapes Go.WideShapes Go.ChangeAt
theorem sl_len {α : Type} {T : Ty α} {c : CM} {a : Option Addr} {n cap : Nat} {l : List α} (h : Sl T c (.slice a n cap) l) : l.length = n := by
  obtain ⟨a', cap', he, _⟩ := h
  simp only [Value.slice.injEq] at he
  exact he.2.1.symm
/-- an argument that is a slice: it takes no more bytes than a process has -/
theorem arg_size {α : Type} {P : Program} {t e : TypeId} {T : Ty α} {k : Nat} (ht : P.underlying t = some (.slice e)) (hb : P.bytesOf e = k) {H : Type} {enc : TypeId × Value → H} {W : World} {r : Reach} {b : Nat} {v : Value} {d : DataW H} {p : List MemPlace} {ts : List TypeId} {ds : List (DataW H)} {j : Nat}
    (hsz : (DataW.weightsEach P ts ds).all (· ≤ reachBytes) = true) (hj : ts[j]? = some t) (hd : ds[j]? = some d)
    (hval : Value.okWide P W r b t v) (h : DataW.Trod enc P W 0 (fun _ => true) true t v d p) {l : List α} (hl : Sl T W.cell? v l) : l.length * k ≤ 140737488351232 := by
  obtain ⟨a, len, cap, rfl⟩ := okWide_slice ht hval
  obtain ⟨fuel, hf⟩ := h
  have hll := sl_len hl
  rcases Deep.open_slice ht hf with ⟨he, _⟩ | ⟨a', len', cap', m, n, D, Pl, he, _, hlc, _, hmm, hxe, _⟩
  · simp [Value.cells] at he
    rw [hll, he.2.1]; simp
  · simp [Value.cells] at he
    obtain ⟨_, rfl, rfl⟩ := he
    obtain rfl : d = .slice ((List.range len).map D) ((List.range (m - len)).map fun j => D (len + j)) := by simpa using congrArg Prod.fst hxe
    have := sized_slice hsz hj hd ht
    rw [hb, List.length_map, List.length_range] at this
    rw [hll]
    have h2 : len * k ≤ (len + ((List.range (m - len)).map fun j => D (len + j)).length) * k := Nat.mul_le_mul_right _ (Nat.le_add_right _ _)
    have h3 : reachBytes = 140737488351232 := rfl
    omega
/-- an argument that is a struct by value -/
theorem arg_of {α : Type} {P : Program} {t : TypeId} {fs : Array Field} {T : Ty α} (hR : Reads P t T) (ht : P.underlying t = some (.struct fs)) {H : Type} {enc : TypeId × Value → H} {W : World} {r : Reach} {b : Nat} {v : Value} {d : DataW H} {p : List MemPlace}
    (hval : Value.okWide P W r b t v) (h : DataW.Trod enc P W 0 (fun _ => true) true t v d p) : ∃ x, Of T W.cell? v x := by
  obtain ⟨cs, rfl, _⟩ := okWide_struct ht hval
  obtain ⟨fuel, hf⟩ := h
  obtain ⟨x, hx⟩ := hR _ _ _ _ _ _ hf
  exact ⟨x, cs.toList, rfl, hx⟩
theorem reads_st : Reads Try.prog 164 Ty.st := by
  intro H enc W fuel cs x h
  obtain ⟨hl, hf⟩ := struct_fields (fs' := [(3, 0, 1), (3, 1, 1), (23, 2, 1)]) (by kernel_rfl) h
  rw [show (Try.prog).cellsOf 164 = 3 by kernel_rfl] at hl
  match cs, hl with
  | [a, b, c], _ =>
    obtain ⟨_, _, h0⟩ := hf 0 _ rfl
    obtain ⟨_, _, h1⟩ := hf 1 _ rfl
    obtain ⟨_, _, h2⟩ := hf 2 _ rfl
    obtain ⟨x0, e0, w0⟩ := reads_int (by kernel_rfl) _ _ _ _ _ _ h0
    obtain ⟨x1, e1, w1⟩ := reads_int (by kernel_rfl) _ _ _ _ _ _ h1
    obtain ⟨x2, v2, e2, w2⟩ := reads_pts _ _ _ _ _ _ h2
    refine ⟨⟨x0, x1, x2⟩, v2, ?_, w0, w1, w2⟩
    simp at e0 e1 e2
    subst e0 e1 e2
    rfl
theorem reads_sts : Reads Try.prog 90 (Ty.sl Ty.st) := reads_sl reads_st (by kernel_rfl) (by kernel_rfl) (by decide)
theorem reads_rds : Reads Try.prog 26 (Ty.sl Ty.rd) := reads_sl reads_rd (by kernel_rfl) (by kernel_rfl) (by decide)
theorem reads_byte : Reads Try.prog 5 Ty.byte := by
  intro H enc W fuel cs x h
  obtain ⟨n, rfl, _, hw⟩ := DataW.trod_int (k := .u8) (by kernel_rfl) h
  have hw2 : 0 ≤ n ∧ n < 256 := by
    have h2 : (Lit.int .u8 n).wf = true := hw
    have h3 : IntKind.u8.min ≤ n ∧ n ≤ IntKind.u8.max := by simpa [Lit.wf] using h2
    have h4 : IntKind.u8.min = 0 := by decide
    have h5 : IntKind.u8.max = 255 := by decide
    omega
  refine ⟨UInt8.ofNat n.toNat, ?_⟩
  show [Value.int .u8 n] = byteCell _
  unfold byteCell
  have : ((UInt8.ofNat n.toNat).toNat : Int) = n := by
    rw [UInt8.toNat_ofNat']
    omega
  rw [this]
theorem reads_bts : Reads Try.prog 69 Ty.bts := reads_sl reads_byte (by kernel_rfl) (by kernel_rfl) (by decide)
theorem reads_nets : Reads Try.prog 79 (Ty.sl Ty.bts) := reads_sl reads_bts (by kernel_rfl) (by kernel_rfl) (by decide)
end Go.Proofs.Ytgbhpghgohggcaa
