/- Walks: in, ready, Vote, note of the document's answer to chapter 7. -/
import Derived.Test.YtgbhpghgohggcaaAux1
import Derived.Test.YtgbhpghgohggcaaS1
import Derived.Test.YtgbhpghgohggcaaA6
namespace Go.Proofs.Ytgbhpghgohggcaa
open Go.RowKit
theorem in_take {l : List Int} {k : Nat} {n : Int} (hlt : k < l.length) (h : ∀ x ∈ l.take k, x ≠ n) (hne : l[k] ≠ n) : ∀ x ∈ l.take (k + 1), x ≠ n := by
  intro x hx
  rw [List.take_succ_eq_append_getElem hlt] at hx
  rcases List.mem_append.1 hx with h' | h'
  · exact h x h'
  · simp at h'; subst h'; exact hne
set_option maxHeartbeats 400000 in
theorem ref_in {v : Value} {l : List Int} {n : Int} (w : World) (hv : Ints w.cell? v l) :
    Calls Try.prog 120 #[v, .int .i64 n] w fun e w' => e = .returned (.bool (decide (n ∈ l))) ∧ Grow w w' := by
  obtain ⟨a, cap, rfl, h1, h2, -, hel⟩ := hv
  unfold maxLen at h2
  go_enter Try.func120, Try.ntmps120
  go_wp2
  go_loopw [6, 9] (fun _ i wr => ∃ k : Nat, k ≤ l.length ∧ i = .int .i64 k ∧ Grow w wr ∧ ∀ x ∈ l.take k, x ≠ n) (fun _ i _ => l.length - (intOf i).toNat)
  case atStart => exact ⟨0, by omega, rfl, (by repeat (first | with_reducible assumption | with_reducible exact Grow.refl _ | with_reducible apply Grow.drewN | with_reducible apply Grow.drew | with_reducible apply Grow.alloc | (refine Grow.setCell ?_ (by simp; done) _))), by simp⟩
  case round =>
    obtain ⟨k, hk', rfl, hb, hE⟩ := hrel
    have HE := Lib.hid hE
    clear hE
    by_cases hlt : k < l.length
    · obtain ⟨b, o, rfl, c0, -⟩ := intAt hel k hlt
      replace c0 := hb.sub _ _ c0
      have H1 : Hid (l[k] = n → n ∈ l) := fun h => h ▸ List.getElem_mem _
      have H2 : Hid (l[k] ≠ n → ∀ x ∈ l.take (k + 1), x ≠ n) := fun h => in_take hlt HE.out h
      clear hel
      generalize l[k] = x at *
      cases ht : (x == n)
      · have H3 := Lib.hid (H2.out (by simpa using ht))
        clear H1 H2
        go_wp2
        go_roundw
        case rel => exact ⟨k + 1, by omega, by go_num, (by repeat (first | with_reducible assumption | with_reducible exact Grow.refl _ | with_reducible apply Grow.drewN | with_reducible apply Grow.drew | with_reducible apply Grow.alloc | (refine Grow.setCell ?_ (by simp; done) _))), H3.out⟩
        case measure => simp [intOf]; omega
      · have H3 := Lib.hid (H1.out (by simpa using ht))
        clear H1 H2
        go_wp2
        go_ret
        exact ⟨ret_bool (by simp [H3.out]), (by repeat (first | with_reducible assumption | with_reducible exact Grow.refl _ | with_reducible apply Grow.drewN | with_reducible apply Grow.drew | with_reducible apply Grow.alloc | (refine Grow.setCell ?_ (by simp; done) _)))⟩
    · clear hel
      go_wp2
      go_ret
      refine ⟨ret_bool ?_, hb⟩
      have h := HE.out
      rw [List.take_of_length_le (by omega)] at h
      symm
      rw [decide_eq_false_iff_not]
      exact fun hm => h n hm rfl
set_option maxHeartbeats 400000 in
theorem ref_ready {v : Value} {h : Hs} {d : Int} (w : World) (hv : Of Ty.hs w.cell? v h) :
    Calls Try.prog 118 #[v, .int .i64 d] w fun e w' => e = .returned (.bool (readyE h.ready d)) ∧ Grow w w' := by
  obtain ⟨cs, rfl, vl, vr, vd, rfl, hl, -, -, -, -, hr, hd⟩ := hv
  obtain ⟨al, cl, rfl, -⟩ := id hl
  obtain ⟨ad, cd, rfl, -⟩ := id hd
  obtain ⟨a, cap, rfl, h1, h2, -, hel⟩ := hr
  unfold maxLen at h2
  go_enter Try.func118, Try.ntmps118
  go_wp2
  go_loopw [6, 10] (fun _ i wr => ∃ k : Nat, k ≤ h.ready.length ∧ i = .int .i64 k ∧ Grow w wr ∧ ∀ r ∈ h.ready.take k, isD d r = false) (fun _ i _ => h.ready.length - (intOf i).toNat)
  case atStart => exact ⟨0, by omega, rfl, (by repeat (first | with_reducible assumption | with_reducible exact Grow.refl _ | with_reducible apply Grow.drewN | with_reducible apply Grow.drew | with_reducible apply Grow.alloc | (refine Grow.setCell ?_ (by simp; done) _))), by simp⟩
  case round =>
    obtain ⟨k, hk', rfl, hb, hE⟩ := hrel
    have HE := Lib.hid hE
    clear hE
    by_cases hlt : k < h.ready.length
    · obtain ⟨b, o, vp, rfl, c0, c1, -, hP⟩ := Rds.at_ hel k hlt
      obtain ⟨ap, cp, rfl, -⟩ := id hP
      replace c0 := hb.sub _ _ c0
      replace c1 := hb.sub _ _ c1
      have H1 : Hid (isD d h.ready[k] = true → readyE h.ready d = true) := fun h2 => List.any_eq_true.2 ⟨_, List.getElem_mem _, h2⟩
      have H2 : Hid (isD d h.ready[k] = false → ∀ r ∈ h.ready.take (k + 1), isD d r = false) := fun h2 r hr => by
        rw [List.take_succ_eq_append_getElem hlt] at hr
        rcases List.mem_append.1 hr with h' | h'
        · exact HE.out r h'
        · simp at h'; subst h'; exact h2
      clear hel hP
      generalize h.ready[k] = r at *
      cases ht : (r.deed == d)
      · have H3 := Lib.hid (H2.out ht)
        clear H1 H2
        go_wp2
        go_roundw
        case rel => exact ⟨k + 1, by omega, by go_num, (by repeat (first | with_reducible assumption | with_reducible exact Grow.refl _ | with_reducible apply Grow.drewN | with_reducible apply Grow.drew | with_reducible apply Grow.alloc | (refine Grow.setCell ?_ (by simp; done) _))), H3.out⟩
        case measure => simp [intOf]; omega
      · have H3 := Lib.hid (H1.out ht)
        clear H1 H2
        go_wp2
        go_ret
        exact ⟨ret_bool H3.out.symm, (by repeat (first | with_reducible assumption | with_reducible exact Grow.refl _ | with_reducible apply Grow.drewN | with_reducible apply Grow.drew | with_reducible apply Grow.alloc | (refine Grow.setCell ?_ (by simp; done) _)))⟩
    · clear hel
      go_wp2
      go_ret
      refine ⟨ret_bool ?_, hb⟩
      have h3 := HE.out
      rw [List.take_of_length_le (by omega)] at h3
      symm
      rw [readyE, List.any_eq_false]
      intro x hx
      rw [h3 x hx]; simp
end Go.Proofs.Ytgbhpghgohggcaa
