/- Plain: what a log's records make, as the program goes through them. -/
import Derived.Test.YtgbhpghgohggcaaW5
namespace Go.Proofs.Ytgbhpghgohggcaa
theorem idx_none {l : List Rd} {d : Int} (h : l.findIdx? (isD d) = none) : l.find? (isD d) = none := by
  rw [List.findIdx?_eq_none_iff] at h
  rw [List.find?_eq_none]
  intro x hx
  rw [h x hx]; simp
theorem idx_some {d : Int} : ∀ {l : List Rd} {i : Nat}, l.findIdx? (isD d) = some i → ∃ hi : i < l.length, l.find? (isD d) = some l[i] ∧ l.eraseP (isD d) = l.eraseIdx i
  | [], i, h => by simp at h
  | x :: l, i, h => by
    rw [List.findIdx?_cons] at h
    by_cases hx : isD d x = true
    · rw [if_pos hx] at h
      obtain rfl : 0 = i := by simpa using h
      exact ⟨by simp, by rw [List.find?_cons_of_pos hx]; rfl, by rw [List.eraseP_cons_of_pos hx]; rfl⟩
    · rw [if_neg hx] at h
      cases hk : l.findIdx? (isD d) with
      | none => rw [hk] at h; simp at h
      | some k =>
        rw [hk] at h
        obtain rfl : k + 1 = i := by simpa using h
        obtain ⟨h1, h2, h3⟩ := idx_some hk
        exact ⟨by simp; omega, by rw [List.find?_cons_of_neg hx, h2]; rfl, by rw [List.eraseP_cons_of_neg hx, h3]; rfl⟩
theorem step_out {h : Hs} {r : Rc} (e : h.ready.find? (isD r.deed) = none) : refStep h r = if r.kind = 1 then { h with ready := h.ready ++ [⟨r.deed, r.parts⟩] } else h := by
  unfold refStep
  rw [in_fold, e]
  by_cases hk : r.kind = 1 <;> simp [hk]
theorem step_in {h : Hs} {r : Rc} {x : Rd} (e : h.ready.find? (isD r.deed) = some x) : refStep h r =
    if r.kind = 2 then { h with sums := doP h.sums x.parts, ready := h.ready.eraseP (isD r.deed), done := h.done ++ [r.deed] }
    else if r.kind = 3 then { h with ready := h.ready.eraseP (isD r.deed) } else h := by
  unfold refStep
  rw [in_fold, e]
  by_cases h2 : r.kind = 2
  · simp [h2]
  · by_cases h3 : r.kind = 3 <;> simp [h2, h3]
/-- one record, where nothing of its deed is ready -/
theorem step_idx_none {h : Hs} {r : Rc} (e : h.ready.findIdx? (isD r.deed) = none) : refStep h r = if r.kind = 1 then { h with ready := h.ready ++ [⟨r.deed, r.parts⟩] } else h := step_out (idx_none e)
/-- one record of a deed that is ready -/
theorem step_idx_some {h : Hs} {r : Rc} {i : Nat} (e : h.ready.findIdx? (isD r.deed) = some i) : ∃ hi : i < h.ready.length, refStep h r =
    if r.kind = 2 then { h with sums := doP h.sums h.ready[i].parts, ready := h.ready.eraseIdx i, done := h.done ++ [r.deed] }
    else if r.kind = 3 then { h with ready := h.ready.eraseIdx i } else h := by
  obtain ⟨hi, h1, h2⟩ := idx_some e
  exact ⟨hi, by rw [step_in h1, h2]⟩
end Go.Proofs.Ytgbhpghgohggcaa
