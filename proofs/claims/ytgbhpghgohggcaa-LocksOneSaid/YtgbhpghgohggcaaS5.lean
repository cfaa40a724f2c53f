/- Plain: HouseTwice's and HouseWord's laws. -/
import Derived.Test.YtgbhpghgohggcaaW4
import Derived.Test.YtgbhpghgohggcaaW5
namespace Go.Proofs.Ytgbhpghgohggcaa
theorem note_done {h : Hs} (hm : Made h) (r : Rc) : (noteE h r).done = (refStep h r).done := by rw [note_step hm]
theorem ready_erase {l : List Rd} {d : Int} (hn : (l.map (·.deed)).Nodup) : readyE (l.eraseP (isD d)) d = false := by
  induction l with
  | nil => rfl
  | cons x l ih =>
    rw [List.map_cons, List.nodup_cons] at hn
    by_cases h : isD d x = true
    · rw [List.eraseP_cons_of_pos h]
      unfold readyE
      rw [List.any_eq_false]
      intro y hy hd
      have h1 : x.deed = d := by simpa [isD] using h
      have h2 : y.deed = d := by simpa [isD] using hd
      exact hn.1 (List.mem_map.2 ⟨y, hy, by rw [h1, h2]⟩)
    · rw [List.eraseP_cons_of_neg h]
      have := ih hn.2
      unfold readyE at this ⊢
      rw [List.any_cons, this]
      simpa using h
theorem ready_other {l : List Rd} {d e : Int} (h : readyE l d = true) (hne : e ≠ d) : readyE (l.eraseP (isD e)) d = true := by
  unfold readyE at h ⊢
  rw [List.any_eq_true] at h ⊢
  obtain ⟨x, hx, hd⟩ := h
  refine ⟨x, ?_, hd⟩
  rw [List.mem_eraseP_of_neg]
  · exact hx
  · have : x.deed = d := by simpa [isD] using hd
    simp [isD, this]; exact fun e' => hne e'.symm
theorem find_ready {l : List Rd} {d : Int} (h : readyE l d = true) : ∃ x, l.find? (isD d) = some x := by
  rw [readyE_find] at h
  exact Option.isSome_iff_exists.1 h
theorem find_unready {l : List Rd} {d : Int} (h : readyE l d = false) : l.find? (isD d) = none := by
  rw [readyE_find] at h
  simpa using h
theorem who_ready {l : List Rd} {d key : Int} (hd : 0 ≤ d) (h : readyE l d = false) : whoE l key ≠ d := by
  rcases who_mem l key with h2 | ⟨y, hy, h2⟩
  · omega
  · intro e
    unfold readyE at h
    rw [List.any_eq_false] at h
    exact h y hy (by simp [isD]; omega)
/-- what a note makes of a house, told by kinds -/
theorem note1 {h : Hs} (hm : Made h) {d : Int} (ps : List Pt) (hr : readyE h.ready d = false) : (noteE h ⟨1, d, ps⟩).ready = h.ready ++ [⟨d, ps⟩] ∧ (noteE h ⟨1, d, ps⟩).done = h.done := by
  rw [note_ready hm, note_done hm, step_ready, step_done]
  simp [find_unready hr]
theorem note2 {h : Hs} (hm : Made h) {d : Int} (hr : readyE h.ready d = true) : (noteE h ⟨2, d, []⟩).ready = h.ready.eraseP (isD d) ∧ (noteE h ⟨2, d, []⟩).done = h.done ++ [d] := by
  obtain ⟨x, hx⟩ := find_ready hr
  rw [note_ready hm, note_done hm, step_ready, step_done]
  simp [hx]
theorem note3 {h : Hs} (hm : Made h) {d : Int} (hr : readyE h.ready d = true) : (noteE h ⟨3, d, []⟩).ready = h.ready.eraseP (isD d) ∧ (noteE h ⟨3, d, []⟩).done = h.done := by
  obtain ⟨x, hx⟩ := find_ready hr
  rw [note_ready hm, note_done hm, step_ready, step_done]
  simp [hx]
theorem twice_law {h : Hs} (hm : Made h) (hf : Fine h.ready) (me : Int) (m : Ms) : hearH (hearH h m) m = hearH h m ∧ (m.kind = 5 ∨ hearM (hearH h m) me m = hearM h me m) := by
  obtain ⟨kind, d, house, ps⟩ := m
  by_cases h1 : kind = 1
  · subst h1
    by_cases hv : voteE h d ps = 0 ∧ readyE h.ready d = false
    · have e : hearH h ⟨1, d, house, ps⟩ = noteE h ⟨1, d, ps⟩ := by unfold hearH; rw [if_pos rfl, if_pos hv]
      have hnd : d ∉ h.done := by
        intro hd
        have := hv.1
        unfold voteE at this
        rw [if_pos hd] at this
        cases this
      obtain ⟨e1, e2⟩ := note1 hm ps hv.2
      have er : readyE (noteE h ⟨1, d, ps⟩).ready d = true := by rw [e1]; simp [readyE, isD]
      have ev : voteE (noteE h ⟨1, d, ps⟩) d ps = 0 := by
        unfold voteE
        rw [e2, if_neg hnd, if_pos er]
      refine ⟨?_, .inr ?_⟩
      · rw [e]
        unfold hearH
        rw [if_pos rfl, if_neg (by show ¬ (_ ∧ readyE (noteE h ⟨1, d, ps⟩).ready d = false); rw [er]; simp)]
      · rw [e]
        unfold hearM
        simp only [if_true]
        rw [ev, hv.1]
    · have e : hearH h ⟨1, d, house, ps⟩ = h := by unfold hearH; rw [if_pos rfl, if_neg hv]
      rw [e, e]
      exact ⟨rfl, .inr rfl⟩
  by_cases h4 : kind = 4
  · subst h4
    by_cases hr : readyE h.ready d = true
    · have e : hearH h ⟨4, d, house, ps⟩ = noteE h ⟨2, d, []⟩ := by unfold hearH; simp [hr]
      obtain ⟨e1, e2⟩ := note2 hm hr
      have er : readyE (noteE h ⟨2, d, []⟩).ready d = false := by rw [e1]; exact ready_erase hf.nodup
      have e' : hearH (noteE h ⟨2, d, []⟩) ⟨4, d, house, ps⟩ = noteE h ⟨2, d, []⟩ := by
        unfold hearH
        simp [er]
      rw [e, e']
      refine ⟨rfl, .inr ?_⟩
      unfold hearM
      simp [e', e]
    · have e : hearH h ⟨4, d, house, ps⟩ = h := by unfold hearH; simp [hr]
      rw [e, e]
      exact ⟨rfl, .inr rfl⟩
  by_cases h5 : kind = 5
  · subst h5
    by_cases hr : readyE h.ready d = true
    · have e : hearH h ⟨5, d, house, ps⟩ = noteE h ⟨3, d, []⟩ := by unfold hearH; simp [hr]
      obtain ⟨e1, e2⟩ := note3 hm hr
      have er : readyE (noteE h ⟨3, d, []⟩).ready d = false := by rw [e1]; exact ready_erase hf.nodup
      rw [e]
      refine ⟨?_, .inl rfl⟩
      unfold hearH
      simp [er]
    · have e : hearH h ⟨5, d, house, ps⟩ = h := by unfold hearH; simp [hr]
      rw [e, e]
      exact ⟨rfl, .inl rfl⟩
  · have e : hearH h ⟨kind, d, house, ps⟩ = h := by unfold hearH; simp [h1, h4, h5]
    rw [e, e]
    exact ⟨rfl, .inr rfl⟩
/-- who said yes to a deed is ready for it, or did it -/
def Kept (h : Hs) (d : Int) : Prop := readyE h.ready d = true ∨ d ∈ h.done
theorem kept_hear {h : Hs} (hm : Made h) {d : Int} (hk : Kept h d) {m : Ms} (ha : ¬ (m.deed = d ∧ m.kind = 5)) : Kept (hearH h m) d := by
  obtain ⟨kind, e, house, ps⟩ := m
  by_cases h1 : kind = 1
  · subst h1
    by_cases hv : voteE h e ps = 0 ∧ readyE h.ready e = false
    · rw [show hearH h ⟨1, e, house, ps⟩ = noteE h ⟨1, e, ps⟩ by unfold hearH; rw [if_pos rfl, if_pos hv]]
      obtain ⟨e1, e2⟩ := note1 hm ps hv.2
      unfold Kept
      rw [e1, e2]
      rcases hk with hk | hk
      · refine .inl ?_
        unfold readyE at hk ⊢
        rw [List.any_append, hk]; rfl
      · exact .inr hk
    · rw [show hearH h ⟨1, e, house, ps⟩ = h by unfold hearH; rw [if_pos rfl, if_neg hv]]
      exact hk
  by_cases h4 : kind = 4
  · subst h4
    by_cases hr : readyE h.ready e = true
    · rw [show hearH h ⟨4, e, house, ps⟩ = noteE h ⟨2, e, []⟩ by unfold hearH; simp [hr]]
      obtain ⟨e1, e2⟩ := note2 hm hr
      unfold Kept
      rw [e1, e2]
      by_cases hd : e = d
      · subst hd
        exact .inr (by simp)
      · rcases hk with hk | hk
        · exact .inl (ready_other hk hd)
        · exact .inr (by simp [hk])
    · rw [show hearH h ⟨4, e, house, ps⟩ = h by unfold hearH; simp [hr]]
      exact hk
  by_cases h5 : kind = 5
  · subst h5
    have hd : e ≠ d := fun h => ha ⟨h, rfl⟩
    by_cases hr : readyE h.ready e = true
    · rw [show hearH h ⟨5, e, house, ps⟩ = noteE h ⟨3, e, []⟩ by unfold hearH; simp [hr]]
      obtain ⟨e1, e2⟩ := note3 hm hr
      unfold Kept
      rw [e1, e2]
      rcases hk with hk | hk
      · exact .inl (ready_other hk hd)
      · exact .inr hk
    · rw [show hearH h ⟨5, e, house, ps⟩ = h by unfold hearH; simp [hr]]
      exact hk
  · rw [show hearH h ⟨kind, e, house, ps⟩ = h by unfold hearH; simp [h1, h4, h5]]
    exact hk
theorem kept_yes {h : Hs} (hm : Made h) {me : Int} {m : Ms} (hk : m.kind = 1) {x : Ms} (hx : hearM h me m = [x]) (h2 : x.kind = 2) : Kept (hearH h m) m.deed := by
  obtain ⟨kind, d, house, ps⟩ := m
  simp only at hk
  subst hk
  unfold hearM at hx
  rw [if_pos rfl] at hx
  split at hx
  · cases hx
  split at hx
  · rename_i hv0
    simp only at hv0
    by_cases hv : voteE h d ps = 0 ∧ readyE h.ready d = false
    · rw [show hearH h ⟨1, d, house, ps⟩ = noteE h ⟨1, d, ps⟩ by unfold hearH; rw [if_pos rfl, if_pos hv]]
      obtain ⟨e1, e2⟩ := note1 hm ps hv.2
      exact .inl (by rw [e1]; simp [readyE, isD])
    · rw [show hearH h ⟨1, d, house, ps⟩ = h by unfold hearH; rw [if_pos rfl, if_neg hv]]
      refine .inl ?_
      cases hr : readyE h.ready d with
      | true => rfl
      | false => exact absurd ⟨hv0, hr⟩ hv
  · unfold sayE at hx
    obtain rfl : _ = x := by simpa using hx
    simp at h2
theorem word_law {h : Hs} (hm : Made h) (hf : Fine h.ready) {d me : Int} (hd : 0 ≤ d) (hk : Kept h d) (house key : Int) :
    d ∈ (hearH h ⟨4, d, house, []⟩).done ∧ hearM h me ⟨4, d, house, []⟩ = sayE 6 d me ∧ whoE (hearH h ⟨4, d, house, []⟩).ready key ≠ d := by
  by_cases hr : readyE h.ready d = true
  · have e : hearH h ⟨4, d, house, []⟩ = noteE h ⟨2, d, []⟩ := by unfold hearH; simp [hr]
    obtain ⟨e1, e2⟩ := note2 hm hr
    have hin : d ∈ (noteE h ⟨2, d, []⟩).done := by rw [e2]; simp
    refine ⟨by rw [e]; exact hin, ?_, ?_⟩
    · unfold hearM
      rw [e]
      simp [hin]
    · rw [e, e1]
      exact who_ready hd (ready_erase hf.nodup)
  · have e : hearH h ⟨4, d, house, []⟩ = h := by unfold hearH; simp [hr]
    have hin : d ∈ h.done := by
      rcases hk with hk | hk
      · exact absurd hk hr
      · exact hk
    refine ⟨by rw [e]; exact hin, ?_, ?_⟩
    · unfold hearM
      rw [e]
      simp [hin]
    · rw [e]
      exact who_ready hd (by simpa using hr)
theorem fine_hear {h : Hs} (hm : Made h) (hf : Fine h.ready) {m : Ms} (hd : 0 ≤ m.deed) : Fine (hearH h m).ready := by
  unfold hearH
  split
  · split
    · rw [note_ready hm]; exact fine_step hf hd
    · exact hf
  · split
    · split
      · rw [note_ready hm]; exact fine_step hf hd
      · exact hf
    · split
      · split
        · rw [note_ready hm]; exact fine_step hf hd
        · exact hf
      · exact hf
end Go.Proofs.Ytgbhpghgohggcaa
