/- Plain: LogStill's and LogDone's laws. -/
import Derived.Test.YtgbhpghgohggcaaS1
namespace Go.Proofs.Ytgbhpghgohggcaa
theorem step_done (h : Hs) (r : Rc) : (refStep h r).done = (match h.ready.find? (isD r.deed) with | none => h.done | some _ => if r.kind = 2 then h.done ++ [r.deed] else h.done) := by
  unfold refStep
  rw [in_fold]
  cases hf : h.ready.find? (isD r.deed) with
  | none => simp
  | some x => simp
theorem step_sums (h : Hs) (r : Rc) : (refStep h r).sums = (match h.ready.find? (isD r.deed) with | none => h.sums | some x => if r.kind = 2 then doP h.sums x.parts else h.sums) := by
  unfold refStep
  rw [in_fold]
  cases hf : h.ready.find? (isD r.deed) with
  | none => simp
  | some x => simp
theorem done_grows (h : Hs) (r : Rc) : ∃ t, (refStep h r).done = h.done ++ t := by
  rw [step_done]
  split
  · exact ⟨[], by simp⟩
  · split
    · exact ⟨_, rfl⟩
    · exact ⟨[], by simp⟩
theorem fold_done : ∀ (l : List Rc) (h : Hs), ∃ t, (l.foldl refStep h).done = h.done ++ t
  | [], h => ⟨[], by simp⟩
  | r :: l, h => by
    obtain ⟨t, e⟩ := done_grows h r
    obtain ⟨t', e'⟩ := fold_done l (refStep h r)
    exact ⟨t ++ t', by rw [List.foldl_cons, e', e, List.append_assoc]⟩
theorem house_app (l more : List Rc) : houseR (l ++ more) = { (more.foldl refStep (houseR l)) with log := l ++ more } := by
  unfold houseR
  rw [List.foldl_append]
  have := fold_log l ⟨l, ⟨0, 0, 0, 0⟩, [], []⟩ (l ++ more)
  simp only at this
  rw [this, fold_log]
theorem done_app (l more : List Rc) : ∃ t, (houseR (l ++ more)).done = (houseR l).done ++ t := by
  rw [house_app]
  exact fold_done more _
theorem fine_zero : Fine ([] : List Rd) := ⟨by simp, by simp⟩
theorem house_fine {l : List Rc} (h : ∀ r ∈ l, 0 ≤ r.deed) : Fine (houseR l).ready := fold_fine l _ fine_zero h
/-- LogStill's own loop -/
def stillF (r : Rc) (s : Sm) (l : List Rd) : Sm := l.foldl (fun s q => if q.deed = r.deed ∧ r.kind = 2 then doP s q.parts else s) s
theorem still_none {r : Rc} : ∀ {l : List Rd} (s : Sm), (∀ x ∈ l, x.deed ≠ r.deed) → stillF r s l = s
  | [], _, _ => rfl
  | x :: l, s, h => by
    unfold stillF
    rw [List.foldl_cons, if_neg (fun e => h x List.mem_cons_self e.1)]
    exact still_none s fun y hy => h y (List.mem_cons_of_mem _ hy)
theorem still_find {r : Rc} : ∀ {l : List Rd} (s : Sm), (l.map (·.deed)).Nodup → stillF r s l = (match l.find? (isD r.deed) with | none => s | some x => if r.kind = 2 then doP s x.parts else s)
  | [], _, _ => rfl
  | x :: l, s, hn => by
    rw [List.map_cons, List.nodup_cons] at hn
    unfold stillF
    rw [List.foldl_cons]
    by_cases h : x.deed = r.deed
    · rw [List.find?_cons_of_pos (by simp [isD, h])]
      have := still_none (r := r) (l := l) (if x.deed = r.deed ∧ r.kind = 2 then doP s x.parts else s) fun y hy e => hn.1 (List.mem_map.2 ⟨y, hy, by rw [e, h]⟩)
      unfold stillF at this
      rw [this]
      simp [h]
    · rw [List.find?_cons_of_neg (by simp [isD, h]), if_neg (fun e => h e.1)]
      exact still_find s hn.2
theorem still_law {l : List Rc} (r : Rc) (h : ∀ r ∈ l, 0 ≤ r.deed) : (houseR (l ++ [r])).sums = stillF r (houseR l).sums (houseR l).ready := by
  rw [house_snoc, still_find _ (house_fine h).nodup]
  exact step_sums _ _
end Go.Proofs.Ytgbhpghgohggcaa
