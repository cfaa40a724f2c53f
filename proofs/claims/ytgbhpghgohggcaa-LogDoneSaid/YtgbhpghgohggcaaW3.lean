/- Plain: LocksGo's law. -/
import Derived.Test.YtgbhpghgohggcaaW2
import Derived.Test.YtgbhpghgohggcaaL3
namespace Go.Proofs.Ytgbhpghgohggcaa
theorem find_isD {l : List Rd} {d : Int} {x : Rd} (h : l.find? (isD d) = some x) : x.deed = d := by
  have := List.find?_some h
  simpa [isD] using this
theorem step_ready (h : Hs) (r : Rc) : (refStep h r).ready = (if (h.ready.find? (isD r.deed)).isSome = true then (if r.kind = 2 ∨ r.kind = 3 then h.ready.eraseP (isD r.deed) else h.ready) else if r.kind = 1 then h.ready ++ [⟨r.deed, r.parts⟩] else h.ready) := by
  unfold refStep
  rw [in_fold]
  cases hf : h.ready.find? (isD r.deed) with
  | none => simp
  | some x => simp
/-- deeds that a house is ready for are unlike, and none is below 0 -/
structure Fine (l : List Rd) : Prop where
  nodup : (l.map (·.deed)).Nodup
  pos : ∀ x ∈ l, 0 ≤ x.deed
theorem fine_step {h : Hs} (hf : Fine h.ready) {r : Rc} (hr : 0 ≤ r.deed) : Fine (refStep h r).ready := by
  rw [step_ready]
  split
  · split
    · exact ⟨hf.nodup.sublist ((List.eraseP_sublist).map _), fun x hx => hf.pos x (List.eraseP_sublist.subset hx)⟩
    · exact hf
  · rename_i hn
    split
    · refine ⟨?_, fun x hx => ?_⟩
      · rw [List.map_append, List.nodup_append]
        refine ⟨hf.nodup, by simp, fun a ha b hb e => ?_⟩
        simp at hb
        subst hb
        obtain ⟨x, hx, rfl⟩ := List.mem_map.1 ha
        apply hn
        rw [List.find?_isSome]
        exact ⟨x, hx, by simp [isD, e]⟩
      · simp only [List.mem_append, List.mem_singleton] at hx
        rcases hx with hx | rfl
        · exact hf.pos x hx
        · exact hr
    · exact hf
theorem fold_fine : ∀ (l : List Rc) (h : Hs), Fine h.ready → (∀ r ∈ l, 0 ≤ r.deed) → Fine (l.foldl refStep h).ready
  | [], _, hf, _ => hf
  | r :: l, h, hf, hp => fold_fine l _ (fine_step hf (hp r List.mem_cons_self)) fun x hx => hp x (List.mem_cons_of_mem _ hx)
theorem fold_log : ∀ (l : List Rc) (h : Hs) (x : List Rc), (l.foldl refStep { h with log := x }) = { (l.foldl refStep h) with log := x }
  | [], _, _ => rfl
  | r :: l, h, x => by
    rw [List.foldl_cons, List.foldl_cons, ← fold_log l]; rfl
theorem house_snoc (l : List Rc) (r : Rc) : houseR (l ++ [r]) = { (refStep (houseR l) r) with log := l ++ [r] } := by
  unfold houseR
  rw [List.foldl_append]
  have := fold_log l ⟨l, ⟨0, 0, 0, 0⟩, [], []⟩ (l ++ [r])
  simp only at this
  rw [this]
  rfl
theorem who_cons (x : Rd) (l : List Rd) (key : Int) : whoE (x :: l) key = if hasKey key x = true then x.deed else whoE l key := by
  unfold whoE
  by_cases h : hasKey key x = true
  · rw [List.find?_cons_of_pos h, if_pos h]
  · rw [List.find?_cons_of_neg h, if_neg h]
theorem who_mem : ∀ (l : List Rd) (key : Int), whoE l key = -1 ∨ ∃ x ∈ l, whoE l key = x.deed
  | [], _ => .inl rfl
  | x :: l, key => by
    rw [who_cons]
    split
    · exact .inr ⟨x, List.mem_cons_self, rfl⟩
    · rcases who_mem l key with h | ⟨y, hy, h⟩
      · exact .inl h
      · exact .inr ⟨y, List.mem_cons_of_mem _ hy, h⟩
theorem who_drop {d : Int} (hd : 0 ≤ d) : ∀ {l : List Rd}, (l.map (·.deed)).Nodup → ∀ key, whoE (l.eraseP (isD d)) key ≠ d ∧ (whoE l key = d ∨ whoE l key = whoE (l.eraseP (isD d)) key)
  | [], _, key => ⟨by show (-1 : Int) ≠ d; omega, .inr rfl⟩
  | x :: l, hn, key => by
    rw [List.map_cons, List.nodup_cons] at hn
    by_cases h : x.deed = d
    · have hp : isD d x = true := by simp [isD, h]
      rw [List.eraseP_cons_of_pos hp, who_cons]
      refine ⟨fun e => ?_, ?_⟩
      · rcases who_mem l key with h2 | ⟨y, hy, h2⟩
        · omega
        · exact hn.1 (List.mem_map.2 ⟨y, hy, by omega⟩)
      · split
        · exact .inl h
        · exact .inr rfl
    · have hp : ¬ isD d x = true := by simp [isD, h]
      rw [List.eraseP_cons_of_neg hp, who_cons, who_cons]
      obtain ⟨h1, h2⟩ := who_drop hd hn.2 key
      split
      · exact ⟨h, .inr rfl⟩
      · exact ⟨h1, h2⟩
end Go.Proofs.Ytgbhpghgohggcaa
