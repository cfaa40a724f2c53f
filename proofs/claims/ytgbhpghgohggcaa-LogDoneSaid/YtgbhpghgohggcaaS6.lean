/- Plain: what a head's log makes, record by record. -/
import Derived.Test.YtgbhpghgohggcaaS2
namespace Go.Proofs.Ytgbhpghgohggcaa
open Go.RowKit
theorem note_log (h : Hs) (r : Rc) : (noteE h r).log = h.log ++ [r] := log_house _
theorem headR_fold : ∀ (l : List Rc) (h : Hd) (x : List Rc), (l.foldl headStep { h with log := x }) = { (l.foldl headStep h) with log := x }
  | [], _, _ => rfl
  | r :: l, h, x => by
    rw [List.foldl_cons, List.foldl_cons, ← headR_fold l]
    congr 1
    unfold headStep
    split
    · rfl
    · split
      · rfl
      · split <;> rfl
theorem head_snoc (l : List Rc) (r : Rc) : headR (l ++ [r]) = { (headStep (headR l) r) with log := l ++ [r] } := by
  unfold headR
  rw [List.foldl_append]
  have := headR_fold l ⟨l, 0, 0, []⟩ (l ++ [r])
  simp only at this
  rw [this]
  show headStep _ r = _
  unfold headStep
  split
  · rfl
  · split
    · rfl
    · split <;> rfl
theorem headR_next (l : List Rc) : (headR l).next = 0 ∧ (headR l).log = l := by
  have : ∀ (k : List Rc) (h : Hd), (k.foldl headStep h).next = h.next ∧ (k.foldl headStep h).log = h.log := by
    intro k
    induction k with
    | nil => intro h; exact ⟨rfl, rfl⟩
    | cons r k ih =>
      intro h
      rw [List.foldl_cons, (ih _).1, (ih _).2]
      unfold headStep
      split
      · exact ⟨rfl, rfl⟩
      · split
        · exact ⟨rfl, rfl⟩
        · split <;> exact ⟨rfl, rfl⟩
  exact this l _
theorem dec_snoc (l : List Rc) (r : Rc) : decidedR (l ++ [r]) = if r.kind = 5 then decidedR l ++ [⟨r.deed, r.parts⟩] else decidedR l := by
  unfold decidedR
  rw [List.filter_append, List.map_append]
  split
  · rename_i h
    rw [List.filter_cons_of_pos (by simp [h])]; rfl
  · rename_i h
    rw [List.filter_cons_of_neg (by simp [h])]; simp
end Go.Proofs.Ytgbhpghgohggcaa
