/- Plain: what a house is ready for, record by record. -/
import Derived.Test.YtgbhpghgohggcaaH1
import Derived.Test.YtgbhpghgohggcaaW1
namespace Go.Proofs.Ytgbhpghgohggcaa
def isD (d : Int) (x : Rd) : Bool := x.deed == d
theorem in_was (r : Rc) : ∀ (l : List Rd) (a : List Rd) (s : Sm) (d : List Int), l.foldl (inStep r) (a, true, s, d) = (a ++ l, true, s, d)
  | [], a, s, d => by simp
  | x :: l, a, s, d => by
    rw [List.foldl_cons, show inStep r (a, true, s, d) x = (a ++ [x], true, s, d) by simp [inStep], in_was r l]; simp
/-- the things that a record finds, gone through -/
theorem in_fold (r : Rc) : ∀ (l : List Rd) (a : List Rd) (s : Sm) (d : List Int), l.foldl (inStep r) (a, false, s, d) =
    match l.find? (isD r.deed) with
    | none => (a ++ l, false, s, d)
    | some x => (a ++ (if r.kind = 2 ∨ r.kind = 3 then l.eraseP (isD r.deed) else l), true, if r.kind = 2 then doP s x.parts else s, if r.kind = 2 then d ++ [r.deed] else d)
  | [], a, s, d => by simp
  | x :: l, a, s, d => by
    rw [List.foldl_cons]
    by_cases h : x.deed = r.deed
    · have hd : isD r.deed x = true := by simp [isD, h]
      rw [List.find?_cons_of_pos hd, List.eraseP_cons_of_pos hd]
      by_cases h2 : r.kind = 2
      · rw [show inStep r (a, false, s, d) x = (a, true, doP s x.parts, d ++ [r.deed]) by simp [inStep, h, h2], in_was]; simp [h2]
      · by_cases h3 : r.kind = 3
        · rw [show inStep r (a, false, s, d) x = (a, true, s, d) by simp [inStep, h, h3], in_was]; simp [h3]
        · rw [show inStep r (a, false, s, d) x = (a ++ [x], true, s, d) by simp [inStep, h, h2, h3], in_was]; simp [h2, h3]
    · have hd : isD r.deed x = false := by simp [isD, h]
      rw [show inStep r (a, false, s, d) x = (a ++ [x], false, s, d) by simp [inStep, h], in_fold r l, List.find?_cons_of_neg (by simp [hd])]
      cases l.find? (isD r.deed) with
      | none => simp
      | some y => by_cases hk : r.kind = 2 ∨ r.kind = 3 <;> simp [hk, hd]
end Go.Proofs.Ytgbhpghgohggcaa
