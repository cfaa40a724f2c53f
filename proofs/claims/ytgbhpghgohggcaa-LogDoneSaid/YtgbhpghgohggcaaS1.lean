/- Plain: what houses and the head answer, as functions on plain data. -/
import Derived.Test.YtgbhpghgohggcaaW3
namespace Go.Proofs.Ytgbhpghgohggcaa
def readyE (l : List Rd) (d : Int) : Bool := l.any (isD d)
/-- what a house says to parts of a deed -/
def voteE (h : Hs) (d : Int) (ps : List Pt) : Int :=
  if d ∈ h.done then 10 else if readyE h.ready d = true then 0 else if freeE h.ready ps = false then 12 else fitsE h.sums.get ps
def noteE (h : Hs) (r : Rc) : Hs := houseR (h.log ++ [r])
def sayE (kind d me : Int) : List Ms := [⟨kind, d, me, []⟩]
/-- a house behind a message -/
def hearH (h : Hs) (m : Ms) : Hs :=
  if m.kind = 1 then (if voteE h m.deed m.parts = 0 ∧ readyE h.ready m.deed = false then noteE h ⟨1, m.deed, m.parts⟩ else h)
  else if m.kind = 4 then (if readyE h.ready m.deed = true then noteE h ⟨2, m.deed, []⟩ else h)
  else if m.kind = 5 then (if readyE h.ready m.deed = true then noteE h ⟨3, m.deed, []⟩ else h)
  else h
/-- what it says -/
def hearM (h : Hs) (me : Int) (m : Ms) : List Ms :=
  if m.kind = 1 then (if voteE h m.deed m.parts = 10 then [] else if voteE h m.deed m.parts = 0 then sayE 2 m.deed me else sayE 3 m.deed me)
  else if m.kind = 4 then (if m.deed ∈ (hearH h m).done then sayE 6 m.deed me else [])
  else []
def hTickE (h : Hs) (me : Int) : List Ms := h.ready.map fun r => ⟨7, r.deed, me, []⟩
/-- what is wrong with a message -/
def wrongM (m : Ms) : Int :=
  if m.kind < 1 ∨ 7 < m.kind then 1 else if m.deed < 0 ∨ 1343 < m.deed ∨ m.house < 0 ∨ 2 < m.house then 3
  else if 1 < m.kind then (if m.parts = [] then 0 else 5)
  else if wrongE m.parts 3 = 0 then (if m.parts.all (fun p => p.h == m.house) = true then 0 else 3) else wrongE m.parts 3
/-- a house is what its log makes -/
def Made (h : Hs) : Prop := h = houseR h.log
theorem made_house (l : List Rc) : Made (houseR l) := by
  unfold Made
  have h := fold_log l ⟨l, ⟨0, 0, 0, 0⟩, [], []⟩ l
  have : (houseR l).log = l := by
    have e : ∀ (k : List Rc) (h : Hs), (k.foldl refStep h).log = h.log := by
      intro k
      induction k with
      | nil => intro h; rfl
      | cons r k ih => intro h; rw [List.foldl_cons, ih]; rfl
    exact e l _
  rw [this]
theorem log_house (l : List Rc) : (houseR l).log = l := by
  have e : ∀ (k : List Rc) (h : Hs), (k.foldl refStep h).log = h.log := by
    intro k
    induction k with
    | nil => intro h; rfl
    | cons r k ih => intro h; rw [List.foldl_cons, ih]; rfl
  exact e l _
theorem note_step {h : Hs} (hm : Made h) (r : Rc) : noteE h r = { (refStep h r) with log := h.log ++ [r] } := by
  unfold noteE
  rw [house_snoc, ← hm]
/-- what notes make of what a house is ready for -/
theorem note_ready {h : Hs} (hm : Made h) (r : Rc) : (noteE h r).ready = (refStep h r).ready := by rw [note_step hm]
theorem note_made (h : Hs) (r : Rc) : Made (noteE h r) := made_house _
theorem hear_made {h : Hs} (hm : Made h) (m : Ms) : Made (hearH h m) := by
  unfold hearH
  split
  · split
    · exact note_made _ _
    · exact hm
  · split
    · split
      · exact note_made _ _
      · exact hm
    · split
      · split
        · exact note_made _ _
        · exact hm
      · exact hm
theorem readyE_find (l : List Rd) (d : Int) : readyE l d = (l.find? (isD d)).isSome := by
  unfold readyE
  rw [Bool.eq_iff_iff, List.any_eq_true, List.find?_isSome]
end Go.Proofs.Ytgbhpghgohggcaa
