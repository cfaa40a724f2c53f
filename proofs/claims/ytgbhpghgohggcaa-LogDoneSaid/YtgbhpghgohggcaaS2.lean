/- Plain: what the head answers, as functions on plain data. -/
import Derived.Test.YtgbhpghgohggcaaS1
namespace Go.Proofs.Ytgbhpghgohggcaa
open Go.RowKit
def housesE (l : List Pt) : List Int := [0, 1, 2].filter fun n => l.any fun p => p.h == n
def commitM (o : Opn) (n : Int) : Ms := if o.dec then ⟨4, o.deed, n, []⟩ else ⟨1, o.deed, n, ofL o.parts n⟩
def asksE (o : Opn) : List Ms := ((housesE o.parts).filter fun n => !decide (n ∈ o.heard)).map (commitM o)
def abortsE (d : Int) (l : List Pt) : List Ms := (housesE l).map fun n => ⟨5, d, n, []⟩
def headStep (h : Hd) (r : Rc) : Hd :=
  if r.kind = 4 then { h with boot := wrap64 (h.boot + 1) }
  else if r.kind = 5 then { h with opn := h.opn ++ [⟨r.deed, r.parts, true, []⟩] }
  else if r.kind = 6 then { h with opn := h.opn.filter fun o => !(o.deed == r.deed) }
  else h
/-- the head that a log makes -/
def headR (l : List Rc) : Hd := l.foldl headStep ⟨l, 0, 0, []⟩
def decidedR (l : List Rc) : List Rd := (l.filter fun r => r.kind == 5).map fun r => ⟨r.deed, r.parts⟩
def fallH (h : Hd) : Hd := if 19 < h.boot then h else headR (h.log ++ [⟨4, 0, []⟩])
def fallE (h : Hd) : Int := if 19 < h.boot then 5 else 0
def fullE (h : Hd) : Bool := decide (11 < h.opn.length ∨ 63 < h.next)
def newO (h : Hd) (l : List Pt) : Opn := ⟨64 * h.boot + h.next, l, false, []⟩
def beginH (h : Hd) (l : List Pt) : Hd := if fullE h = true then h else { h with opn := h.opn ++ [newO h l], next := h.next + 1 }
def beginM (h : Hd) (l : List Pt) : List Ms := if fullE h = true then [] else asksE (newO h l)
def beginE (h : Hd) : Int := if fullE h = true then 9 else 0
/-- what stands in an open deed's place behind a message: open ones, records, what is said -/
def hearO (o : Opn) (m : Ms) : List Opn × List Rc × List Ms :=
  if m.kind = 2 ∧ o.dec = false ∧ m.house ∈ housesE o.parts ∧ m.house ∉ o.heard then
    (if o.heard.length + 1 = (housesE o.parts).length then ([{ o with dec := true, heard := [] }], [⟨5, o.deed, o.parts⟩], asksE { o with dec := true, heard := [] })
    else ([{ o with heard := o.heard ++ [m.house] }], [], []))
  else if m.kind = 3 ∧ o.dec = false then ([], [], abortsE o.deed o.parts)
  else if m.kind = 6 ∧ o.dec = true ∧ m.house ∈ housesE o.parts ∧ m.house ∉ o.heard then
    (if o.heard.length + 1 = (housesE o.parts).length then ([], [⟨6, o.deed, []⟩], []) else ([{ o with heard := o.heard ++ [m.house] }], [], []))
  else if m.kind = 7 ∧ o.dec = true then ([o], [], [⟨4, m.deed, m.house, []⟩])
  else ([o], [], [])
def isO (d : Int) (o : Opn) : Bool := o.deed == d
/-- the head behind a message: the open deeds gone through, one by one -/
def hearL (m : Ms) : List Opn → Option (List Opn × List Rc × List Ms)
  | [] => none
  | o :: l => if o.deed = m.deed then some ((hearO o m).1 ++ l, (hearO o m).2) else (hearL m l).map fun x => (o :: x.1, x.2)
def hHearH (h : Hd) (m : Ms) : Hd := match hearL m h.opn with
  | none => h
  | some x => { h with opn := x.1, log := h.log ++ x.2.1 }
def hHearM (h : Hd) (m : Ms) : List Ms := match hearL m h.opn with
  | none => if m.kind = 7 then [⟨5, m.deed, m.house, []⟩] else []
  | some x => x.2.2
def tickE (h : Hd) : List Ms := h.opn.flatMap asksE
def quitH (h : Hd) : Hd := { h with opn := h.opn.filter fun o => o.dec }
def quitM (h : Hd) : List Ms := (h.opn.filter fun o => !o.dec).flatMap fun o => abortsE o.deed o.parts
end Go.Proofs.Ytgbhpghgohggcaa
