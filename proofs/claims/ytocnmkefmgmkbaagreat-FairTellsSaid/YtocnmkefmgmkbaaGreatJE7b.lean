/- Parts of proofs, joined: U22. No condition beside those that each theorem names. -/
import Derived.Test.YtocnmkefmgmkbaaGreatJE7a
set_option maxRecDepth 100000
set_option maxHeartbeats 40000000
namespace Go.Proofs.YtocnmkefmgmkbaaGreat
open Go.RowKit
def dm (c:CM) (w W:World):CM:=wk w.heap.size 3 (ov c w W)
theorem JA {c:CM} {w W:World} (hc:Sub c w.cell?):Sub c (dm c w W):=KW hc 3
theorem sH {c:CM} {w W:World} (hc:Sub c w.cell?) (hg:aK w W):Sub (dm c w W) W.cell?:=Yo hc hg 3
theorem Rt (c:CM) (w W:World):Sub (dm c w W) (ov c w W):=Qz _ _ _
theorem Xm {c:CM} {w W:World} {a:Addr} (h:w.heap.size+3<=a.block):dm c w W a=W.cell? a:=PT h
theorem YV {c:CM} {w W W':World} (h:∀a v,w.heap.size+3<=a.block->W.cell? a=some v->W'.cell? a=some v):Sub (dm c w W) (dm c w W'):=fun a v e=>by
 unfold dm wk ov at e ⊢;split at e
 ·cases e
 ·rename_i hn
  rw [aV hn];split at e
  ·rw [bC ‹_›];exact e
  ·rw [aV ‹_›];exact h a v V e
theorem nV {c:CM} {w W W':World} (h:aK W W'):Sub (dm c w W) (dm c w W'):=YV fun a v _ e=>h.sub a v e
theorem mM {c:CM} {w W W':World} {b:Nat} (hg:W.grownBy W' (some b)) (hb:b<w.heap.size+3):Sub (dm c w W) (dm c w W'):=YV fun a v hl e=>bV e hg V
theorem sV {c:CM} {w w6 W w7 w8:World} (g6:aK w6 w8) (h:∀a v,W.heap.size<=a.block->w7.cell? a=some v->w8.cell? a=some v) (hk:w.heap.size+3<=W.heap.size):Sub (ov (dm c w w6) W w7) (dm c w w8):=fun a v e=>by
 unfold ov at e;split at e
 ·exact nV g6 a v e
 ·rw [Xm V];exact h a v V e
theorem YW {m:Ms} (h:mD m):jg m.aH:=by
 by_cases hk:m.aX=1
 ·exact vJ (h.aH hk).1
 ·rw [h.none hk];intro p hp;simp at hp
theorem dm_none {c:CM} {w W W1:World} (hk:w.heap.size+3<=W.heap.size):Sub (ov (fun _=>none) W W1) (dm c w W1):=fun a v e=>by
 unfold ov at e;split at e
 ·cases e
 ·rw [Xm V];exact e
theorem uZ {m:Ms}:iR m=decide (m.aX=1∨m.aX=4∨m.aX=5):=rfl
theorem Xn {w:AW} {m:Ms} {h:Hs} (e:w.aI[m.aU.toNat]? =some h) (f:iR m=true):iZ w m={ w with aI:=w.aI.set m.aU.toNat (dK h m),bM:=eu w.bM (dV h m.aU m) }:=by unfold iZ;rw [e];simp only;rw [bC f]
theorem cT {w:AW} {m:Ms} {h:Hs} (e:w.aI[m.aU.toNat]? =some h) (f:iR m=false):iZ w m={ w with aN:=gQ w.aN m,bM:=eu w.bM (iQ w.aN m) }:=by unfold iZ;rw [e];simp only;rw [aV (by rw [f];simp)]
end Go.Proofs.YtocnmkefmgmkbaaGreat
