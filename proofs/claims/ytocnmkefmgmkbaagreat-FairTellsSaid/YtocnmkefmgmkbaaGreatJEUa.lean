/- Parts of proofs, joined: U13. No condition beside those that each theorem names. -/
import Derived.Test.YtocnmkefmgmkbaaGreatJE1b
import Derived.Test.YtocnmkefmgmkbaaGreatJE6a
import Derived.Test.YtocnmkefmgmkbaaGreatJE4b
set_option maxRecDepth 100000
set_option maxHeartbeats 40000000
namespace Go.Proofs.YtocnmkefmgmkbaaGreat
open Go.RowKit
theorem Of.YR {c:CM} {v:Value} {kd sn:Int} {sp:List Pt} (hv:Of Ty.st c v ⟨kd,sn,sp⟩):∃ap cp,v=.agg #[J kd,J sn,U ap sp.length cp]:=by
 obtain⟨cs,rfl,vp,rfl,-,-,hp⟩:=hv;obtain⟨ap,cp,rfl,-⟩:=id hp;exact⟨ap,cp,rfl⟩
theorem Of.UW {c:CM} {a b vp:Value} {kd sn:Int} {sp:List Pt} (hv:Of Ty.st c (.agg #[a,b,vp]) ⟨kd,sn,sp⟩):I64 sn/\Sl Ty.pt c vp sp:=by
 obtain⟨cs,he,mI,rfl,-,Y,hp⟩:=hv;simp at he;obtain⟨-,-,rfl⟩:=he;exact⟨Y,hp⟩
theorem WI.UY {n:Nat} {G:Reg} {x:AW} {k:Nat} (i:WI n G x) (f:Ih k x) (hk:k<=90000):FK x.aN where
 bG:=i.core.Bl
 aH:=fun o ho=>(g_ (i.core.reg.ok _ (i.core.sD o ho)).2).2.1
 aZ:=fun o ho=>by have:=(i.core.onew o ho).2.2;have:=jJ o.aH;omega
 bg:=by have:=f.bg;omega
 aW:=by have:=i.core.aW;omega
 next:=i.core.next
theorem iG {c:CM} {w W w1 w2:World} {B:Nat} (hg:w1.grownBy w2 (some B)) (_:w.heap.size<=B) (hB:B<W.heap.size):Sub (ov c W w1) (ov c W w2):=fun a v e=>by
 unfold ov at e ⊢;split at e
 ·rw [bC ‹_›];exact e
 ·rw [aV ‹_›]
  exact bV e hg V
theorem qY {c:CM} {w W w7:World} (hc:Sub c w.cell?) (hW:aK w W):Sub (ov c W w7) (ov c w w7):=fun a v e=>by
 have hs:=hW.size;unfold ov at e ⊢;split at e
 ·have hl:=eH w a (hc _ _ e)
  rw [bC hl];exact e
 ·rw [aV V];exact e
end Go.Proofs.YtocnmkefmgmkbaaGreat
