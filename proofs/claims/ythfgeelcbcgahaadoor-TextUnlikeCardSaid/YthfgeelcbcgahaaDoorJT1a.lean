/- The parts that laws are proved of, joined: Base, Types, Ty, Idx, Del, Own, Map, P1, P2, P3, P4, P5, W1, T1, App, Aux1, T2, P6, Reg, RegM, Ov, H1, W2, L1, L2, L3, W3, S1, K1, A6, N1, N2, N3, N4, N5, T3, R4, T4, Reg3, T5, T6, T7, T8, T9, Trod, Trod2, Trod3. No condition beside those that each theorem names. -/
import Derived.WalkKit
import Derived.WalkSpells
import Derived.WalkLawsBesides
import Derived.BigQuiet
import Derived.StillTailTactics
import Derived.Deep.RegionWith
import Derived.Deep.RegionLaw
import Derived.Lib.Hide
import Derived.Test.YthfgeelcbcgahaaDoorRows
import Derived.Shelf.SlicesQ.IndexFunc
import Derived.Lib.SliceRun
import Derived.Deep.AppendLies
import Derived.ChangeKeysEq
import Derived.Lib.SplitLaws
import Derived.Lib.AtoiAllCases
import Derived.Lib.ItoaMem
import Derived.Lib.ItoaLen
import Derived.Lib.Join
import Derived.Deep.RegionHeld3
import Derived.WalkSmall
import Derived.Lib.AppendIntMem
import Derived.Lib.AtoiErrMem
import Derived.Test.YthfgeelcbcgahaaDoorShelf
import Derived.Deep.DeepCutAuto
import Derived.Laws.Concat
import Derived.Test.YthfgeelcbcgahaaDoorTie
import Derived.Test.YthfgeelcbcgahaaDoorCards
import Derived.Deep.DeepHandedRow
import Derived.Lib.LaidTab
import Derived.Lay
import Derived.Stop.LaidErr
import Derived.Shelf.Vars
import Derived.SevenTiedAt
import Derived.Deep.Slices
import Derived.OpenShut
import Derived.Below
import Derived.ChangeOld
import Derived.ProofKit
import Derived.SizedLaws
namespace Go.Proofs.YthfgeelcbcgahaaDoor
theorem lzA {α : Type _} {xs : List α} {i : Nat} (h : i < xs.toArray.size) : xs.toArray[i] = xs[i]'(by simpa using h) := List.getElem_toArray h
theorem lzB {α : Type _} {a : α} {ys : List α} {i : Nat} (h : i + 1 < (a :: ys).length) : (a :: ys)[i + 1] = ys[i]'(Nat.lt_of_succ_lt_succ h) := List.getElem_cons_succ ..
theorem lzC {α : Type _} {a : α} {ys : List α} (h : 0 < (a :: ys).length) : (a :: ys)[0] = a := rfl
theorem lzD {α : Type _} (l : List α) (i : Nat) (a : α) : l.toArray.setIfInBounds i a = (l.set i a).toArray := List.setIfInBounds_toArray ..
theorem lzE {α : Type _} {x a : α} {xs : List α} : (x :: xs).set 0 a = a :: xs := rfl
theorem lzF {α : Type _} {x a : α} {xs : List α} {n : Nat} : (x :: xs).set (n + 1) a = x :: xs.set n a := rfl
theorem η {p : Prop} (h : p) : Go.RowKit.Hid p := Lib.hid h
theorem γ {α : Type _} {xs : Array α} {i : Nat} {a : α} (h : xs[i]? = some a) : i < xs.size := (Array.getElem?_eq_some_iff.1 h).1
theorem _root_.Go.RowKit.Hid.o {p : Prop} (h : Go.RowKit.Hid p) : p := h.out
theorem grA {a w : World} (h : Go.RowKit.Below a.heap.size a w := by repeat (first | with_reducible assumption | with_reducible exact Grow.refl _ | with_reducible apply Grow.drewN | with_reducible apply Grow.drew | with_reducible apply Grow.alloc | (refine Grow.setCell ?_ (by simp; done) _))) : Go.RowKit.Below a.heap.size a w := h
theorem grB {a w : World} (h : Go.RowKit.Below a.heap.size a w := by repeat (first | with_reducible assumption | with_reducible exact Grow.refl _ | with_reducible apply Grow.drewN | with_reducible apply Grow.drew | with_reducible apply Grow.alloc | (refine Grow.trans ?_ (by with_reducible assumption)))) : Go.RowKit.Below a.heap.size a w := h
end Go.Proofs.YthfgeelcbcgahaaDoor
namespace Go.Proofs.YthfgeelcbcgahaaDoor
open Go.RowKit
abbrev CM:=Addr→Option Value
def Sub (c c':CM):Prop:=∀a v,c a=some v→c' a=some v
theorem Sub.refl (c:CM):Sub c c:=fun _ _ h=>h
theorem Sub.trans {a b c:CM} (h:Sub a b) (k:Sub b c):Sub a c:=fun x v e=>k x v (h x v e)
theorem Sub.below {w w':World} (h:Below w.heap.size w w'):Sub w.cell? w'.cell?:=fun a v e=>by
 rw [h.cell (World.block_lt_of_cell? w a e)];exact e
abbrev Grow (w w':World):Prop:=Below w.heap.size w w'
theorem Grow.refl (w:World):Grow w w:=Below.refl _ _
theorem Grow.trans {a b c:World} (h:Grow a b) (k:Grow b c):Grow a c:=Below.trans h (k.mono h.size)
theorem Grow.alloc {a w:World} (h:Grow a w) (o:Obj):Grow a (w.alloc o):=Below.alloc h h.size o
theorem Grow.drew {a w:World} (h:Grow a w):Grow a w.drew:=Below.drew h
theorem Grow.drewN {a w:World} (h:Grow a w) (n:Nat):Grow a (w.drewN n):=below_drewN h n
theorem Grow.setCell {a w:World} (h:Grow a w) {p:Addr} (hp:a.heap.size≤p.block) (u:Value):Grow a (w.setCell p u):=Below.setCell h hp u
theorem Grow.grown {a w w':World} {row:Option Nat} (h:Grow a w) (hg:w.grownBy w' row) (hr:∀k,row=some k→a.heap.size≤k):Grow a w':=Below.grown h hg h.size hr
theorem Grow.sub {w w':World} (h:Grow w w'):Sub w.cell? w'.cell?:=Sub.below h
theorem ret_int {k:IntKind} {a b:Int} (h:a=b):Ending.returned (.int k a)=.returned (.int k b):=by rw [h]
theorem ret_bool {a b:Bool} (h:a=b):Ending.returned (.bool a)=.returned (.bool b):=by rw [h]
def At (c:CM) (b o:Nat) (xs:List Value):Prop:=∀j v,xs[j]? =some v→c ⟨b,o+j,none⟩=some v
theorem At.mono {c c':CM} {b o:Nat} {xs:List Value} (h:Sub c c') (k:At c b o xs):At c' b o xs:=fun j v e=>h _ _ (k j v e)
structure Ty (α:Type) where
 size:Nat
 R:CM→List Value→α→Prop
 len:∀{c cs x},R c cs x→cs.length=size
 mono:∀{c c' cs x},Sub c c'→R c cs x→R c' cs x
def Sl {α:Type} (T:Ty α) (c:CM) (v:Value) (l:List α):Prop:=
 ∃a cap,v=.slice a l.length cap∧l.length≤cap∧cap≤maxLen∧(a=none→cap=0)∧
  ∀i x,l[i]? =some x→∃b o cs,a=some ⟨b,o,none⟩∧T.R c cs x∧At c b (o+i*T.size) cs
theorem Sl.mono {α:Type} {T:Ty α} {c c':CM} {v:Value} {l:List α} (h:Sub c c') (k:Sl T c v l):Sl T c' v l:=by
 obtain⟨a,cap,hv,h1,h2,h0,h3⟩:=k
 refine⟨a,cap,hv,h1,h2,h0,fun i x e=>?_⟩
 obtain⟨b,o,cs,ha,hR,hA⟩:=h3 i x e
 exact⟨b,o,cs,ha,T.mono h hR,hA.mono h⟩
def Ty.sl {α:Type} (T:Ty α):Ty (List α) where
 size:=1
 R:=fun c cs l=>∃v,cs=[v]∧Sl T c v l
 len:=by rintro c cs x ⟨v,rfl,_⟩;rfl
 mono:=by rintro c c' cs x h ⟨v,rfl,k⟩;exact⟨v,rfl,k.mono h⟩
def I64 (n:Int):Prop:=(Lit.int .i64 n).wf=true
def Ty.int:Ty Int where
 size:=1
 R:=fun _ cs n=>cs=[.int .i64 n]∧I64 n
 len:=by rintro c cs x ⟨rfl,_⟩;rfl
 mono:=by rintro c c' cs x _ h;exact h
structure Pt where
 h:Int
 k:Int
 n:Int
 deriving DecidableEq
def Pt.cells (p:Pt):List Value:=[.int .i64 p.h,.int .i64 p.k,.int .i64 p.n]
def Ty.pt:Ty Pt where
 size:=3
 R:=fun _ cs p=>cs=p.cells∧I64 p.h∧I64 p.k∧I64 p.n
 len:=by rintro c cs x ⟨rfl,_⟩;rfl
 mono:=by rintro c c' cs x _ h;exact h
abbrev Pts:=Sl Ty.pt
theorem Pts.at_ {c:CM} {a:Option Addr} {l:List Pt} (h:∀i x,l[i]? =some x→∃b o cs,a=some ⟨b,o,none⟩∧Ty.pt.R c cs x∧At c b (o+i*Ty.pt.size) cs) (k:Nat) (hk:k<l.length):
  ∃b o,a=some ⟨b,o,none⟩∧c ⟨b,o+k*3,none⟩=some (.int .i64 l[k].h)∧c ⟨b,o+k*3+1,none⟩=some (.int .i64 l[k].k)∧c ⟨b,o+k*3+2,none⟩=some (.int .i64 l[k].n)∧I64 l[k].h∧I64 l[k].k∧I64 l[k].n:=by
 obtain⟨b,o,cs,ha,⟨rfl,h1,h2,h3⟩,hA⟩:=h k l[k] (by simp [hk])
 exact⟨b,o,ha,hA 0 _ rfl,hA 1 _ rfl,hA 2 _ rfl,h1,h2,h3⟩
def ptCells (l:List Pt):List Value:=l.flatMap Pt.cells
def PtsOk (l:List Pt):Prop:=∀p∈l,I64 p.h∧I64 p.k∧I64 p.n
theorem Pts.ok {c:CM} {v:Value} {l:List Pt} (h:Pts c v l):PtsOk l:=by
 obtain⟨a,cap,rfl,h1,h2,h0,hel⟩:=h
 intro p hp
 obtain⟨i,hi⟩:=List.mem_iff_getElem?.1 hp
 obtain⟨b,o,cs,ha,⟨rfl,h⟩,hA⟩:=hel i p hi
 exact h
def byteCell (b:UInt8):List Value:=[.int .u8 b.toNat]
def intCell (n:Int):List Value:=[.int .i64 n]
theorem one_pt (x:Pt):∀u∈x.cells,u.oneCell'=true:=by
 intro u hu
 simp only [Pt.cells,List.mem_cons,List.not_mem_nil,or_false] at hu
 rcases hu with rfl|rfl|rfl<;>rfl
theorem one_byte (x:UInt8):∀u∈byteCell x,u.oneCell'=true:=by
 intro u hu
 simp only [byteCell,List.mem_cons,List.not_mem_nil,or_false] at hu
 subst hu;rfl
structure Sm where
 a:Int
 b:Int
 c:Int
 d:Int
 deriving DecidableEq
def Sm.cells (s:Sm):List Value:=[.int .i64 s.a,.int .i64 s.b,.int .i64 s.c,.int .i64 s.d]
abbrev Ty.pts:=Ty.sl Ty.pt
structure Rc where
 kind:Int
 deed:Int
 parts:List Pt
 deriving DecidableEq
def Ty.rc:Ty Rc where
 size:=3
 R:=fun c cs x=>∃vparts:Value,cs=[.int .i64 x.kind,.int .i64 x.deed,vparts]∧I64 x.kind∧I64 x.deed∧Sl Ty.pt c vparts x.parts
 len:=by rintro c cs x ⟨vparts,rfl,_⟩;rfl
 mono:=by rintro c c' cs x h ⟨vparts,rfl,h1,h2,h3⟩;exact⟨vparts,rfl,h1,h2,h3.mono h⟩
abbrev Rcs:=Sl Ty.rc
theorem Rcs.at_ {c:CM} {a:Option Addr} {l:List Rc} (h:∀i x,l[i]? =some x→∃b o cs,a=some ⟨b,o,none⟩∧Ty.rc.R c cs x∧At c b (o+i*Ty.rc.size) cs) (k:Nat) (hk:k<l.length):
  ∃b o vparts,a=some ⟨b,o,none⟩∧c ⟨b,o+k*3,none⟩=some (.int .i64 l[k].kind)∧c ⟨b,o+k*3+1,none⟩=some (.int .i64 l[k].deed)∧c ⟨b,o+k*3+2,none⟩=some vparts∧I64 l[k].kind∧I64 l[k].deed∧Sl Ty.pt c vparts l[k].parts:=by
 obtain⟨b,o,cs,ha,⟨vparts,rfl,hR⟩,hA⟩:=h k l[k] (by simp [hk])
 exact⟨b,o,vparts,ha,hA 0 _ rfl,hA 1 _ rfl,hA 2 _ rfl,hR⟩
structure Rd where
 deed:Int
 parts:List Pt
 deriving DecidableEq
def Ty.rd:Ty Rd where
 size:=2
 R:=fun c cs x=>∃vparts:Value,cs=[.int .i64 x.deed,vparts]∧I64 x.deed∧Sl Ty.pt c vparts x.parts
 len:=by rintro c cs x ⟨vparts,rfl,_⟩;rfl
 mono:=by rintro c c' cs x h ⟨vparts,rfl,h1,h2⟩;exact⟨vparts,rfl,h1,h2.mono h⟩
abbrev Rds:=Sl Ty.rd
theorem Rds.at_ {c:CM} {a:Option Addr} {l:List Rd} (h:∀i x,l[i]? =some x→∃b o cs,a=some ⟨b,o,none⟩∧Ty.rd.R c cs x∧At c b (o+i*Ty.rd.size) cs) (k:Nat) (hk:k<l.length):
  ∃b o vparts,a=some ⟨b,o,none⟩∧c ⟨b,o+k*2,none⟩=some (.int .i64 l[k].deed)∧c ⟨b,o+k*2+1,none⟩=some vparts∧I64 l[k].deed∧Sl Ty.pt c vparts l[k].parts:=by
 obtain⟨b,o,cs,ha,⟨vparts,rfl,hR⟩,hA⟩:=h k l[k] (by simp [hk])
 exact⟨b,o,vparts,ha,hA 0 _ rfl,hA 1 _ rfl,hR⟩
structure Opn where
 deed:Int
 parts:List Pt
 dec:Bool
 heard:List Int
 deriving DecidableEq
def Ty.opn:Ty Opn where
 size:=4
 R:=fun c cs x=>∃vparts vheard:Value,cs=[.int .i64 x.deed,vparts,.bool x.dec,vheard]∧I64 x.deed∧Sl Ty.pt c vparts x.parts∧Sl Ty.int c vheard x.heard
 len:=by rintro c cs x ⟨vparts,vheard,rfl,_⟩;rfl
 mono:=by rintro c c' cs x h ⟨vparts,vheard,rfl,h1,h2,h3⟩;exact⟨vparts,vheard,rfl,h1,h2.mono h,h3.mono h⟩
abbrev Opns:=Sl Ty.opn
theorem Opns.at_ {c:CM} {a:Option Addr} {l:List Opn} (h:∀i x,l[i]? =some x→∃b o cs,a=some ⟨b,o,none⟩∧Ty.opn.R c cs x∧At c b (o+i*Ty.opn.size) cs) (k:Nat) (hk:k<l.length):
  ∃b o vparts vheard,a=some ⟨b,o,none⟩∧c ⟨b,o+k*4,none⟩=some (.int .i64 l[k].deed)∧c ⟨b,o+k*4+1,none⟩=some vparts∧c ⟨b,o+k*4+2,none⟩=some (.bool l[k].dec)∧c ⟨b,o+k*4+3,none⟩=some vheard∧I64 l[k].deed∧Sl Ty.pt c vparts l[k].parts∧Sl Ty.int c vheard l[k].heard:=by
 obtain⟨b,o,cs,ha,⟨vparts,vheard,rfl,hR⟩,hA⟩:=h k l[k] (by simp [hk])
 exact⟨b,o,vparts,vheard,ha,hA 0 _ rfl,hA 1 _ rfl,hA 2 _ rfl,hA 3 _ rfl,hR⟩
structure Ms where
 kind:Int
 deed:Int
 house:Int
 parts:List Pt
 deriving DecidableEq
def Ty.ms:Ty Ms where
 size:=4
 R:=fun c cs x=>∃vparts:Value,cs=[.int .i64 x.kind,.int .i64 x.deed,.int .i64 x.house,vparts]∧I64 x.kind∧I64 x.deed∧I64 x.house∧Sl Ty.pt c vparts x.parts
 len:=by rintro c cs x ⟨vparts,rfl,_⟩;rfl
 mono:=by rintro c c' cs x h ⟨vparts,rfl,h1,h2,h3,h4⟩;exact⟨vparts,rfl,h1,h2,h3,h4.mono h⟩
abbrev Mss:=Sl Ty.ms
theorem Mss.at_ {c:CM} {a:Option Addr} {l:List Ms} (h:∀i x,l[i]? =some x→∃b o cs,a=some ⟨b,o,none⟩∧Ty.ms.R c cs x∧At c b (o+i*Ty.ms.size) cs) (k:Nat) (hk:k<l.length):
  ∃b o vparts,a=some ⟨b,o,none⟩∧c ⟨b,o+k*4,none⟩=some (.int .i64 l[k].kind)∧c ⟨b,o+k*4+1,none⟩=some (.int .i64 l[k].deed)∧c ⟨b,o+k*4+2,none⟩=some (.int .i64 l[k].house)∧c ⟨b,o+k*4+3,none⟩=some vparts∧I64 l[k].kind∧I64 l[k].deed∧I64 l[k].house∧Sl Ty.pt c vparts l[k].parts:=by
 obtain⟨b,o,cs,ha,⟨vparts,rfl,hR⟩,hA⟩:=h k l[k] (by simp [hk])
 exact⟨b,o,vparts,ha,hA 0 _ rfl,hA 1 _ rfl,hA 2 _ rfl,hA 3 _ rfl,hR⟩
structure St where
 kind:Int
 n:Int
 parts:List Pt
 deriving DecidableEq
def Ty.st:Ty St where
 size:=3
 R:=fun c cs x=>∃vparts:Value,cs=[.int .i64 x.kind,.int .i64 x.n,vparts]∧I64 x.kind∧I64 x.n∧Sl Ty.pt c vparts x.parts
 len:=by rintro c cs x ⟨vparts,rfl,_⟩;rfl
 mono:=by rintro c c' cs x h ⟨vparts,rfl,h1,h2,h3⟩;exact⟨vparts,rfl,h1,h2,h3.mono h⟩
abbrev Sts:=Sl Ty.st
theorem Sts.at_ {c:CM} {a:Option Addr} {l:List St} (h:∀i x,l[i]? =some x→∃b o cs,a=some ⟨b,o,none⟩∧Ty.st.R c cs x∧At c b (o+i*Ty.st.size) cs) (k:Nat) (hk:k<l.length):
  ∃b o vparts,a=some ⟨b,o,none⟩∧c ⟨b,o+k*3,none⟩=some (.int .i64 l[k].kind)∧c ⟨b,o+k*3+1,none⟩=some (.int .i64 l[k].n)∧c ⟨b,o+k*3+2,none⟩=some vparts∧I64 l[k].kind∧I64 l[k].n∧Sl Ty.pt c vparts l[k].parts:=by
 obtain⟨b,o,cs,ha,⟨vparts,rfl,hR⟩,hA⟩:=h k l[k] (by simp [hk])
 exact⟨b,o,vparts,ha,hA 0 _ rfl,hA 1 _ rfl,hA 2 _ rfl,hR⟩
structure Hs where
 log:List Rc
 sums:Sm
 ready:List Rd
 done:List Int
 deriving DecidableEq
def Ty.hs:Ty Hs where
 size:=7
 R:=fun c cs x=>∃vlog vready vdone:Value,cs=[vlog,.int .i64 x.sums.a,.int .i64 x.sums.b,.int .i64 x.sums.c,.int .i64 x.sums.d,vready,vdone]∧Sl Ty.rc c vlog x.log∧I64 x.sums.a∧I64 x.sums.b∧I64 x.sums.c∧I64 x.sums.d∧Sl Ty.rd c vready x.ready∧Sl Ty.int c vdone x.done
 len:=by rintro c cs x ⟨vlog,vready,vdone,rfl,_⟩;rfl
 mono:=by rintro c c' cs x h ⟨vlog,vready,vdone,rfl,h1,h2,h3,h4,h5,h6,h7⟩;exact⟨vlog,vready,vdone,rfl,h1.mono h,h2,h3,h4,h5,h6.mono h,h7.mono h⟩
abbrev Hss:=Sl Ty.hs
theorem Hss.at_ {c:CM} {a:Option Addr} {l:List Hs} (h:∀i x,l[i]? =some x→∃b o cs,a=some ⟨b,o,none⟩∧Ty.hs.R c cs x∧At c b (o+i*Ty.hs.size) cs) (k:Nat) (hk:k<l.length):
  ∃b o vlog vready vdone,a=some ⟨b,o,none⟩∧c ⟨b,o+k*7,none⟩=some vlog∧c ⟨b,o+k*7+1,none⟩=some (.int .i64 l[k].sums.a)∧c ⟨b,o+k*7+2,none⟩=some (.int .i64 l[k].sums.b)∧c ⟨b,o+k*7+3,none⟩=some (.int .i64 l[k].sums.c)∧c ⟨b,o+k*7+4,none⟩=some (.int .i64 l[k].sums.d)∧c ⟨b,o+k*7+5,none⟩=some vready∧c ⟨b,o+k*7+6,none⟩=some vdone∧Sl Ty.rc c vlog l[k].log∧I64 l[k].sums.a∧I64 l[k].sums.b∧I64 l[k].sums.c∧I64 l[k].sums.d∧Sl Ty.rd c vready l[k].ready∧Sl Ty.int c vdone l[k].done:=by
 obtain⟨b,o,cs,ha,⟨vlog,vready,vdone,rfl,hR⟩,hA⟩:=h k l[k] (by simp [hk])
 exact⟨b,o,vlog,vready,vdone,ha,hA 0 _ rfl,hA 1 _ rfl,hA 2 _ rfl,hA 3 _ rfl,hA 4 _ rfl,hA 5 _ rfl,hA 6 _ rfl,hR⟩
structure Hd where
 log:List Rc
 boot:Int
 next:Int
 opn:List Opn
 deriving DecidableEq
def Ty.hd:Ty Hd where
 size:=4
 R:=fun c cs x=>∃vlog vopn:Value,cs=[vlog,.int .i64 x.boot,.int .i64 x.next,vopn]∧Sl Ty.rc c vlog x.log∧I64 x.boot∧I64 x.next∧Sl Ty.opn c vopn x.opn
 len:=by rintro c cs x ⟨vlog,vopn,rfl,_⟩;rfl
 mono:=by rintro c c' cs x h ⟨vlog,vopn,rfl,h1,h2,h3,h4⟩;exact⟨vlog,vopn,rfl,h1.mono h,h2,h3,h4.mono h⟩
abbrev Hds:=Sl Ty.hd
theorem Hds.at_ {c:CM} {a:Option Addr} {l:List Hd} (h:∀i x,l[i]? =some x→∃b o cs,a=some ⟨b,o,none⟩∧Ty.hd.R c cs x∧At c b (o+i*Ty.hd.size) cs) (k:Nat) (hk:k<l.length):
  ∃b o vlog vopn,a=some ⟨b,o,none⟩∧c ⟨b,o+k*4,none⟩=some vlog∧c ⟨b,o+k*4+1,none⟩=some (.int .i64 l[k].boot)∧c ⟨b,o+k*4+2,none⟩=some (.int .i64 l[k].next)∧c ⟨b,o+k*4+3,none⟩=some vopn∧Sl Ty.rc c vlog l[k].log∧I64 l[k].boot∧I64 l[k].next∧Sl Ty.opn c vopn l[k].opn:=by
 obtain⟨b,o,cs,ha,⟨vlog,vopn,rfl,hR⟩,hA⟩:=h k l[k] (by simp [hk])
 exact⟨b,o,vlog,vopn,ha,hA 0 _ rfl,hA 1 _ rfl,hA 2 _ rfl,hA 3 _ rfl,hR⟩
structure Wd where
 head:Hd
 houses:List Hs
 net:List (List UInt8)
 deriving DecidableEq
def Of {α:Type} (T:Ty α) (c:CM) (v:Value) (x:α):Prop:=∃cs:List Value,v=.agg cs.toArray∧T.R c cs x
theorem Of.mono {α:Type} {T:Ty α} {c c':CM} {v:Value} {x:α} (h:Sub c c') (k:Of T c v x):Of T c' v x:=by
 obtain⟨cs,rfl,hR⟩:=k
 exact⟨cs,rfl,T.mono h hR⟩
structure EI (P:Program) (t e:TypeId) (size bytes:Nat):Prop where
 ht:P.underlying t=some (.slice e)
 hi:∃i z,P.info? e=some i∧i.zero=some z∧i.size=size∧i.bytes=bytes∧z.cells.size=size∧0<size∧∀u∈z.cells,u.oneCell'=true
theorem EI.mk' {P:Program} {t e:TypeId} {size bytes:Nat} {z:Value} (ht:P.underlying t=some (.slice e)) (h:(P.info? e).map (fun i=>(i.zero,i.size,i.bytes))=some (some z,size,bytes)) (hz:z.cells.size=size) (h0:0<size) (h1:z.cells.toList.all (fun u=>u.oneCell')=true):EI P t e size bytes:=by
 obtain⟨i,hi,h1',h2,h3⟩:=info_parts h
 exact⟨ht,i,z,hi,h1',h2,h3,hz,h0,fun u hu=>by simpa using List.all_eq_true.1 h1 u (by simpa using hu)⟩
theorem ei_pt:EI Tryd.prog 22 34 3 24:=EI.mk' (z:=.agg #[.int .i64 0,.int .i64 0,.int .i64 0]) (by kernel_rfl) (by kernel_rfl) rfl (by decide) rfl
theorem new_cells (w:World) (c:Array Value) (t:TypeId):∀j u,c.toList[j]? =some u→(w.alloc (.cells c t)).cell? ((⟨w.heap.size,0,none⟩:Addr).add j)=some u:=by
 intro j u h
 have e:((⟨w.heap.size,0,none⟩:Addr).add j)=⟨w.heap.size,j,none⟩:=by unfold Addr.add;split<;>simp_all
 rw [e,World.cell?_alloc_new]
 simpa using h
def idxOf {α:Type} (p:α→Bool) (l:List α):Int:=match l.findIdx? p with|some i=>i|none=>-1
theorem idxOf_nonneg {α:Type} (p:α→Bool) (l:List α):decide (0≤idxOf p l)=l.any p:=by
 unfold idxOf
 cases h:l.findIdx? p with
 |none=>
  rw [List.findIdx?_eq_none_iff] at h
  symm
  simp only [show decide ((0:Int)≤ -1)=false from rfl]
  rw [List.any_eq_false]
  intro x hx;simp [h x hx]
 |some i=>
  rw [List.findIdx?_eq_some_iff_getElem] at h
  obtain⟨hi,hp,_⟩:=h
  simp only [show decide ((0:Int)≤(i:Int))=true by simp]
  symm
  rw [List.any_eq_true]
  exact⟨l[i],List.getElem_mem _,hp⟩
structure Tells {α:Type} (P:Program) (T:Ty α) (val:List Value→Value) (w:World) (F:FuncId) (caps:Array Value) (l:List α) (p:α→Bool):Prop where
 ent:∀args w,(callFunc F args).run P w=.ok (.enter F args) w
 say:∀(wx:World) (cs:List Value) (x:α),Grow w wx→x∈l→T.R wx.cell? cs x→Calls P F (#[val cs]++caps) wx fun e w'=>e=.returned (.bool (p x))∧Grow wx w'
def aggOf (cs:List Value):Value:=.agg cs.toArray
theorem idx_step {α:Type} {p:α→Bool} {l:List α} {k:Nat} (hlt:k<l.length) (hE:(l.take k).findIdx? p=none):
  (p l[k]=true→idxOf p l=(k:Int))∧(p l[k]=false→(l.take (k+1)).findIdx? p=none):=by
 constructor
 ·intro hq
  have:l.findIdx? p=some k:=by
   rw [List.findIdx?_eq_some_iff_getElem]
   refine⟨hlt,hq,fun j hj=>?_⟩
   rw [List.findIdx?_eq_none_iff] at hE
   have h:=hE l[j] (by rw [List.mem_take_iff_getElem];exact⟨j,by omega,rfl⟩)
   simpa using h
  rw [idxOf,this]
 ·intro hq
  rw [List.take_succ_eq_append_getElem hlt,List.findIdx?_append,hE];simp [hq]
set_option maxHeartbeats 400000 in
theorem indexFunc_pt {v:Value} {l:List Pt} {F:FuncId} {caps:Array Value} {p:Pt→Bool} (w:World) (hv:Sl Ty.pt w.cell? v l) (hp:Tells Tryd.prog Ty.pt aggOf w F caps l p):
  Calls Tryd.prog 36 #[v,.func (.func F) #[] caps] w fun e w'=>e=.returned (.int .i64 (idxOf p l))∧Grow w w':=by
 obtain⟨a,cap,rfl,h1,h2,-,hel⟩:=hv
 unfold maxLen at h2
 go_enter Tryd.func36,Tryd.ntmps36
 go_wp2
 go_loopw [4,5,8] (fun _ _ i wr=>∃k:Nat,k≤l.length∧i=.int .i64 k∧Grow w wr∧(l.take k).findIdx? p=none) (fun _ _ i _=>l.length - (intOf i).toNat)
 case atStart=>exact⟨0,by omega,rfl,Grow.refl _,rfl⟩
 case round=>
  obtain⟨k,hk',rfl,hb,hE⟩:=hrel
  have HE:=η hE
  clear hE
  by_cases hlt:k<l.length
  ·obtain⟨b,o,rfl,c0,c1,c2,hR⟩:=Pts.at_ hel k hlt
   replace c0:=hb.sub _ _ c0
   replace c1:=hb.sub _ _ c1
   replace c2:=hb.sub _ _ c2
   have HP:=η (hp.say wr l[k].cells l[k] hb (List.getElem_mem _) ⟨rfl,hR⟩)
   have eg:=hp.ent
   obtain⟨hq1,hq2⟩:=idx_step hlt HE.o
   clear HE hp hel hR
   simp only [Pt.cells,aggOf] at HP
   generalize l[k]=q at*
   have H1:=η hq1
   have H2:=η hq2
   clear hq1 hq2
   cases hq:p q
   ·rw [hq] at HP
    go_wp2_with (go_at_fn F;refine HP.o.mono ?_;rintro e w' ⟨rfl,hb'⟩)
    go_roundw
    case rel=>exact⟨k+1,by omega,by go_num,hb.trans hb',H2.o hq⟩
    case measure=>simp [intOf];omega
   ·rw [hq] at HP
    go_wp2_with (go_at_fn F;refine HP.o.mono ?_;rintro e w' ⟨rfl,hb'⟩)
    go_ret
    exact⟨ret_int (H1.o hq).symm,hb.trans hb'⟩
  ·clear hel hp
   go_wp2
   go_ret
   refine⟨ret_int ?_,hb⟩
   have h:=HE.o
   rw [List.take_of_length_le (by omega)] at h
   rw [idxOf,h]
set_option maxHeartbeats 400000 in
theorem containsFunc_pt {v:Value} {l:List Pt} {F:FuncId} {caps:Array Value} {p:Pt→Bool} (w:World) (hv:Sl Ty.pt w.cell? v l) (hp:Tells Tryd.prog Ty.pt aggOf w F caps l p):
  Calls Tryd.prog 23 #[v,.func (.func F) #[] caps] w fun e w'=>e=.returned (.bool (l.any p))∧Grow w w':=by
 have HI:=η (indexFunc_pt w hv hp)
 have HN:=η (idxOf_nonneg p l)
 clear hv hp
 generalize idxOf p l=i at*
 go_enter Tryd.func23,Tryd.ntmps23
 go_wp2_with (go_at_call 36;refine HI.o.mono ?_;rintro e w' ⟨rfl,hb'⟩)
 go_ret
 exact⟨ret_bool HN.o,hb'⟩
theorem grownBy_of_grow {a b:World} (h:Grow a b) (row:Option Nat):a.grownBy b row:=⟨h.os,h.tape,h.output,h.size,fun i hi _=>h.block i hi⟩
def frag (w:World) (row:Option Nat):CM:=fun a=>if some a.block=row then none else w.cell? a
theorem frag_sub (w:World) (row:Option Nat):Sub (frag w row) w.cell?:=fun a v h=>by
 unfold frag at h;split at h
 ·cases h
 ·exact h
theorem frag_grown {w w':World} {row:Option Nat} (h:w.grownBy w' row):Sub (frag w row) (frag w' row):=fun a v e=>by
 unfold frag at e ⊢
 split at e
 ·cases e
 ·rename_i hne
  rw [if_neg hne,World.cell?_of_block (h.block a.block (World.block_lt_of_cell? w a e) hne)]
  exact e
def OwnT {α:Type} (T:Ty α) (w:World) (base e:Nat) (v:Value) (l:List α):Prop:=
 ∃css:List (List Value),w.ownsRow base e T.size v l.length css.flatten∧css.length=l.length∧∀(i:Nat) (cs:List Value) (x:α),css[i]? =some cs→l[i]? =some x→T.R (frag w v.ownBlock) cs x
theorem OwnT.nil {α:Type} (T:Ty α) (w:World) (base e:Nat):OwnT T w base e (.slice none 0 0) []:=⟨[],World.ownsRow_nil _ _ _ _,rfl,fun i cs x h=>by simp at h⟩
theorem OwnT.kept {α:Type} {T:Ty α} {w w':World} {base e:Nat} {v:Value} {l:List α} {row:Option Nat} (h:OwnT T w base e v l) (hg:w.grownBy w' row) (hne:v.ownBlock=none∨v.ownBlock≠row) (hs':Sub (frag w v.ownBlock) (frag w' v.ownBlock)):OwnT T w' base e v l:=by
 obtain⟨css,h1,h2,h3⟩:=h
 exact⟨css,h1.kept hg hne,h2,fun i cs x a b=>T.mono hs' (h3 i cs x a b)⟩
theorem OwnT.grow {α:Type} {T:Ty α} {w w':World} {base e:Nat} {v:Value} {l:List α} (h:OwnT T w base e v l) (hg:Grow w w'):OwnT T w' base e v l:=by
 obtain⟨css,h1,h2,h3⟩:=h
 refine⟨css,h1.kept (grownBy_of_grow hg none) (by cases v.ownBlock<;>simp),h2,fun i cs x a b=>T.mono (frag_grown (grownBy_of_grow hg _)) (h3 i cs x a b)⟩
theorem css_len {α:Type} {T:Ty α} {c:CM} {css:List (List Value)} {l:List α} (h2:css.length=l.length) (h3:∀(i:Nat) (cs:List Value) (x:α),css[i]? =some cs→l[i]? =some x→T.R c cs x):∀cs∈css,cs.length=T.size:=by
 intro cs hcs
 obtain⟨i,hi,rfl⟩:=List.mem_iff_getElem.1 hcs
 exact T.len (h3 i css[i] l[i] (by simp) (by simp))
theorem flatten_at {size:Nat} (h0:0<size):∀(css:List (List Value)),(∀cs∈css,cs.length=size)→∀j,css.flatten[j]? =(css[j/size]?).bind fun cs=>cs[j % size]?:=by
 intro css
 induction css with
 |nil=>intro _ j;simp
 |cons x l ih=>
  intro hf j
  rw [List.flatten_cons]
  have hx:=hf x (by simp)
  by_cases hj:j<size
  ·rw [List.getElem?_append_left (by rw [hx];exact hj),Nat.div_eq_of_lt hj,Nat.mod_eq_of_lt hj];rfl
  ·rw [List.getElem?_append_right (by rw [hx];omega),hx,ih (fun cs h=>hf cs (by simp [h])),Nat.mod_eq_sub_mod (by omega:size≤j),Nat.div_eq_sub_div h0 (by omega:size≤j)]
   simp
theorem flatten_len {size:Nat}:∀(css:List (List Value)),(∀cs∈css,cs.length=size)→css.flatten.length=css.length*size
 | [],_=>by simp
 |x::l,h=>by rw [List.flatten_cons,List.length_append,h x (by simp),flatten_len l (fun cs hc=>h cs (by simp [hc])),List.length_cons,Nat.add_mul];omega
theorem OwnT.sl {α:Type} {T:Ty α} (h0:0<T.size) {w:World} {base e:Nat} {v:Value} {l:List α} (h:OwnT T w base e v l):Sl T w.cell? v l:=by
 obtain⟨css,⟨hl,hs⟩,h2,h3⟩:=h
 have hcl:=css_len h2 h3
 rcases hs with⟨rfl,hn⟩|⟨g,cap,cur,rfl,hg,hrow,hnc,hcm,hcs,htake⟩
 ·have:l=[]:=List.eq_nil_of_length_eq_zero hn
  subst this
  exact⟨none,0,rfl,Nat.le_refl _,Nat.zero_le _,fun _=>rfl,fun i x e=>by simp at e⟩
 ·refine⟨some ⟨g,0,none⟩,cap,rfl,hnc,hcm,by simp,fun i x e=>?_⟩
  have hi:i<l.length:=(List.getElem?_eq_some_iff.1 e).1
  have hc:css[i]? =some css[i]:=List.getElem?_eq_getElem (by omega)
  refine⟨g,0,css[i],rfl,T.mono (frag_sub _ _) (h3 i _ x hc e),fun j u hu=>?_⟩
  have hj:j<T.size:=by rw [←hcl css[i] (List.getElem_mem _)];exact(List.getElem?_eq_some_iff.1 hu).1
  have hx:css.flatten[i*T.size+j]? =some u:=by
   rw [flatten_at h0 css hcl,Nat.mul_comm,Nat.mul_add_div h0,Nat.div_eq_of_lt hj,Nat.add_zero,hc,Nat.mul_add_mod,Nat.mod_eq_of_lt hj];exact hu
  rw [←htake,List.getElem?_take] at hx
  split at hx
  ·simp only [World.cell?,hrow];simpa using hx
  ·cases hx
theorem OwnT.of_flat {α:Type} {T:Ty α} {f:α→List Value} {w:World} {base e:Nat} {v:Value} {l:List α} (h:w.ownsRow base e T.size v l.length (l.flatMap f)) (hR:∀c,∀x∈l,T.R c (f x) x):OwnT T w base e v l:=
 ⟨l.map f,by rw [←List.flatMap_def];exact h,by simp,fun i cs x a b=>by
  rw [List.getElem?_map,b] at a
  obtain rfl:=Option.some.inj a
  exact hR _ x (List.mem_of_getElem? b)⟩
def OwnC {α:Type} (T:Ty α) (c:CM) (w:World) (base e:Nat) (v:Value) (l:List α):Prop:=
 ∃css:List (List Value),w.ownsRow base e T.size v l.length css.flatten∧css.length=l.length∧∀(i:Nat) (cs:List Value) (x:α),css[i]? =some cs→l[i]? =some x→T.R c cs x
theorem OwnC.nil {α:Type} (T:Ty α) (c:CM) (w:World) (base e:Nat):OwnC T c w base e (.slice none 0 0) []:=⟨[],World.ownsRow_nil _ _ _ _,rfl,fun i cs x h=>by simp at h⟩
theorem OwnC.kept {α:Type} {T:Ty α} {c:CM} {w w':World} {base e:Nat} {v:Value} {l:List α} {row:Option Nat} (h:OwnC T c w base e v l) (hg:w.grownBy w' row) (hne:v.ownBlock=none∨v.ownBlock≠row):OwnC T c w' base e v l:=by
 obtain⟨css,h1,h2,h3⟩:=h
 exact⟨css,h1.kept hg hne,h2,h3⟩
theorem OwnC.grow {α:Type} {T:Ty α} {c:CM} {w w':World} {base e:Nat} {v:Value} {l:List α} (h:OwnC T c w base e v l) (hg:Grow w w'):OwnC T c w' base e v l:=
 h.kept (grownBy_of_grow hg none) (by cases v.ownBlock<;>simp)
theorem OwnC.mono {α:Type} {T:Ty α} {c c':CM} {w:World} {base e:Nat} {v:Value} {l:List α} (hs:Sub c c') (h:OwnC T c w base e v l):OwnC T c' w base e v l:=by
 obtain⟨css,h1,h2,h3⟩:=h
 exact⟨css,h1,h2,fun i cs x a b=>T.mono hs (h3 i cs x a b)⟩
theorem OwnC.lt {α:Type} {T:Ty α} {c:CM} {w:World} {base e:Nat} {v:Value} {l:List α} (h:OwnC T c w base e v l):∀k,v.ownBlock=some k→base≤k∧k<w.heap.size:=by
 obtain⟨css,h1,_⟩:=h
 exact h1.lt
theorem OwnC.form {α:Type} {T:Ty α} {c:CM} {w:World} {base e:Nat} {v:Value} {l:List α} (h:OwnC T c w base e v l):∃a cap,v=.slice a l.length cap:=by
 obtain⟨css,⟨_,⟨rfl,h0⟩|⟨g,cap,cur,rfl,_⟩⟩,_⟩:=h
 ·rw [h0];exact⟨_,_,rfl⟩
 ·exact⟨_,_,rfl⟩
theorem owns_form {w:World} {base:Nat} {e:TypeId} {size n:Nat} {v:Value} {xs:List Value} (h:w.ownsRow base e size v n xs):∃a cap,v=.slice a n cap:=by
 obtain⟨_,⟨rfl,rfl⟩|⟨g,cap,cur,rfl,_⟩⟩:=h
 ·exact⟨_,_,rfl⟩
 ·exact⟨_,_,rfl⟩
theorem OwnC.sl {α:Type} {T:Ty α} {c:CM} (h0:0<T.size) {w:World} {base e:Nat} {v:Value} {l:List α} (hs:Sub c w.cell?) (h:OwnC T c w base e v l):Sl T w.cell? v l:=by
 obtain⟨css,⟨hl,hs'⟩,h2,h3⟩:=h
 have hcl:=css_len h2 h3
 rcases hs' with⟨rfl,hn⟩|⟨g,cap,cur,rfl,hg,hrow,hnc,hcm,hcs,htake⟩
 ·have:l=[]:=List.eq_nil_of_length_eq_zero hn
  subst this
  exact⟨none,0,rfl,Nat.le_refl _,Nat.zero_le _,fun _=>rfl,fun i x e=>by simp at e⟩
 ·refine⟨some ⟨g,0,none⟩,cap,rfl,hnc,hcm,by simp,fun i x e=>?_⟩
  have hi:i<l.length:=(List.getElem?_eq_some_iff.1 e).1
  have hc:css[i]? =some css[i]:=List.getElem?_eq_getElem (by omega)
  refine⟨g,0,css[i],rfl,T.mono hs (h3 i _ x hc e),fun j u hu=>?_⟩
  have hj:j<T.size:=by rw [←hcl css[i] (List.getElem_mem _)];exact(List.getElem?_eq_some_iff.1 hu).1
  have hx:css.flatten[i*T.size+j]? =some u:=by
   rw [flatten_at h0 css hcl,Nat.mul_comm,Nat.mul_add_div h0,Nat.div_eq_of_lt hj,Nat.add_zero,hc,Nat.mul_add_mod,Nat.mod_eq_of_lt hj];exact hu
  rw [←htake,List.getElem?_take] at hx
  split at hx
  ·simp only [World.cell?,hrow];simpa using hx
  ·cases hx
theorem OwnC.get {α:Type} {T:Ty α} {c:CM} {w:World} {base e:Nat} {a:Option Addr} {cap:Nat} {l:List α} (h0:0<T.size) (h:OwnC T c w base e (.slice a l.length cap) l) (i:Nat) (hi:i<l.length):∃g cs,a=some ⟨g,0,none⟩∧T.R c cs l[i]∧At w.cell? g (i*T.size) cs:=by
 obtain⟨css,h1,h2,h3⟩:=h
 have hcl:=css_len h2 h3
 have hc:css[i]? =some css[i]:=List.getElem?_eq_getElem (by omega)
 have hR:=h3 i _ l[i] hc (List.getElem?_eq_getElem hi)
 obtain⟨hl,⟨_,hn⟩|⟨g,cap',cur,he,hg,hrow,hnc,hcm,hcs,htake⟩⟩:=id h1
 ·omega
 ·simp only [Value.slice.injEq,true_and] at he
  obtain⟨rfl,rfl⟩:=he
  refine⟨g,css[i],rfl,hR,fun j u hu=>?_⟩
  have hj:j<T.size:=by rw [←T.len hR];exact(List.getElem?_eq_some_iff.1 hu).1
  have:=h1.cells (g:=g) rfl (i*T.size+j) u (by
   rw [flatten_at h0 css hcl,Nat.mul_comm,Nat.mul_add_div h0,Nat.div_eq_of_lt hj,Nat.add_zero,hc,Nat.mul_add_mod,Nat.mod_eq_of_lt hj];exact hu)
  rw [Addr.add_lit,Nat.zero_add] at this
  exact this
theorem owns_base {w:World} {base b':Nat} {e:TypeId} {size n:Nat} {v:Value} {xs:List Value} (hb:b'≤base) (h:w.ownsRow base e size v n xs):w.ownsRow b' e size v n xs:=by
 obtain⟨h1,h2⟩:=h
 refine⟨h1,?_⟩
 rcases h2 with h2|⟨g,cap,cur,hv,hg,r⟩
 ·exact .inl h2
 ·exact .inr ⟨g,cap,cur,hv,Nat.le_trans hb hg,r⟩
theorem OwnC.base {α:Type} {T:Ty α} {c:CM} {w:World} {base b' e:Nat} {v:Value} {l:List α} (h:OwnC T c w base e v l) (hb:b'≤base):OwnC T c w b' e v l:=by
 obtain⟨css,h1,h2,h3⟩:=h
 exact⟨css,owns_base hb h1,h2,h3⟩
end Go.Proofs.YthfgeelcbcgahaaDoor
namespace Go.Proofs.YthfgeelcbcgahaaDoor
open Go.RowKit Go.Instr
def MapIs {κ:Type} (enc:κ→Value) (w:World) (m:Nat) (kv:List (κ×Value)):Prop:=
 ∃(es:List MapEntry) (clock:Nat),w.heap[m]? =some (.map es.toArray clock)∧es.map (fun e=>(e.key,e.val))=kv.map fun p=>(enc p.1,p.2)
structure KeyOk {κ:Type} [DecidableEq κ] (P:Program) (K:TypeId) (enc:κ→Value):Prop where
 chk:∀(b:Bool) (k:κ) (w:World),(checkKey b 10000 K (enc k)).run P w=.ok () w
 find:∀(k:κ) (kv:List (κ×Value)) (es:List MapEntry) (w:World),es.map (fun e=>(e.key,e.val))=kv.map (fun p=>(enc p.1,p.2))→
  (findKey K (enc k) es).run P w=.ok ((kv.findIdx? (fun p=>p.1==k)).bind fun i=>(kv[i]?).map fun p=>(i,p.2)) w
 same:∀k,sameBits 10000 (enc k) (enc k)=true
def mget {κ:Type} [DecidableEq κ] (kv:List (κ×Value)) (k:κ):Option Value:=(kv.find? (fun p=>p.1==k)).map (·.2)
def mput {κ:Type} [DecidableEq κ] (kv:List (κ×Value)) (k:κ) (v:Value):List (κ×Value):=match kv.findIdx? (fun p=>p.1==k) with|some i=>kv.set i (k,v)|none=>kv++ [(k,v)]
theorem mget_idx {κ:Type} [DecidableEq κ] (kv:List (κ×Value)) (k:κ):((kv.findIdx? (fun p=>p.1==k)).bind fun i=>(kv[i]?).map fun p=>(i,p.2)).map (·.2)=mget kv k:=by
 unfold mget
 cases h:kv.findIdx? (fun p=>p.1==k) with
 |none=>
  rw [List.findIdx?_eq_none_iff] at h
  have:kv.find? (fun p=>p.1==k)=none:=by
   rw [List.find?_eq_none];intro x hx;simpa using h x hx
  rw [this];rfl
 |some i=>
  have hf:=List.find?_eq_some_iff_getElem (xs:=kv) (p:=fun p:κ×Value=>p.1==k) (b:=kv[i]'(by rw [List.findIdx?_eq_some_iff_getElem] at h;exact h.1))
  have h':=h
  rw [List.findIdx?_eq_some_iff_getElem] at h
  obtain⟨hi,hp,hb⟩:=h
  rw [hf.2 ⟨hp,i,hi,rfl,fun j hj=>by simpa using hb j hj⟩]
  simp [List.getElem?_eq_getElem hi]
theorem run_lookup {κ:Type} [DecidableEq κ] {P:Program} {t K E:TypeId} {enc:κ→Value} (hK:KeyOk P K enc) (ht:P.underlying t=some (.map K E)) {z:Value} (hz:∀w,(zeroValue E).run P w=.ok z w) {w:World} {m:Nat} {kv:List (κ×Value)} (h:MapIs enc w m kv) (k:κ):
  (lookup t (.map (some m)) (enc k) false).run P w=.ok ((mget kv k).getD z) w:=by
 obtain⟨es,clock,hb,he⟩:=h
 have hf:=hK.find k kv es w he
 rw [←mget_idx]
 have hc:=fun b=>hK.chk b k w
 cases h:(kv.findIdx? (fun p=>p.1==k)).bind fun i=>(kv[i]?).map fun p=>(i,p.2) with
 |none=>
  rw [h] at hf
  simp [Instr.lookup,run_underlying ht,MapKept.run_getObj_map hb,hc,hf,hz,Result.andThen]
 |some q=>
  rw [h] at hf
  simp [Instr.lookup,run_underlying ht,MapKept.run_getObj_map hb,hc,hf,Result.andThen]
theorem run_put {κ:Type} [DecidableEq κ] {P:Program} {t K E:TypeId} {enc:κ→Value} (hK:KeyOk P K enc) (ht:P.underlying t=some (.map K E)) {w:World} {m:Nat} {kv:List (κ×Value)} (h:MapIs enc w m kv) (k:κ) (v:Value):
  ∃w',(mapUpdate t (.map (some m)) (enc k) v).run P w=.ok () w'∧MapIs enc w' m (mput kv k v)∧w.grownBy w' (some m):=by
 obtain⟨es,clock,hb,he⟩:=h
 have hf:=hK.find k kv es w he
 have hc:=fun b=>hK.chk b k w
 have hlt:m<w.heap.size:=(γ hb)
 have hlen:es.length=kv.length:=by have:=congrArg List.length he;simpa using this
 have hgr:∀o:Obj,w.grownBy { w with heap:=w.heap.setIfInBounds m o } (some m):=fun o=>
  ⟨rfl,rfl,rfl,by simp,fun k hk hne=>by simp only [Array.getElem?_setIfInBounds];rw [if_neg (fun e=>hne (by rw [e]))]⟩
 have hset:∀(o:Obj),(setObj m o).run P w=.ok () { w with heap:=w.heap.setIfInBounds m o }:=fun o=>by simp [setObj,Sem.run,hb]
 cases h:kv.findIdx? (fun p=>p.1==k) with
 |none=>
  rw [h] at hf
  refine⟨_,by simp [Instr.mapUpdate,run_underlying ht,MapKept.run_getObj_map hb,hc,hf,hset,Result.andThen];rfl,?_,hgr _⟩
  refine⟨es++ [{ key:=enc k,val:=v,born:=clock }],clock+1,by simp [hlt],?_⟩
  rw [mput,h];simp [he]
 |some i=>
  rw [h] at hf
  rw [List.findIdx?_eq_some_iff_getElem] at h
  obtain⟨hi,hp,hbf⟩:=h
  have hek:(es[i]'(by omega)).key=enc k:=by
   have:=congrArg (fun l=>l[i]?) he
   simp only [List.getElem?_map,List.getElem?_eq_getElem hi,List.getElem?_eq_getElem (show i<es.length by omega),Option.map_some,Option.some.injEq,Prod.mk.injEq] at this
   rw [this.1];congr 1;simpa using hp
  have hkeep:(keyThatStays (((es.toArray[i]?).map (·.key)).getD (enc k)) (enc k)).run P w=.ok (enc k) w:=by
   have:((es.toArray[i]?).map (·.key)).getD (enc k)=enc k:=by simp [List.getElem?_eq_getElem (show i<es.length by omega),hek]
   rw [this];simp [keyThatStays,hK.same]
  simp only [Option.bind_some,List.getElem?_eq_getElem hi,Option.map_some] at hf
  refine⟨_,by simp only [Instr.mapUpdate,Sem.run_bind,run_underlying ht,Result.andThen_ok,MapKept.run_getObj_map hb,hc,hf,hkeep,hset];rfl,?_,hgr _⟩
  refine⟨es.modify i fun e=>{ e with key:=enc k,val:=v },clock,by simp [hlt],?_⟩
  have hm:mput kv k v=kv.set i (k,v):=by
   have:kv.findIdx? (fun p=>p.1==k)=some i:=by rw [List.findIdx?_eq_some_iff_getElem];exact⟨hi,hp,hbf⟩
   rw [mput,this]
  rw [hm,List.map_set,←he]
  apply List.ext_getElem?
  intro j
  simp only [List.getElem?_map,List.getElem?_modify,List.getElem?_set,List.length_map]
  by_cases hij:i=j
  ·subst hij
   simp [show i<es.length by omega]
  ·simp [hij]
theorem find_of {κ:Type} [DecidableEq κ] {P:Program} {K:TypeId} {enc:κ→Value} (heq:∀(k k':κ) (w:World),(Op.equal K (enc k) (enc k')).run P w=.ok (decide (k=k')) w) (k:κ):∀(kv:List (κ×Value)) (es:List MapEntry) (n:Nat) (w:World),es.map (fun e=>(e.key,e.val))=kv.map (fun p=>(enc p.1,p.2))→
  (findAsking K (enc k) es n).run P w=.ok ((kv.findIdx? (fun p=>p.1==k)).bind fun i=>(kv[i]?).map fun p=>(n+i,p.2)) w
 | [],[],n,w,_=>by simp [findAsking]
 | [],_::_,n,w,h=>by simp at h
 |_::_,[],n,w,h=>by simp at h
 |p::kv,e::es,n,w,h=>by
  simp only [List.map_cons,List.cons.injEq,Prod.mk.injEq] at h
  obtain⟨⟨hk,hv⟩,h⟩:=h
  have ih:=find_of heq k kv es (n+1) w h
  simp only [findAsking,Sem.run_bind,hk,heq,Result.andThen_ok,Sem.run_ite,ih,Sem.run_pure,List.findIdx?_cons]
  by_cases hp:p.1=k
  ·simp [hp,hv]
  ·have:¬k=p.1:=fun e=>hp e.symm
   simp only [this,decide_false,Bool.false_eq_true,if_false,beq_eq_false_iff_ne.2 hp]
   congr 1
   cases kv.findIdx? (fun p=>p.1==k) with
   |none=>rfl
   |some i=>simp [Nat.add_assoc,Nat.add_comm 1 i]
def encPair (p:Int×Int):Value:=.agg #[.int .i64 p.1,.int .i64 p.2]
theorem keyPair:KeyOk (κ:=Int×Int) Tryd.prog 43 encPair where
 chk:=fun b k w=>by cases b<;>kernel_rfl
 find:=by
  intro k kv es w h
  have heq:∀(k k':Int×Int) (w:World),(Op.equal 43 (encPair k) (encPair k')).run Tryd.prog w=.ok (decide (k=k')) w:=by
   intro k k' w
   obtain⟨a,b⟩:=k
   obtain⟨a',b'⟩:=k'
   obtain⟨i,hi,-⟩:=Go.info_parts (show(Tryd.prog.info? 3).map (fun i=>(i.zero,i.size,i.bytes))=some (some (.int .i64 0),1,8) by kernel_rfl)
   have u3:=Tryd.underlying3
   have a3:=Tryd.isAgg3
   have z3:=Tryd.sizeOf3
   have hc:Tryd.prog.cellsOf 3=1:=by kernel_rfl
   unfold Op.equal Op.maxDepth
   rw [encPair,encPair,show(10000:Nat)=9999+1 from rfl,run_equalIn_array w 9999 _ _ Tryd.underlying43 hi,hc,show List.range 2=[0,1] from rfl]
   clear hi
   simp only [Op.eqItems]
   go_simp
   by_cases h1:a=a'<;>by_cases h2:b=b'<;>simp [h1,h2]
  have:=find_of heq k kv es 0 w h
  simp only [Nat.zero_add] at this
  cases es with
  |nil=>
   simp only [findKey,Sem.run_bind,run_underlying Tryd.underlying43,Result.andThen_ok,findNow,Sem.run_pure]
   cases kv with
   |nil=>rfl
   |cons _ _=>simp at h
  |cons e es=>
   have hn:findNow (.array 2 3) (encPair k) (e::es) 0=none:=by simp [findNow,sameNow]
   simp only [findKey,Sem.run_bind,run_underlying Tryd.underlying43,Result.andThen_ok,hn,this]
 same:=fun k=>by simp [encPair,sameBits]
theorem wp_lookup {κ:Type} [DecidableEq κ] {P:Program} {t K E:TypeId} {enc:κ→Value} (hK:KeyOk P K enc) (ht:P.underlying t=some (.map K E)) {z:Value} (hz:∀w,(zeroValue E).run P w=.ok z w) {w:World} {ops:Array Oper} {rest:List Oper} {o:Oper} {a:Act} {Q:Exit→Act→World→Prop} (hg:o.guard=none) (mo x:Operand) (hop:o.op=Op.lookup t mo x false)
  {m:Nat} {kv:List (κ×Value)} (h:MapIs enc w m kv) (k:κ) (hm:a.eval mo=.map (some m)) (hx:a.eval x=enc k) (hC:wpList P ops Q rest (a.put o.dst ((mget kv k).getD z)) w):wpList P ops Q (o::rest) a w:=by
 refine wpList_plain hg fun K' hK'=>?_
 have hrun:=run_lookup hK ht hz h k
 unfold Oper.wp
 simp [execOp,hop,hm,hx,hrun,Result.andThen]
 exact hK' _ _ hC
theorem wp_put {κ:Type} [DecidableEq κ] {P:Program} {t K E:TypeId} {enc:κ→Value} (hK:KeyOk P K enc) (ht:P.underlying t=some (.map K E)) {w:World} {ops:Array Oper} {rest:List Oper} {o:Oper} {a:Act} {Q:Exit→Act→World→Prop} (hg:o.guard=none) (mo x y:Operand) (hop:o.op=Op.mapUpdate t mo x y)
  {m:Nat} {kv:List (κ×Value)} (h:MapIs enc w m kv) (k:κ) (v:Value) (hm:a.eval mo=.map (some m)) (hx:a.eval x=enc k) (hy:a.eval y=v) (hC:∀w',MapIs enc w' m (mput kv k v)→w.grownBy w' (some m)→wpList P ops Q rest (a.put o.dst undef) w'):wpList P ops Q (o::rest) a w:=by
 refine wpList_plain hg fun K' hK'=>?_
 obtain⟨w',hrun,h1,h2⟩:=run_put hK ht h k v
 unfold Oper.wp
 simp [execOp,hop,hm,hx,hy,hrun,Result.andThen]
 exact hK' _ _ (hC w' h1 h2)
theorem MapIs.new {κ:Type} {enc:κ→Value} (w:World):MapIs enc (w.alloc (.map #[] 0)) w.heap.size []:=⟨[],0,heap_alloc_new w _,rfl⟩
theorem MapIs.grown {κ:Type} {enc:κ→Value} {w w':World} {m:Nat} {kv:List (κ×Value)} {row:Option Nat} (h:MapIs enc w m kv) (hg:w.grownBy w' row) (hne:row≠some m):MapIs enc w' m kv:=by
 obtain⟨es,c,hb,he⟩:=h
 exact⟨es,c,by rw [hg.block m (γ hb) (fun e=>hne e.symm)];exact hb,he⟩
theorem MapIs.lt {κ:Type} {enc:κ→Value} {w:World} {m:Nat} {kv:List (κ×Value)} (h:MapIs enc w m kv):m<w.heap.size:=by
 obtain⟨es,c,hb,he⟩:=h
 exact(γ hb)
def setKv {κ:Type} (ks:List κ):List (κ×Value):=ks.map fun k=>(k,.bool true)
theorem mget_set {κ:Type} [DecidableEq κ] (ks:List κ) (k:κ):(mget (setKv ks) k).getD (.bool false)=.bool (decide (k∈ks)):=by
 unfold mget setKv
 induction ks with
 |nil=>simp
 |cons x ks ih=>
  simp only [List.map_cons,List.find?_cons]
  by_cases h:x=k
  ·simp [h]
  ·have h':¬k=x:=fun e=>h e.symm
   simp only [beq_eq_false_iff_ne.2 h,List.mem_cons,h',false_or]
   exact ih
theorem mget_in {κ:Type} [DecidableEq κ] {ks:List κ} {k:κ} (h:k∈ks):(mget (setKv ks) k).getD (.bool false)=.bool true:=by rw [mget_set];simp [h]
theorem mget_out {κ:Type} [DecidableEq κ] {ks:List κ} {k:κ} (h:¬k∈ks):(mget (setKv ks) k).getD (.bool false)=.bool false:=by rw [mget_set];simp [h]
theorem mput_set {κ:Type} [DecidableEq κ] (ks:List κ) (k:κ):∃ks',mput (setKv ks) k (.bool true)=setKv ks'∧∀x,x∈ks'↔x∈ks∨x=k:=by
 unfold mput
 cases h:(setKv ks).findIdx? (fun p=>p.1==k) with
 |none=>exact⟨ks++ [k],by simp [setKv],by simp⟩
 |some i=>
  rw [List.findIdx?_eq_some_iff_getElem] at h
  obtain⟨hi,hp,_⟩:=h
  have hi':i<ks.length:=by simpa [setKv] using hi
  have hk:ks[i]=k:=by simpa [setKv] using hp
  refine⟨ks,?_,fun x=>⟨Or.inl,fun h=>h.elim id fun h=>by rw [h,←hk];exact List.getElem_mem _⟩⟩
  apply List.ext_getElem?
  intro j
  rw [List.getElem?_set]
  by_cases hij:i=j
  ·subst hij;simp [setKv,hi',hk]
  ·simp [hij]
end Go.Proofs.YthfgeelcbcgahaaDoor
namespace Go.Proofs.YthfgeelcbcgahaaDoor
open Go.RowKit
def S4 (s0 s1 s2 s3:Int) (k:Int):Int:=if k=0 then s0 else if k=1 then s1 else if k=2 then s2 else s3
def KeysOk (l:List Pt):Prop:=∀p∈l,0≤p.k∧p.k<4
def Sm.get (s:Sm) (k:Int):Int:=S4 s.a s.b s.c s.d k
def Sm.put (s:Sm) (k x:Int):Sm:=if k=0 then { s with a:=x } else if k=1 then { s with b:=x } else if k=2 then { s with c:=x } else { s with d:=x }
def Sm.add (s:Sm) (k n:Int):Sm:=s.put k (wrap64 (s.get k+n))
theorem guard_pt:Tryd.prog.eqGuardType Tryd.prog.depth 34=false:=by kernel_rfl
theorem eql_pt (p q:Pt) (w:World):(binOp .eql 34 (.agg #[.int .i64 p.h,.int .i64 p.k,.int .i64 p.n]) (.agg #[.int .i64 q.h,.int .i64 q.k,.int .i64 q.n])).run Tryd.prog w=.ok (.bool (decide (p=q))) w:=by
 have u3:=Tryd.underlying3
 have a3:=Tryd.isAgg3
 have z3:=Tryd.sizeOf3
 have hS:Tryd.prog.underlying 34=some (.struct (Tryd.prog.fieldsOf 34)):=by kernel_rfl
 have hp:Tryd.prog.stoodInHeld 34=false:=by kernel_rfl
 rw [run_eql_struct,show(10000:Nat)=9999+1 from rfl,run_equalIn_agg w 9999 34 _ _ hS hp]
 simp only [Program.fieldsOf,Tryd.underlying34]
 obtain⟨a,b,c⟩:=p
 obtain⟨a',b',c'⟩:=q
 go_simp
 by_cases h1:a=a'<;>by_cases h2:b=b'<;>by_cases h3:c=c'<;>simp [h1,h2,h3]
theorem neq_pt (p q:Pt) (w:World):(binOp .neq 34 (.agg #[.int .i64 p.h,.int .i64 p.k,.int .i64 p.n]) (.agg #[.int .i64 q.h,.int .i64 q.k,.int .i64 q.n])).run Tryd.prog w=.ok (.bool (!decide (p=q))) w:=by
 have h:=eql_pt p q w
 rw [run_eql_struct] at h
 rw [run_neq_struct]
 cases hr:(Op.equalIn 10000 34 (.agg #[.int .i64 p.h,.int .i64 p.k,.int .i64 p.n]) (.agg #[.int .i64 q.h,.int .i64 q.k,.int .i64 q.n])).run Tryd.prog w with
 |ok b w'=>rw [hr] at h;simp only [Result.andThen_ok,Result.ok.injEq,Value.bool.injEq] at h ⊢;exact⟨by rw [h.1],h.2⟩
 |halt x w'=>rw [hr] at h;simp [Result.andThen] at h
set_option maxHeartbeats 400000 in
theorem ref_sameParts {v v':Value} {l l':List Pt} (w:World) (hv:Pts w.cell? v l) (hv':Pts w.cell? v' l'):
  Calls Tryd.prog 8 #[v,v'] w fun e w'=>e=.returned (.bool (decide (l=l')))∧Grow w w':=by
 obtain⟨a,cap,rfl,h1,h2,-,hel⟩:=hv
 obtain⟨a',cap',rfl,h1',h2',-,hel'⟩:=hv'
 unfold maxLen at h2 h2'
 by_cases hlen:l.length=l'.length
 ·have hb:((l.length:Int) !=l'.length)=false:=by simp [hlen]
  have HL:=η hlen
  clear hlen
  go_enter Tryd.func8,Tryd.ntmps8
  go_wp2
  go_loopw [4,5,13] (fun _ _ i wr=>∃k:Nat,k≤l.length∧i=.int .i64 k∧Grow w wr∧∀j,j<k→l[j]? =l'[j]?) (fun _ _ i _=>l.length - (intOf i).toNat)
  case atStart=>exact⟨0,by omega,rfl,grA,fun j h=>by omega⟩
  case round=>
   obtain⟨k,hk',rfl,hb,hE⟩:=hrel
   have HE:=η hE
   clear hE
   by_cases hlt:k<l.length
   ·have hlt':k<l'.length:=by have:=HL.o;omega
    obtain⟨b,o,rfl,c0,c1,c2,-,-,-⟩:=Pts.at_ hel k hlt
    obtain⟨b',o',rfl,c0',c1',c2',-,-,-⟩:=Pts.at_ hel' k hlt'
    replace c0:=hb.sub _ _ c0
    replace c1:=hb.sub _ _ c1
    replace c2:=hb.sub _ _ c2
    replace c0':=hb.sub _ _ c0'
    replace c1':=hb.sub _ _ c1'
    replace c2':=hb.sub _ _ c2'
    clear hel hel'
    generalize hp:l[k]=p at*
    generalize hp':l'[k]=p' at*
    have HP:=η hp
    have HP':=η hp'
    clear hp hp'
    have hg:=guard_pt
    have HN:∀w,(binOp .neq 34 (.agg #[.int .i64 p.h,.int .i64 p.k,.int .i64 p.n]) (.agg #[.int .i64 p'.h,.int .i64 p'.k,.int .i64 p'.n])).run Tryd.prog w=.ok (.bool (!decide (p=p'))) w:=fun w=>neq_pt p p' w
    by_cases hpp:p=p'
    ·simp only [hpp,decide_true,Bool.not_true] at HN
     have HQ:=η hpp
     subst hpp
     go_wp2_with (go_quiet (fail))
     go_roundw
     case rel=>exact⟨k+1,by omega,by go_num,grA,fun j hj=>by
      by_cases h:j=k
      ·subst h;rw [List.getElem?_eq_getElem hlt,List.getElem?_eq_getElem hlt',HP.o,HP'.o]
      ·exact HE.o j (by omega)⟩
     case measure=>simp [intOf];omega
    ·simp only [hpp,decide_false,Bool.not_false] at HN
     have HQ:=η hpp
     clear hpp
     go_wp2_with (go_quiet (fail))
     go_ret
     exact⟨ret_bool (by
      rw [eq_comm,decide_eq_false_iff_not];rintro rfl;exact HQ.o (by rw [←HP.o,←HP'.o])),grA⟩
   ·clear hel hel'
    go_wp2
    go_ret
    refine⟨ret_bool ?_,hb⟩
    rw [eq_comm,decide_eq_true_eq]
    apply List.ext_getElem?
    intro j
    by_cases h:j<k
    ·exact HE.o j h
    ·rw [List.getElem?_eq_none (by omega),List.getElem?_eq_none (by have:=HL.o;omega)]
 ·have hb:((l.length:Int) !=l'.length)=true:=by simp;omega
  have hE:decide (l=l')=false:=by rw [decide_eq_false_iff_not];rintro rfl;exact hlen rfl
  have HE:=η hE
  clear hlen hE hel hel'
  go_enter Tryd.func8,Tryd.ntmps8
  go_wp2
  go_ret
  exact⟨ret_bool HE.o.symm,grA⟩
def badPt (p:Pt) (h:Int):Bool:=decide (p.h<0∨h≤p.h∨p.k<0∨3<p.k∨1048576<p.n∨p.n< -1048576)
def wrongGo (h:Int):List (Int×Int)→List Pt→Int
 |_,[]=>0
 |had,p::l=>if badPt p h=true then 3 else if(p.h,p.k)∈had then 4 else wrongGo h ((p.h,p.k)::had) l
def wrongE (l:List Pt) (h:Int):Int:=if l.length=0∨4<l.length then 5 else wrongGo h [] l
theorem wrongGo_congr (h:Int):∀(l:List Pt) (a b:List (Int×Int)),(∀x,x∈a↔x∈b)→wrongGo h a l=wrongGo h b l
 | [],_,_,_=>rfl
 |p::l,a,b,hab=>by
  simp only [wrongGo,hab]
  rw [wrongGo_congr h l ((p.h,p.k)::a) ((p.h,p.k)::b) (fun x=>by simp [hab])]
theorem ways_pt (p:Pt) (h:Int):(p.h<0)∨(0≤p.h∧h≤p.h)∨(0≤p.h∧p.h<h∧p.k<0)∨(0≤p.h∧p.h<h∧0≤p.k∧3<p.k)∨(0≤p.h∧p.h<h∧0≤p.k∧p.k≤3∧1048576<p.n)∨(0≤p.h∧p.h<h∧0≤p.k∧p.k≤3∧p.n≤1048576∧p.n< -1048576)∨(0≤p.h∧p.h<h∧0≤p.k∧p.k≤3∧p.n≤1048576∧-1048576≤p.n):=by omega
set_option maxRecDepth 100000 in
set_option maxHeartbeats 1000000 in
theorem ref_wrongParts {v:Value} {l:List Pt} {h:Int} (w:World) (hv:Pts w.cell? v l):
  Calls Tryd.prog 9 #[v,.int .i64 h] w fun e w'=>e=.returned (.int .i64 (wrongE l h))∧Grow w w':=by
 obtain⟨a,cap,rfl,h1,h2,-,hel⟩:=hv
 unfold maxLen at h2
 have hzb:∀w,(zeroValue 4).run Tryd.prog w=.ok (.bool false) w:=fun w=>by kernel_rfl
 by_cases hl0:l.length=0
 ·have hE:wrongE l h=5:=by simp [wrongE,hl0]
  have HE:=η hE
  have t0:((l.length:Int)==0)=true:=by simp [hl0]
  clear hel hE hl0 hzb
  go_enter Tryd.func9,Tryd.ntmps9
  go_wp2
  go_ret
  exact⟨ret_int HE.o.symm,Grow.refl _⟩
 have t0:((l.length:Int)==0)=false:=by rw [beq_eq_false_iff_ne];omega
 by_cases hl4:4<l.length
 ·have hE:wrongE l h=5:=by rw [wrongE,if_pos (.inr hl4)]
  have HE:=η hE
  clear hel hE hl0 hzb
  go_enter Tryd.func9,Tryd.ntmps9
  go_wp2
  go_ret
  exact⟨ret_int HE.o.symm,Grow.refl _⟩
 have hE:wrongE l h=wrongGo h [] l:=by rw [wrongE,if_neg (by omega)]
 have HE:=η hE
 clear hE hl0
 have hmm:=@run_makeMap Tryd.prog
 go_enter Tryd.func9,Tryd.ntmps9
 go_wp2
 go_loopw [4,19] (fun _ i wr=>∃(k:Nat) (ks:List (Int×Int)),k≤l.length∧i=.int .i64 k∧Grow w wr∧MapIs encPair wr w.heap.size (setKv ks)∧wrongE l h=wrongGo h ks (l.drop k)) (fun _ i _=>l.length - (intOf i).toNat)
 case atStart=>exact⟨0,[],by omega,rfl,grA,MapIs.new w,HE.o⟩
 case round=>
  obtain⟨k,ks,hk',rfl,hb,hmap,hE⟩:=hrel
  have HM:=η hmap
  by_cases hlt:k<l.length
  ·obtain⟨b,o,rfl,c0,c1,c2,-,-,-⟩:=Pts.at_ hel k hlt
   replace c0:=hb.sub _ _ c0
   replace c1:=hb.sub _ _ c1
   replace c2:=hb.sub _ _ c2
   rw [List.drop_eq_getElem_cons hlt,wrongGo] at hE
   have hw:=ways_pt l[k] h
   have hbad:∀b,decide (l[k].h<0∨h≤l[k].h∨l[k].k<0∨3<l[k].k∨1048576<l[k].n∨l[k].n< -1048576)=b→badPt l[k] h=b:=fun b hb=>hb
   have HB:=η hbad
   have HE2:=η hE
   clear hel hE hmap hbad HE
   generalize hp:l[k]=p at*
   obtain⟨ph,pk,pn⟩:=p
   clear hp
   simp only at hw c0 c1 c2
   rcases hw with hw|⟨w1,hw⟩|⟨w1,w2,hw⟩|⟨w1,w2,w3,hw⟩|⟨w1,w2,w3,w4,hw⟩|⟨w1,w2,w3,w4,w5,hw⟩|⟨w1,w2,w3,w4,w5,hw⟩
   iterate 6 (· (go_wp2;go_ret;exact⟨ret_int (by rw [HE2.o,if_pos (HB.o true (by simp only [decide_eq_true_eq];omega))]),grA⟩))
   have hnb:=HB.o false (by simp only [decide_eq_false_iff_not];omega)
   have hE3:=HE2.o
   rw [if_neg (by rw [hnb];exact Bool.false_ne_true)] at hE3
   have HE3:=η hE3
   clear hE3 hnb HB HE2
   by_cases hin:(ph,pk)∈ks
   ·have HI:=η hin
    have HG:=η (mget_in hin)
    clear hin
    go_wp2_with (at_lookup;refine wp_lookup keyPair Tryd.underlying42 hzb rfl _ _ rfl (HM.o.grown (grownBy_of_grow ((Grow.refl _).alloc _) none) (by simp)) (ph,pk) rfl rfl ?_;rw [HG.o])
    go_ret
    exact⟨ret_int (by rw [HE3.o,if_pos HI.o]),grA⟩
   ·have HI:=η hin
    have HG:=η (mget_out hin)
    clear hin
    go_wp2_with (first|(at_lookup;refine wp_lookup keyPair Tryd.underlying42 hzb rfl _ _ rfl (HM.o.grown (grownBy_of_grow ((Grow.refl _).alloc _) none) (by simp)) (ph,pk) rfl rfl ?_;rw [HG.o])|(at_mapUpdate;refine wp_put keyPair Tryd.underlying42 rfl _ _ _ rfl (HM.o.grown (grownBy_of_grow ((Grow.refl _).alloc _) none) (by simp)) (ph,pk) (.bool true) rfl rfl rfl ?_;intro w' hm' hg';have HM':=η hm';have HG':=η hg';clear hm' hg'))
    obtain⟨ks',hks,hmem⟩:=mput_set ks (ph,pk)
    have hm':=HM'.o
    rw [hks] at hm'
    go_roundw
    case rel=>exact⟨k+1,ks',by omega,by go_num,(hb.alloc _).grown HG'.o (by simp),hm',by rw [HE3.o,if_neg HI.o];exact wrongGo_congr h _ _ _ fun x=>by rw [hmem,List.mem_cons,or_comm]⟩
    case measure=>simp [intOf];omega
  ·go_wp2
   go_ret
   refine⟨ret_int ?_,hb⟩
   rw [hE,List.drop_of_length_le (by omega)]
   rfl
end Go.Proofs.YthfgeelcbcgahaaDoor
namespace Go.Proofs.YthfgeelcbcgahaaDoor
theorem wrongGo_ok {h:Int}:∀{l:List Pt} {had:List (Int×Int)},wrongGo h had l=0→(∀p∈l,badPt p h=false)∧(∀p∈l,(p.h,p.k)∉had)∧(l.map fun p=>(p.h,p.k)).Nodup
 | [],_,_=>by simp
 |p::l,had,e=>by
  unfold wrongGo at e
  split at e
  ·cases e
  ·rename_i hb
   split at e
   ·cases e
   ·rename_i hn
    obtain⟨h1,h2,h3⟩:=wrongGo_ok e
    refine⟨fun q hq=>?_,fun q hq=>?_,?_⟩
    ·rcases List.mem_cons.1 hq with rfl|hq
     ·simpa using hb
     ·exact h1 q hq
    ·rcases List.mem_cons.1 hq with rfl|hq
     ·exact hn
     ·exact fun hm=>h2 q hq (List.mem_cons_of_mem _ hm)
    ·rw [List.map_cons,List.nodup_cons]
     refine⟨fun hm=>?_,h3⟩
     obtain⟨q,hq,he⟩:=List.mem_map.1 hm
     exact h2 q hq (by rw [he];exact List.mem_cons_self)
theorem wrong_ok {l:List Pt} {h:Int} (e:wrongE l h=0):0<l.length∧l.length≤4∧(∀p∈l,0≤p.h∧p.h<h∧0≤p.k∧p.k<4∧p.n≤1048576∧-1048576≤p.n)∧(l.map fun p=>(p.h,p.k)).Nodup:=by
 unfold wrongE at e
 split at e
 ·cases e
 ·rename_i hl
  obtain⟨h1,_,h3⟩:=wrongGo_ok e
  refine⟨by omega,by omega,fun p hp=>?_,h3⟩
  have:=of_decide_eq_false (h1 p hp)
  omega
end Go.Proofs.YthfgeelcbcgahaaDoor
namespace Go.Proofs.YthfgeelcbcgahaaDoor
open Go.RowKit
theorem i64_low {n:Int} (h:I64 n):-9223372036854775808≤n∧n≤9223372036854775807:=by
 simp [I64,Lit.wf,IntKind.min,IntKind.max,IntKind.signed,IntKind.bits] at h
 omega
theorem i64_of {n:Int} (h0:-9223372036854775808≤n) (h1:n≤9223372036854775807):I64 n:=by
 simp [I64,Lit.wf,IntKind.min,IntKind.max,IntKind.signed,IntKind.bits]
 omega
def spl:List UInt8→List (List UInt8)
 | []=>[[]]
 |c::l=>if c=32 then []::spl l else match spl l with
  |w::r=>(c::w)::r
  | []=>[[c]]
theorem spl_space (l:List UInt8):spl (32::l)=[]::spl l:=by simp [spl]
theorem spl_ne:∀l:List UInt8,spl l≠ []
 | []=>by simp [spl]
 |c::l=>by
  unfold spl
  split
  ·simp
  ·split<;>simp
theorem spl_cons {c:UInt8} (h:c≠32) (l:List UInt8):∃w r,spl l=w::r∧spl (c::l)=(c::w)::r:=by
 cases e:spl l with
 |nil=>exact absurd e (spl_ne l)
 |cons w r=>exact⟨w,r,rfl,by rw [spl,if_neg h,e]⟩
theorem spl_app:∀(a l:List UInt8),(32:UInt8)∉a→∃w r,spl l=w::r∧spl (a++l)=(a++w)::r
 | [],l,_=>by
  cases e:spl l with
  |nil=>exact absurd e (spl_ne l)
  |cons w r=>exact⟨w,r,rfl,e⟩
 |c::a,l,h=>by
  obtain⟨w,r,e1,e2⟩:=spl_app a l (fun h2=>h (List.mem_cons_of_mem _ h2))
  obtain⟨w2,r2,e3,e4⟩:=spl_cons (c:=c) (fun e=>h (by rw [e];exact List.mem_cons_self)) (a++l)
  rw [e2] at e3
  simp only [List.cons.injEq] at e3
  obtain⟨rfl,rfl⟩:=e3
  exact⟨w,r,e1,e4⟩
theorem spl_word (a:List UInt8) (h:(32:UInt8)∉a):spl a=[a]:=by
 obtain⟨w,r,e1,e2⟩:=spl_app a [] h
 simp [spl] at e1
 obtain⟨rfl,rfl⟩:=e1
 simpa using e2
theorem spl_next (a l:List UInt8) (h:(32:UInt8)∉a):spl (a++32::l)=a::spl l:=by
 obtain⟨w,r,e1,e2⟩:=spl_app a (32::l) h
 rw [spl_space] at e1
 simp only [List.cons.injEq] at e1
 obtain⟨rfl,rfl⟩:=e1
 simpa using e2
theorem splitK_cons {c:UInt8} (h:c≠32) (k:Nat) (l:List UInt8):∃w r,Lib.splitK [32] 0 k l=w::r∧Lib.splitK [32] 0 k (c::l)=(c::w)::r:=by
 cases k with
 |zero=>exact⟨l,[],rfl,rfl⟩
 |succ k=>
  have hp:([32]:List UInt8).isPrefixOf (c::l)=false:=by
   rw [Bool.eq_false_iff];intro e
   rw [List.isPrefixOf_iff_prefix] at e
   obtain⟨t,ht⟩:=e
   simp at ht
   exact h ht.1.symm
  have hge:=Lib.index_ge l [32]
  by_cases hi:Lib.index l [32]= -1
  ·refine⟨l,[],by rw [Lib.splitK,if_pos (by rw [hi];rfl)],?_⟩
   have:Lib.index (c::l) [32]= -1:=by unfold Lib.index;simp [hp,hi]
   rw [Lib.splitK,if_pos (by rw [this];rfl)]
  ·obtain⟨i,hi2⟩:∃i:Nat,Lib.index l [32]=i:=⟨(Lib.index l [32]).toNat,by omega⟩
   have e2:Lib.index (c::l) [32]=((i+1:Nat):Int):=by unfold Lib.index;rw [hp,hi2];simp [show¬((i:Int)= -1) by omega]
   refine⟨l.take (i+0),Lib.splitK [32] 0 k (l.drop (i+1)),?_,?_⟩
   ·rw [Lib.splitK,if_neg (by rw [hi2];intro e;have:=beq_iff_eq.1 e;omega),hi2];rfl
   ·rw [Lib.splitK,if_neg (by rw [e2];intro e;have:=beq_iff_eq.1 e;omega),e2];rfl
theorem splitK_spl:∀s:List UInt8,Lib.splitK [32] 0 (s.count 32) s=spl s
 | []=>rfl
 |c::l=>by
  by_cases h:c=32
  ·subst h
   rw [List.count_cons_self,spl_space,←splitK_spl l]
   have:Lib.index (32::l) [32]=0:=by unfold Lib.index;simp
   rw [Lib.splitK,if_neg (by rw [this];intro e;have:=beq_iff_eq.1 e;omega),this]
   rfl
  ·rw [List.count_cons_of_ne h]
   obtain⟨w,r,e1,e2⟩:=splitK_cons h (l.count 32) l
   obtain⟨w2,r2,e3,e4⟩:=spl_cons h l
   rw [splitK_spl l,e3] at e1
   simp only [List.cons.injEq] at e1
   obtain⟨rfl,rfl⟩:=e1
   rw [e2,e4]
theorem join_spl:∀s:List UInt8,Lib.join (spl s) [32]=s
 | []=>rfl
 |c::l=>by
  by_cases h:c=32
  ·subst h
   rw [spl_space]
   have ih:=join_spl l
   cases e:spl l with
   |nil=>exact absurd e (spl_ne l)
   |cons w r=>
    rw [e] at ih
    rw [Lib.join_cons] at ih ⊢
    simp only [Lib.joinTail,List.map_cons,List.flatten_cons] at ih ⊢
    rw [←ih]
    simp
  ·obtain⟨w,r,e1,e2⟩:=spl_cons h l
   have ih:=join_spl l
   rw [e1,Lib.join_cons] at ih
   rw [e2,Lib.join_cons,←ih]
   rfl
theorem nat48 {d:Nat} (h:d<10):(UInt8.ofNat (48+d)).toNat=48+d:=by
 show(48+d) % 256=48+d
 omega
theorem dec_digit (u:Nat):∀c∈Lib.decDigits u,48≤c.toNat∧c.toNat≤57:=by
 induction u using Nat.strongRecOn with
 |_ u ih=>
  intro c hc
  rw [Lib.decDigits] at hc
  split at hc
  ·rename_i h
   rw [List.mem_singleton] at hc
   subst hc
   rw [nat48 h]
   omega
  ·rename_i h
   rcases List.mem_append.1 hc with h1|h1
   ·exact ih (u/10) (by omega) c h1
   ·rw [List.mem_singleton] at h1
    subst h1
    rw [nat48 (by omega)]
    omega
theorem dec_ne (u:Nat):Lib.decDigits u≠ []:=by
 rw [Lib.decDigits]
 split<;>simp
theorem pu_snoc {d:Nat} (hd:d<10):∀(l:List UInt8) (acc u:Nat),Lib.parseUint10 acc l=.ok u→u*10+d<18446744073709551616→Lib.parseUint10 acc (l++ [UInt8.ofNat (48+d)])=.ok (u*10+d)
 | [],acc,u,h,hu=>by
  simp only [Lib.parseUint10] at h
  injection h with h
  subst h
  have e:(UInt8.ofNat (48+d)).toNat=48+d:=nat48 hd
  simp only [List.nil_append,Lib.parseUint10,e]
  rw [if_pos (by omega),if_neg (by omega),if_neg (by omega)]
  congr 1
  omega
 |c::r,acc,u,h,hu=>by
  simp only [Lib.parseUint10] at h
  split at h
  ·rename_i h1
   split at h
   ·cases h
   ·rename_i h2
    split at h
    ·cases h
    ·rename_i h3
     rw [List.cons_append]
     simp only [Lib.parseUint10]
     rw [if_pos h1,if_neg h2,if_neg h3]
     exact pu_snoc hd r _ u h hu
  ·cases h
theorem pu_dec (u:Nat):u<18446744073709551616→Lib.parseUint10 0 (Lib.decDigits u)=.ok u:=by
 induction u using Nat.strongRecOn with
 |_ u ih=>
  intro hu
  by_cases h:u<10
  ·have e:=pu_snoc h [] 0 0 rfl (by omega)
   rw [Lib.decDigits,dif_pos h]
   simpa using e
  ·have e:=pu_snoc (d:=u % 10) (by omega) _ 0 (u/10) (ih (u/10) (by omega) (by omega)) (by omega)
   rw [Lib.decDigits,dif_neg h,e]
   congr 1
   omega
theorem mag_dec {u:Nat} (hu:u<18446744073709551616):Lib.parseMag (Lib.decDigits u)=.ok u:=by
 rw [Lib.parseMag,if_neg (dec_ne u),pu_dec u hu]
theorem atoi_itoa {n:Int} (hn:I64 n):Lib.atoiAll (Lib.itoa n)=.ok n:=by
 have hn:=i64_low hn
 by_cases h:n<0
 ·rw [Lib.itoa,if_pos h,Lib.atoiAll_minus,mag_dec (by omega)]
  simp only [Lib.signed]
  rw [if_neg (by omega)]
  congr 1
  omega
 ·rw [Lib.itoa,if_neg h]
  cases e:Lib.decDigits n.toNat with
  |nil=>exact absurd e (dec_ne _)
  |cons c r=>
   have hc:=dec_digit n.toNat c (by rw [e];exact List.mem_cons_self)
   rw [Lib.atoiAll_plain c r (by omega) (by omega),←e,mag_dec (by omega)]
   simp only [Lib.signless]
   rw [if_neg (by omega)]
   congr 1
   omega
theorem itoa_chars (n:Int):∀c∈Lib.itoa n,c=45∨(48≤c.toNat∧c.toNat≤57):=by
 intro c hc
 unfold Lib.itoa at hc
 split at hc
 ·rcases List.mem_cons.1 hc with h|h
  ·exact .inl h
  ·exact .inr (dec_digit _ c h)
 ·exact .inr (dec_digit _ c hc)
theorem itoa_no (n:Int):(32:UInt8)∉Lib.itoa n:=fun h=>by
 rcases itoa_chars n _ h with h|h
 ·exact absurd h (by decide)
 ·exact absurd h.1 (by decide)
theorem itoa_one {n:Int} (h0:0≤n) (h9:n≤9):Lib.itoa n=[UInt8.ofNat (48+n.toNat)]:=by
 rw [Lib.itoa,if_neg (by omega),Lib.decDigits,dif_pos (by omega)]
theorem itoa_neg_head {n:Int} (h:n<0):∃r,Lib.itoa n=45::r∧r≠ []:=⟨_,by rw [Lib.itoa,if_pos h],dec_ne _⟩
theorem itoa_pos_head {n:Int} (h:0≤n):∃c r,Lib.itoa n=c::r∧48≤c.toNat∧c.toNat≤57:=by
 cases e:Lib.decDigits n.toNat with
 |nil=>exact absurd e (dec_ne _)
 |cons c r=>exact⟨c,r,by rw [Lib.itoa,if_neg (by omega),e],dec_digit n.toNat c (by rw [e];exact List.mem_cons_self)⟩
def dgt (c:UInt8):Bool:=decide (48≤c.toNat∧c.toNat≤57)
def wordOf (p:Pt):List UInt8:=Lib.itoa p.h++46::(Lib.itoa p.k++((if p.n<0 then [] else [43])++Lib.itoa p.n))
def printE (l:List Pt):List UInt8:=Lib.join (l.map wordOf) [32]
def wordE:List UInt8→Option Pt
 |a::d::b::s::r=>
  if r≠ []∧dgt a=true∧d=46∧dgt b=true∧(s=43∨s=45) then
   match Lib.atoiAll (if s=43 then r else s::r) with
   | .ok n=>if Lib.itoa n=(if s=43 then r else s::r)∧¬(s=43∧n<0)∧¬(s=45∧0≤n) then some ⟨a.toNat - 48,b.toNat - 48,n⟩ else none
   |_=>none
  else none
 |_=>none
def digP:List UInt8→Int×Bool
 | [c]=>if dgt c then((c.toNat:Int) - 48,true) else(0,false)
 |_=>(0,false)
def wordP (w:List UInt8):Option Pt:=
 if(Lib.cut w [46]).2.2=false∨(Lib.cut w [46]).2.1.length<3 then none else
 match Lib.atoiAll (Lib.trimPrefix ((Lib.cut w [46]).2.1.drop 1) [43]) with
 | .ok n=>if(digP (Lib.cut w [46]).1).2=true∧(digP ((Lib.cut w [46]).2.1.take 1)).2=true∧Lib.itoa n=Lib.trimPrefix ((Lib.cut w [46]).2.1.drop 1) [43]∧Lib.hasPrefix ((Lib.cut w [46]).2.1.drop 1) [43]=decide (0≤n) then
   some ⟨(digP (Lib.cut w [46]).1).1,(digP ((Lib.cut w [46]).2.1.take 1)).1,n⟩ else none
 |_=>none
theorem cut_nil:Lib.cut [] [46]=([],[],false):=by decide
theorem cut_at (l:List UInt8):Lib.cut (46::l) [46]=([],l,true):=by
 have:Lib.index (46::l) [46]=0:=by unfold Lib.index;simp
 unfold Lib.cut
 rw [if_pos (by rw [this];decide),this]
 rfl
theorem cut_cons {c:UInt8} (h:c≠46) (l:List UInt8):Lib.cut (c::l) [46]=if(Lib.cut l [46]).2.2=true then(c::(Lib.cut l [46]).1,(Lib.cut l [46]).2.1,true) else(c::l,[],false):=by
 have hp:([46]:List UInt8).isPrefixOf (c::l)=false:=by
  rw [Bool.eq_false_iff];intro e
  rw [List.isPrefixOf_iff_prefix] at e
  obtain⟨t,ht⟩:=e
  simp at ht
  exact h ht.1.symm
 have hge:=Lib.index_ge l [46]
 by_cases hi:Lib.index l [46]= -1
 ·have e:Lib.index (c::l) [46]= -1:=by unfold Lib.index;simp [hp,hi]
  unfold Lib.cut
  rw [e,hi]
  simp
 ·obtain⟨i,hi2⟩:∃i:Nat,Lib.index l [46]=i:=⟨(Lib.index l [46]).toNat,by omega⟩
  have e2:Lib.index (c::l) [46]=((i+1:Nat):Int):=by unfold Lib.index;rw [hp,hi2];simp [show¬((i:Int)= -1) by omega]
  unfold Lib.cut
  rw [e2,hi2]
  simp [show(0:Int)≤(i:Int)+1 by omega]
theorem dg46:dgt 46=false:=by decide
theorem digP_two (a b:UInt8) (l:List UInt8):digP (a::b::l)=(0,false):=rfl
theorem wordP_far {w:List UInt8} (h:(digP (Lib.cut w [46]).1).2=false):wordP w=none:=by
 unfold wordP
 split
 ·rfl
 ·split
  ·rw [if_neg (fun e=>by rw [h] at e;exact absurd e.1 (by decide))]
  ·rfl
theorem wordP_short {w:List UInt8} (h:(Lib.cut w [46]).2.2=false∨(Lib.cut w [46]).2.1.length<3):wordP w=none:=by
 unfold wordP
 rw [if_pos h]
theorem has43 (s:UInt8) (r:List UInt8):Lib.hasPrefix (s::r) [43]=decide (s=43):=by
 unfold Lib.hasPrefix
 rw [Bool.eq_iff_iff,List.isPrefixOf_iff_prefix,decide_eq_true_eq]
 constructor
 ·rintro⟨t,ht⟩
  simp at ht
  exact ht.1.symm
 ·rintro rfl
  exact⟨r,rfl⟩
theorem trim43 (s:UInt8) (r:List UInt8):Lib.trimPrefix (s::r) [43]=if s=43 then r else s::r:=by
 unfold Lib.trimPrefix
 rw [has43]
 by_cases h:s=43<;>simp [h]
theorem wordP_eq (w:List UInt8):wordP w=wordE w:=by
 match w with
 | []=>exact wordP_short (.inl (by rw [cut_nil]))
 | [a]=>
  by_cases h:a=46
  ·subst h
   exact wordP_short (.inr (by rw [cut_at];decide))
  ·exact wordP_short (.inl (by rw [cut_cons h,cut_nil];rfl))
 |a::d::rest=>
  by_cases ha:a=46
  ·subst ha
   rw [wordP_far (by rw [cut_at];rfl)]
   match rest with
   | []=>rfl
   | [_]=>rfl
   |b::s::r=>
    rw [wordE,if_neg (fun e=>by rw [dg46] at e;exact absurd e.2.1 (by decide))]
  by_cases hd:d=46
  ·subst hd
   have hcut:Lib.cut (a::46::rest) [46]=([a],rest,true):=by rw [cut_cons ha,cut_at];rfl
   match rest,hcut with
   | [],hcut=>exact wordP_short (.inr (by rw [hcut];simp))
   | [_],hcut=>exact wordP_short (.inr (by rw [hcut];simp))
   | [_,_],hcut=>
    rw [wordP_short (.inr (by rw [hcut];simp)),wordE,if_neg (fun e=>e.1 rfl)]
   |b::s::c::r,hcut=>
    unfold wordP wordE
    rw [hcut]
    rw [if_neg (by simp)]
    simp only [List.drop_succ_cons,List.drop_zero,List.take_succ_cons,List.take_zero,trim43,has43]
    generalize hx:(if s=43 then c::r else s::c::r)=x
    have hda:(digP [a]).2=dgt a:=by show(if dgt a=true then((a.toNat:Int) - 48,true) else(0,false)).2=dgt a;cases dgt a<;>rfl
    have hdb:(digP [b]).2=dgt b:=by show(if dgt b=true then((b.toNat:Int) - 48,true) else(0,false)).2=dgt b;cases dgt b<;>rfl
    have ha1:dgt a=true→(digP [a]).1=(a.toNat:Int) - 48:=fun h=>by show(if dgt a=true then((a.toNat:Int) - 48,true) else(0,false)).1=_;rw [if_pos h]
    have hb1:dgt b=true→(digP [b]).1=(b.toNat:Int) - 48:=fun h=>by show(if dgt b=true then((b.toNat:Int) - 48,true) else(0,false)).1=_;rw [if_pos h]
    rw [hda,hdb]
    rcases hat:Lib.atoiAll x with n|_|_
    ·simp only
     by_cases hg:dgt a=true∧dgt b=true∧Lib.itoa n=x
     ·obtain⟨g1,g2,g3⟩:=hg
      rw [ha1 g1,hb1 g2]
      by_cases hs:s=43
      ·subst hs
       simp [g1,g2,g3]
      ·rw [if_neg hs] at hx
       by_cases hn:0≤n
       ·simp [g1,g2,g3,hs,hn]
       ·obtain⟨r2,e2,-⟩:=itoa_neg_head (n:=n) (by omega)
        have h45:s=45:=by
         rw [g3,←hx] at e2
         simp at e2
         exact e2.1
        subst h45
        simp [g1,g2,g3,hn]
     ·rw [if_neg (fun e=>hg ⟨e.1,e.2.1,e.2.2.1⟩)]
      split
      ·rename_i h5
       rw [if_neg (fun e=>hg ⟨h5.2.1,h5.2.2.2.1,e.1⟩)]
      ·rfl
    ·simp
    ·simp
  ·have h1:(digP (Lib.cut (a::d::rest) [46]).1).2=false:=by
    rw [cut_cons ha,cut_cons hd]
    split<;>split<;>simp_all [digP_two]
   rw [wordP_far h1]
   match rest with
   | []=>rfl
   | [_]=>rfl
   |b::s::r=>rw [wordE,if_neg (fun e=>hd e.2.2.1)]
theorem wordOf_no (p:Pt):(32:UInt8)∉wordOf p:=by
 intro h
 unfold wordOf at h
 simp only [List.mem_append,List.mem_cons] at h
 rcases h with h|h|h|h|h
 ·exact itoa_no _ h
 ·exact absurd h (by decide)
 ·exact itoa_no _ h
 ·split at h
  ·simp at h
  ·simp at h
 ·exact itoa_no _ h
theorem dgt_of {n:Int} (h0:0≤n) (h9:n≤9):dgt (UInt8.ofNat (48+n.toNat))=true∧((UInt8.ofNat (48+n.toNat)).toNat:Int) - 48=n:=by
 have e:(UInt8.ofNat (48+n.toNat)).toNat=48+n.toNat:=nat48 (by omega)
 unfold dgt
 rw [e]
 exact⟨by simp;omega,by omega⟩
theorem wordE_of {p:Pt} (hh:0≤p.h∧p.h≤9) (hk:0≤p.k∧p.k≤9) (hn:I64 p.n):wordE (wordOf p)=some p:=by
 obtain⟨a1,a2⟩:=dgt_of hh.1 hh.2
 obtain⟨b1,b2⟩:=dgt_of hk.1 hk.2
 have hat:=atoi_itoa hn
 unfold wordOf
 rw [itoa_one hh.1 hh.2,itoa_one hk.1 hk.2]
 by_cases h:p.n<0
 ·obtain⟨r,e,hr⟩:=itoa_neg_head h
  rw [if_pos h,List.nil_append,e]
  rw [e] at hat
  simp only [List.cons_append,List.nil_append]
  rw [wordE]
  rw [if_pos (by exact⟨hr,a1,rfl,b1,.inr rfl⟩),if_neg (by decide),hat]
  dsimp only
  rw [if_pos ⟨e,by simp,by simp;omega⟩,a2,b2]
 ·obtain⟨c,r,e,-⟩:=itoa_pos_head (n:=p.n) (by omega)
  rw [if_neg h,e]
  rw [e] at hat
  simp only [List.cons_append,List.nil_append]
  rw [wordE]
  rw [if_pos (by exact⟨by simp,a1,rfl,b1,.inl rfl⟩),if_pos (by decide),hat]
  dsimp only
  rw [if_pos ⟨e,by simp;omega,by simp⟩,a2,b2]
theorem itoa_dgt {a:UInt8} (h:dgt a=true):Lib.itoa ((a.toNat:Int) - 48)=[a]:=by
 unfold dgt at h
 simp at h
 rw [itoa_one (by omega) (by omega)]
 congr 1
 apply UInt8.toNat_inj.1
 rw [nat48 (by omega)]
 omega
theorem wordE_back {w:List UInt8} {p:Pt} (h:wordE w=some p):wordOf p=w:=by
 match w with
 | []=>cases h
 | [_]=>cases h
 | [_,_]=>cases h
 | [_,_,_]=>cases h
 |a::d::b::s::r=>
  rw [wordE] at h
  by_cases hc:r≠ []∧dgt a=true∧d=46∧dgt b=true∧(s=43∨s=45)
  ·rw [if_pos hc] at h
   obtain⟨-,ga,rfl,gb,gs⟩:=hc
   generalize hx:(if s=43 then r else s::r)=x at h
   rcases hat:Lib.atoiAll x with n|_|_
   ·rw [hat] at h
    dsimp only at h
    by_cases hq:Lib.itoa n=x∧¬(s=43∧n<0)∧¬(s=45∧0≤n)
    ·rw [if_pos hq] at h
     obtain⟨q1,q2,q3⟩:=hq
     have h:=(Option.some.inj h).symm
     subst h
     unfold wordOf
     dsimp only
     rw [itoa_dgt ga,itoa_dgt gb,q1,←hx]
     rcases gs with rfl|rfl
     ·have:¬n<0:=fun e=>q2 ⟨rfl,e⟩
      rw [if_neg this,if_pos rfl]
      rfl
     ·have:n<0:=by
       by_cases e:n<0
       ·exact e
       ·exact absurd ⟨rfl,by omega⟩ q3
      rw [if_pos this,if_neg (by decide)]
      rfl
    ·rw [if_neg hq] at h;cases h
   ·rw [hat] at h;cases h
   ·rw [hat] at h;cases h
  ·rw [if_neg hc] at h;cases h
def wordsE:List (List UInt8)→Option (List Pt)
 | []=>some []
 |w::r=>match wordE w with
  |none=>none
  |some p=>(wordsE r).map (p:: ·)
def parseE (s:List UInt8):List Pt×Int:=match wordsE (spl s) with
 |none=>([],2)
 |some l=>if wrongE l 3=0 then(l,0) else([],wrongE l 3)
theorem words_back:∀{ws:List (List UInt8)} {l:List Pt},wordsE ws=some l→l.map wordOf=ws
 | [],l,h=>by
  simp [wordsE] at h
  subst h
  rfl
 |w::r,l,h=>by
  rw [wordsE] at h
  split at h
  ·cases h
  ·rename_i p hp
   cases e:wordsE r with
   |none=>rw [e] at h;cases h
   |some l2=>
    rw [e] at h
    simp at h
    subst h
    rw [List.map_cons,wordE_back hp,words_back e]
theorem words_of:∀{l:List Pt},(∀p∈l,wordE (wordOf p)=some p)→wordsE (l.map wordOf)=some l
 | [],_=>rfl
 |p::l,h=>by
  rw [List.map_cons,wordsE,h p List.mem_cons_self]
  simp only
  rw [words_of (fun q hq=>h q (List.mem_cons_of_mem _ hq))]
  rfl
theorem spl_print:∀{l:List Pt},l≠ []→spl (printE l)=l.map wordOf
 | [],h=>absurd rfl h
 | [p],_=>by
  unfold printE
  rw [List.map_cons,List.map_nil,Lib.join_one,spl_word _ (wordOf_no p)]
 |p::q::l,_=>by
  have ih:=spl_print (l:=q::l) (by simp)
  unfold printE at ih ⊢
  rw [List.map_cons,List.map_cons,Lib.join_cons]
  rw [List.map_cons,Lib.join_cons] at ih
  simp only [Lib.joinTail,List.map_cons,List.flatten_cons,List.cons_append,List.nil_append]
  rw [spl_next _ _ (wordOf_no p)]
  simp only [Lib.joinTail,List.cons_append,List.nil_append] at ih
  rw [ih]
theorem print_parse {s:List UInt8} {l:List Pt} (h:parseE s=(l,0)):printE l=s∧wrongE l 3=0:=by
 unfold parseE at h
 split at h
 ·have e:(2:Int)=0:=congrArg (·.2) h
  exact absurd e (by decide)
 ·rename_i l2 hw
  split at h
  ·rename_i h0
   injection h with h1 _
   subst h1
   exact⟨by unfold printE;rw [words_back hw,join_spl],h0⟩
  ·rename_i h0
   injection h with _ h2
   exact absurd h2 h0
theorem parse_print {l:List Pt} (h:wrongE l 3=0):parseE (printE l)=(l,0):=by
 obtain⟨h1,-,h3,-⟩:=wrong_ok h
 unfold parseE
 rw [spl_print (fun e=>by rw [e] at h1;simp at h1),words_of (fun p hp=>by
  have:=h3 p hp
  exact wordE_of ⟨this.1,by omega⟩ ⟨this.2.2.1,by omega⟩ (i64_of (by omega) (by omega)))]
 simp only
 rw [if_pos h]
theorem print_inj {a b:List Pt} (ha:wrongE a 3=0) (hb:wrongE b 3=0) (h:printE a=printE b):a=b:=by
 have h1:=parse_print ha
 have h2:=parse_print hb
 rw [h,h2] at h1
 exact(congrArg (·.1) h1).symm
structure Appd (w w':World) (base:Nat) (e:TypeId) (size:Nat) (v:Value) (n:Nat) (a':Option Addr) (c':Nat) (xs:List Value):Prop where
 own:w'.ownsRow base e size (.slice a' n c') n xs
 grown:w.grownBy w' v.ownBlock
 blk:(Value.slice a' n c').ownBlock=v.ownBlock∨∃g,(Value.slice a' n c').ownBlock=some g∧w.heap.size≤g
theorem run_app_any {P:Program} {t e:TypeId} {size bytes:Nat} (hE:EI P t e size bytes) {w:World} (ty:TypeId) {base:Nat} {v:Value} {n:Nat} {xs:List Value} (hown:w.ownsRow base e size v n xs)
  (ao:Option Addr) (m c:Nat) (news:List Value) (hnone:ao=none→m=0∧c=0) (hl:news.length=m*size) (hnews:∀ad,ao=some ad→∀j u,news[j]? =some u→w.cell? (ad.add j)=some u) (h1:∀u∈news,u.oneCell'=true)
  (h63:n+m≤maxLen) (hbytes:(n+m)*bytes≤140737488355328) (hbase:base≤w.heap.size):
  ∃a' c' w',(Builtin.append_ #[t,t] ty #[v,.slice ao m c]).run P w=.ok (.slice a' (n+m) c') w'∧Appd w w' base e size v (n+m) a' c' (xs++news):=by
 obtain⟨i,z,hi,hz,k2,k3,k4,k5,_⟩:=hE.hi
 cases ao with
 |none=>
  obtain⟨rfl,rfl⟩:=hnone rfl
  have hn:news=[]:=List.eq_nil_of_length_eq_zero (by simpa using hl)
  subst hn
  obtain⟨a',c',rfl⟩:=owns_form hown
  exact⟨a',c',w,run_append_owned_none (P:=P) w base t ty e i size hE.ht hi _ n xs hown,by simpa using hown,⟨rfl,rfl,rfl,Nat.le_refl _,fun _ _ _=>rfl⟩,.inl rfl⟩
 |some ad=>
  obtain⟨v',w',hr,h2,h3,_,h5⟩:=run_append_own_at (P:=P) w base t ty e i z size bytes hE.ht hi hz k2 k3 k4 k5 v n xs hown ad m c news hl (hnews ad rfl) h1 h63 hbytes hbase
  obtain⟨a',c',rfl⟩:=owns_form h2
  refine⟨a',c',w',hr,h2,h3,?_⟩
  rcases h5 with h5|h5
  ·exact .inl h5
  ·exact .inr ⟨_,h5,Nat.le_refl _⟩
def TOne {α:Type} (T:Ty α):Prop:=∀c cs x,T.R c cs x→∀u∈cs,u.oneCell'=true
theorem one_Tpt:TOne Ty.pt:=by
 rintro c cs x ⟨rfl,-⟩ u hu
 exact one_pt x u hu
def Src {α:Type} (T:Ty α) (c:CM) (w:World) (v:Value) (l:List α):Prop:=
 ∃(ao:Option Addr) (cap:Nat) (css:List (List Value)),v=.slice ao l.length cap∧(ao=none→l.length=0∧cap=0)∧l.length≤maxLen∧css.length=l.length∧
  (∀(i:Nat) (cs:List Value) (x:α),css[i]? =some cs→l[i]? =some x→T.R c cs x)∧∀ad,ao=some ad→∀j u,css.flatten[j]? =some u→w.cell? (ad.add j)=some u
theorem Src.mono {α:Type} {T:Ty α} {c c':CM} {w w':World} {v:Value} {l:List α} (h:Src T c w v l) (hc:Sub c c') (hs:Sub w.cell? w'.cell?):Src T c' w' v l:=by
 obtain⟨ao,cap,css,h1,h2,h2',h3,h4,h5⟩:=h
 exact⟨ao,cap,css,h1,h2,h2',h3,fun i cs x e e'=>T.mono hc (h4 i cs x e e'),fun ad had j u hu=>hs _ _ (h5 ad had j u hu)⟩
theorem Src.grow {α:Type} {T:Ty α} {c:CM} {w w':World} {v:Value} {l:List α} (h:Src T c w v l) (hg:Grow w w'):Src T c w' v l:=h.mono (Sub.refl _) hg.sub
theorem Src.kept {α:Type} {T:Ty α} {c:CM} {w w':World} {g n cap:Nat} {l:List α} {row:Option Nat} (h:Src T c w (.slice (some ⟨g,0,none⟩) n cap) l) (hg:w.grownBy w' row) (hne:some g≠row):Src T c w' (.slice (some ⟨g,0,none⟩) n cap) l:=by
 obtain⟨ao,cap',css,h1,h2,h2',h3,h4,h5⟩:=h
 refine⟨ao,cap',css,h1,h2,h2',h3,h4,fun ad had j u hu=>?_⟩
 have e:=h5 ad had j u hu
 simp only [Value.slice.injEq] at h1
 obtain⟨h1,-,-⟩:=h1
 rw [had] at h1
 obtain rfl:=Option.some.inj h1
 have hl:=World.block_lt_of_cell? w _ e
 rw [World.cell?_of_block (w:=w) (hg.block _ hl (by rw [Addr.add_lit];exact hne))]
 exact e
theorem Src.of_new {α:Type} {T:Ty α} {c:CM} {cs:Array Value} {x:α} (hR:T.R c cs.toList x) (w:World) (t:TypeId) {g:Nat} (hg:g=w.heap.size):Src T c (w.alloc (.cells cs t)) (.slice (some ⟨g,0,none⟩) 1 1) [x]:=by
 subst hg
 refine⟨_,1,[cs.toList],rfl,by simp,(by show 1≤maxLen;decide),rfl,fun i cs' y e e'=>?_,fun ad had j u hu=>?_⟩
 ·have hi:=(List.getElem?_eq_some_iff.1 e).1
  obtain rfl:i=0:=by simpa using hi
  simp at e e'
  subst e;subst e';exact hR
 ·obtain rfl:=Option.some.inj had
  exact new_cells w cs t j u (by simpa using hu)
theorem run_appc {P:Program} {t e:TypeId} {size bytes:Nat} (hE:EI P t e size bytes) {α:Type} {T:Ty α} (hT:T.size=size) (h1:TOne T) {c:CM} {w:World} (ty:TypeId) {base:Nat} {v vs:Value} {l m:List α} (hown:OwnC T c w base e v l) (hsrc:Src T c w vs m)
  (hb0:0<bytes) (hbytes:(l.length+m.length)*bytes≤140737488355328) (hbase:base≤w.heap.size):
  ∃a' c' w',(Builtin.append_ #[t,t] ty #[v,vs]).run P w=.ok (.slice a' (l.length+m.length) c') w'∧OwnC T c w' base e (.slice a' (l.length+m.length) c') (l++m)∧w.grownBy w' v.ownBlock∧
   ((Value.slice a' (l.length+m.length) c').ownBlock=v.ownBlock∨∃g,(Value.slice a' (l.length+m.length) c').ownBlock=some g∧w.heap.size≤g):=by
 obtain⟨css,k1,k2,k3⟩:=hown
 obtain⟨ao,cap,css',rfl,s2,s2',s3,s4,s5⟩:=hsrc
 subst hT
 have hcl:=css_len s3 s4
 have hle:l.length+m.length≤(l.length+m.length)*bytes:=Nat.le_mul_of_pos_right _ hb0
 obtain⟨a',c',w',hr,hA⟩:=run_app_any hE ty k1 ao m.length cap css'.flatten s2 (by rw [flatten_len css' hcl,s3]) s5 (by
   intro u hu
   obtain⟨cs,hcs,huc⟩:=List.mem_flatten.1 hu
   obtain⟨i,hi,rfl⟩:=List.mem_iff_getElem.1 hcs
   exact h1 _ _ _ (s4 i css'[i] m[i] (by simp) (by simp)) u huc) (by unfold maxLen;omega) hbytes hbase
 refine⟨a',c',w',hr,⟨css++css',?_,by simp [k2,s3],fun i cs x e e'=>?_⟩,hA.grown,hA.blk⟩
 ·have:=hA.own
  rw [←List.flatten_append] at this
  simpa using this
 ·by_cases hi:i<l.length
  ·rw [List.getElem?_append_left (by omega)] at e
   rw [List.getElem?_append_left hi] at e'
   exact k3 i _ _ e e'
  ·rw [List.getElem?_append_right (by omega)] at e
   rw [List.getElem?_append_right (by omega)] at e'
   rw [k2] at e
   exact s4 _ _ _ e e'
theorem wp_appc {P:Program} {t e:TypeId} {size bytes:Nat} (hE:EI P t e size bytes) {α:Type} {T:Ty α} (hT:T.size=size) (h1:TOne T) (hb0:0<bytes) {c:CM} {w:World} {o:Oper} {a:Act} {K:Act→World→Prop} {Q:Exit→Act→World→Prop} (s x:Operand) (ho:o.op=.call { callee:=.builtin .append,args:=#[s,x],argTypes:=#[t,t] })
  {base:Nat} {v vs:Value} {l m:List α} (hs:a.eval s=v) (hown:OwnC T c w base e v l) (hx:a.eval x=vs) (hsrc:Src T c w vs m)
  (hbytes:(l.length+m.length)*bytes≤140737488355328) (hbase:base≤w.heap.size)
  (h:∀a' c' w',OwnC T c w' base e (.slice a' (l.length+m.length) c') (l++m)→w.grownBy w' v.ownBlock→((Value.slice a' (l.length+m.length) c').ownBlock=v.ownBlock∨∃g,(Value.slice a' (l.length+m.length) c').ownBlock=some g∧w.heap.size≤g)→K (a.put o.dst (.slice a' (l.length+m.length) c')) w'):o.wp P a w K Q:=by
 obtain⟨a',c',w',hr,h2,h3,h4⟩:=run_appc hE hT h1 o.type hown hsrc hb0 hbytes hbase
 unfold Oper.wp execOp
 simp only [ho,resolve,invoke,builtin,Sem.run_bind,Sem.run_pure,Result.andThen_ok,List.map_toArray,List.map_cons,List.map_nil,hs,hx,hr]
 exact h a' c' w' h2 h3 h4
theorem wpList_appc {P:Program} {t e:TypeId} {size bytes:Nat} (hE:EI P t e size bytes) {α:Type} {T:Ty α} (hT:T.size=size) (h1:TOne T) (hb0:0<bytes) {c:CM} {w:World} {ops:Array Oper} {rest:List Oper} {o:Oper} {a:Act} {Q:Exit→Act→World→Prop} (hgd:o.guard=none) (s x:Operand) (ho:o.op=.call { callee:=.builtin .append,args:=#[s,x],argTypes:=#[t,t] })
  {base:Nat} {v vs:Value} {l m:List α} (hs:a.eval s=v) (hown:OwnC T c w base e v l) (hx:a.eval x=vs) (hsrc:Src T c w vs m)
  (hbytes:(l.length+m.length)*bytes≤140737488355328) (hbase:base≤w.heap.size)
  (h:∀a' c' w',OwnC T c w' base e (.slice a' (l.length+m.length) c') (l++m)→w.grownBy w' v.ownBlock→((Value.slice a' (l.length+m.length) c').ownBlock=v.ownBlock∨∃g,(Value.slice a' (l.length+m.length) c').ownBlock=some g∧w.heap.size≤g)→wpList P ops Q rest (a.put o.dst (.slice a' (l.length+m.length) c')) w'):wpList P ops Q (o::rest) a w:=
 wpList_plain hgd fun _ hK=>wp_appc hE hT h1 hb0 s x ho hs hown hx hsrc hbytes hbase fun a' c' w' h2 h3 h4=>hK _ _ (h a' c' w' h2 h3 h4)
theorem Sl.nil {α:Type} (T:Ty α) (c:CM):Sl T c (.slice none 0 0) []:=⟨none,0,rfl,Nat.le_refl _,Nat.zero_le _,fun _=>rfl,fun i x e=>by simp at e⟩
theorem grow_by {w0 w w':World} {v:Value} (hG:Grow w0 w) (hg:w.grownBy w' v.ownBlock) (hv:∀k,v.ownBlock=some k→w0.heap.size≤k):Grow w0 w':=hG.grown hg hv
structure Vars (w:World):Prop where
 len:∃m,w.cell? ⟨2,0,none⟩=some (.int .i64 m)
 tab:Lib.TabIs Tryd.prog w "internal/strconv.uint64pow10" .u64 Lib.pow10Tab
 syn:∃ tp p,w.var? Tryd.prog "strconv.ErrSyntax" = some #[.iface tp p]
 rng:∃ tp p,w.var? Tryd.prog "strconv.ErrRange" = some #[.iface tp p]
 low:2<w.heap.size∧3<w.heap.size∧0<w.heap.size∧1<w.heap.size
theorem Vars.grow {w w':World} (h:Vars w) (g:Grow w w'):Vars w' where
 len:=h.len.imp fun _ hm=>g.sub _ _ hm
 tab:=var?_below g (show Tryd.prog.globalNamed "internal/strconv.uint64pow10" = some 3 by kernel_rfl) h.low.2.1 h.tab
 syn:=by obtain ⟨tp,p,e⟩:=h.syn;exact ⟨tp,p,var?_below g (show Tryd.prog.globalNamed "strconv.ErrSyntax" = some 0 by kernel_rfl) h.low.2.2.1 e⟩
 rng:=by obtain ⟨tp,p,e⟩:=h.rng;exact ⟨tp,p,var?_below g (show Tryd.prog.globalNamed "strconv.ErrRange" = some 1 by kernel_rfl) h.low.2.2.2 e⟩
 low:=by have:=g.size;have:=h.low;omega
theorem digP_one (c:UInt8):digP [c]=if dgt c=true then((c.toNat:Int) - 48,true) else(0,false):=rfl
theorem digP_not {l:List UInt8} (h:l.length≠1):digP l=(0,false):=by
 match l with
 | []=>rfl
 | [_]=>exact absurd rfl h
 |_::_::_=>rfl
theorem text_digit (s:ByteArray) (w:World):Calls Tryd.prog 21 #[.string s] w fun e w'=>e=.returned (.tuple #[.int .i64 (digP s.data.toList).1,.bool (digP s.data.toList).2])∧Grow w w':=by
 by_cases hl:s.size=1
 ·have HD:Hid (digP s.data.toList=if 48≤s[0].toNat∧s[0].toNat≤57 then((s[0].toNat:Int) - 48,true) else(0,false)):=η (by
   obtain⟨c,rfl⟩:=Lib.one_byte s hl
   show digP [c]=if 48≤c.toNat∧c.toNat≤57 then((c.toNat:Int) - 48,true) else(0,false)
   rw [digP_one]
   unfold dgt
   simp only [decide_eq_true_eq])
  go_enter Tryd.func21,Tryd.ntmps21
  go_wp2
  all_goals go_ret2
  all_goals rw [HD.o]
  all_goals refine⟨?_,Grow.refl _⟩
  all_goals first|(rw [if_neg (by omega)];rfl)|(rw [if_pos (by omega)];rfl)
 ·have HD:Hid (digP s.data.toList=(0,false)):=η (digP_not (by rw [←Lib.size_eq];exact hl))
  have t1:((s.size:Int) !=1)=true:=by simp;omega
  clear hl
  go_enter Tryd.func21,Tryd.ntmps21
  go_wp2
  all_goals go_ret2
  all_goals rw [HD.o]
  all_goals exact⟨rfl,Grow.refl _⟩
section
variable {P:Program} {ops:Array Oper} {Q:Exit→Act→World→Prop} {md:Region.Mode} {S:World→Prop} {c:Nat}
def DownSet (md:Region.Mode) (ops:Array Oper) (listed:Array Bool):Prop:=
 listed.size=ops.size∧∀(j:Nat) (o:Oper),ops[j]? =some o→listed.getD j true=true→∀e∈o.after,Region.binds md e=true→listed.getD e.on false=true
def waitsFor (md:Region.Mode) (ops:Array Oper):Nat→Nat→Nat→Bool
 |0,_,_=>false
 |f+1,i,c=>((ops[c]?).map fun o=>o.after.toList.any fun e=>Region.binds md e&&(e.on==i||waitsFor md ops f i e.on)).getD false
theorem waits_spec {f i:Nat} {listed:Array Bool} (hc:DownSet md ops listed) (hi:listed.getD i false=false):∀{c:Nat},waitsFor md ops f i c=true→c∉Region.ready md ops listed∧(c<ops.size→listed.getD c false=false):=by
 induction f with
 |zero=>intro c h;cases h
 |succ f ih=>
  intro c h
  unfold waitsFor at h
  cases ho:ops[c]? with
  |none=>rw [ho] at h;cases h
  |some o=>
   rw [ho] at h
   simp only [Option.map_some,Option.getD_some,List.any_eq_true,Bool.and_eq_true,Bool.or_eq_true,beq_iff_eq] at h
   obtain⟨e,he,hb,hor⟩:=h
   have he':e∈o.after:=by simpa using he
   have hun:listed.getD e.on false=false:=by
    rcases hor with rfl|h2
    ·exact hi
    ·have h3:=ih h2
     by_cases hlt:e.on<ops.size
     ·exact h3.2 hlt
     ·simp [Array.getElem?_eq_none (xs:=listed) (i:=e.on) (by rw [hc.1];omega)]
   refine⟨fun hr=>?_,fun _=>?_⟩
   ·obtain⟨_,o',ho',hall⟩:=mem_ready.1 hr
    rw [ho] at ho'
    obtain rfl:=Option.some.inj ho'
    have:=hall e he' hb
    rw [hun] at this
    cases this
   ·by_cases ht:listed.getD c true=true
    ·have:=hc.2 c o ho ht e he' hb
     rw [hun] at this
     cases this
    ·have hlt:=(γ ho)
     have hl:c<listed.size:=by rw [hc.1];exact hlt
     simp [hl] at ht ⊢
     exact ht
theorem DownSet.set {listed:Array Bool} (h:DownSet md ops listed) {j:Nat} (hj:j∈Region.ready md ops listed):DownSet md ops (listed.setIfInBounds j true):=by
 refine⟨by simpa using h.1,fun k o ho hk e he hb=>?_⟩
 obtain⟨_,oj,hoj,hall⟩:=mem_ready.1 hj
 have keep:listed.getD e.on false=true→(listed.setIfInBounds j true).getD e.on false=true:=by
  intro hx
  by_cases hje:j=e.on
  ·rw [hje]
   by_cases hl:e.on<listed.size
   ·simp [hl]
   ·simp [hl] at hx
  ·rw [getD_set_ne false hje];exact hx
 by_cases hjk:j=k
 ·subst hjk
  rw [hoj] at ho
  obtain rfl:=Option.some.inj ho
  exact keep (hall e he hb)
 ·rw [getD_set_ne true hjk] at hk
  exact keep (h.2 k o ho hk e he hb)
def wpBut (P:Program) (md:Region.Mode) (ops:Array Oper) (Q:Exit→Act→World→Prop) (S:World→Prop) (c:Nat):Nat→Array Bool→Act→World→Prop
 |0,listed,a,w=>Region.ready md ops listed=[]∧Q .normal a w
 |fuel+1,listed,a,w=>(Region.ready md ops listed=[]→Q .normal a w)∧∀i∈Region.ready md ops listed,wpOp P ops Q i (fun a' w'=>(i≠c→S w')∧wpBut P md ops Q S c fuel (listed.setIfInBounds i true) a' w') a w
def shutB (md:Region.Mode) (ops:Array Oper) (listed:Array Bool):Bool:=
 listed.size==ops.size&&(List.range ops.size).all fun j=>((ops[j]?).map fun o=>!(listed.getD j true)||o.after.toList.all fun e=>!Region.binds md e||listed.getD e.on false).getD true
theorem shut_of {listed:Array Bool} (h:shutB md ops listed=true):DownSet md ops listed:=by
 unfold shutB at h
 simp only [Bool.and_eq_true,beq_iff_eq,List.all_eq_true,List.mem_range] at h
 refine⟨h.1,fun j o ho hj e he hb=>?_⟩
 have h2:=h.2 j (γ ho)
 rw [ho] at h2
 simp only [Option.map_some,Option.getD_some,hj,Bool.not_true,Bool.false_or,List.all_eq_true,Bool.or_eq_true] at h2
 rcases h2 e (by simpa using he) with h3|h3
 ·rw [hb] at h3;cases h3
 ·exact h3
def tk (P:Program) (md:Region.Mode) (ops:Array Oper) (Q:Exit→Act→World→Prop) (S:World→Prop) (c:Nat) (w:World):List Nat→Nat→Array Bool→Act→Prop
 | [],fuel,listed,a=>wpBut P md ops Q S c fuel listed a w
 |i::is,F,listed,a=>∃fuel oi v,F=fuel+1∧ops[i]? =some oi∧YieldsIf P ops S oi v a∧tk P md ops Q S c w is fuel (listed.setIfInBounds i true) (a.put oi.dst v)
theorem tE {fuel:Nat} {listed:Array Bool} {a:Act} {w:World} (h:wpBut P md ops Q S c fuel listed a w):tk P md ops Q S c w [] fuel listed a:=h
end
theorem OwnC.slc {α:Type} {T:Ty α} {c d:CM} (h0:0<T.size) {w:World} {base e:Nat} {v:Value} {l:List α} (h:OwnC T c w base e v l) (hs:Sub c d) (hd:∀a:Addr,base≤a.block→d a=w.cell? a):Sl T d v l:=by
 obtain⟨css,⟨hl,hs'⟩,h2,h3⟩:=h
 have hcl:=css_len h2 h3
 rcases hs' with⟨rfl,hn⟩|⟨g,cap,cur,rfl,hg,hrow,hnc,hcm,hcs,htake⟩
 ·have:l=[]:=List.eq_nil_of_length_eq_zero hn
  subst this
  exact⟨none,0,rfl,Nat.le_refl _,Nat.zero_le _,fun _=>rfl,fun i x e=>by simp at e⟩
 ·refine⟨some ⟨g,0,none⟩,cap,rfl,hnc,hcm,by simp,fun i x e=>?_⟩
  have hi:i<l.length:=(List.getElem?_eq_some_iff.1 e).1
  have hc:css[i]? =some css[i]:=List.getElem?_eq_getElem (by omega)
  refine⟨g,0,css[i],rfl,T.mono hs (h3 i _ x hc e),fun j u hu=>?_⟩
  have hj:j<T.size:=by rw [←hcl css[i] (List.getElem_mem _)];exact(List.getElem?_eq_some_iff.1 hu).1
  have hx:css.flatten[i*T.size+j]? =some u:=by
   rw [flatten_at h0 css hcl,Nat.mul_comm,Nat.mul_add_div h0,Nat.div_eq_of_lt hj,Nat.add_zero,hc,Nat.mul_add_mod,Nat.mod_eq_of_lt hj];exact hu
  rw [←htake,List.getElem?_take] at hx
  rw [hd _ hg]
  split at hx
  ·simp only [World.cell?,hrow];simpa using hx
  ·cases hx
theorem OwnC.of_flat {α:Type} {T:Ty α} {f:α→List Value} {c:CM} {w:World} {base e:Nat} {v:Value} {l:List α} (h:w.ownsRow base e T.size v l.length (l.flatMap f)) (hR:∀x∈l,T.R c (f x) x):OwnC T c w base e v l:=
 ⟨l.map f,by rw [←List.flatMap_def];exact h,by simp,fun i cs x a b=>by
  rw [List.getElem?_map,b] at a
  obtain rfl:=Option.some.inj a
  exact hR x (List.mem_of_getElem? b)⟩
theorem OwnC.ints {c:CM} {w:World} {base e:Nat} {v:Value} {l:List Int} (h:w.ownsRow base e 1 v l.length (l.flatMap intCell)) (hok:∀x∈l,I64 x):OwnC Ty.int c w base e v l:=
 OwnC.of_flat (T:=Ty.int) (f:=intCell) h fun x hx=>⟨rfl,hok x hx⟩
theorem OwnC.pts {c:CM} {w:World} {base e:Nat} {v:Value} {l:List Pt} (h:w.ownsRow base e 3 v l.length (ptCells l)) (hok:PtsOk l):OwnC Ty.pt c w base e v l:=
 OwnC.of_flat (T:=Ty.pt) (f:=Pt.cells) h fun x hx=>⟨rfl,hok x hx⟩
def SmOk (s:Sm):Prop:=I64 s.a∧I64 s.b∧I64 s.c∧I64 s.d
theorem SmOk.put {s:Sm} (h:SmOk s) (k:Int) {x:Int} (hx:I64 x):SmOk (s.put k x):=by
 unfold Sm.put
 obtain⟨a,b,c,d⟩:=h
 split
 ·exact⟨hx,b,c,d⟩
 ·split
  ·exact⟨a,hx,c,d⟩
  ·split
   ·exact⟨a,b,hx,d⟩
   ·exact⟨a,b,c,hx⟩
structure HOk (h:Hs) (n:Nat):Prop where
 ready:h.ready.length≤n
 done:h.done.length≤n
 keys:∀x∈h.ready,KeysOk x.parts
 sums:SmOk h.sums
 ints:∀x∈h.done,I64 x
end Go.Proofs.YthfgeelcbcgahaaDoor
namespace Go.Proofs.YthfgeelcbcgahaaDoor
structure Fine (l:List Rd):Prop where
 nodup:(l.map (·.deed)).Nodup
 pos:∀x∈l,0≤x.deed
end Go.Proofs.YthfgeelcbcgahaaDoor
namespace Go.Proofs.YthfgeelcbcgahaaDoor
open Go.RowKit
theorem Of.cells {α:Type} {T:Ty α} {c:CM} {cs:Array Value} {x:α} (h:Of T c (.agg cs) x):T.R c cs.toList x:=by
 obtain⟨cs',he,hR⟩:=h
 simp only [Value.agg.injEq] at he
 subst he
 exact hR
theorem row_grow {w w':World} {B:Nat} {o:Obj} (h:w.heap[B]? =some o) (hg:Grow w w'):w'.heap[B]? =some o:=by
 rw [hg.block B (γ h)];exact h
theorem row_new (w:World) (o:Obj):(w.alloc o).heap[w.heap.size]? =some o:=heap_alloc_new w o
theorem wanted_go {o:Oper} {y:Nat→Option Bool} {X E:Prop} {inst:Decidable (Region.wanted o y=true)} (hgd:o.guard=none) (h:X):@ite Prop (Region.wanted o y=true) inst X E:=by
 rw [if_pos (by simp [Region.wanted,hgd])]
 exact h
theorem wp_store_row {P:Program} {ty:TypeId} {w:World} {o:Oper} {a:Act} {K:Act→World→Prop} {Q:Exit→Act→World→Prop} (d s:Operand) (ho:o.op=.store ty d s)
  {g:Nat} {t:TypeId} {old cells:Array Value} (hd:a.eval d=.pointer (some ⟨g,0,none⟩)) (hs:a.eval s=.agg cells) (hrow:w.heap[g]? =some (.cells old t (0,0)))
  (hi:(P.info? ty).map (·.size)=some cells.size) (hos:old.size=cells.size) (h1:cells.toList.all (·.oneCell')=true)
  (h:∀w',w'.heap[g]? =some (.cells cells t (0,0))→w.grownBy w' (some g)→K (a.put o.dst undef) w'):o.wp P a w K Q:=by
 have hr:=run_storeVar_row (P:=P) w g t ty old cells hrow hi hos (by rw [←Array.all_toList];exact h1)
 unfold Oper.wp execOp
 simp only [ho,hd,hs,Instr.storeAt,Instr.sureAddr,Sem.run_bind,Sem.run_pure,Result.andThen_ok,hr]
 exact h _ (setRow_heap w g old cells t _ hrow) ⟨rfl,rfl,rfl,by simp [World.setRow],fun k hk hne=>by
  simp only [World.setRow]
  rw [Array.getElem?_modify]
  rw [if_neg (fun e=>hne (by rw [e]))]⟩
theorem wpList_store_row {P:Program} {ty:TypeId} {ops:Array Oper} {rest:List Oper} {w:World} {o:Oper} {a:Act} {Q:Exit→Act→World→Prop} (hgd:o.guard=none) (d s:Operand) (ho:o.op=.store ty d s)
  {g:Nat} {t:TypeId} {old cells:Array Value} (hd:a.eval d=.pointer (some ⟨g,0,none⟩)) (hs:a.eval s=.agg cells) (hrow:w.heap[g]? =some (.cells old t (0,0)))
  (hi:(P.info? ty).map (·.size)=some cells.size) (hos:old.size=cells.size) (h1:cells.toList.all (·.oneCell')=true)
  (h:∀w',w'.heap[g]? =some (.cells cells t (0,0))→w.grownBy w' (some g)→wpList P ops Q rest (a.put o.dst undef) w'):wpList P ops Q (o::rest) a w:=
 wpList_plain hgd fun _ hK=>wp_store_row d s ho hd hs hrow hi hos h1 fun w' a b=>hK _ _ (h w' a b)
theorem cut_call (s:ByteArray) {w:World} (hV:Vars w) (hs:s.size<4294967281):∃(a b:ByteArray) (c:Bool),Lib.cut s.data.toList [46]=(a.data.toList,b.data.toList,c)∧
  ∀W,Grow w W→Calls Tryd.prog 20 #[.string s,.string ⟨#[46]⟩] W fun e w'=>e=.returned (.tuple #[.string a,.string b,.bool c])∧Grow W w':=by
 obtain⟨m,hm⟩:=hV.len
 refine⟨⟨(Lib.cut s.data.toList [46]).1.toArray⟩,⟨(Lib.cut s.data.toList [46]).2.1.toArray⟩,(Lib.cut s.data.toList [46]).2.2,rfl,fun W hW=>?_⟩
 refine(Tryd.strings_Cut s ⟨#[46]⟩ m W hs (hW.sub _ _ hm)).mono ?_
 rintro e w' ⟨rfl,n,rfl⟩
 exact⟨rfl,(Grow.refl _).drewN n⟩
theorem pre_call (s:ByteArray):∃a:ByteArray,Lib.trimPrefix s.data.toList [43]=a.data.toList∧a.size≤s.size∧
  ∀W,Calls Tryd.prog 22 #[.string s,.string ⟨#[43]⟩] W fun e w'=>e=.returned (.tuple #[.string a,.bool (Lib.hasPrefix s.data.toList [43])])∧Grow W w':=by
 refine⟨⟨(Lib.trimPrefix s.data.toList [43]).toArray⟩,rfl,?_,fun W=>?_⟩
 ·rw [Lib.size_eq,Lib.size_eq]
  show(Lib.trimPrefix s.data.toList [43]).length≤_
  unfold Lib.trimPrefix
  split<;>simp
 refine(Tryd.strings_CutPrefix s ⟨#[43]⟩ W).mono ?_
 rintro e w' ⟨rfl,rfl⟩
 exact⟨rfl,Grow.refl _⟩
theorem itoa_call {n:Int} (hn:I64 n) {w:World} (hV:Vars w) (W:World) (hW:Grow w W):Calls Tryd.prog 17 #[.int .i64 n] W fun e w'=>e=.returned (.string ⟨(Lib.itoa n).toArray⟩)∧Grow W w':=by
 have h:=i64_low hn
 refine(Tryd.strconv_Itoa n h.1 h.2 W (hV.grow hW).tab).mono ?_
 rintro e w' ⟨rfl,k,os,rfl⟩
 exact⟨rfl,Lib.below_grow _ _ (Nat.le_refl _) _ _⟩
theorem atoi_ok {s:ByteArray} (hs:s.size<4294967281) {n:Int} (h:Lib.atoiAll s.data.toList=.ok n) (W:World):Calls Tryd.prog 16 #[.string s] W fun e w'=>e=.returned (.tuple #[.int .i64 n,.nilIface])∧Grow W w':=by
 refine(Tryd.strconv_Atoi_ok s (by omega) n h W).mono ?_
 rintro e w' ⟨rfl,rfl|⟨t,rfl⟩⟩
 ·exact⟨rfl,Grow.refl _⟩
 ·exact⟨rfl,Lib.bytesWorld_below _ _ _⟩
theorem atoi_no {s:ByteArray} (hs:s.size<4294967281) (h:∀n,Lib.atoiAll s.data.toList≠ .ok n) {w:World} (hV:Vars w) (W:World) (hW:Grow w W):
  Calls Tryd.prog 16 #[.string s] W fun e w'=>∃n t N,e=.returned (.tuple #[.int .i64 n,.iface t (.pointer (some ⟨N,0,none⟩))])∧Grow W w':=by
 rcases hc:Lib.atoiAll s.data.toList with n|_|_
 ·exact absurd hc (h n)
 ·obtain⟨tp,p,e⟩:=(hV.grow hW).syn
  refine(Any.strconv_Atoi_syntax_var Tryd.laysC172 s (by omega) hc tp p W e).mono ?_
  rintro e w' ⟨N,rfl,-,-,hb⟩
  exact⟨_,_,N,rfl,hb⟩
 ·obtain⟨tp,p,e⟩:=(hV.grow hW).rng
  refine(Any.strconv_Atoi_range_var Tryd.laysC172 s (by omega) hc tp p W e).mono ?_
  rintro e w' ⟨N,rfl,-,-,hb⟩
  exact⟨_,_,N,rfl,hb⟩
theorem word_ok {l:List UInt8} {p:Pt} (h:wordE l=some p):I64 p.h∧I64 p.k∧I64 p.n:=by
 match l with
 | []=>cases h
 | [_]=>cases h
 | [_,_]=>cases h
 | [_,_,_]=>cases h
 |a::d::b::s::r=>
  rw [wordE] at h
  by_cases hc:r≠ []∧dgt a=true∧d=46∧dgt b=true∧(s=43∨s=45)
  ·rw [if_pos hc] at h
   have ha:=a.toNat_lt
   have hb:=b.toNat_lt
   generalize (if s=43 then r else s::r)=x at h
   rcases hat:Lib.atoiAll x with n|_|_
   ·rw [hat] at h
    dsimp only at h
    by_cases hq:Lib.itoa n=x∧¬(s=43∧n<0)∧¬(s=45∧0≤n)
    ·rw [if_pos hq] at h
     have h:=(Option.some.inj h).symm
     subst h
     have hb2:=Lib.atoiAll_bounds hat
     exact⟨i64_of (by dsimp only;omega) (by dsimp only;omega),i64_of (by dsimp only;omega) (by dsimp only;omega),i64_of hb2.1 hb2.2⟩
    ·rw [if_neg hq] at h;cases h
   ·rw [hat] at h;cases h
   ·rw [hat] at h;cases h
  ·rw [if_neg hc] at h;cases h
theorem info_pt0:(Tryd.prog.info? 34).map (·.size)=some 3:=by kernel_rfl
theorem cells3 {w:World} {B:Nat} {a b c:Value} {t:TypeId} (h:w.heap[B]? =some (.cells #[a,b,c] t (0,0))):
  w.cell? ⟨B,0,none⟩=some a∧w.cell? ⟨B,1,none⟩=some b∧w.cell? ⟨B,2,none⟩=some c:=by
 refine⟨?_,?_,?_⟩<;>simp [World.cell?,h]
set_option maxRecDepth 100000 in
set_option maxHeartbeats 2000000 in
theorem text_one (s:ByteArray) (w:World) (hV:Vars w) (hs:s.size<4294967281):
  Calls Tryd.prog 14 #[.string s] w fun e w'=>e=.returned (.tuple #[.agg ((wordE s.data.toList).getD ⟨0,0,0⟩).cells.toArray,.bool (wordE s.data.toList).isSome])∧Grow w w':=by
 have HWP:=η (wordP_eq s.data.toList)
 obtain⟨a,b,ok,hcut,hcu⟩:=cut_call s hV hs
 have HCU:=η hcu
 have HC:=η hcut
 have HV:=η hV
 have hbs:b.size≤s.size:=by
  have h1:b.data.toList=(Lib.cut s.data.toList [46]).2.1:=by rw [hcut]
  rw [Lib.size_eq,Lib.size_eq,h1]
  unfold Lib.cut
  split<;>simp
 obtain⟨wa,hwa⟩:∃y:World,y=w.alloc (.cells #[.int .i64 0,.int .i64 0,.int .i64 0] 34):=⟨_,rfl⟩
 have R1:Hid (wa.heap[w.heap.size]? =some (.cells #[.int .i64 0,.int .i64 0,.int .i64 0] 34 (0,0))):=η (by rw [hwa];exact row_new _ _)
 have G1:Hid (Grow w wa):=η (by rw [hwa];exact(Grow.refl w).alloc _)
 clear hcut hcu hV
 go_enter Tryd.func14,Tryd.ntmps14
 go_wp2_with fail
 rw [←hwa]
 refine(HCU.o _ G1.o).mono ?_
 rintro e w2 ⟨rfl,g2⟩
 have R2:=η (row_grow R1.o g2)
 have G2:=η (G1.o.trans g2)
 clear hwa g2 R1 G1 HCU
 by_cases hsh:ok=false∨b.size<3
 ·have HN:Hid (wordE s.data.toList=none):=η (by
   rw [←HWP.o]
   exact wordP_short (by rw [HC.o];show ok=false∨b.data.toList.length<3;rw [←Lib.size_eq];exact hsh))
  have ht:ok=true→decide ((b.size:Int)<3)=true:=fun e=>by
   rcases hsh with h|h
   ·rw [h] at e;cases e
   ·simp;omega
  clear hsh
  cases ok
  ·clear ht
   go_wp2_with (first|(refine wpList_store_row rfl (.tmp 2) (.tmp 28) rfl rfl rfl R2.o info_pt0 rfl rfl ?_))
   intro w7 r7 g7
   obtain⟨p0,p1,p2⟩:=cells3 r7
   go_wp2
   refine bodyPost_ret (v:=.tuple #[.agg #[.int .i64 0,.int .i64 0,.int .i64 0],.bool false]) (by simp [results,Tryd.results14,go_sem,p0,p1,p2]) rfl ?_
   rw [HN.o]
   exact⟨rfl,G2.o.grown g7 (fun k hk=>by simp at hk;omega)⟩
  ·have ht2:=ht rfl
   clear ht
   go_wp2_with (first|(refine wpList_store_row rfl (.tmp 2) (.tmp 28) rfl rfl rfl R2.o info_pt0 rfl rfl ?_))
   intro w7 r7 g7
   obtain⟨p0,p1,p2⟩:=cells3 r7
   go_wp2
   refine bodyPost_ret (v:=.tuple #[.agg #[.int .i64 0,.int .i64 0,.int .i64 0],.bool false]) (by simp [results,Tryd.results14,go_sem,p0,p1,p2]) rfl ?_
   rw [HN.o]
   exact⟨rfl,G2.o.grown g7 (fun k hk=>by simp at hk;omega)⟩
 ·have hok:ok=true:=by
   cases ok with
   |true=>rfl
   |false=>exact absurd (.inl rfl) hsh
  have hb3:3≤b.size:=Nat.le_of_not_lt fun h=>hsh (.inr h)
  subst hok
  have ht:decide ((b.size:Int)<3)=false:=by simp;omega
  obtain⟨c,hc,hcs,hpre⟩:=pre_call (b.extract 1 b.size)
  have hes:(b.extract 1 b.size).size≤b.size:=by rw [Lib.size_eq,Lib.extract_to_end,Lib.size_eq,List.length_drop];omega
  have hcs2:c.size<4294967281:=by omega
  clear hes hcs
  have HE:Hid (wordE s.data.toList=match Lib.atoiAll c.data.toList with
    | .ok n=>if(digP a.data.toList).2=true∧(digP (b.extract 0 1).data.toList).2=true∧Lib.itoa n=c.data.toList∧Lib.hasPrefix (b.extract 1 b.size).data.toList [43]=decide (0≤n) then some ⟨(digP a.data.toList).1,(digP (b.extract 0 1).data.toList).1,n⟩ else none
    |_=>none):=η (by
   rw [←HWP.o]
   unfold wordP
   rw [HC.o]
   dsimp only
   rw [if_neg (by rw [←Lib.size_eq];exact fun h=>h.elim (fun h=>by cases h) (fun h=>by omega)),←Lib.extract_from_zero,←Lib.extract_to_end,hc]
   try rfl)
  have HD1:=η (text_digit a)
  have HD2:=η (text_digit (b.extract 0 1))
  have HPR:=η hpre
  clear hpre hc hsh HC HWP hbs
  generalize Lib.hasPrefix (b.extract 1 b.size).data.toList [43]=pl at*
  generalize digP a.data.toList=d1 at*
  generalize digP (b.extract 0 1).data.toList=d2 at*
  obtain⟨hx,da⟩:=d1
  obtain⟨k,db⟩:=d2
  dsimp only at HE HD1 HD2
  go_wp2_with fail
  refine(HD1.o _).mono ?_
  rintro e w3 ⟨rfl,g3⟩
  have R3:=η (row_grow R2.o g3)
  have G3:=η (G2.o.trans g3)
  clear g3 R2 G2 HD1
  go_wp2_with fail
  refine(HD2.o _).mono ?_
  rintro e w4 ⟨rfl,g4⟩
  have R4:=η (row_grow R3.o g4)
  have G4:=η (G3.o.trans g4)
  clear g4 R3 G3 HD2
  go_wp2_with fail
  refine(HPR.o _).mono ?_
  rintro e w5 ⟨rfl,g5⟩
  have R5:=η (row_grow R4.o g5)
  have G5:=η (G4.o.trans g5)
  clear g5 R4 G4 HPR
  by_cases hat:∃n,Lib.atoiAll c.data.toList=.ok n
  ·obtain⟨n,hn⟩:=hat
   have hI:=Lib.atoiAll_bounds hn
   have HIT:=η (itoa_call (i64_of hI.1 hI.2) HV.o)
   have HAT:=η (atoi_ok hcs2 hn)
   have HE2:Hid (wordE s.data.toList=if da=true∧db=true∧Lib.itoa n=c.data.toList∧pl=decide (0≤n) then some ⟨hx,k,n⟩ else none):=η (by rw [HE.o,hn])
   clear hn HE hI
   go_wp2_with fail
   refine(HAT.o _).mono ?_
   rintro e w6 ⟨rfl,g6⟩
   have R6:=η (row_grow R5.o g6)
   have G6:=η (G5.o.trans g6)
   clear g6 R5 G5 HAT
   by_cases hab:da=true∧db=true
   ·obtain⟨rfl,rfl⟩:=hab
    go_wp2_with fail
    refine(HIT.o _ G6.o).mono ?_
    rintro e w8 ⟨rfl,g8⟩
    have R6:=η (row_grow R6.o g8)
    have G6:=η (G6.o.trans g8)
    clear g8
    by_cases hq1:Lib.itoa n=c.data.toList
    ·have tS:Lib.itoa n=c.toList:=by rw [Lib.toList_data,←hq1]
     by_cases hn0:0≤n
     ·cases pl
      ·have HN:Hid (wordE s.data.toList=none):=η (by rw [HE2.o,if_neg (by simp [hn0])])
       have tq:decide (0≤n)=true:=by simpa using hn0
       clear hn0 hq1 HE2
       go_wp2_with (first|(refine wpList_store_row rfl (.tmp 2) (.tmp 73) rfl rfl rfl R6.o info_pt0 rfl rfl ?_))
       intro w7 r7 g7
       obtain⟨p0,p1,p2⟩:=cells3 r7
       go_wp2
       refine bodyPost_ret (v:=.tuple #[.agg #[.int .i64 0,.int .i64 0,.int .i64 0],.bool false]) (by simp [results,Tryd.results14,go_sem,p0,p1,p2]) rfl ?_
       rw [HN.o]
       exact⟨rfl,G6.o.grown g7 (fun k hk=>by simp at hk;omega)⟩
      ·have HN:Hid (wordE s.data.toList=some ⟨hx,k,n⟩):=η (by rw [HE2.o,if_pos (by simp [hq1,hn0])])
       have tq:decide (0≤n)=true:=by simpa using hn0
       clear hn0 hq1 HE2
       go_wp2_with (first|(refine wpList_store_row rfl (.tmp 2) (.tmp 77) rfl rfl rfl R6.o info_pt0 rfl rfl ?_))
       intro w7 r7 g7
       obtain⟨p0,p1,p2⟩:=cells3 r7
       go_wp2
       refine bodyPost_ret (v:=.tuple #[.agg #[.int .i64 hx,.int .i64 k,.int .i64 n],.bool true]) (by simp [results,Tryd.results14,go_sem,p0,p1,p2]) rfl ?_
       rw [HN.o]
       exact⟨rfl,G6.o.grown g7 (fun k hk=>by simp at hk;omega)⟩
     ·cases pl
      ·have HN:Hid (wordE s.data.toList=some ⟨hx,k,n⟩):=η (by rw [HE2.o,if_pos (by simp [hq1,hn0])])
       have tq:decide (0≤n)=false:=by simpa using hn0
       clear hn0 hq1 HE2
       go_wp2_with (first|(refine wpList_store_row rfl (.tmp 2) (.tmp 77) rfl rfl rfl R6.o info_pt0 rfl rfl ?_))
       intro w7 r7 g7
       obtain⟨p0,p1,p2⟩:=cells3 r7
       go_wp2
       refine bodyPost_ret (v:=.tuple #[.agg #[.int .i64 hx,.int .i64 k,.int .i64 n],.bool true]) (by simp [results,Tryd.results14,go_sem,p0,p1,p2]) rfl ?_
       rw [HN.o]
       exact⟨rfl,G6.o.grown g7 (fun k hk=>by simp at hk;omega)⟩
      ·have HN:Hid (wordE s.data.toList=none):=η (by rw [HE2.o,if_neg (by simp [hn0])])
       have tq:decide (0≤n)=false:=by simpa using hn0
       clear hn0 hq1 HE2
       go_wp2_with (first|(refine wpList_store_row rfl (.tmp 2) (.tmp 73) rfl rfl rfl R6.o info_pt0 rfl rfl ?_))
       intro w7 r7 g7
       obtain⟨p0,p1,p2⟩:=cells3 r7
       go_wp2
       refine bodyPost_ret (v:=.tuple #[.agg #[.int .i64 0,.int .i64 0,.int .i64 0],.bool false]) (by simp [results,Tryd.results14,go_sem,p0,p1,p2]) rfl ?_
       rw [HN.o]
       exact⟨rfl,G6.o.grown g7 (fun k hk=>by simp at hk;omega)⟩
    ·have tS:¬Lib.itoa n=c.toList:=by rw [Lib.toList_data];exact hq1
     have HN:Hid (wordE s.data.toList=none):=η (by rw [HE2.o,if_neg (fun e=>hq1 e.2.2.1)])
     clear hq1 HE2
     go_wp2_with (first|(refine wpList_store_row rfl (.tmp 2) (.tmp 73) rfl rfl rfl R6.o info_pt0 rfl rfl ?_))
     intro w7 r7 g7
     obtain⟨p0,p1,p2⟩:=cells3 r7
     go_wp2
     refine bodyPost_ret (v:=.tuple #[.agg #[.int .i64 0,.int .i64 0,.int .i64 0],.bool false]) (by simp [results,Tryd.results14,go_sem,p0,p1,p2]) rfl ?_
     rw [HN.o]
     exact⟨rfl,G6.o.grown g7 (fun k hk=>by simp at hk;omega)⟩
   ·have HN:Hid (wordE s.data.toList=none):=η (by rw [HE2.o,if_neg (fun e=>hab ⟨e.1,e.2.1⟩)])
    clear HE2 HIT
    cases da
    ·clear hab
     go_wp2_with (first|(refine wpList_store_row rfl (.tmp 2) (.tmp 73) rfl rfl rfl R6.o info_pt0 rfl rfl ?_))
     intro w7 r7 g7
     obtain⟨p0,p1,p2⟩:=cells3 r7
     go_wp2
     refine bodyPost_ret (v:=.tuple #[.agg #[.int .i64 0,.int .i64 0,.int .i64 0],.bool false]) (by simp [results,Tryd.results14,go_sem,p0,p1,p2]) rfl ?_
     rw [HN.o]
     exact⟨rfl,G6.o.grown g7 (fun k hk=>by simp at hk;omega)⟩
    ·cases db
     ·clear hab
      go_wp2_with (first|(refine wpList_store_row rfl (.tmp 2) (.tmp 73) rfl rfl rfl R6.o info_pt0 rfl rfl ?_))
      intro w7 r7 g7
      obtain⟨p0,p1,p2⟩:=cells3 r7
      go_wp2
      refine bodyPost_ret (v:=.tuple #[.agg #[.int .i64 0,.int .i64 0,.int .i64 0],.bool false]) (by simp [results,Tryd.results14,go_sem,p0,p1,p2]) rfl ?_
      rw [HN.o]
      exact⟨rfl,G6.o.grown g7 (fun k hk=>by simp at hk;omega)⟩
     ·exact absurd ⟨rfl,rfl⟩ hab
  ·have HAT:=η (atoi_no hcs2 (fun n e=>hat ⟨n,e⟩) HV.o)
   have HN:Hid (wordE s.data.toList=none):=η (by
    rw [HE.o]
    rcases e:Lib.atoiAll c.data.toList with n|_|_
    ·exact absurd ⟨n,e⟩ hat
    ·rfl
    ·rfl)
   clear hat HE
   go_wp2_with fail
   refine(HAT.o _ G5.o).mono ?_
   rintro e w6 ⟨n,tE,N,rfl,g6⟩
   have R6:=η (row_grow R5.o g6)
   have G6:=η (G5.o.trans g6)
   clear g6 R5 G5 HAT
   cases da
   ·go_wp2_with (first|(refine wpList_store_row rfl (.tmp 2) (.tmp 73) rfl rfl rfl R6.o info_pt0 rfl rfl ?_))
    intro w7 r7 g7
    obtain⟨p0,p1,p2⟩:=cells3 r7
    go_wp2
    refine bodyPost_ret (v:=.tuple #[.agg #[.int .i64 0,.int .i64 0,.int .i64 0],.bool false]) (by simp [results,Tryd.results14,go_sem,p0,p1,p2]) rfl ?_
    rw [HN.o]
    exact⟨rfl,G6.o.grown g7 (fun k hk=>by simp at hk;omega)⟩
   ·cases db
    ·go_wp2_with (first|(refine wpList_store_row rfl (.tmp 2) (.tmp 73) rfl rfl rfl R6.o info_pt0 rfl rfl ?_))
     intro w7 r7 g7
     obtain⟨p0,p1,p2⟩:=cells3 r7
     go_wp2
     refine bodyPost_ret (v:=.tuple #[.agg #[.int .i64 0,.int .i64 0,.int .i64 0],.bool false]) (by simp [results,Tryd.results14,go_sem,p0,p1,p2]) rfl ?_
     rw [HN.o]
     exact⟨rfl,G6.o.grown g7 (fun k hk=>by simp at hk;omega)⟩
    ·go_wp2_with (first|(refine wpList_store_row rfl (.tmp 2) (.tmp 73) rfl rfl rfl R6.o info_pt0 rfl rfl ?_))
     intro w7 r7 g7
     obtain⟨p0,p1,p2⟩:=cells3 r7
     go_wp2
     refine bodyPost_ret (v:=.tuple #[.agg #[.int .i64 0,.int .i64 0,.int .i64 0],.bool false]) (by simp [results,Tryd.results14,go_sem,p0,p1,p2]) rfl ?_
     rw [HN.o]
     exact⟨rfl,G6.o.grown g7 (fun k hk=>by simp at hk;omega)⟩
def sameK (p q:Pt):Bool:=q.h==p.h&&q.k==p.k
theorem wrong_lit {B:Nat} {p:Pt} (wx:World) (cs:List Value) (x:Pt) (hB:B<wx.heap.size) (c0:wx.cell? ⟨B,0,none⟩=some (.int .i64 p.h)) (c1:wx.cell? ⟨B,1,none⟩=some (.int .i64 p.k)) (hR:Ty.pt.R wx.cell? cs x):
  Calls Tryd.prog 24 #[.agg cs.toArray,.pointer (some ⟨B,0,none⟩)] wx fun e w'=>e=.returned (.bool (sameK p x))∧Grow wx w':=by
 obtain⟨rfl,-⟩:=hR
 obtain⟨ph,pk,pn⟩:=p
 obtain⟨qh,qk,qn⟩:=x
 unfold Pt.cells sameK
 simp only at c0 c1 ⊢
 cases h1:(qh==ph)
 ·go_enter Tryd.func24,Tryd.ntmps24
  go_wp2
  go_ret
  exact⟨rfl,grA⟩
 ·go_enter Tryd.func24,Tryd.ntmps24
  go_wp2
  go_ret
  exact⟨ret_bool (by simp),grA⟩
theorem any_same (l:List Pt) (p:Pt):(l.any (sameK p))=decide ((p.h,p.k)∈l.map fun q=>(q.h,q.k)):=by
 rw [Bool.eq_iff_iff,List.any_eq_true,decide_eq_true_eq,List.mem_map]
 constructor
 ·rintro⟨q,hq,h⟩
  simp only [sameK,Bool.and_eq_true,beq_iff_eq] at h
  exact⟨q,hq,by rw [h.1,h.2]⟩
 ·rintro⟨q,hq,h⟩
  simp only [Prod.mk.injEq] at h
  exact⟨q,hq,by simp [sameK,h.1,h.2]⟩
theorem ways_pt2 (p:Pt) (h:Int):(p.h<0)∨(0≤p.h∧h≤p.h)∨(0≤p.h∧p.h<h∧p.k<0)∨(0≤p.h∧p.h<h∧0≤p.k∧4≤p.k)∨(0≤p.h∧p.h<h∧0≤p.k∧p.k<4∧p.n< -1048576)∨(0≤p.h∧p.h<h∧0≤p.k∧p.k<4∧-1048576≤p.n∧1048576<p.n)∨(0≤p.h∧p.h<h∧0≤p.k∧p.k<4∧-1048576≤p.n∧p.n≤1048576):=by omega
theorem Sl.take' {α:Type} {T:Ty α} {c:CM} {a:Option Addr} {n cap:Nat} {l:List α} (h:Sl T c (.slice a n cap) l) (m:Nat) (hm:m≤n):Sl T c (.slice a m cap) (l.take m):=by
 obtain⟨a',cap',he,h1,h2,h3,hel⟩:=h
 simp only [Value.slice.injEq] at he
 obtain⟨rfl,rfl,rfl⟩:=he
 have hl:(l.take m).length=m:=by simp;omega
 refine⟨a,cap,by rw [hl],by rw [hl];omega,h2,h3,fun i x e=>?_⟩
 have hi:=(List.getElem?_eq_some_iff.1 e).1
 rw [List.getElem?_take_of_lt (by omega)] at e
 exact hel i x e
set_option maxRecDepth 100000 in
set_option maxHeartbeats 2000000 in
theorem part_wrong {v:Value} {l:List Pt} {h:Int} (w:World) (hv:Pts w.cell? v l):
  Calls Tryd.prog 15 #[v,.int .i64 h] w fun e w'=>e=.returned (.int .i64 (wrongE l h))∧Grow w w':=by
 have HV:=η hv
 obtain⟨a,cap,rfl,h1,h2,-,hel⟩:=hv
 unfold maxLen at h2
 by_cases hl0:l.length=0
 ·have hE:wrongE l h=5:=by simp [wrongE,hl0]
  have HE:=η hE
  have hl1:l.length<1:=by omega
  clear hel hE hl0
  go_enter Tryd.func15,Tryd.ntmps15
  go_wp2
  go_ret
  exact⟨ret_int HE.o.symm,Grow.refl _⟩
 by_cases hl4:4<l.length
 ·have hE:wrongE l h=5:=by rw [wrongE,if_pos (.inr hl4)]
  have HE:=η hE
  have hl1:¬l.length<1:=by omega
  clear hel hE hl0
  go_enter Tryd.func15,Tryd.ntmps15
  go_wp2
  go_ret
  exact⟨ret_int HE.o.symm,Grow.refl _⟩
 have hE:wrongE l h=wrongGo h [] l:=by rw [wrongE,if_neg (by omega)]
 have HE:=η hE
 have hl1:¬l.length<1:=by omega
 clear hE hl0
 go_enter Tryd.func15,Tryd.ntmps15
 go_wp2
 go_loopw [4,5,17] (fun _ _ i wr=>∃(k:Nat),k≤l.length∧i=.int .i64 k∧Grow w wr∧wrongE l h=wrongGo h ((l.take k).map fun q=>(q.h,q.k)) (l.drop k)) (fun _ _ i _=>l.length - (intOf i).toNat)
 case atStart=>exact⟨0,by omega,rfl,grA,HE.o⟩
 case round=>
  obtain⟨k,hk',rfl,hb,hE⟩:=hrel
  by_cases hlt:k<l.length
  ·obtain⟨b,o,rfl,c0,c1,c2,i0,i1,i2⟩:=Pts.at_ hel k hlt
   replace c0:=hb.sub _ _ c0
   replace c1:=hb.sub _ _ c1
   replace c2:=hb.sub _ _ c2
   rw [List.drop_eq_getElem_cons hlt,wrongGo] at hE
   have hw:=ways_pt2 l[k] h
   have hbad:∀b,decide (l[k].h<0∨h≤l[k].h∨l[k].k<0∨3<l[k].k∨1048576<l[k].n∨l[k].n< -1048576)=b→badPt l[k] h=b:=fun b hb=>hb
   have HB:=η hbad
   have HE2:=η hE
   have HNX:=η (show wrongGo h ((l[k].h,l[k].k)::(l.take k).map fun q=>(q.h,q.k)) (l.drop (k+1))=wrongGo h ((l.take (k+1)).map fun q=>(q.h,q.k)) (l.drop (k+1)) from wrongGo_congr h _ _ _ fun x=>by
    rw [List.take_succ_eq_append_getElem hlt,List.map_append,List.mem_append,List.mem_cons,or_comm];simp)
   have HSL:=η (HV.o.take' k hk')
   have HAN:=η (any_same (l.take k) l[k])
   clear hel hE hbad HE HV i0 i1 i2
   generalize l[k]=p at*
   obtain⟨ph,pk,pn⟩:=p
   simp only at hw c0 c1 c2
   rcases hw with hw|⟨w1,hw⟩|⟨w1,w2,hw⟩|⟨w1,w2,w3,hw⟩|⟨w1,w2,w3,w4,hw⟩|⟨w1,w2,w3,w4,w5,hw⟩|⟨w1,w2,w3,w4,w5,hw⟩
   iterate 6 (· (go_wp2;go_ret;exact⟨ret_int (by rw [HE2.o,if_pos (HB.o true (by simp only [decide_eq_true_eq];omega))]),grA⟩))
   have hnb:=HB.o false (by simp only [decide_eq_false_iff_not];omega)
   have hE3:=HE2.o
   rw [if_neg (by rw [hnb];exact Bool.false_ne_true)] at hE3
   have HE3:=η hE3
   clear hE3 hnb HB HE2
   have HCF:=η (containsFunc_pt (l:=l.take k) (F:=24) (caps:=#[.pointer (some ⟨wr.heap.size,0,none⟩)]) (p:=sameK ⟨ph,pk,pn⟩) (wr.alloc (.cells #[.int .i64 ph,.int .i64 pk,.int .i64 pn] 34)) (HSL.o.mono (hb.alloc _).sub) ⟨fun args w=>by kernel_rfl,fun wx cs x hg _ hR=>wrong_lit wx cs x (Nat.lt_of_lt_of_le (by simp) hg.size) (hg.sub _ _ (by rw [World.cell?_alloc_new];rfl)) (hg.sub _ _ (by rw [World.cell?_alloc_new];rfl)) hR⟩)
   rw [HAN.o] at HCF
   simp only at HCF
   by_cases hin:(ph,pk)∈(l.take k).map fun q=>(q.h,q.k)
   ·rw [decide_eq_true hin] at HCF
    have HI:=η hin
    clear hin HAN HSL
    go_wp2_with fail
    refine HCF.o.mono ?_
    rintro e w3 ⟨rfl,hb3⟩
    have HB3:=η ((hb.alloc _).trans hb3)
    clear hb3
    go_wp2
    go_ret
    exact⟨ret_int (by rw [HE3.o,if_pos HI.o]),HB3.o⟩
   ·rw [decide_eq_false hin] at HCF
    have HI:=η hin
    clear hin HAN HSL
    go_wp2_with fail
    refine HCF.o.mono ?_
    rintro e w3 ⟨rfl,hb3⟩
    have HB3:=η ((hb.alloc _).trans hb3)
    clear hb3
    go_wp2
    go_roundw
    case rel=>exact⟨k+1,by omega,by go_num,HB3.o,by rw [HE3.o,if_neg HI.o];exact HNX.o⟩
    case measure=>simp [intOf];omega
  ·go_wp2
   go_ret
   refine⟨ret_int ?_,hb⟩
   rw [hE,List.drop_of_length_le (by omega)]
   rfl
theorem spl_len:∀(l:List UInt8),∀w∈spl l,w.length≤l.length
 | [],w,h=>by simp [spl] at h;subst h;simp
 |c::l,w,h=>by
  by_cases hc:c=32
  ·subst hc
   rw [spl_space] at h
   rcases List.mem_cons.1 h with rfl|h
   ·simp
   ·have:=spl_len l w h
    simp only [List.length_cons];omega
  ·obtain⟨x,r,e1,e2⟩:=spl_cons hc l
   rw [e2] at h
   rcases List.mem_cons.1 h with rfl|h
   ·have:=spl_len l x (by rw [e1];exact List.mem_cons_self)
    simp only [List.length_cons];omega
   ·have:=spl_len l w (by rw [e1];exact List.mem_cons_of_mem _ h)
    simp only [List.length_cons];omega
theorem split_call (s:ByteArray) {w:World} (hV:Vars w) (hs:s.size<4294967281):∃ws:List ByteArray,ws.map (·.data.toList)=spl s.data.toList∧ws.length≤s.size+1∧(∀x∈ws,x.size<4294967281)∧
  ∀W,Grow w W→Calls Tryd.prog 13 #[.string s,.string ⟨#[32]⟩] W fun e w'=>e=.returned (.slice (some ⟨W.heap.size,0,none⟩) ws.length ws.length)∧w'=W.alloc (.cells (ws.map Value.string).toArray 9):=by
 obtain⟨m,hm⟩:=hV.len
 have hc:Lib.countB s ⟨#[32]⟩=s.data.toList.count 32:=Lib.count_one 32 _
 have hl:=Lib.splitB_all ⟨#[32]⟩ (Nat.le_refl 1) 0 _ s rfl
 have hd:(Lib.splitB ⟨#[32]⟩ 0 (Lib.countB s ⟨#[32]⟩) s).map (·.data.toList)=spl s.data.toList:=by
  rw [Lib.splitB_data,hc]
  exact splitK_spl _
 refine⟨Lib.splitB ⟨#[32]⟩ 0 (Lib.countB s ⟨#[32]⟩) s,hd,?_,fun x hx=>?_,fun W hW=>?_⟩
 ·rw [hl,hc,Lib.size_eq]
  have:=List.count_le_length (a:=(32:UInt8)) (l:=s.data.toList)
  omega
 ·have h1:=spl_len s.data.toList x.data.toList (by rw [←hd];exact List.mem_map.2 ⟨x,hx,rfl⟩)
  rw [Lib.size_eq] at hs ⊢
  omega
 ·rw [hl]
  exact Tryd.strings_Split s ⟨#[32]⟩ m W hs (hW.sub _ _ hm) (Nat.le_refl 1)
theorem words_snoc:∀{ws:List (List UInt8)} {acc:List Pt} {w:List UInt8} {p:Pt},wordsE ws=some acc→wordE w=some p→wordsE (ws++ [w])=some (acc++ [p])
 | [],acc,w,p,h,hw=>by
  simp [wordsE] at h
  subst h
  simp [wordsE,hw]
 |x::ws,acc,w,p,h,hw=>by
  rw [wordsE] at h
  rw [List.cons_append,wordsE]
  cases hx:wordE x with
  |none=>rw [hx] at h;cases h
  |some q=>
   rw [hx] at h
   dsimp only at h ⊢
   cases e:wordsE ws with
   |none=>rw [e] at h;cases h
   |some l=>
    rw [e] at h
    rw [words_snoc e hw]
    simp at h
    subst h
    rfl
theorem words_none:∀{ws:List (List UInt8)} {w:List UInt8},w∈ws→wordE w=none→wordsE ws=none
 |x::ws,w,h,hw=>by
  rw [wordsE]
  rcases List.mem_cons.1 h with rfl|h
  ·rw [hw]
  ·cases wordE x with
   |none=>rfl
   |some q=>dsimp only;rw [words_none h hw];rfl
theorem words_len:∀{ws:List (List UInt8)} {acc:List Pt},wordsE ws=some acc→acc.length=ws.length:=fun {ws acc} h=>by rw [←words_back h,List.length_map]
set_option maxRecDepth 100000 in
set_option maxHeartbeats 2000000 in
theorem text_parse (s:ByteArray) (w:World) (hV:Vars w) (hs:s.size<4294967281):
  Calls Tryd.prog 6 #[.string s] w fun e w'=>∃v,e=.returned (.tuple #[v,.int .i64 (parseE s.data.toList).2])∧Pts w'.cell? v (parseE s.data.toList).1∧Grow w w':=by
 obtain⟨ws,hd,hln,hsz,hsp⟩:=split_call s hV hs
 have HSP:=η hsp
 have HD:=η hd
 have HSZ:=η hsz
 have HV:=η hV
 clear hd hsp hsz hV
 go_enter Tryd.func6,Tryd.ntmps6
 go_wp2_with fail
 refine(HSP.o _ (Grow.refl w)).mono ?_
 rintro e wz ⟨rfl,hwz⟩
 have GZ:Hid (Grow w wz):=η (by rw [hwz];exact(Grow.refl w).alloc _)
 have RZ:Hid (wz.heap[w.heap.size]? =some (.cells (ws.map Value.string).toArray 9 (0,0))):=η (by rw [hwz];exact row_new _ _)
 clear hwz HSP
 go_wp2
 go_loopw [4,6,7,8,13] (fun s4 _ _ _ i wr=>∃(k:Nat) (acc:List Pt),k≤ws.length∧i=.int .i64 k∧Grow wz wr∧OwnC Ty.pt (fun _=>none) wr wz.heap.size 34 s4 acc∧wordsE ((ws.take k).map (·.data.toList))=some acc) (fun _ _ _ _ i _=>ws.length - (intOf i).toNat)
 case atStart=>exact⟨0,[],by omega,rfl,Grow.refl _,OwnC.nil _ _ _ _ _,rfl⟩
 case round=>
  obtain⟨k,acc,hk',rfl,hb,hown,hws⟩:=hrel
  have HWS:=η hws
  have HOWN:=η hown
  have HB:=η hb
  obtain⟨av,cv,rfl⟩:=hown.form
  by_cases hlt:k<ws.length
  ·have HAL:Hid (acc.length=k):=η (by rw [words_len hws];simp;omega)
   have HON:=η (text_one ws[k] wr (HV.o.grow (GZ.o.trans hb)) (HSZ.o _ (List.getElem_mem hlt)))
   have HNX:Hid (∀p,wordE ws[k].data.toList=some p→wordsE ((ws.take (k+1)).map (·.data.toList))=some (acc++ [p])∧I64 p.h∧I64 p.k∧I64 p.n):=η (fun p hp=>⟨by
    rw [List.take_succ_eq_append_getElem hlt,List.map_append]
    exact words_snoc hws hp,word_ok hp⟩)
   have HNN:Hid (wordE ws[k].data.toList=none→parseE s.data.toList=([],2)):=η (fun hp=>by
    unfold parseE
    rw [←HD.o,words_none (List.mem_map.2 ⟨ws[k],List.getElem_mem hlt,rfl⟩) hp])
   have c0:wr.cell? ⟨w.heap.size,k,none⟩=some (.string ws[k]):=by
    have:=row_grow RZ.o hb
    simp [World.cell?,this,hlt]
   have hzz:wr.cell? ⟨w.heap.size,0+k,none⟩=some (.string ws[k]):=by rw [Nat.zero_add];exact c0
   clear hws hown hb
   generalize wordE ws[k].data.toList=o at*
   generalize ws[k]=x at*
   go_wp2_with fail
   refine HON.o.mono ?_
   rintro e w1 ⟨rfl,g1⟩
   have R9:=row_new w1 (.cells #[.int .i64 0,.int .i64 0,.int .i64 0] 34)
   have G1:=η g1
   clear c0 hzz g1
   cases o with
   |none=>
    have HE:=η (HNN.o rfl)
    clear HNN HNX
    dsimp only [Option.getD_none,Option.isSome_none]
    go_wp2_with (first|(refine wpList_store_row rfl (.tmp 7) (.tmp 20) rfl rfl rfl R9 info_pt0 rfl rfl ?_))
    clear R9
    intro w2 r2 g2
    go_wp2
    go_ret2
    rw [HE.o]
    exact⟨_,rfl,Sl.nil _ _,((GZ.o.trans HB.o).trans (G1.o.alloc _)).grown g2 (fun q hq=>by simp at hq;have:=((GZ.o.trans HB.o).trans G1.o).size;omega)⟩
   |some p=>
    obtain⟨hw2,i0,i1,i2⟩:=HNX.o p rfl
    have HW2:=η hw2
    have HI:=η (And.intro i0 (And.intro i1 i2))
    clear HNN HNX hw2 i0 i1 i2
    dsimp only [Option.getD_some,Option.isSome_some,Pt.cells]
    go_wp2_with (first|(refine wpList_store_row rfl (.tmp 7) (.tmp 20) rfl rfl rfl R9 info_pt0 rfl rfl ?_))
    clear R9
    intro w2 r2 g2
    have G2:Hid (Grow wr w2):=η ((G1.o.alloc _).grown g2 (fun q hq=>by simp at hq;have:=G1.o.size;omega))
    obtain⟨p0,p1,p2⟩:=cells3 (show w2.heap[w1.heap.size]? =some (.cells #[.int .i64 p.h,.int .i64 p.k,.int .i64 p.n] 34 (0,0)) from r2)
    clear r2 g2
    go_wp2_with (first|(at_builtin;refine wpList_appc (c:=fun _=>none) (base:=wz.heap.size) (l:=acc) (m:=[p]) ei_pt rfl one_Tpt (by decide) rfl (.tmp 24) (.tmp 26) rfl rfl ?own rfl (Src.of_new (T:=Ty.pt) (x:=p) (cs:=#[.int .i64 p.h,.int .i64 p.k,.int .i64 p.n]) ⟨rfl,HI.o⟩ _ _ ?d1) ?d2 ?d3 ?_))
    case own=>exact HOWN.o.grow (G2.o.alloc _)
    case d1=>first|rfl|simp
    case d2=>have:=HAL.o;simp;omega
    case d3=>have:=(HB.o.trans G2.o).size;simp;omega
    intro a9 c9 w9 ho9 hg9 hb9
    have G9:Hid (Grow wz w9):=η (grow_by (w0:=wz) ((HB.o.trans G2.o).alloc _) hg9 (fun q hq=>(HOWN.o.lt q hq).1))
    have HO9:=η ho9
    clear ho9 hg9 hb9 p0 p1 p2
    go_wp2
    go_roundw
    case rel=>exact⟨k+1,acc++ [p],by omega,by go_num,G9.o,HO9.o,HW2.o⟩
    case measure=>simp [intOf];omega
  ·have HE:Hid (parseE s.data.toList=if wrongE acc 3=0 then(acc,0) else([],wrongE acc 3)):=η (by
    rw [List.take_of_length_le (by omega)] at hws
    unfold parseE
    rw [←HD.o,hws])
   have HP:Hid (Pts wr.cell? (.slice av acc.length cv) acc):=η (hown.slc (by decide) (fun a v h=>by cases h) (fun a _=>rfl))
   clear hws hown hb HWS
   go_wp2_with fail
   refine(part_wrong (h:=3) _ HP.o).mono ?_
   rintro e w1 ⟨rfl,g1⟩
   have G1:=η g1
   clear g1
   by_cases h0:wrongE acc 3=0
   ·have HR:Hid (parseE s.data.toList=(acc,0)):=η (by rw [HE.o,if_pos h0])
    clear HE
    rw [h0]
    clear h0
    go_wp2
    go_ret2
    rw [HR.o]
    exact⟨_,rfl,HP.o.mono G1.o.sub,(GZ.o.trans HB.o).trans G1.o⟩
   ·have HR:Hid (parseE s.data.toList=([],wrongE acc 3)):=η (by rw [HE.o,if_neg h0])
    have ht:(wrongE acc 3 !=0)=true:=by simpa using h0
    clear HE h0
    generalize wrongE acc 3=q at*
    go_wp2
    go_ret2
    rw [HR.o]
    exact⟨_,rfl,Sl.nil _ _,(GZ.o.trans HB.o).trans G1.o⟩
section
variable {P:Program} {ops:Array Oper} {Q:Exit→Act→World→Prop} {md:Region.Mode} {S:World→Prop} {C:List Nat}
def wpC (P:Program) (md:Region.Mode) (ops:Array Oper) (Q:Exit→Act→World→Prop) (S:World→Prop) (C:List Nat):Nat→Array Bool→Act→World→Prop
 |0,listed,a,w=>Region.ready md ops listed=[]∧Q .normal a w
 |fuel+1,listed,a,w=>(Region.ready md ops listed=[]→Q .normal a w)∧∀i∈Region.ready md ops listed,wpOp P ops Q i (fun a' w'=>(i∈C∨S w')∧wpC P md ops Q S C fuel (listed.setIfInBounds i true) a' w') a w
theorem wpC_any:∀(fuel:Nat) (listed:Array Bool) (a:Act) (w:World),wpC P md ops Q S C fuel listed a w→wpAny P md ops Q fuel listed a w
 |0,_,_,_,h=>h
 |_+1,_,_,_,h=>⟨h.1,fun i hi=>wpOp_mono (fun a' w' h'=>wpC_any _ _ a' w' h'.2) (h.2 i hi)⟩
theorem wpC_first {i f:Nat} {oi:Oper} {v:Value} (hi:ops[i]? =some oi) (hsel:∀(j:Nat) (o:Oper) cs b,ops[j]? =some o→o.op≠ .select cs b)
  (hQ:∀k a w,Q (.panic k) (a.put oi.dst v) w→Q (.panic k) a w) (hw:∀c∈C,waitsFor md ops f i c=true):
  ∀(fuel:Nat) (listed:Array Bool) (a:Act) (w:World),DownSet md ops listed→
   (∀j oj,ops[j]? =some oj→j≠i→listed.getD j true=false→(∀e∈oj.after,Region.binds md e=true→e.on≠i)→oi.apart ops oj=true)→
   i∈Region.ready md ops listed→YieldsIf P ops S oi v a→S w→
   wpC P md ops Q S C fuel (listed.setIfInBounds i true) (a.put oi.dst v) w→wpC P md ops Q S C (fuel+1) listed a w:=by
 have hun:∀listed:Array Bool,i∈Region.ready md ops listed→listed.getD i false=false:=by
  intro listed hr
  have h0:=(mem_ready.1 hr).1
  by_cases hl:i<listed.size
  ·simp [hl] at h0 ⊢;exact h0
  ·simp [hl]
 intro fuel
 induction fuel with
 |zero=>
  intro listed a w _ _ hr hy hS H
  refine⟨fun h=>(by rw [h] at hr;cases hr),fun j hj=>?_⟩
  by_cases hji:j=i
  ·subst hji;exact hy.wpOp hi hS ⟨.inr hS,H⟩
  ·have:=ready_mono hj hji
   rw [H.1] at this
   cases this
 |succ fuel ih=>
  intro listed a w hcl hfree hr hy hS H
  refine⟨fun h=>(by rw [h] at hr;cases hr),fun j hj=>?_⟩
  by_cases hji:j=i
  ·subst hji;exact hy.wpOp hi hS ⟨.inr hS,H⟩
  ·have hjc:j∉C:=fun e=>(waits_spec hcl (hun _ hr) (hw j e)).1 hj
   have h1:=H.2 j (ready_mono hj hji)
   obtain⟨hjun,oj,hoj,hall⟩:=mem_ready.1 hj
   have hnot:∀e∈oj.after,Region.binds md e=true→e.on≠i:=fun e he hb heq=>by
    have h1:=hall e he hb
    rw [heq,hun _ hr] at h1
    cases h1
   have h2:=wpOp_putIf hoj (hfree j oj hoj hji hjun hnot) (fun cs b=>hsel i oi cs b hi) (fun cs b=>hsel j oj cs b hoj) hQ hy h1
   refine wpOp_mono (fun a' w' h3=>have hs3:=h3.2.1.resolve_left hjc;⟨.inr hs3,ih (listed.setIfInBounds j true) a' w' (hcl.set hj) (fun k ok hk hki hku hno=>?_) (ready_mono hr (Ne.symm hji)) h3.1 hs3 ?_⟩) h2
   ·refine hfree k ok hk hki ?_ hno
    by_cases hjk:j=k
    ·subst hjk;exact hjun
    ·rw [getD_set_ne true hjk] at hku;exact hku
   ·rw [Array.setIfInBounds_comm _ _ hji]
    exact h3.2.2
def tkC (P:Program) (md:Region.Mode) (ops:Array Oper) (Q:Exit→Act→World→Prop) (S:World→Prop) (C:List Nat) (w:World):List Nat→Nat→Array Bool→Act→Prop
 | [],fuel,listed,a=>wpC P md ops Q S C fuel listed a w
 |i::is,F,listed,a=>∃fuel oi v,F=fuel+1∧ops[i]? =some oi∧YieldsIf P ops S oi v a∧tkC P md ops Q S C w is fuel (listed.setIfInBounds i true) (a.put oi.dst v)
def tkBC (md:Region.Mode) (ops:Array Oper) (C:List Nat) (f:Nat):List Nat→Array Bool→Bool
 | [],_=>true
 |i::is,listed=>Region.free md ops listed i&&((Region.ready md ops listed).contains i&&((C.all fun c=>waitsFor md ops f i c)&&tkBC md ops C f is (listed.setIfInBounds i true)))
theorem tkC_go {w:World} (hsel:∀(j:Nat) (o:Oper) cs b,ops[j]? =some o→o.op≠ .select cs b) (hQ:∀k d v a w,Q (.panic k) (a.put (some d) v) w→Q (.panic k) a w) (hS:S w) (f:Nat):∀(is:List Nat) (fuel:Nat) (listed:Array Bool) (a:Act),DownSet md ops listed→tkBC md ops C f is listed=true→tkC P md ops Q S C w is fuel listed a→wpC P md ops Q S C fuel listed a w
 | [],_,_,_,_,_,h=>h
 |i::is,_,listed,a,hd,hb,h=>by
  obtain⟨fuel,oi,v,rfl,hi,hy,h⟩:=h
  simp only [tkBC,Bool.and_eq_true] at hb
  obtain⟨b1,b2,b3,b4⟩:=hb
  have hr:i∈Region.ready md ops listed:=by simpa using b2
  exact wpC_first hi hsel (fun k a w h=>by
   cases hd:oi.dst with
   |none=>rw [hd] at h;exact h
   |some d=>rw [hd] at h;exact hQ k d _ a w h) (fun c hc=>List.all_eq_true.1 b3 c hc) fuel listed a w hd (Region.free_spec hi b1) hr hy hS (tkC_go hsel hQ hS f is fuel _ _ (hd.set hr) b4 h)
theorem bLc (is:List Nat) (f:Nat) {fuel:Nat} {listed:Array Bool} {a:Act} {w:World} (h5:(Region.noSelect ops&&(shutB md ops listed&&tkBC md ops C f is listed))=true) (hQ:∀k d v a w,Q (.panic k) (a.put (some d) v) w→Q (.panic k) a w) (hS:S w)
  (h:tkC P md ops Q S C w is fuel listed a):wpC P md ops Q S C fuel listed a w:=by
 simp only [Bool.and_eq_true] at h5
 exact tkC_go (Region.noSelect_spec h5.1) hQ hS f is fuel listed a (shut_of h5.2.1) h5.2.2 h
theorem tNc {i:Nat} {is:List Nat} {fuel:Nat} {listed:Array Bool} {a:Act} {w:World} {oi:Oper} {v:Value} (hi:ops[i]? =some oi) (hw:Region.wanted oi (yielded ops a.tmps)=true) (hy:∀w,S w→(execOp a.eval oi).run P w=.ok (.value v) w)
  (h:tkC P md ops Q S C w is fuel (listed.setIfInBounds i true) (a.put oi.dst v)):tkC P md ops Q S C w (i::is) (fuel+1) listed a:=⟨fuel,oi,v,rfl,hi,.inl ⟨hw,hy⟩,h⟩
theorem tEc {fuel:Nat} {listed:Array Bool} {a:Act} {w:World} (h:wpC P md ops Q S C fuel listed a w):tkC P md ops Q S C w [] fuel listed a:=h
theorem bDc {listed:Array Bool} {a:Act} {w:World} {fuel:Nat} (hr:Region.ready md ops listed=[]) (h:Q .normal a w):wpC P md ops Q S C fuel listed a w:=by
 cases fuel with
 |zero=>exact⟨hr,h⟩
 |succ n=>exact⟨fun _=>h,by rw [hr];simp⟩
theorem bOc (i:Nat) {o:Oper} {fuel:Nat} {listed:Array Bool} {a:Act} {w:World} (hr:Region.ready md ops listed=[i]) (hi:ops[i]? =some o)
  (h:∀K:Act→World→Prop,Hid (∀a' w',(i∈C∨S w')∧wpC P md ops Q S C fuel (listed.setIfInBounds i true) a' w'→K a' w')→if Region.wanted o (yielded ops a.tmps)=true then Oper.wp P o a w K Q else K (a.put o.dst undef) w):
  wpC P md ops Q S C (fuel+1) listed a w:=by
 refine⟨fun h0=>absurd (h0.symm.trans hr) (by simp),fun j hj=>?_⟩
 rw [hr] at hj
 obtain rfl:j=i:=by simpa using hj
 exact wpOp_step hi fun K hK=>h K (η hK)
theorem bSc (S:World→Prop) (C:List Nat) {id:Nat} {a:Act} {w:World} (hm:P.follows .mixedOrders=true) (h:∀wd,Grow w wd→w.heap.size=wd.heap.size→wpC P .any ops Q S C ops.size (Array.replicate ops.size false) a wd):(Code.region id ops true).wp P Q a w:=
 wp_region_any hm (wpC_any _ _ _ _ (h w.drew ((Grow.refl _).drew) rfl))
end
def Ty.str:Ty ByteArray where
 size:=1
 R:=fun _ cs s=>cs=[.string s]
 len:=by rintro c cs s rfl;rfl
 mono:=by rintro c c' cs s h rfl;rfl
theorem ei_str:EI Tryd.prog 31 9 1 16:=EI.mk' (z:=.string ByteArray.empty) (by kernel_rfl) (by kernel_rfl) rfl (by decide) rfl
theorem one_Tstr:TOne Ty.str:=by
 rintro c cs s rfl u hu
 obtain rfl:=List.mem_singleton.1 hu
 rfl
theorem small_call {n:Int} (h0:0≤n) (h1:n<100) (W:World):Calls Tryd.prog 17 #[.int .i64 n] W fun e w'=>e=.returned (.string ⟨(Lib.itoa n).toArray⟩)∧w'=W:=by
 obtain⟨i,rfl⟩:∃i:Nat,n=i:=⟨n.toNat,by omega⟩
 rw [Lib.itoa_nonneg]
 exact Tryd.strconv_Itoa_small i (by omega) W
def signE (n:Int):List UInt8:=if n<0 then [] else [43]
theorem add_lists (x y:List UInt8) (hx:x.length≤8388608) (hy:y.length≤8388608) (W:World):(Op.stringOp .add ⟨x.toArray⟩ ⟨y.toArray⟩).run Tryd.prog W=.ok (.string ⟨(x++y).toArray⟩) W:=run_string_add_lists W x y (by omega) (by omega)
theorem itoa_short {n:Int} (h:I64 n):(Lib.itoa n).length≤21:=by
 have:=i64_low h
 exact Lib.itoa_length_le n this.1 this.2
def wstr (p:Pt):ByteArray:=⟨(wordOf p).toArray⟩
theorem word_adds (p:Pt) (ih:I64 p.h) (ik:I64 p.k) (i:I64 p.n):∃sh sk sn sg s1 s2 s3 sw:ByteArray,sh=⟨(Lib.itoa p.h).toArray⟩∧sk=⟨(Lib.itoa p.k).toArray⟩∧sn=⟨(Lib.itoa p.n).toArray⟩∧sg=⟨(signE p.n).toArray⟩∧sw=wstr p∧
  (∀W,(Op.stringOp .add sh ⟨#[46]⟩).run Tryd.prog W=.ok (.string s1) W)∧(∀W,(Op.stringOp .add s1 sk).run Tryd.prog W=.ok (.string s2) W)∧(∀W,(Op.stringOp .add s2 sg).run Tryd.prog W=.ok (.string s3) W)∧(∀W,(Op.stringOp .add s3 sn).run Tryd.prog W=.ok (.string sw) W):=by
 have a:=itoa_short ih
 have b:=itoa_short ik
 have c:=itoa_short i
 have d:(signE p.n).length≤1:=by unfold signE;split<;>simp
 refine⟨_,_,_,_,⟨(Lib.itoa p.h++ [46]).toArray⟩,⟨(Lib.itoa p.h++ [46]++Lib.itoa p.k).toArray⟩,⟨(Lib.itoa p.h++ [46]++Lib.itoa p.k++signE p.n).toArray⟩,_,rfl,rfl,rfl,rfl,rfl,fun W=>add_lists _ [46] (by omega) (by simp) W,fun W=>add_lists _ _ (by simp;omega) (by omega) W,fun W=>add_lists _ _ (by simp;omega) (by omega) W,fun W=>?_⟩
 rw [add_lists _ _ (by simp;omega) (by omega) W]
 congr 3
 unfold wordOf signE
 simp
theorem tail_len {m:Nat}:∀{r:List (List UInt8)},(∀x∈r,x.length≤m)→(Lib.joinTail [32] r).length≤r.length*(m+1)
 | [],_=>by simp [Lib.joinTail]
 |x::r,h=>by
  have h1:=tail_len (r:=r) (fun y hy=>h y (List.mem_cons_of_mem _ hy))
  have h2:=h x List.mem_cons_self
  have e:Lib.joinTail [32] (x::r)=([32]++x)++Lib.joinTail [32] r:=by simp [Lib.joinTail]
  have e2:(r.length+1)*(m+1)=r.length*(m+1)+(m+1):=Nat.succ_mul _ _
  rw [e]
  simp only [List.length_append,List.length_cons,List.length_nil]
  omega
theorem word_short {p:Pt} (ih:I64 p.h) (ik:I64 p.k) (i:I64 p.n):(wordOf p).length≤65:=by
 have a:=itoa_short ih
 have b:=itoa_short ik
 have c:=itoa_short i
 unfold wordOf
 simp only [List.length_append,List.length_cons]
 split<;>simp<;>omega
theorem print_short {l:List Pt} (h4:l.length≤4) (h:PtsOk l):(printE l).length≤140737488355328:=by
 match l with
 | []=>simp [printE,Lib.join_nil]
 |p::l=>
  have h1:=h p List.mem_cons_self
  have h2:=word_short h1.1 h1.2.1 h1.2.2
  have h3:=tail_len (m:=65) (r:=l.map wordOf) (fun x hx=>by
   obtain⟨q,hq,rfl⟩:=List.mem_map.1 hx
   have hq2:=h q (List.mem_cons_of_mem _ hq)
   exact word_short hq2.1 hq2.2.1 hq2.2.2)
  unfold printE
  rw [List.map_cons,Lib.join_cons,List.length_append]
  rw [List.length_map] at h3
  simp at h4
  omega
theorem join_call {w:World} {v:Value} {xs:List ByteArray} (hne:0<xs.length) (h:Sl Ty.str w.cell? v xs) (hlen:(Lib.join (xs.map (·.data.toList)) [32]).length≤140737488355328) (h4:xs.length≤140737488355328):
  Calls Tryd.prog 18 #[v,.string ⟨#[32]⟩] w fun e w'=>e=.returned (.string ⟨(Lib.join (xs.map (·.data.toList)) [32]).toArray⟩)∧Grow w w':=by
 obtain⟨a,c,rfl,h1,h2,h3,hel⟩:=h
 obtain⟨b,o,cs,rfl,hR,hA⟩:=hel 0 _ (List.getElem?_eq_getElem hne)
 have hc:∀(j:Nat) x,xs[j]? =some x→w.cell? ⟨b,o+j,none⟩=some (.string x):=fun j x e=>by
  obtain⟨b2,o2,cs2,he,hR2,hA2⟩:=hel j x e
  obtain⟨rfl,rfl⟩:b=b2∧o=o2:=by simpa using he
  have hR2:cs2=[.string x]:=hR2
  subst hR2
  have:=hA2 0 _ rfl
  simpa [Ty.str] using this
 exact Tryd.strings_Join b o c xs ⟨#[32]⟩ w hc (World.block_lt_of_cell? w _ (hc 0 _ (List.getElem?_eq_getElem hne))) h4 (by omega) hlen
theorem print_map (l:List Pt):(l.map wstr).map (·.data.toList)=l.map wordOf:=by
 rw [List.map_map]
 exact List.map_congr_left fun p _=>rfl
theorem print_join {w:World} {base:Nat} {av:Option Addr} {cv:Nat} {l:List Pt} (h0:0<l.length) (h4:l.length≤4) (hok:PtsOk l) (h:OwnC Ty.str (fun _=>none) w base 9 (.slice av (l.map wstr).length cv) (l.map wstr)):
  Calls Tryd.prog 18 #[.slice av l.length cv,.string ⟨#[32]⟩] w fun e w'=>e=.returned (.string ⟨(printE l).toArray⟩)∧Grow w w':=by
 have hj:=join_call (w:=w) (xs:=l.map wstr) (by rw [List.length_map];exact h0) (h.slc (d:=w.cell?) (by decide) (fun a v h=>by cases h) (fun a _=>rfl)) (by
  rw [print_map]
  exact print_short h4 hok) (by rw [List.length_map];omega)
 rw [print_map,List.length_map] at hj
 exact hj
set_option maxRecDepth 100000 in
set_option maxHeartbeats 4000000 in
theorem text_print {v:Value} {l:List Pt} (w:World) (hV:Vars w) (hv:Pts w.cell? v l) (hw:wrongE l 3=0):
  Calls Tryd.prog 10 #[v] w fun e w'=>e=.returned (.string ⟨(printE l).toArray⟩)∧Grow w w':=by
 obtain⟨hl0,hl4,hok,-⟩:=wrong_ok hw
 have HOK:=η hok
 have HV:=η hV
 have HPO:=η (Pts.ok hv)
 obtain⟨a,cap,rfl,h1,h2,-,hel⟩:=hv
 unfold maxLen at h2
 clear hok hw hV
 go_enter Tryd.func10,Tryd.ntmps10
 go_wp2
 go_loopw [3,5,6,9] (fun s3 _ _ i wr=>∃k:Nat,k≤l.length∧i=.int .i64 k∧Grow w wr∧OwnC Ty.str (fun _=>none) wr w.heap.size 9 s3 ((l.take k).map wstr)) (fun _ _ _ i _=>l.length - (intOf i).toNat)
 case atStart=>exact⟨0,by omega,rfl,Grow.refl _,OwnC.nil _ _ _ _ _⟩
 case round=>
  obtain⟨k,hk',rfl,hb,hown⟩:=hrel
  by_cases hlt:k<l.length
  ·obtain⟨b,o,rfl,c0,c1,c2,i0,i1,i2⟩:=Pts.at_ hel k hlt
   have HP:=η (HOK.o _ (List.getElem_mem hlt))
   have HI:=η i2
   have HAD:=η (word_adds l[k] i0 i1 i2)
   have HTK:Hid ((l.take (k+1)).map wstr=(l.take k).map wstr++ [wstr l[k]]):=η (by rw [List.take_succ_eq_append_getElem hlt,List.map_append];rfl)
   have HLK:Hid (((l.take k).map wstr).length≤k):=η (by simp;omega)
   have HOWN:=η hown
   have HB:=η hb
   obtain⟨av,cv,rfl⟩:=hown.form
   replace c0:=hb.sub _ _ c0
   replace c1:=hb.sub _ _ c1
   replace c2:=hb.sub _ _ c2
   clear hel hown hb i0 i1 i2
   generalize l[k]=p at*
   generalize (l.take k).map wstr=acc at*
   obtain⟨wx,rfl⟩:∃x:World,x=wr:=⟨_,rfl⟩
   have R9:=row_new wx (.cells #[.int .i64 0,.int .i64 0,.int .i64 0] 34)
   go_wp2_with (first|(refine wpList_store_row rfl (.tmp 5) (.tmp 12) rfl rfl rfl R9 info_pt0 rfl rfl ?_))
   clear R9 c0 c1 c2
   intro w5 r5 g5
   obtain⟨B5,hB5⟩:∃B,B=wx.heap.size:=⟨_,rfl⟩
   rw [←hB5] at r5
   rw [←hB5]
   have R5:Hid (w5.heap[B5]? =some (.cells #[.int .i64 p.h,.int .i64 p.k,.int .i64 p.n] 34 (0,0))):=η r5
   have G5:Hid (Grow wx w5):=η (((Grow.refl wx).alloc _).grown g5 (fun q hq=>by simp at hq;omega))
   have HB5:=η hB5
   obtain⟨d0,d1,d2⟩:=cells3 r5
   have z5:B5<w5.heap.size:=(γ r5)
   clear r5 g5 hB5
   obtain⟨sh,sk,sn,sg,s1,s2,s3,sw,e1,e2,e3,e4,e5,A4,A8,A10,A14⟩:=HAD.o
   have HSM1:Hid (∀W,Calls Tryd.prog 17 #[.int .i64 p.h] W fun e w'=>e=.returned (.string sh)∧w'=W):=η (by rw [e1];exact small_call (by have:=HP.o;omega) (by have:=HP.o;omega))
   have HSM2:Hid (∀W,Calls Tryd.prog 17 #[.int .i64 p.k] W fun e w'=>e=.returned (.string sk)∧w'=W):=η (by rw [e2];exact small_call (by have:=HP.o;omega) (by have:=HP.o;omega))
   have HIT:Hid (∀W,Grow w W→Calls Tryd.prog 17 #[.int .i64 p.n] W fun e w'=>e=.returned (.string sn)∧Grow W w'):=η (by rw [e3];exact itoa_call HI.o HV.o)
   have HSG:=η e4
   have HSW:=η e5
   clear e1 e2 e3 e4 e5 HAD
   have HS:Hid (∀W,Grow w5 W→W.cell? ⟨B5,0,none⟩=some (.int .i64 p.h)∧W.cell? ⟨B5,1,none⟩=some (.int .i64 p.k)∧W.cell? ⟨B5,2,none⟩=some (.int .i64 p.n)):=fun W hW=>cells3 (row_grow R5.o hW)
   by_cases hn:p.n<0
   ·have tn:decide (p.n<0)=true:=by simp;omega
    obtain rfl:sg=⟨#[]⟩:=by rw [HSG.o];unfold signE;rw [if_pos hn]
    clear hn
    go_upto_region 8 with fail
    clear d0 d1 d2 tn
    refine bSc (fun w'=>w'.cell? ⟨B5,0,none⟩=some (.int .i64 p.h)∧w'.cell? ⟨B5,1,none⟩=some (.int .i64 p.k)∧w'.cell? ⟨B5,2,none⟩=some (.int .i64 p.n)) [16,17] (by kernel_rfl) ?_
    intro wd GD zD
    have ZD:=η zD
    clear zD
    refine bLc [0,1,2,5,6,9,11,12] 20 (by kernel_rfl) (fun _ _ _ _ _ h=>h) (HS.o _ GD) ?_
    repeat (refine tNc (v:=?_) rfl (by rfl) ?_ ?_;rotate_left;(· (intro w' hSw;(try dsimp only at hSw);obtain⟨hs0,hs1,hs2⟩:=hSw;go_simp<;>with_reducible rfl));try simp only [Act.put,lzA,lzB,lzC,lzD,lzE,lzF])
    refine tEc ?_
    refine bOc 3 (by kernel_rfl) rfl ?_
    intro K HK
    try simp only [lzA,lzB,lzC]
    go_simp
    go_at_call 17
    refine(HSM1.o _).mono ?_
    rintro e wq ⟨rfl,rfl⟩
    refine HK.o _ _ ⟨.inr (HS.o _ GD),?_⟩
    clear HK K
    try simp only [Act.put,lzA,lzB,lzC,lzD,lzE,lzF]
    refine bLc [4] 20 (by kernel_rfl) (fun _ _ _ _ _ h=>h) (HS.o _ GD) ?_
    repeat (refine tNc (v:=?_) rfl (by rfl) ?_ ?_;rotate_left;(· (intro w' hSw;(try dsimp only at hSw);obtain⟨hs0,hs1,hs2⟩:=hSw;go_simp<;>with_reducible rfl));try simp only [Act.put,lzA,lzB,lzC,lzD,lzE,lzF])
    refine tEc ?_
    refine bOc 7 (by kernel_rfl) rfl ?_
    intro K HK
    try simp only [lzA,lzB,lzC]
    go_simp
    go_at_call 17
    refine(HSM2.o _).mono ?_
    rintro e wq ⟨rfl,rfl⟩
    refine HK.o _ _ ⟨.inr (HS.o _ GD),?_⟩
    clear HK K
    try simp only [Act.put,lzA,lzB,lzC,lzD,lzE,lzF]
    refine bLc [8,10] 20 (by kernel_rfl) (fun _ _ _ _ _ h=>h) (HS.o _ GD) ?_
    repeat (refine tNc (v:=?_) rfl (by rfl) ?_ ?_;rotate_left;(· (intro w' hSw;(try dsimp only at hSw);obtain⟨hs0,hs1,hs2⟩:=hSw;go_simp<;>with_reducible rfl));try simp only [Act.put,lzA,lzB,lzC,lzD,lzE,lzF])
    refine tEc ?_
    refine bOc 13 (by kernel_rfl) rfl ?_
    intro K HK
    try simp only [lzA,lzB,lzC]
    go_simp
    go_at_call 17
    refine(HIT.o _ (HB.o.trans (G5.o.trans GD))).mono ?_
    rintro e w8 ⟨rfl,g8⟩
    have G8:=η (Grow.trans GD g8)
    clear g8
    refine HK.o _ _ ⟨.inr (HS.o _ G8.o),?_⟩
    clear HK K
    try simp only [Act.put,lzA,lzB,lzC,lzD,lzE,lzF]
    refine bLc [14] 20 (by kernel_rfl) (fun _ _ _ _ _ h=>h) (HS.o _ G8.o) ?_
    repeat (refine tNc (v:=?_) rfl (by rfl) ?_ ?_;rotate_left;(· (intro w' hSw;(try dsimp only at hSw);obtain⟨hs0,hs1,hs2⟩:=hSw;go_simp<;>with_reducible rfl));try simp only [Act.put,lzA,lzB,lzC,lzD,lzE,lzF])
    refine tEc ?_
    refine bOc 15 (by kernel_rfl) rfl ?_
    intro K HK
    try simp only [lzA,lzB,lzC]
    go_simp
    refine HK.o _ _ ⟨.inr (HS.o _ (G8.o.alloc _)),?_⟩
    clear HK K
    try simp only [Act.put,lzA,lzB,lzC,lzD,lzE,lzF]
    refine bOc 16 (by kernel_rfl) rfl ?_
    intro K HK
    refine wanted_go rfl ?_
    try simp only [lzA,lzB,lzC]
    refine wp_appc (c:=fun _=>none) (base:=w.heap.size) (l:=acc) (m:=[sw]) (v:=.slice av acc.length cv) ei_str rfl one_Tstr (by decide) (.tmp 16) (.tmp 31) rfl rfl (HOWN.o.grow (G5.o.trans (G8.o.alloc _))) rfl (Src.of_new (T:=Ty.str) (x:=sw) (cs:=#[.string sw]) rfl _ _ (by first|rfl|simp)) (by have:=HLK.o;simp;omega) (by have:=(HB.o.trans (G5.o.trans G8.o)).size;simp;omega) ?_
    intro a9 c9 w9 ho9 hg9 hb9
    have G9:Hid (Grow w w9):=η (grow_by (w0:=w) (HB.o.trans (G5.o.trans (G8.o.alloc _))) hg9 (fun q hq=>(HOWN.o.lt q hq).1))
    have HO9:=η ho9
    clear ho9 hg9 hb9
    refine HK.o _ _ ⟨.inl (by decide),?_⟩
    clear HK K
    try simp only [Act.put,lzD,lzE,lzF]
    refine bOc 17 (by kernel_rfl) rfl ?_
    intro K HK
    try simp only [lzA,lzB,lzC]
    go_simp
    refine HK.o _ _ ⟨.inl (by decide),?_⟩
    clear HK K
    try simp only [Act.put,lzA,lzB,lzC,lzD,lzE,lzF]
    refine bDc (by kernel_rfl) ?_
    go_wp2
    go_roundw
    case rel=>exact⟨k+1,by omega,by go_num,G9.o,by rw [HTK.o,←HSW.o];exact HO9.o⟩
    case measure=>simp [intOf];omega
   ·have tn:decide (p.n<0)=false:=by simp;omega
    obtain rfl:sg=⟨#[43]⟩:=by rw [HSG.o];unfold signE;rw [if_neg hn]
    clear hn
    go_upto_region 8 with fail
    clear d0 d1 d2 tn
    refine bSc (fun w'=>w'.cell? ⟨B5,0,none⟩=some (.int .i64 p.h)∧w'.cell? ⟨B5,1,none⟩=some (.int .i64 p.k)∧w'.cell? ⟨B5,2,none⟩=some (.int .i64 p.n)) [16,17] (by kernel_rfl) ?_
    intro wd GD zD
    have ZD:=η zD
    clear zD
    refine bLc [0,1,2,5,6,9,11,12] 20 (by kernel_rfl) (fun _ _ _ _ _ h=>h) (HS.o _ GD) ?_
    repeat (refine tNc (v:=?_) rfl (by rfl) ?_ ?_;rotate_left;(· (intro w' hSw;(try dsimp only at hSw);obtain⟨hs0,hs1,hs2⟩:=hSw;go_simp<;>with_reducible rfl));try simp only [Act.put,lzA,lzB,lzC,lzD,lzE,lzF])
    refine tEc ?_
    refine bOc 3 (by kernel_rfl) rfl ?_
    intro K HK
    try simp only [lzA,lzB,lzC]
    go_simp
    go_at_call 17
    refine(HSM1.o _).mono ?_
    rintro e wq ⟨rfl,rfl⟩
    refine HK.o _ _ ⟨.inr (HS.o _ GD),?_⟩
    clear HK K
    try simp only [Act.put,lzA,lzB,lzC,lzD,lzE,lzF]
    refine bLc [4] 20 (by kernel_rfl) (fun _ _ _ _ _ h=>h) (HS.o _ GD) ?_
    repeat (refine tNc (v:=?_) rfl (by rfl) ?_ ?_;rotate_left;(· (intro w' hSw;(try dsimp only at hSw);obtain⟨hs0,hs1,hs2⟩:=hSw;go_simp<;>with_reducible rfl));try simp only [Act.put,lzA,lzB,lzC,lzD,lzE,lzF])
    refine tEc ?_
    refine bOc 7 (by kernel_rfl) rfl ?_
    intro K HK
    try simp only [lzA,lzB,lzC]
    go_simp
    go_at_call 17
    refine(HSM2.o _).mono ?_
    rintro e wq ⟨rfl,rfl⟩
    refine HK.o _ _ ⟨.inr (HS.o _ GD),?_⟩
    clear HK K
    try simp only [Act.put,lzA,lzB,lzC,lzD,lzE,lzF]
    refine bLc [8,10] 20 (by kernel_rfl) (fun _ _ _ _ _ h=>h) (HS.o _ GD) ?_
    repeat (refine tNc (v:=?_) rfl (by rfl) ?_ ?_;rotate_left;(· (intro w' hSw;(try dsimp only at hSw);obtain⟨hs0,hs1,hs2⟩:=hSw;go_simp<;>with_reducible rfl));try simp only [Act.put,lzA,lzB,lzC,lzD,lzE,lzF])
    refine tEc ?_
    refine bOc 13 (by kernel_rfl) rfl ?_
    intro K HK
    try simp only [lzA,lzB,lzC]
    go_simp
    go_at_call 17
    refine(HIT.o _ (HB.o.trans (G5.o.trans GD))).mono ?_
    rintro e w8 ⟨rfl,g8⟩
    have G8:=η (Grow.trans GD g8)
    clear g8
    refine HK.o _ _ ⟨.inr (HS.o _ G8.o),?_⟩
    clear HK K
    try simp only [Act.put,lzA,lzB,lzC,lzD,lzE,lzF]
    refine bLc [14] 20 (by kernel_rfl) (fun _ _ _ _ _ h=>h) (HS.o _ G8.o) ?_
    repeat (refine tNc (v:=?_) rfl (by rfl) ?_ ?_;rotate_left;(· (intro w' hSw;(try dsimp only at hSw);obtain⟨hs0,hs1,hs2⟩:=hSw;go_simp<;>with_reducible rfl));try simp only [Act.put,lzA,lzB,lzC,lzD,lzE,lzF])
    refine tEc ?_
    refine bOc 15 (by kernel_rfl) rfl ?_
    intro K HK
    try simp only [lzA,lzB,lzC]
    go_simp
    refine HK.o _ _ ⟨.inr (HS.o _ (G8.o.alloc _)),?_⟩
    clear HK K
    try simp only [Act.put,lzA,lzB,lzC,lzD,lzE,lzF]
    refine bOc 16 (by kernel_rfl) rfl ?_
    intro K HK
    refine wanted_go rfl ?_
    try simp only [lzA,lzB,lzC]
    refine wp_appc (c:=fun _=>none) (base:=w.heap.size) (l:=acc) (m:=[sw]) (v:=.slice av acc.length cv) ei_str rfl one_Tstr (by decide) (.tmp 16) (.tmp 31) rfl rfl (HOWN.o.grow (G5.o.trans (G8.o.alloc _))) rfl (Src.of_new (T:=Ty.str) (x:=sw) (cs:=#[.string sw]) rfl _ _ (by first|rfl|simp)) (by have:=HLK.o;simp;omega) (by have:=(HB.o.trans (G5.o.trans G8.o)).size;simp;omega) ?_
    intro a9 c9 w9 ho9 hg9 hb9
    have G9:Hid (Grow w w9):=η (grow_by (w0:=w) (HB.o.trans (G5.o.trans (G8.o.alloc _))) hg9 (fun q hq=>(HOWN.o.lt q hq).1))
    have HO9:=η ho9
    clear ho9 hg9 hb9
    refine HK.o _ _ ⟨.inl (by decide),?_⟩
    clear HK K
    try simp only [Act.put,lzD,lzE,lzF]
    refine bOc 17 (by kernel_rfl) rfl ?_
    intro K HK
    try simp only [lzA,lzB,lzC]
    go_simp
    refine HK.o _ _ ⟨.inl (by decide),?_⟩
    clear HK K
    try simp only [Act.put,lzA,lzB,lzC,lzD,lzE,lzF]
    refine bDc (by kernel_rfl) ?_
    go_wp2
    go_roundw
    case rel=>exact⟨k+1,by omega,by go_num,G9.o,by rw [HTK.o,←HSW.o];exact HO9.o⟩
    case measure=>simp [intOf];omega
  ·obtain⟨av,cv,rfl⟩:=hown.form
   have hkk:l.take k=l:=List.take_of_length_le (by omega)
   rw [hkk] at hown
   have HJC:=η (print_join hl0 hl4 HPO.o hown)
   rw [hkk]
   clear hown hel hkk
   go_wp2_with fail
   refine HJC.o.mono ?_
   rintro e w1 ⟨rfl,g1⟩
   go_wp2
   go_ret
   exact⟨rfl,hb.trans g1⟩
def RP (l:List UInt8) (f i:Nat) (acc:List Pt):Prop:=
 (i≤l.length∧f≤i∧(∀j,f≤j→j<i→l[j]? ≠some 32)∧wordsE (spl l)=(wordsE (spl (l.drop f))).map (acc++ ·))∨(i=l.length+1∧f=i∧wordsE (spl l)=some acc)
theorem RP.start (l:List UInt8):RP l 0 0 []:=.inl ⟨Nat.zero_le _,Nat.le_refl _,fun j h1 h2=>by omega,by
 rw [List.drop_zero]
 cases wordsE (spl l)<;>rfl⟩
theorem RP.on {l:List UInt8} {f i:Nat} {acc:List Pt} (h:RP l f i acc) (hi:i<l.length) (hc:l[i]≠32):RP l f (i+1) acc:=by
 rcases h with⟨h1,h2,h3,h4⟩|⟨h1,-,-⟩
 ·refine .inl ⟨by omega,by omega,fun j a b=>?_,h4⟩
  by_cases e:j=i
  ·subst e
   rw [List.getElem?_eq_getElem hi]
   intro e2
   exact hc (Option.some.inj e2)
  ·exact h3 j a (by omega)
 ·omega
theorem piece_no {l:List UInt8} {f i:Nat} (h:∀j,f≤j→j<i→l[j]? ≠some 32):(32:UInt8)∉(l.drop f).take (i - f):=fun hm=>by
 obtain⟨j,hj,e⟩:=List.mem_iff_getElem.1 hm
 rw [List.length_take,List.length_drop] at hj
 rw [List.getElem_take,List.getElem_drop] at e
 exact h (f+j) (by omega) (by omega) (by rw [List.getElem?_eq_getElem (by omega),e])
theorem RP.word {l:List UInt8} {f i:Nat} {acc:List Pt} (h:RP l f i acc) (hi:i≤l.length) (hc:∀h:i<l.length,l[i]=32):
  (wordE ((l.drop f).take (i - f))=none→wordsE (spl l)=none)∧∀p,wordE ((l.drop f).take (i - f))=some p→RP l (i+1) (i+1) (acc++ [p]):=by
 rcases h with⟨h1,h2,h3,h4⟩|⟨h1,-,-⟩
 ·have hno:=piece_no h3
  by_cases e:i<l.length
  ·have hs:l.drop f=(l.drop f).take (i - f)++32::l.drop (i+1):=by
    have e1:(l.drop f).drop (i - f)=32::l.drop (i+1):=by
     rw [List.drop_drop,show f+(i - f)=i by omega,List.drop_eq_getElem_cons e,hc e]
    rw [←e1,List.take_append_drop]
   have hsp:spl (l.drop f)=(l.drop f).take (i - f)::spl (l.drop (i+1)):=by
    rw [hs,List.take_append_of_le_length (by rw [List.length_take,List.length_drop];omega),List.take_take,Nat.min_self]
    exact spl_next _ _ hno
   refine⟨fun hn=>by rw [h4,hsp,wordsE,hn];rfl,fun p hp=>.inl ⟨by omega,by omega,fun j a b=>by omega,?_⟩⟩
   rw [h4,hsp,wordsE,hp]
   dsimp only
   cases wordsE (spl (l.drop (i+1))) with
   |none=>rfl
   |some q=>simp
  ·have he:(l.drop f).take (i - f)=l.drop f:=List.take_of_length_le (by rw [List.length_drop];omega)
   rw [he] at hno ⊢
   rw [spl_word _ hno] at h4
   refine⟨fun hn=>by rw [h4,wordsE,hn];rfl,fun p hp=>.inr ⟨by omega,rfl,?_⟩⟩
   rw [h4,wordsE,hp]
   rfl
 ·omega
theorem dgt_iff {c:UInt8}:dgt c=true↔48≤c.toNat∧c.toNat≤57:=by unfold dgt;simp
theorem byte_ne {c d:UInt8} (h:¬c=d):((c.toNat:Int) !=(d.toNat:Int))=true:=by
 rw [bne_iff_ne]
 intro e
 exact h (UInt8.toNat_inj.1 (by omega))
theorem wrap_digit {c:UInt8} (h:48≤c.toNat):IntKind.i64.wrap (IntKind.u8.wrap ((c.toNat:Int) - 48))=(c.toNat:Int) - 48:=by
 have h2:=c.toNat_lt
 have e:IntKind.u8.wrap ((c.toNat:Int) - 48)=(c.toNat:Int) - 48:=by
  simp [IntKind.wrap,IntKind.signed,IntKind.bits]
  omega
 rw [e]
 simp [IntKind.wrap,IntKind.signed,IntKind.bits]
 omega
theorem wordE_short {l:List UInt8} (h:l.length<5):wordE l=none:=by
 match l with
 | []=>rfl
 | [_]=>rfl
 | [_,_]=>rfl
 | [_,_,_]=>rfl
 | [_,_,_,_]=>rw [wordE,if_neg (fun e=>e.1 rfl)]
 |_::_::_::_::_::_=>simp at h;omega
theorem wordE_sg {a b s:UInt8} {r y:List UInt8} (hr:r≠ []) (ga:dgt a=true) (gb:dgt b=true) (hs:s=43∧y=r∨s=45∧y=45::r):
  ((∀n,Lib.atoiAll y≠ .ok n)→wordE (a::46::b::s::r)=none)∧
  ∀n,Lib.atoiAll y=.ok n→wordE (a::46::b::s::r)=if Lib.itoa n=y∧(s=43∧0≤n∨s=45∧n<0) then some ⟨(a.toNat:Int) - 48,(b.toNat:Int) - 48,n⟩ else none:=by
 have hs3:s=43∨s=45:=hs.imp (·.1) (·.1)
 have hy:(if s=43 then r else s::r)=y:=by
  rcases hs with⟨rfl,rfl⟩|⟨rfl,rfl⟩
  ·rw [if_pos rfl]
  ·rw [if_neg (by decide)]
 rw [wordE,if_pos ⟨hr,ga,rfl,gb,hs3⟩,hy]
 refine⟨fun h=>?_,fun n h=>?_⟩
 ·rcases e:Lib.atoiAll y with n|_|_
  ·exact absurd e (h n)
  ·rfl
  ·rfl
 ·rw [h]
  dsimp only
  by_cases q:Lib.itoa n=y
  ·rcases hs3 with rfl|rfl
   ·by_cases e:n<0
    ·rw [if_neg (fun z=>z.2.1 ⟨rfl,e⟩),if_neg (fun z=>z.2.elim (fun z=>by omega) (fun z=>absurd z.1 (by decide)))]
    ·rw [if_pos ⟨q,fun z=>e z.2,fun z=>absurd z.1 (by decide)⟩,if_pos ⟨q,.inl ⟨rfl,by omega⟩⟩]
   ·by_cases e:0≤n
    ·rw [if_neg (fun z=>z.2.2 ⟨rfl,e⟩),if_neg (fun z=>z.2.elim (fun z=>absurd z.1 (by decide)) (fun z=>by omega))]
    ·rw [if_pos ⟨q,fun z=>absurd z.1 (by decide),fun z=>e z.2⟩,if_pos ⟨q,.inr ⟨rfl,by omega⟩⟩]
  ·rw [if_neg (fun z=>q z.1),if_neg (fun z=>q z.1)]
theorem bytes4 (x:ByteArray) (h:5≤x.size):∃r,x.data.toList=x[0]::x[1]::x[2]::x[3]::r∧r≠ []∧(x.extract 4 x.size).data.toList=r∧(x.extract 3 x.size).data.toList=x[3]::r:=by
 rw [Lib.extract_to_end,Lib.extract_to_end]
 obtain⟨⟨l⟩⟩:=x
 match l with
 |a::b::c::d::e::r=>exact⟨e::r,rfl,by simp,rfl,rfl⟩
 | []=>exact absurd h (by decide)
 | [_]=>exact absurd h (by show¬5≤1;omega)
 | [_,_]=>exact absurd h (by show¬5≤2;omega)
 | [_,_,_]=>exact absurd h (by show¬5≤3;omega)
 | [_,_,_,_]=>exact absurd h (by show¬5≤4;omega)
theorem parse_none {l:List UInt8} (h:wordsE (spl l)=none):parseE l=([],2):=by unfold parseE;rw [h]
set_option maxRecDepth 100000 in
set_option maxHeartbeats 4000000 in
theorem ref_parse (s:ByteArray) (w:World) (hV:Vars w) (hs:s.size<4294967281):
  Calls Tryd.prog 7 #[.string s] w fun e w'=>∃v,e=.returned (.tuple #[v,.int .i64 (parseE s.data.toList).2])∧Pts w'.cell? v (parseE s.data.toList).1∧Grow w w':=by
 have HV:=η hV
 have HST:=η (RP.start s.data.toList)
 clear hV
 go_enter Tryd.func7,Tryd.ntmps7
 go_wp2
 go_loopw [4,5,6,7,8,9,10,15] (fun s4 s5 _ _ _ _ _ i wr=>∃(k f:Nat) (acc:List Pt),k≤s.size+1∧f≤k∧s5=.int .i64 f∧i=.int .i64 k∧Grow w wr∧OwnC Ty.pt (fun _=>none) wr w.heap.size 34 s4 acc∧acc.length≤k∧RP s.data.toList f k acc) (fun _ _ _ _ _ _ _ i _=>s.size+1 - (intOf i).toNat)
 case atStart=>exact⟨0,0,[],by omega,by omega,rfl,rfl,Grow.refl _,OwnC.nil _ _ _ _ _,by simp,HST.o⟩
 case round=>
  obtain⟨k,f,acc,hk',hfk,rfl,rfl,hb,hown,hal,hrp⟩:=hrel
  have HRP:=η hrp
  have HOWN:=η hown
  have HB:=η hb
  have HSZ:=η (Lib.size_eq s)
  obtain⟨av,cv,rfl⟩:=hown.form
  clear hrp hown hb
  by_cases hlt:k<s.size+1
  ·by_cases hgo:∃h:k<s.size,s[k]≠32
   ·obtain⟨hk,hc⟩:=hgo
    have HN:Hid (RP s.data.toList f (k+1) acc):=η (HRP.o.on (by rw [←HSZ.o];exact hk) (by
     intro e;apply hc
     have:=Lib.data_getElem? s k hk
     rw [List.getElem?_eq_getElem (by rw [←HSZ.o];exact hk)] at this
     rw [←Option.some.inj this];exact e))
    have t1:((s[k].toNat:Int) !=32)=true:=by
     rw [bne_iff_ne]
     intro e;apply hc
     apply UInt8.toNat_inj.1
     show s[k].toNat=32
     omega
    clear hc
    go_wp2
    go_roundw
    case rel=>exact⟨k+1,f,acc,by omega,by omega,rfl,by go_num,HB.o,HOWN.o,by omega,HN.o⟩
    case measure=>simp [intOf];omega
   ·obtain⟨x,hx⟩:∃x,x=s.extract f k:=⟨_,rfl⟩
    have hxd:x.data.toList=(s.data.toList.drop f).take (k - f):=by rw [hx,Lib.extract_data]
    have hw:=HRP.o.word (by rw [←HSZ.o];omega) (fun h=>by
     have h2:k<s.size:=by rw [HSZ.o];exact h
     have h3:=Lib.data_getElem? s k h2
     rw [List.getElem?_eq_getElem h] at h3
     rw [Option.some.inj h3]
     by_cases e:s[k]=32
     ·exact e
     ·exact absurd ⟨h2,e⟩ hgo)
    rw [←hxd] at hw
    have hxs:x.size≤s.size:=by
     rw [Lib.size_eq,Lib.size_eq,hxd,List.length_take,List.length_drop];omega
    have hxb:x.size<4294967281:=by omega
    have HNN:Hid (wordE x.data.toList=none→parseE s.data.toList=([],2)):=fun h=>parse_none (hw.1 h)
    have HOK:=η hw.2
    have HX:=η hx
    clear hw hxd hxs hx HRP
    go_upto_region 6 with fail
    go_cut [27] from 18 to 27 (fun s27 wc=>s27=.bool false∧wc=wr)
    case first=>
     by_cases e:k<s.size
     ·have t1:((s[k].toNat:Int) !=32)=false:=by
       rw [bne_eq_false_iff_eq]
       by_cases e2:s[k]=32
       ·rw [e2];rfl
       ·exact absurd ⟨e,e2⟩ hgo
      clear hgo
      go_wp2
      go_meet
      case rel=>exact⟨rfl,rfl⟩
     ·clear hgo
      go_wp2
      go_meet
      case rel=>exact⟨rfl,rfl⟩
    case rest=>
     obtain⟨rfl,rfl⟩:=hcut
     clear hgo
     go_upto_region 9 with fail
     rw [←HX.o]
     clear HX
     by_cases h5:x.size<5
     ·have HE:=η (HNN.o (wordE_short (by rw [←Lib.size_eq];exact h5)))
      have t5:decide ((x.size:Int)<5)=true:=by simp;omega
      go_wp2
      go_ret2
      rw [HE.o]
      exact⟨_,rfl,Sl.nil _ _,HB.o⟩
     have t5:decide ((x.size:Int)<5)=false:=by simp;omega
     have g0:0<x.size:=by omega
     have g1:1<x.size:=by omega
     have g2:2<x.size:=by omega
     have g3:3<x.size:=by omega
     have g4:4<x.size:=by omega
     obtain⟨r,hb,hr,he4,he3⟩:=bytes4 x (by omega)
     have HBY:=η hb
     have HRE:=η (And.intro hr (And.intro he4 he3))
     clear hb hr he4 he3
     have HBAD:Hid (¬(dgt x[0]=true∧x[1]=46∧dgt x[2]=true∧(x[3]=43∨x[3]=45))→parseE s.data.toList=([],2)):=fun h=>HNN.o (by rw [HBY.o,wordE,if_neg (fun e=>h e.2)])
     by_cases c1:x[0].toNat<48
     ·have HE:=η (HBAD.o (fun e=>by have:=dgt_iff.1 e.1;omega))
      have a1:decide ((x[0].toNat:Int)<48)=true:=by simp;omega
      go_wp2
      go_ret2
      rw [HE.o]
      exact⟨_,rfl,Sl.nil _ _,HB.o⟩
     have a1:decide ((x[0].toNat:Int)<48)=false:=by simp;omega
     by_cases c2:57<x[0].toNat
     ·have HE:=η (HBAD.o (fun e=>by have:=dgt_iff.1 e.1;omega))
      have a2:decide ((57:Int)<(x[0].toNat:Int))=true:=by simp;omega
      go_wp2
      go_ret2
      rw [HE.o]
      exact⟨_,rfl,Sl.nil _ _,HB.o⟩
     have a2:decide ((57:Int)<(x[0].toNat:Int))=false:=by simp;omega
     by_cases c3:x[1]=46
     case neg=>
      have HE:=η (HBAD.o (fun e=>c3 e.2.1))
      have a3:((x[1].toNat:Int) !=46)=true:=byte_ne c3
      go_wp2
      go_ret2
      rw [HE.o]
      exact⟨_,rfl,Sl.nil _ _,HB.o⟩
     have a3:((x[1].toNat:Int) !=46)=false:=by rw [c3];rfl
     by_cases c4:x[2].toNat<48
     ·have HE:=η (HBAD.o (fun e=>by have:=dgt_iff.1 e.2.2.1;omega))
      have a4:decide ((x[2].toNat:Int)<48)=true:=by simp;omega
      go_wp2
      go_ret2
      rw [HE.o]
      exact⟨_,rfl,Sl.nil _ _,HB.o⟩
     have a4:decide ((x[2].toNat:Int)<48)=false:=by simp;omega
     by_cases c5:57<x[2].toNat
     ·have HE:=η (HBAD.o (fun e=>by have:=dgt_iff.1 e.2.2.1;omega))
      have a5:decide ((57:Int)<(x[2].toNat:Int))=true:=by simp;omega
      go_wp2
      go_ret2
      rw [HE.o]
      exact⟨_,rfl,Sl.nil _ _,HB.o⟩
     have a5:decide ((57:Int)<(x[2].toNat:Int))=false:=by simp;omega
     by_cases c6:x[3]=43∨x[3]=45
     case neg=>
      have HE:=η (HBAD.o (fun e=>c6 e.2.2.2))
      have a6:((x[3].toNat:Int) !=43)=true:=byte_ne (fun e=>c6 (.inl e))
      have a7:((x[3].toNat:Int) !=45)=true:=byte_ne (fun e=>c6 (.inr e))
      go_wp2
      go_ret2
      rw [HE.o]
      exact⟨_,rfl,Sl.nil _ _,HB.o⟩
     have HGD:Hid (dgt x[0]=true∧x[1]=46∧dgt x[2]=true):=η ⟨dgt_iff.2 (by omega),c3,dgt_iff.2 (by omega)⟩
     have w0:(48:Int)≤(x[0].toNat:Int):=by omega
     have w2:(48:Int)≤(x[2].toNat:Int):=by omega
     have HU0:=η (wrap_digit (c:=x[0]) (by omega))
     have HU2:=η (wrap_digit (c:=x[2]) (by omega))
     clear HBAD c1 c2 c3 c4 c5
     rcases c6 with c6|c6
     ·have a6:((x[3].toNat:Int) !=43)=false:=by rw [c6];rfl
      have b6:((x[3].toNat:Int)==43)=true:=by rw [c6];rfl
      have b7:((x[3].toNat:Int)==45)=false:=by rw [c6];rfl
      have hsg:=wordE_sg (s:=x[3]) (y:=(x.extract 4 x.size).data.toList) HRE.o.1 HGD.o.1 HGD.o.2.2 (.inl ⟨c6,HRE.o.2.1⟩)
      rw [←HGD.o.2.1,←HBY.o] at hsg
      have hys:(x.extract 4 x.size).size<4294967281:=by rw [Lib.size_eq,Lib.extract_to_end,List.length_drop,←Lib.size_eq];omega
      have HPI:Hid (I64 ((x[0].toNat:Int) - 48)∧I64 ((x[2].toNat:Int) - 48)):=η (by have:=x[0].toNat_lt;have:=x[2].toNat_lt;exact⟨i64_of (by omega) (by omega),i64_of (by omega) (by omega)⟩)
      have C6:=η c6
      clear c6
      by_cases hat:∃n,Lib.atoiAll (x.extract 4 x.size).data.toList=.ok n
      ·obtain⟨n,hn⟩:=hat
       have hI:=Lib.atoiAll_bounds hn
       have HIN:=η (i64_of hI.1 hI.2)
       have HIT:=η (itoa_call (i64_of hI.1 hI.2) HV.o)
       have HAT:=η (atoi_ok hys hn)
       have HSG:=η (hsg.2 n hn)
       clear hn hI hsg hys
       go_wp2_with fail
       refine(HAT.o _).mono ?_
       rintro e w6 ⟨rfl,g6⟩
       have G6:=η g6
       clear g6
       go_wp2_with fail
       refine(HIT.o _ (HB.o.trans G6.o)).mono ?_
       rintro e w7 ⟨rfl,g7⟩
       have G7:=η (G6.o.trans g7)
       clear g7 HAT HIT G6
       by_cases q1:Lib.itoa n=(x.extract 4 x.size).data.toList
       ·have tS:Lib.itoa n=(x.extract 4 x.size).toList:=by rw [Lib.toList_data];exact q1
        by_cases q2:n<0
        ·have HE:=η (HNN.o (by rw [HSG.o,if_neg (fun z=>z.2.elim (fun z=>by omega) (fun z=>absurd (C6.o.symm.trans z.1) (by decide)))]))
         have tq:decide (n<0)=true:=by simpa using q2
         clear q1 q2
         go_wp2
         go_ret2
         rw [HE.o]
         exact⟨_,rfl,Sl.nil _ _,HB.o.trans G7.o⟩
        ·have HOW:Hid (RP s.data.toList (k+1) (k+1) (acc++ [⟨(x[0].toNat:Int) - 48,(x[2].toNat:Int) - 48,n⟩])):=η (HOK.o _ (by rw [HSG.o,if_pos ⟨q1,.inl ⟨C6.o,by omega⟩⟩]))
         have tq:decide (n<0)=false:=by simpa using q2
         clear q1 q2 HSG HNN HOK
         go_upto_region 17 with fail
         clear tS tq a1 a2 a3 a4 a5 a6 b6 b7
         refine bSc (fun w'=>True) [12,13] (by kernel_rfl) ?_
         intro wd GD zD
         have ZD:=η zD
         clear zD
         refine bLc [0,1,2,3,4,5,6,7,8,9,10] 16 (by kernel_rfl) (fun _ _ _ _ _ h=>h) (trivial) ?_
         repeat (refine tNc (v:=?_) rfl (by rfl) ?_ ?_;rotate_left;(· (intro w' hSw;(try dsimp only at hSw);go_simp<;>with_reducible rfl));try simp only [Act.put,lzA,lzB,lzC,lzD,lzE,lzF])
         refine tEc ?_
         refine bOc 11 (by kernel_rfl) rfl ?_
         intro K HK
         try simp only [lzA,lzB,lzC]
         go_simp
         rw [HU0.o,HU2.o]
         refine HK.o _ _ ⟨.inr (trivial),?_⟩
         clear HK K
         try simp only [Act.put,lzA,lzB,lzC,lzD,lzE,lzF]
         refine bOc 12 (by kernel_rfl) rfl ?_
         intro K HK
         refine wanted_go rfl ?_
         try simp only [lzA,lzB,lzC]
         refine wp_appc (c:=fun _=>none) (base:=w.heap.size) (l:=acc) (m:=[⟨(x[0].toNat:Int) - 48,(x[2].toNat:Int) - 48,n⟩]) (v:=.slice av acc.length cv) ei_pt rfl one_Tpt (by decide) (.tmp 110) (.tmp 121) rfl rfl (HOWN.o.grow ((G7.o.trans GD).alloc _)) rfl (Src.of_new (T:=Ty.pt) (x:=⟨(x[0].toNat:Int) - 48,(x[2].toNat:Int) - 48,n⟩) (cs:=#[.int .i64 ((x[0].toNat:Int) - 48),.int .i64 ((x[2].toNat:Int) - 48),.int .i64 n]) ⟨rfl,HPI.o.1,HPI.o.2,HIN.o⟩ _ _ (by first|rfl|simp)) (by simp;omega) (by have:=(HB.o.trans (G7.o.trans GD)).size;simp;omega) ?_
         intro a9 c9 w9 ho9 hg9 hb9
         have G9:Hid (Grow w w9):=η (grow_by (w0:=w) (HB.o.trans ((G7.o.trans GD).alloc _)) hg9 (fun q hq=>(HOWN.o.lt q hq).1))
         have HO9:=η ho9
         clear ho9 hg9 hb9
         refine HK.o _ _ ⟨.inl (by decide),?_⟩
         clear HK K
         try simp only [Act.put,lzD,lzE,lzF]
         refine bOc 13 (by kernel_rfl) rfl ?_
         intro K HK
         try simp only [lzA,lzB,lzC]
         go_simp
         refine HK.o _ _ ⟨.inl (by decide),?_⟩
         clear HK K
         try simp only [Act.put,lzA,lzB,lzC,lzD,lzE,lzF]
         refine bDc (by kernel_rfl) ?_
         go_wp2
         go_roundw
         case rel=>exact⟨k+1,k+1,_,by omega,Nat.le_refl _,by go_num,by go_num,G9.o,HO9.o,by simp;omega,HOW.o⟩
         case measure=>simp [intOf];omega
       ·have tS:¬Lib.itoa n=(x.extract 4 x.size).toList:=by rw [Lib.toList_data];exact q1
        have HE:=η (HNN.o (by rw [HSG.o,if_neg (fun z=>q1 z.1)]))
        clear q1
        go_wp2
        go_ret2
        rw [HE.o]
        exact⟨_,rfl,Sl.nil _ _,HB.o.trans G7.o⟩
      ·have HE:=η (HNN.o (hsg.1 (fun n e=>hat ⟨n,e⟩)))
       have HAT:=η (atoi_no hys (fun n e=>hat ⟨n,e⟩) HV.o)
       clear hat hsg hys
       go_wp2_with fail
       refine(HAT.o _ HB.o).mono ?_
       rintro e w6 ⟨n,tE,N,rfl,g6⟩
       go_wp2
       go_ret2
       rw [HE.o]
       exact⟨_,rfl,Sl.nil _ _,HB.o.trans g6⟩
     ·have a6:((x[3].toNat:Int) !=43)=true:=by rw [c6];rfl
      have a7:((x[3].toNat:Int) !=45)=false:=by rw [c6];rfl
      have b6:((x[3].toNat:Int)==43)=false:=by rw [c6];rfl
      have b7:((x[3].toNat:Int)==45)=true:=by rw [c6];rfl
      have hsg:=wordE_sg (s:=x[3]) (y:=(x.extract 3 x.size).data.toList) HRE.o.1 HGD.o.1 HGD.o.2.2 (.inr ⟨c6,by rw [HRE.o.2.2,c6]⟩)
      rw [←HGD.o.2.1,←HBY.o] at hsg
      have hys:(x.extract 3 x.size).size<4294967281:=by rw [Lib.size_eq,Lib.extract_to_end,List.length_drop,←Lib.size_eq];omega
      have HPI:Hid (I64 ((x[0].toNat:Int) - 48)∧I64 ((x[2].toNat:Int) - 48)):=η (by have:=x[0].toNat_lt;have:=x[2].toNat_lt;exact⟨i64_of (by omega) (by omega),i64_of (by omega) (by omega)⟩)
      have C6:=η c6
      clear c6
      by_cases hat:∃n,Lib.atoiAll (x.extract 3 x.size).data.toList=.ok n
      ·obtain⟨n,hn⟩:=hat
       have hI:=Lib.atoiAll_bounds hn
       have HIN:=η (i64_of hI.1 hI.2)
       have HIT:=η (itoa_call (i64_of hI.1 hI.2) HV.o)
       have HAT:=η (atoi_ok hys hn)
       have HSG:=η (hsg.2 n hn)
       clear hn hI hsg hys
       go_wp2_with fail
       refine(HAT.o _).mono ?_
       rintro e w6 ⟨rfl,g6⟩
       have G6:=η g6
       clear g6
       go_wp2_with fail
       refine(HIT.o _ (HB.o.trans G6.o)).mono ?_
       rintro e w7 ⟨rfl,g7⟩
       have G7:=η (G6.o.trans g7)
       clear g7 HAT HIT G6
       by_cases q1:Lib.itoa n=(x.extract 3 x.size).data.toList
       ·have tS:Lib.itoa n=(x.extract 3 x.size).toList:=by rw [Lib.toList_data];exact q1
        by_cases q2:0≤n
        ·have HE:=η (HNN.o (by rw [HSG.o,if_neg (fun z=>z.2.elim (fun z=>absurd (C6.o.symm.trans z.1) (by decide)) (fun z=>by omega))]))
         have tq:decide (0≤n)=true:=by simpa using q2
         clear q1 q2
         go_wp2
         go_ret2
         rw [HE.o]
         exact⟨_,rfl,Sl.nil _ _,HB.o.trans G7.o⟩
        ·have HOW:Hid (RP s.data.toList (k+1) (k+1) (acc++ [⟨(x[0].toNat:Int) - 48,(x[2].toNat:Int) - 48,n⟩])):=η (HOK.o _ (by rw [HSG.o,if_pos ⟨q1,.inr ⟨C6.o,by omega⟩⟩]))
         have tq:decide (0≤n)=false:=by simpa using q2
         clear q1 q2 HSG HNN HOK
         go_upto_region 17 with fail
         clear tS tq a1 a2 a3 a4 a5 a6 b6 b7 a7
         refine bSc (fun w'=>True) [12,13] (by kernel_rfl) ?_
         intro wd GD zD
         have ZD:=η zD
         clear zD
         refine bLc [0,1,2,3,4,5,6,7,8,9,10] 16 (by kernel_rfl) (fun _ _ _ _ _ h=>h) (trivial) ?_
         repeat (refine tNc (v:=?_) rfl (by rfl) ?_ ?_;rotate_left;(· (intro w' hSw;(try dsimp only at hSw);go_simp<;>with_reducible rfl));try simp only [Act.put,lzA,lzB,lzC,lzD,lzE,lzF])
         refine tEc ?_
         refine bOc 11 (by kernel_rfl) rfl ?_
         intro K HK
         try simp only [lzA,lzB,lzC]
         go_simp
         rw [HU0.o,HU2.o]
         refine HK.o _ _ ⟨.inr (trivial),?_⟩
         clear HK K
         try simp only [Act.put,lzA,lzB,lzC,lzD,lzE,lzF]
         refine bOc 12 (by kernel_rfl) rfl ?_
         intro K HK
         refine wanted_go rfl ?_
         try simp only [lzA,lzB,lzC]
         refine wp_appc (c:=fun _=>none) (base:=w.heap.size) (l:=acc) (m:=[⟨(x[0].toNat:Int) - 48,(x[2].toNat:Int) - 48,n⟩]) (v:=.slice av acc.length cv) ei_pt rfl one_Tpt (by decide) (.tmp 110) (.tmp 121) rfl rfl (HOWN.o.grow ((G7.o.trans GD).alloc _)) rfl (Src.of_new (T:=Ty.pt) (x:=⟨(x[0].toNat:Int) - 48,(x[2].toNat:Int) - 48,n⟩) (cs:=#[.int .i64 ((x[0].toNat:Int) - 48),.int .i64 ((x[2].toNat:Int) - 48),.int .i64 n]) ⟨rfl,HPI.o.1,HPI.o.2,HIN.o⟩ _ _ (by first|rfl|simp)) (by simp;omega) (by have:=(HB.o.trans (G7.o.trans GD)).size;simp;omega) ?_
         intro a9 c9 w9 ho9 hg9 hb9
         have G9:Hid (Grow w w9):=η (grow_by (w0:=w) (HB.o.trans ((G7.o.trans GD).alloc _)) hg9 (fun q hq=>(HOWN.o.lt q hq).1))
         have HO9:=η ho9
         clear ho9 hg9 hb9
         refine HK.o _ _ ⟨.inl (by decide),?_⟩
         clear HK K
         try simp only [Act.put,lzD,lzE,lzF]
         refine bOc 13 (by kernel_rfl) rfl ?_
         intro K HK
         try simp only [lzA,lzB,lzC]
         go_simp
         refine HK.o _ _ ⟨.inl (by decide),?_⟩
         clear HK K
         try simp only [Act.put,lzA,lzB,lzC,lzD,lzE,lzF]
         refine bDc (by kernel_rfl) ?_
         go_wp2
         go_roundw
         case rel=>exact⟨k+1,k+1,_,by omega,Nat.le_refl _,by go_num,by go_num,G9.o,HO9.o,by simp;omega,HOW.o⟩
         case measure=>simp [intOf];omega
       ·have tS:¬Lib.itoa n=(x.extract 3 x.size).toList:=by rw [Lib.toList_data];exact q1
        have HE:=η (HNN.o (by rw [HSG.o,if_neg (fun z=>q1 z.1)]))
        clear q1
        go_wp2
        go_ret2
        rw [HE.o]
        exact⟨_,rfl,Sl.nil _ _,HB.o.trans G7.o⟩
      ·have HE:=η (HNN.o (hsg.1 (fun n e=>hat ⟨n,e⟩)))
       have HAT:=η (atoi_no hys (fun n e=>hat ⟨n,e⟩) HV.o)
       clear hat hsg hys
       go_wp2_with fail
       refine(HAT.o _ HB.o).mono ?_
       rintro e w6 ⟨n,tE,N,rfl,g6⟩
       go_wp2
       go_ret2
       rw [HE.o]
       exact⟨_,rfl,Sl.nil _ _,HB.o.trans g6⟩
  ·have HE:Hid (wordsE (spl s.data.toList)=some acc):=η (by
    rcases HRP.o with⟨h,-⟩|⟨-,-,h⟩
    ·rw [←HSZ.o] at h;omega
    ·exact h)
   have HE2:Hid (parseE s.data.toList=if wrongE acc 3=0 then(acc,0) else([],wrongE acc 3)):=η (by unfold parseE;rw [HE.o])
   have HP:Hid (Pts wr.cell? (.slice av acc.length cv) acc):=η (HOWN.o.slc (by decide) (fun a v h=>by cases h) (fun a _=>rfl))
   clear HE HRP
   go_wp2_with fail
   refine(ref_wrongParts (h:=3) _ HP.o).mono ?_
   rintro e w1 ⟨rfl,g1⟩
   have G1:=η g1
   clear g1
   by_cases h0:wrongE acc 3=0
   ·have HR:Hid (parseE s.data.toList=(acc,0)):=η (by rw [HE2.o,if_pos h0])
    clear HE2
    rw [h0]
    clear h0
    go_wp2
    go_ret2
    rw [HR.o]
    exact⟨_,rfl,HP.o.mono G1.o.sub,HB.o.trans G1.o⟩
   ·have HR:Hid (parseE s.data.toList=([],wrongE acc 3)):=η (by rw [HE2.o,if_neg h0])
    have ht:(wrongE acc 3 !=0)=true:=by simpa using h0
    clear HE2 h0
    generalize wrongE acc 3=q at*
    go_wp2
    go_ret2
    rw [HR.o]
    exact⟨_,rfl,Sl.nil _ _,HB.o.trans G1.o⟩
theorem printE_snoc {l:List Pt} (h:l≠ []) (p:Pt):printE (l++ [p])=printE l++32::wordOf p:=by
 cases l with
 |nil=>exact absurd rfl h
 |cons q l=>
  unfold printE
  rw [List.cons_append,List.map_cons,List.map_cons,Lib.join_cons,Lib.join_cons,List.map_append]
  simp [Lib.joinTail]
theorem printE_one (p:Pt):printE [p]=wordOf p:=by
 unfold printE
 rw [List.map_cons,List.map_nil,Lib.join_one]
def pstr (l:List Pt):ByteArray:=⟨(printE l).toArray⟩
def sepE (l:List Pt):ByteArray:=if l=[] then⟨#[]⟩ else⟨(printE l++ [32]).toArray⟩
theorem part_adds (l:List Pt) (p:Pt) (h4:l.length≤4) (hl:PtsOk l) (ih:I64 p.h) (ik:I64 p.k) (i:I64 p.n):∃sh sk sn s0 s1 s2 s3 s4 sw:ByteArray,sh=⟨(Lib.itoa p.h).toArray⟩∧sk=⟨(Lib.itoa p.k).toArray⟩∧sn=⟨(Lib.itoa p.n).toArray⟩∧s0=sepE l∧sw=pstr (l++ [p])∧(l=[]→s0=pstr l)∧
  (l≠ []→∀W,(Op.stringOp .add (pstr l) ⟨#[32]⟩).run Tryd.prog W=.ok (.string s0) W)∧(∀W,(Op.stringOp .add s0 sh).run Tryd.prog W=.ok (.string s1) W)∧(∀W,(Op.stringOp .add s1 ⟨#[46]⟩).run Tryd.prog W=.ok (.string s2) W)∧(∀W,(Op.stringOp .add s2 sk).run Tryd.prog W=.ok (.string s3) W)∧
  (∀W,(Op.stringOp .add s3 ⟨#[43]⟩).run Tryd.prog W=.ok (.string s4) W)∧(∀W,(Op.stringOp .add (if p.n<0 then s3 else s4) sn).run Tryd.prog W=.ok (.string sw) W):=by
 have a:=itoa_short ih
 have b:=itoa_short ik
 have c:=itoa_short i
 have d:(printE l).length≤1000:=by
  match l with
  | []=>simp [printE,Lib.join_nil]
  |q::l=>
   have h1:=hl q List.mem_cons_self
   have h2:=word_short h1.1 h1.2.1 h1.2.2
   have h3:=tail_len (m:=65) (r:=l.map wordOf) (fun x hx=>by
    obtain⟨q,hq,rfl⟩:=List.mem_map.1 hx
    have hq2:=hl q (List.mem_cons_of_mem _ hq)
    exact word_short hq2.1 hq2.2.1 hq2.2.2)
   unfold printE
   rw [List.map_cons,Lib.join_cons,List.length_append]
   rw [List.length_map] at h3
   simp at h4
   omega
 obtain⟨z,hz,hzl⟩:∃z:List UInt8,sepE l=⟨z.toArray⟩∧z=if l=[] then [] else printE l++ [32]:=⟨_,by unfold sepE;split<;>rfl,rfl⟩
 have hz9:z.length≤1001:=by rw [hzl];split<;>simp;omega
 have hw:z++Lib.itoa p.h++ [46]++Lib.itoa p.k++(if p.n<0 then [] else [43])++Lib.itoa p.n=printE (l++ [p]):=by
  have e:z++wordOf p=printE (l++ [p]):=by
   rw [hzl]
   split
   ·rename_i h;rw [h,List.nil_append,List.nil_append,printE_one]
   ·rename_i h;rw [printE_snoc h];simp
  rw [←e]
  unfold wordOf
  simp
 refine⟨_,_,_,_,⟨(z++Lib.itoa p.h).toArray⟩,⟨(z++Lib.itoa p.h++ [46]).toArray⟩,⟨(z++Lib.itoa p.h++ [46]++Lib.itoa p.k).toArray⟩,⟨(z++Lib.itoa p.h++ [46]++Lib.itoa p.k++ [43]).toArray⟩,_,rfl,rfl,rfl,rfl,rfl,fun h=>by subst h;rfl,fun h W=>?_,fun W=>?_,fun W=>?_,fun W=>?_,fun W=>?_,fun W=>?_⟩
 ·unfold sepE pstr
  rw [if_neg h]
  exact add_lists _ [32] (by omega) (by simp) W
 ·rw [hz];exact add_lists _ _ (by omega) (by omega) W
 ·exact add_lists _ [46] (by simp;omega) (by simp) W
 ·exact add_lists _ _ (by simp;omega) (by omega) W
 ·exact add_lists _ [43] (by simp;omega) (by simp) W
 ·unfold pstr
  rw [←hw]
  split
  ·rw [add_lists _ _ (by simp;omega) (by omega) W]
   simp
  ·rw [add_lists _ _ (by simp;omega) (by omega) W]
set_option maxRecDepth 100000 in
set_option maxHeartbeats 4000000 in
theorem ref_print {v:Value} {l:List Pt} (w:World) (hV:Vars w) (hv:Pts w.cell? v l) (hw:wrongE l 3=0):
  Calls Tryd.prog 11 #[v] w fun e w'=>e=.returned (.string (pstr l))∧Grow w w':=by
 obtain⟨hl0,hl4,hok,-⟩:=wrong_ok hw
 have HOK:=η hok
 have HV:=η hV
 have HPO:=η (Pts.ok hv)
 obtain⟨a,cap,rfl,h1,h2,-,hel⟩:=hv
 unfold maxLen at h2
 clear hok hw hV
 go_enter Tryd.func11,Tryd.ntmps11
 go_wp2
 go_loopw [3,4,5,8] (fun s3 _ _ i wr=>∃k:Nat,k≤l.length∧i=.int .i64 k∧Grow w wr∧s3=.string (pstr (l.take k))) (fun _ _ _ i _=>l.length - (intOf i).toNat)
 case atStart=>exact⟨0,by omega,rfl,Grow.refl _,rfl⟩
 case round=>
  obtain⟨k,hk',rfl,hb,rfl⟩:=hrel
  by_cases hlt:k<l.length
  ·obtain⟨b,o,rfl,c0,c1,c2,i0,i1,i2⟩:=Pts.at_ hel k hlt
   have HP:=η (HOK.o _ (List.getElem_mem hlt))
   have HI:=η i2
   have HAD:=η (part_adds (l.take k) l[k] (by rw [List.length_take];omega) (fun p hp=>HPO.o p (List.mem_of_mem_take hp)) i0 i1 i2)
   have HTK:Hid (l.take (k+1)=l.take k++ [l[k]]):=η (List.take_succ_eq_append_getElem hlt)
   have HTE:Hid (l.take k=[]↔k=0):=η (by rw [List.take_eq_nil_iff];exact⟨fun h=>h.elim id (fun h=>by rw [h] at hlt;simp at hlt),.inl⟩)
   have HB:=η hb
   replace c0:=hb.sub _ _ c0
   replace c1:=hb.sub _ _ c1
   replace c2:=hb.sub _ _ c2
   clear hel hb i0 i1 i2
   generalize l[k]=p at*
   generalize l.take k=acc at*
   obtain⟨wx,rfl⟩:∃x:World,x=wr:=⟨_,rfl⟩
   have R9:=row_new wx (.cells #[.int .i64 0,.int .i64 0,.int .i64 0] 34)
   obtain⟨sh,sk,sn,s0,s1,s2,s3,s4,sw,e1,e2,e3,e4,e5,A6,A7,A8,A9,A10,A11,A12⟩:=HAD.o
   have HSM1:Hid (∀W,Calls Tryd.prog 17 #[.int .i64 p.h] W fun e w'=>e=.returned (.string sh)∧w'=W):=η (by rw [e1];exact small_call (by have:=HP.o;omega) (by have:=HP.o;omega))
   have HSM2:Hid (∀W,Calls Tryd.prog 17 #[.int .i64 p.k] W fun e w'=>e=.returned (.string sk)∧w'=W):=η (by rw [e2];exact small_call (by have:=HP.o;omega) (by have:=HP.o;omega))
   have HIT:Hid (∀W,Grow w W→Calls Tryd.prog 17 #[.int .i64 p.n] W fun e w'=>e=.returned (.string sn)∧Grow W w'):=η (by rw [e3];exact itoa_call HI.o HV.o)
   have HSW:=η e5
   have H6:=η A6
   have H7:=η A7
   have H12:=η A12
   clear e1 e2 e3 e4 e5 HAD A6 A7 A12
   generalize pstr acc=s9 at*
   go_wp2_with (first|(refine wpList_store_row rfl (.tmp 5) (.tmp 12) rfl rfl rfl R9 info_pt0 rfl rfl ?_))
   clear R9 c0 c1 c2
   intro w5 r5 g5
   obtain⟨B5,hB5⟩:∃B,B=wx.heap.size:=⟨_,rfl⟩
   rw [←hB5] at r5
   rw [←hB5]
   have R5:Hid (w5.heap[B5]? =some (.cells #[.int .i64 p.h,.int .i64 p.k,.int .i64 p.n] 34 (0,0))):=η r5
   have G5:Hid (Grow wx w5):=η (((Grow.refl wx).alloc _).grown g5 (fun q hq=>by simp at hq;omega))
   obtain⟨d0,d1,d2⟩:=cells3 r5
   have z5:B5<w5.heap.size:=(γ r5)
   clear r5 g5 hB5
   have HS:Hid (∀W,Grow w5 W→W.cell? ⟨B5,0,none⟩=some (.int .i64 p.h)∧W.cell? ⟨B5,1,none⟩=some (.int .i64 p.k)):=fun W hW=>by
    obtain⟨j0,j1,-⟩:=cells3 (row_grow R5.o hW)
    exact⟨j0,j1⟩
   by_cases hk0:k=0
   ·obtain rfl:s0=s9:=H6.o (HTE.o.2 hk0)
    have tk:decide (0<k)=false:=by simp;omega
    clear hk0
    go_upto_region 7 with fail
    clear tk
    go_cut [3] from 17 to 26 (fun c3 wc=>c3=.string s3∧Grow w5 wc)
    case first=>
     clear d0 d1 d2
     refine bSc (fun w'=>w'.cell? ⟨B5,0,none⟩=some (.int .i64 p.h)∧w'.cell? ⟨B5,1,none⟩=some (.int .i64 p.k)) [] (by kernel_rfl) ?_
     intro wd GD zD
     have ZD:=η zD
     clear zD
     refine bLc [0,1,2,6,7] 13 (by kernel_rfl) (fun _ _ _ _ _ h=>h) (HS.o _ GD) ?_
     repeat (refine tNc (v:=?_) rfl (by rfl) ?_ ?_;rotate_left;(· (intro w' hSw;(try dsimp only at hSw);obtain⟨hs0,hs1⟩:=hSw;go_simp<;>with_reducible rfl));try simp only [Act.put,lzA,lzB,lzC,lzD,lzE,lzF])
     refine tEc ?_
     refine bOc 3 (by kernel_rfl) rfl ?_
     intro K HK
     try simp only [lzA,lzB,lzC]
     go_simp
     go_at_call 17
     refine(HSM1.o _).mono ?_
     rintro e wq ⟨rfl,rfl⟩
     refine HK.o _ _ ⟨.inr (HS.o _ GD),?_⟩
     clear HK K
     try simp only [Act.put,lzA,lzB,lzC,lzD,lzE,lzF]
     refine bLc [4,5] 13 (by kernel_rfl) (fun _ _ _ _ _ h=>h) (HS.o _ GD) ?_
     repeat (refine tNc (v:=?_) rfl (by rfl) ?_ ?_;rotate_left;(· (intro w' hSw;(try dsimp only at hSw);obtain⟨hs0,hs1⟩:=hSw;go_simp<;>with_reducible rfl));try simp only [Act.put,lzA,lzB,lzC,lzD,lzE,lzF])
     refine tEc ?_
     refine bOc 8 (by kernel_rfl) rfl ?_
     intro K HK
     try simp only [lzA,lzB,lzC]
     go_simp
     go_at_call 17
     refine(HSM2.o _).mono ?_
     rintro e wq ⟨rfl,rfl⟩
     refine HK.o _ _ ⟨.inr (HS.o _ GD),?_⟩
     clear HK K
     try simp only [Act.put,lzA,lzB,lzC,lzD,lzE,lzF]
     refine bLc [9,10] 13 (by kernel_rfl) (fun _ _ _ _ _ h=>h) (HS.o _ GD) ?_
     repeat (refine tNc (v:=?_) rfl (by rfl) ?_ ?_;rotate_left;(· (intro w' hSw;(try dsimp only at hSw);obtain⟨hs0,hs1⟩:=hSw;go_simp<;>with_reducible rfl));try simp only [Act.put,lzA,lzB,lzC,lzD,lzE,lzF])
     refine tEc ?_
     refine bDc (by kernel_rfl) ?_
     go_wp2
     go_meet
     case rel=>exact⟨rfl,GD⟩
    case rest=>
     obtain⟨rfl,gc⟩:=hcut
     clear d0 d1 d2 z5
     obtain⟨-,-,d2⟩:=cells3 (row_grow R5.o gc)
     have z5:B5<wc.heap.size:=(Array.getElem?_eq_some_iff.1 (row_grow R5.o gc)).1
     have GC:=η (HB.o.trans (G5.o.trans gc))
     clear gc
     by_cases hn:p.n<0
     ·have tn:decide (0≤p.n)=false:=by simp;omega
      have A12:∀W,(Op.stringOp .add s3 sn).run Tryd.prog W=.ok (.string sw) W:=by have:=H12.o;rw [if_pos hn] at this;exact this
      clear hn
      go_wp2_with fail
      refine(HIT.o _ GC.o).mono ?_
      rintro e w8 ⟨rfl,g8⟩
      have G8:=η (GC.o.trans g8)
      clear g8 d2 z5
      go_wp2
      go_roundw
      case rel=>exact⟨k+1,by omega,by go_num,G8.o,by rw [HTK.o,←HSW.o]⟩
      case measure=>simp [intOf];omega
     ·have tn:decide (0≤p.n)=true:=by simp;omega
      have A12:∀W,(Op.stringOp .add s4 sn).run Tryd.prog W=.ok (.string sw) W:=by have:=H12.o;rw [if_neg hn] at this;exact this
      clear hn
      go_wp2_with fail
      refine(HIT.o _ GC.o).mono ?_
      rintro e w8 ⟨rfl,g8⟩
      have G8:=η (GC.o.trans g8)
      clear g8 d2 z5
      go_wp2
      go_roundw
      case rel=>exact⟨k+1,by omega,by go_num,G8.o,by rw [HTK.o,←HSW.o]⟩
      case measure=>simp [intOf];omega
   ·have A7:=H7.o (fun h=>hk0 (HTE.o.1 h))
    have tk:decide (0<k)=true:=by simp;omega
    clear hk0
    go_upto_region 7 with fail
    clear tk A7
    go_cut [3] from 17 to 26 (fun c3 wc=>c3=.string s3∧Grow w5 wc)
    case first=>
     clear d0 d1 d2
     refine bSc (fun w'=>w'.cell? ⟨B5,0,none⟩=some (.int .i64 p.h)∧w'.cell? ⟨B5,1,none⟩=some (.int .i64 p.k)) [] (by kernel_rfl) ?_
     intro wd GD zD
     have ZD:=η zD
     clear zD
     refine bLc [0,1,2,6,7] 13 (by kernel_rfl) (fun _ _ _ _ _ h=>h) (HS.o _ GD) ?_
     repeat (refine tNc (v:=?_) rfl (by rfl) ?_ ?_;rotate_left;(· (intro w' hSw;(try dsimp only at hSw);obtain⟨hs0,hs1⟩:=hSw;go_simp<;>with_reducible rfl));try simp only [Act.put,lzA,lzB,lzC,lzD,lzE,lzF])
     refine tEc ?_
     refine bOc 3 (by kernel_rfl) rfl ?_
     intro K HK
     try simp only [lzA,lzB,lzC]
     go_simp
     go_at_call 17
     refine(HSM1.o _).mono ?_
     rintro e wq ⟨rfl,rfl⟩
     refine HK.o _ _ ⟨.inr (HS.o _ GD),?_⟩
     clear HK K
     try simp only [Act.put,lzA,lzB,lzC,lzD,lzE,lzF]
     refine bLc [4,5] 13 (by kernel_rfl) (fun _ _ _ _ _ h=>h) (HS.o _ GD) ?_
     repeat (refine tNc (v:=?_) rfl (by rfl) ?_ ?_;rotate_left;(· (intro w' hSw;(try dsimp only at hSw);obtain⟨hs0,hs1⟩:=hSw;go_simp<;>with_reducible rfl));try simp only [Act.put,lzA,lzB,lzC,lzD,lzE,lzF])
     refine tEc ?_
     refine bOc 8 (by kernel_rfl) rfl ?_
     intro K HK
     try simp only [lzA,lzB,lzC]
     go_simp
     go_at_call 17
     refine(HSM2.o _).mono ?_
     rintro e wq ⟨rfl,rfl⟩
     refine HK.o _ _ ⟨.inr (HS.o _ GD),?_⟩
     clear HK K
     try simp only [Act.put,lzA,lzB,lzC,lzD,lzE,lzF]
     refine bLc [9,10] 13 (by kernel_rfl) (fun _ _ _ _ _ h=>h) (HS.o _ GD) ?_
     repeat (refine tNc (v:=?_) rfl (by rfl) ?_ ?_;rotate_left;(· (intro w' hSw;(try dsimp only at hSw);obtain⟨hs0,hs1⟩:=hSw;go_simp<;>with_reducible rfl));try simp only [Act.put,lzA,lzB,lzC,lzD,lzE,lzF])
     refine tEc ?_
     refine bDc (by kernel_rfl) ?_
     go_wp2
     go_meet
     case rel=>exact⟨rfl,GD⟩
    case rest=>
     obtain⟨rfl,gc⟩:=hcut
     clear d0 d1 d2 z5
     obtain⟨-,-,d2⟩:=cells3 (row_grow R5.o gc)
     have z5:B5<wc.heap.size:=(Array.getElem?_eq_some_iff.1 (row_grow R5.o gc)).1
     have GC:=η (HB.o.trans (G5.o.trans gc))
     clear gc
     by_cases hn:p.n<0
     ·have tn:decide (0≤p.n)=false:=by simp;omega
      have A12:∀W,(Op.stringOp .add s3 sn).run Tryd.prog W=.ok (.string sw) W:=by have:=H12.o;rw [if_pos hn] at this;exact this
      clear hn
      go_wp2_with fail
      refine(HIT.o _ GC.o).mono ?_
      rintro e w8 ⟨rfl,g8⟩
      have G8:=η (GC.o.trans g8)
      clear g8 d2 z5
      go_wp2
      go_roundw
      case rel=>exact⟨k+1,by omega,by go_num,G8.o,by rw [HTK.o,←HSW.o]⟩
      case measure=>simp [intOf];omega
     ·have tn:decide (0≤p.n)=true:=by simp;omega
      have A12:∀W,(Op.stringOp .add s4 sn).run Tryd.prog W=.ok (.string sw) W:=by have:=H12.o;rw [if_neg hn] at this;exact this
      clear hn
      go_wp2_with fail
      refine(HIT.o _ GC.o).mono ?_
      rintro e w8 ⟨rfl,g8⟩
      have G8:=η (GC.o.trans g8)
      clear g8 d2 z5
      go_wp2
      go_roundw
      case rel=>exact⟨k+1,by omega,by go_num,G8.o,by rw [HTK.o,←HSW.o]⟩
      case measure=>simp [intOf];omega
  ·have hkk:l.take k=l:=List.take_of_length_le (by omega)
   rw [hkk]
   clear hel hkk
   go_wp2
   go_ret
   exact⟨rfl,hb⟩
def L3:List Pt:=[⟨0,1,-5⟩,⟨2,3,5⟩]
def S3b:List UInt8:=[48,46,49,45,53,32,50,46,51,43,53]
theorem dec_small {u:Nat} (h:u<10):Lib.decDigits u=[UInt8.ofNat (48+u)]:=by rw [Lib.decDigits,dif_pos h]
theorem print3:printE L3=S3b:=by
 unfold printE L3 S3b wordOf
 have h:∀n:Nat,n<10→Lib.itoa (n:Int)=[UInt8.ofNat (48+n)]:=fun n hn=>by rw [Lib.itoa_nonneg,dec_small hn]
 have e0:=h 0 (by decide);have e1:=h 1 (by decide);have e2:=h 2 (by decide);have e3:=h 3 (by decide);have e5:=h 5 (by decide)
 have em:Lib.itoa (-5)=[45,53]:=by
  have:=Lib.itoa_neg 5 (by decide)
  rw [dec_small (by decide)] at this
  exact this
 simp only [List.map_cons,List.map_nil]
 have e0:Lib.itoa 0=[48]:=e0
 have e1:Lib.itoa 1=[49]:=e1
 have e2:Lib.itoa 2=[50]:=e2
 have e3:Lib.itoa 3=[51]:=e3
 have e5:Lib.itoa 5=[53]:=e5
 rw [e0,e1,e2,e3,e5,em]
 decide
theorem parse3:parseE S3b=(L3,0):=by
 rw [←print3]
 exact parse_print (by decide)
theorem text_print' {v:Value} {l:List Pt} (w:World) (hV:Vars w) (hv:Pts w.cell? v l) (hw:wrongE l 3=0):
  Calls Tryd.prog 10 #[v] w fun e w'=>e=.returned (.string (pstr l))∧Grow w w':=text_print w hV hv hw
set_option maxRecDepth 100000 in
set_option maxHeartbeats 2000000 in
theorem alive3 (w:World) (hV:Vars w):Calls Tryd.prog 12 #[] w fun e w'=>e=.returned (.bool true)∧Grow w w':=by
 have hp:=text_parse ⟨#[48,46,49,45,53,32,50,46,51,43,53]⟩ w hV (by show 11<4294967281;omega)
 have e3:(⟨#[48,46,49,45,53,32,50,46,51,43,53]⟩:ByteArray).data.toList=S3b:=rfl
 rw [e3,parse3] at hp
 have HP:=η hp
 have HV:=η hV
 have HS:Hid (pstr L3=⟨#[48,46,49,45,53,32,50,46,51,43,53]⟩):=η (by unfold pstr;rw [print3];rfl)
 clear hp e3 hV
 go_enter Tryd.func12,Tryd.ntmps12
 go_wp2_with fail
 refine HP.o.mono ?_
 rintro e w1 ⟨v,rfl,hv,g1⟩
 have HPR:=η (text_print' w1 (HV.o.grow g1) hv (by decide))
 obtain⟨a,cap,rfl,h1,h2,-,hel⟩:=hv
 obtain⟨b,o,rfl,-,-,c2,-,-,-⟩:=Pts.at_ hel 0 (by decide)
 have G1:=η g1
 have c2:w1.cell? ⟨b,o+2,none⟩=some (.int .i64 (-5)):=by simpa [L3] using c2
 have hl:L3.length=2:=rfl
 rw [hl]
 rw [hl] at HPR
 clear hel h1 h2 g1 hl
 dsimp only
 go_wp2_with fail
 refine HPR.o.mono ?_
 rintro e w2 ⟨rfl,g2⟩
 rw [HS.o]
 go_wp2
 go_ret
 exact⟨rfl,G1.o.trans g2⟩
set_option maxRecDepth 100000 in
set_option maxHeartbeats 2000000 in
theorem textTells_walk (s:ByteArray) (W:World) (hV:Vars W) (hs:s.size<4294967281) {v:Value} {l:List Pt} (hv:Pts W.cell? v l):
  Calls Tryd.prog 3 #[.string s,v] W fun e w'=>e=.returned (.bool true)∧Grow W w':=by
 have HV:=η hV
 have HL:=η hv
 have H1:=η (text_parse s W hV hs)
 have H2:=η (fun(W':World) (hW:Grow W W')=>ref_parse s W' (hV.grow hW) hs)
 clear hV hv
 generalize parseE s.data.toList=q at*
 obtain⟨m,er⟩:=q
 dsimp only at H1 H2
 go_enter Tryd.func3,Tryd.ntmps3
 go_wp2_with fail
 refine H1.o.mono ?_
 rintro e w1 ⟨v1,rfl,hv1,g1⟩
 have G1:=η g1
 have V1:=η hv1
 clear hv1 g1
 go_wp2_with fail
 refine(H2.o _ G1.o).mono ?_
 rintro e w2 ⟨v2,rfl,hv2,g2⟩
 have h3:=ref_sameParts w2 (V1.o.mono g2.sub) hv2
 rw [decide_eq_true (rfl:m=m)] at h3
 have H3:=η h3
 have G2:=η (G1.o.trans g2)
 clear hv2 g2 h3
 go_wp2_with fail
 refine H3.o.mono ?_
 rintro e w3 ⟨rfl,g3⟩
 have G3:=η (G2.o.trans g3)
 clear g3
 go_wp2_with fail
 refine(ref_wrongParts (h:=3) w3 (HL.o.mono G3.o.sub)).mono ?_
 rintro e w4 ⟨rfl,g4⟩
 have G4:=η (G3.o.trans g4)
 clear g4
 by_cases h0:wrongE l 3=0
 ·have H5:=η (fun(W':World) (hW:Grow W W')=>text_print' W' (HV.o.grow hW) (HL.o.mono hW.sub) h0)
  have H6:=η (fun(W':World) (hW:Grow W W')=>ref_print W' (HV.o.grow hW) (HL.o.mono hW.sub) h0)
  rw [h0]
  clear h0
  generalize pstr l=z at*
  go_wp2_with fail
  refine(H5.o _ G4.o).mono ?_
  rintro e w5 ⟨rfl,g5⟩
  have G5:=η (G4.o.trans g5)
  clear g5
  go_wp2_with fail
  refine(H6.o _ G5.o).mono ?_
  rintro e w6 ⟨rfl,g6⟩
  go_wp2
  go_ret
  exact⟨rfl,G5.o.trans g6⟩
 ·have ht:(wrongE l 3 !=0)=true:=by simpa using h0
  clear h0
  generalize wrongE l 3=x at*
  go_wp2
  go_ret
  exact⟨rfl,G4.o⟩
set_option maxRecDepth 100000 in
set_option maxHeartbeats 2000000 in
theorem textUnlike_walk (W:World) (hV:Vars W) {va vb:Value} {a b:List Pt} (ha:Pts W.cell? va a) (hb:Pts W.cell? vb b):
  Calls Tryd.prog 4 #[va,vb] W fun e w'=>e=.returned (.bool true)∧Grow W w':=by
 have HV:=η hV
 have HA:=η ha
 have HB:=η hb
 clear hV ha hb
 go_enter Tryd.func4,Tryd.ntmps4
 go_wp2_with fail
 refine(alive3 W HV.o).mono ?_
 rintro e w1 ⟨rfl,g1⟩
 have G1:=η g1
 clear g1
 go_wp2_with fail
 refine(ref_wrongParts (h:=3) w1 (HA.o.mono G1.o.sub)).mono ?_
 rintro e w2 ⟨rfl,g2⟩
 have G2:=η (G1.o.trans g2)
 clear g2
 by_cases h0:wrongE a 3=0
 ·have HA0:=η h0
  rw [h0]
  clear h0
  go_wp2_with fail
  refine(ref_wrongParts (h:=3) w2 (HB.o.mono G2.o.sub)).mono ?_
  rintro e w3 ⟨rfl,g3⟩
  have G3:=η (G2.o.trans g3)
  clear g3
  by_cases h1:wrongE b 3=0
  ·have HB0:=η h1
   rw [h1]
   clear h1
   have H5:=η (fun(W':World) (hW:Grow W W')=>text_print' W' (HV.o.grow hW) (HA.o.mono hW.sub) HA0.o)
   have H6:=η (fun(W':World) (hW:Grow W W')=>text_print' W' (HV.o.grow hW) (HB.o.mono hW.sub) HB0.o)
   have H7:=η (fun(W':World) (hW:Grow W W')=>ref_sameParts W' (HA.o.mono hW.sub) (HB.o.mono hW.sub))
   by_cases hab:a=b
   ·subst hab
    have hd:decide (a=a)=true:=decide_eq_true rfl
    rw [hd] at H7
    clear hd
    generalize pstr a=z at*
    go_wp2_with fail
    refine(H5.o _ G3.o).mono ?_
    rintro e w5 ⟨rfl,g5⟩
    have G5:=η (G3.o.trans g5)
    clear g5
    go_wp2_with fail
    refine(H6.o _ G5.o).mono ?_
    rintro e w6 ⟨rfl,g6⟩
    have G6:=η (G5.o.trans g6)
    clear g6
    go_wp2_with fail
    refine(H7.o _ G6.o).mono ?_
    rintro e w7 ⟨rfl,g7⟩
    go_wp2
    go_ret
    exact⟨rfl,G6.o.trans g7⟩
   ·have hne:((pstr a).toList==(pstr b).toList)=false:=by
     rw [beq_eq_false_iff_ne]
     exact fun e=>hab (print_inj HA0.o HB0.o (by simpa [pstr,Lib.toList_data] using e))
    have hd:decide (a=b)=false:=decide_eq_false hab
    rw [hd] at H7
    clear hd hab
    generalize pstr a=z at*
    generalize pstr b=y at*
    go_wp2_with fail
    refine(H5.o _ G3.o).mono ?_
    rintro e w5 ⟨rfl,g5⟩
    have G5:=η (G3.o.trans g5)
    clear g5
    go_wp2_with fail
    refine(H6.o _ G5.o).mono ?_
    rintro e w6 ⟨rfl,g6⟩
    have G6:=η (G5.o.trans g6)
    clear g6
    go_wp2_with fail
    refine(H7.o _ G6.o).mono ?_
    rintro e w7 ⟨rfl,g7⟩
    go_wp2
    go_ret
    exact⟨rfl,G6.o.trans g7⟩
  ·have ht:(wrongE b 3 !=0)=true:=by simpa using h1
   clear h1
   generalize wrongE b 3=x at*
   go_wp2
   go_ret
   exact⟨rfl,G3.o⟩
 ·have ht:(wrongE a 3 !=0)=true:=by simpa using h0
  clear h0
  generalize wrongE a 3=x at*
  go_wp2
  go_ret
  exact⟨rfl,G2.o⟩
theorem pstr_size {l:List Pt} (h:wrongE l 3=0):(pstr l).size<4294967281:=by
 obtain⟨h0,h4,hok,-⟩:=wrong_ok h
 have hp:PtsOk l:=fun p hp=>by
  have:=hok p hp
  exact⟨i64_of (by omega) (by omega),i64_of (by omega) (by omega),i64_of (by omega) (by omega)⟩
 rw [Lib.size_eq]
 show(printE l).length<4294967281
 match l with
 | []=>simp [printE,Lib.join_nil]
 |p::l=>
  have h1:=hp p List.mem_cons_self
  have h2:=word_short h1.1 h1.2.1 h1.2.2
  have h3:=tail_len (m:=65) (r:=l.map wordOf) (fun x hx=>by
   obtain⟨q,hq,rfl⟩:=List.mem_map.1 hx
   have hq2:=hp q (List.mem_cons_of_mem _ hq)
   exact word_short hq2.1 hq2.2.1 hq2.2.2)
  unfold printE
  rw [List.map_cons,Lib.join_cons,List.length_append]
  rw [List.length_map] at h3
  simp at h4
  omega
set_option maxRecDepth 100000 in
set_option maxHeartbeats 2000000 in
theorem textTurns_walk (s:ByteArray) (W:World) (hV:Vars W) (hs:s.size<4294967281) {v:Value} {l:List Pt} (hv:Pts W.cell? v l):
  Calls Tryd.prog 5 #[.string s,v] W fun e w'=>e=.returned (.bool true)∧Grow W w':=by
 have HV:=η hV
 have HL:=η hv
 have H1:=η (fun(W':World) (hW:Grow W W')=>text_parse s W' (hV.grow hW) hs)
 clear hV hv
 go_enter Tryd.func5,Tryd.ntmps5
 go_wp2_with fail
 refine(alive3 W HV.o).mono ?_
 rintro e w1 ⟨rfl,g1⟩
 have G1:=η g1
 clear g1
 go_wp2_with fail
 refine(ref_wrongParts (h:=3) w1 (HL.o.mono G1.o.sub)).mono ?_
 rintro e w2 ⟨rfl,g2⟩
 have G2:=η (G1.o.trans g2)
 clear g2
 by_cases h0:wrongE l 3=0
 ·have H5:=η (fun(W':World) (hW:Grow W W')=>text_print' W' (HV.o.grow hW) (HL.o.mono hW.sub) h0)
  have H6:=η (fun(W':World) (hW:Grow W W')=>text_parse (pstr l) W' (HV.o.grow hW) (pstr_size h0))
  have hpp:parseE (pstr l).data.toList=(l,0):=parse_print h0
  rw [hpp] at H6
  rw [h0]
  clear h0 hpp
  dsimp only at H6
  generalize pstr l=z at*
  go_wp2_with fail
  refine(H5.o _ G2.o).mono ?_
  rintro e w5 ⟨rfl,g5⟩
  have G5:=η (G2.o.trans g5)
  clear g5
  go_wp2_with fail
  refine(H6.o _ G5.o).mono ?_
  rintro e w6 ⟨v6,rfl,hv6,g6⟩
  have G6:=η (G5.o.trans g6)
  have h7:=ref_sameParts w6 (HL.o.mono G6.o.sub) hv6
  rw [decide_eq_true (rfl:l=l)] at h7
  have H7:=η h7
  clear g6 hv6 h7
  go_wp2_with fail
  refine H7.o.mono ?_
  rintro e w7 ⟨rfl,g7⟩
  have G7:=η (G6.o.trans g7)
  clear g7
  go_wp2_with fail
  refine(H1.o _ G7.o).mono ?_
  rintro e y1 ⟨m1,rfl,hm1,k1⟩
  have M1:=η hm1
  have K1:=η (G7.o.trans k1)
  clear hm1 k1
  by_cases hz:(parseE s.data.toList).2=0
  ·obtain⟨pl,hpl⟩:∃pl,parseE s.data.toList=(pl,0):=⟨_,Prod.ext rfl hz⟩
   obtain⟨hp1,hp2⟩:=print_parse hpl
   have HPR:=η (fun(W':World) (hW:Grow y1 W')=>text_print' W' (HV.o.grow (K1.o.trans hW)) ((show Pts y1.cell? m1 pl by have:=M1.o;rw [hpl] at this;exact this).mono hW.sub) hp2)
   have HWR:=η (fun(W':World) (hW:Grow y1 W')=>ref_wrongParts (h:=3) W' ((show Pts y1.cell? m1 pl by have:=M1.o;rw [hpl] at this;exact this).mono hW.sub))
   have HSS:Hid (pstr pl=s):=η (by unfold pstr;rw [hp1])
   rw [hz]
   rw [hp2] at HWR
   clear hz hpl hp1 hp2 M1
   go_wp2_with fail
   refine(HPR.o _ (Grow.refl _)).mono ?_
   rintro e y2 ⟨rfl,k2⟩
   rw [HSS.o]
   have K2:=η k2
   clear k2
   go_wp2_with fail
   refine(HWR.o _ K2.o).mono ?_
   rintro e y3 ⟨rfl,k3⟩
   go_wp2
   go_ret
   exact⟨rfl,(K1.o.trans K2.o).trans k3⟩
  ·have hz2:((parseE s.data.toList).2 !=0)=true:=by simpa using hz
   clear hz M1
   generalize (parseE s.data.toList).2=zz at*
   go_wp2
   go_ret
   exact⟨rfl,K1.o⟩
 ·have ht:(wrongE l 3==0)=false:=by simpa using h0
  clear h0
  generalize wrongE l 3=x at*
  go_wp2_with fail
  refine(H1.o _ G2.o).mono ?_
  rintro e y1 ⟨m1,rfl,hm1,k1⟩
  have M1:=η hm1
  have K1:=η (G2.o.trans k1)
  clear hm1 k1
  by_cases hz:(parseE s.data.toList).2=0
  ·obtain⟨pl,hpl⟩:∃pl,parseE s.data.toList=(pl,0):=⟨_,Prod.ext rfl hz⟩
   obtain⟨hp1,hp2⟩:=print_parse hpl
   have HPR:=η (fun(W':World) (hW:Grow y1 W')=>text_print' W' (HV.o.grow (K1.o.trans hW)) ((show Pts y1.cell? m1 pl by have:=M1.o;rw [hpl] at this;exact this).mono hW.sub) hp2)
   have HWR:=η (fun(W':World) (hW:Grow y1 W')=>ref_wrongParts (h:=3) W' ((show Pts y1.cell? m1 pl by have:=M1.o;rw [hpl] at this;exact this).mono hW.sub))
   have HSS:Hid (pstr pl=s):=η (by unfold pstr;rw [hp1])
   rw [hz]
   rw [hp2] at HWR
   clear hz hpl hp1 hp2 M1
   go_wp2_with fail
   refine(HPR.o _ (Grow.refl _)).mono ?_
   rintro e y2 ⟨rfl,k2⟩
   rw [HSS.o]
   have K2:=η k2
   clear k2
   go_wp2_with fail
   refine(HWR.o _ K2.o).mono ?_
   rintro e y3 ⟨rfl,k3⟩
   go_wp2
   go_ret
   exact⟨rfl,(K1.o.trans K2.o).trans k3⟩
  ·have hz2:((parseE s.data.toList).2 !=0)=true:=by simpa using hz
   clear hz M1
   generalize (parseE s.data.toList).2=zz at*
   go_wp2
   go_ret
   exact⟨rfl,K1.o⟩
theorem textTells_law (W:World) (hV:Vars W) (s:ByteArray) (hs:s.size≤1048576) {v:Value} {l:List Pt} (hv:Pts W.cell? v l) (_:l.length*24≤140737488351232):
  Calls Tryd.prog 3 #[.string s,v] W fun e w'=>e=.returned (.bool true)∧Grow W w':=textTells_walk s W hV (by omega) hv
theorem textTurns_law (W:World) (hV:Vars W) (s:ByteArray) (hs:s.size≤1048576) {v:Value} {l:List Pt} (hv:Pts W.cell? v l) (_:l.length*24≤140737488351232):
  Calls Tryd.prog 5 #[.string s,v] W fun e w'=>e=.returned (.bool true)∧Grow W w':=textTurns_walk s W hV (by omega) hv
theorem textUnlike_law (W:World) (hV:Vars W) {va vb:Value} {a b:List Pt} (ha:Pts W.cell? va a) (_:a.length*24≤140737488351232) (hb:Pts W.cell? vb b) (_:b.length*24≤140737488351232):
  Calls Tryd.prog 4 #[va,vb] W fun e w'=>e=.returned (.bool true)∧Grow W w':=textUnlike_walk W hV ha hb
end Go.Proofs.YthfgeelcbcgahaaDoor
namespace Go.Proofs.YthfgeelcbcgahaaDoor
open Go.ChangeShapes Go.WideShapes Go.ChangeAt Go.RowKit
def laidList:List (String × DataW Unit):=[("math/bits.deBruijn32tab",Rows.laid_math_bits_deBruijn32tab),("math/bits.deBruijn64tab",Rows.laid_math_bits_deBruijn64tab),("internal/strconv.uint64pow10",Rows.laid_internal_strconv_uint64pow10),("unicode/utf8.acceptRanges",Rows.laid_unicode_utf8_acceptRanges),("strconv.ErrRange",Rows.laid_strconv_ErrRange),("strconv.ErrSyntax",Rows.laid_strconv_ErrSyntax),("unicode/utf8.first",Rows.laid_unicode_utf8_first)]
theorem starE: "*" ++ "errors.errorString" = "*errors.errorString":=by decide
theorem rowErr (u:TypeId) (h:Tryd.prog.typeName? 3 u = some "*errors.errorString"):u = 96:=
 typeName_ptr_named (nm:= "errors.errorString") (by rw [starE];kernel_rfl) (by kernel_rfl) (by decide) u (by rw [starE];exact h)
theorem var_lt {W:World} {n:String} {g:Nat} {v:Value} {l:List Value} (hg:Tryd.prog.globalNamed n=some g) (h:W.var? Tryd.prog n=some (v::l).toArray):g<W.heap.size:=
 World.block_lt_of_cell? W (a:=⟨g,0,none⟩) (show W.cell? ⟨g,0,none⟩=some v by have:=World.var?_cell hg h 0;simpa using this)
theorem vars_of {W:World} (h:laidMetH Tryd.prog laidList W) (hs:W.ShapedOpen Tryd.prog):Vars W:=by
 rw [MakeChecks.laidMetH_plain _ _ _ (by kernel_rfl)] at h
 have htab:Lib.TabIs Tryd.prog W "internal/strconv.uint64pow10" .u64 Lib.pow10Tab:=
  Lib.tabIs_of_head (show Tryd.prog.globalNamed "internal/strconv.uint64pow10" = some 3 by kernel_rfl) (show (Tryd.prog.globals[3]?).map (·.type) = some 100 by kernel_rfl)
   (show Tryd.prog.underlying 100=some (.array 20 77) by kernel_rfl) (show Tryd.prog.underlying 77=some (.int .u64) by kernel_rfl) (by kernel_rfl) (by kernel_rfl) h.tail.tail
 obtain ⟨a0,s0,hv0,-,-,-⟩:=laid_sentinel h.tail.tail.tail.tail (show Tryd.prog.globalNamed "strconv.ErrRange" = some 1 by kernel_rfl) (show (Tryd.prog.globals[1]?).map (·.type) = some 38 by kernel_rfl) Tryd.underlying38 rowErr Tryd.underlying96 Tryd.underlying98 rfl rfl Tryd.underlying9 (by kernel_rfl) (by kernel_rfl)
 obtain ⟨a1,s1,hv1,-,-,-⟩:=laid_sentinel h.tail.tail.tail.tail.tail (show Tryd.prog.globalNamed "strconv.ErrSyntax" = some 0 by kernel_rfl) (show (Tryd.prog.globals[0]?).map (·.type) = some 38 by kernel_rfl) Tryd.underlying38 rowErr Tryd.underlying96 Tryd.underlying98 rfl rfl Tryd.underlying9 (by kernel_rfl) (by kernel_rfl)
 have hm:=cell_of_shapedOpen_int (g:=2) (t:=3) (zero:=#[.int .i64 0]) (k:=.i64) hs (of_decide_eq_true (by kernel_rfl)) (by kernel_rfl) rfl (by kernel_rfl) (by kernel_rfl) (by kernel_rfl)
 refine⟨hm,htab,⟨_,_,hv1⟩,⟨_,_,hv0⟩,?_,?_,?_,?_⟩
 ·obtain⟨m,hm⟩:=hm
  exact World.block_lt_of_cell? W _ hm
 ·exact var_lt (by kernel_rfl) htab
 ·exact var_lt (l:=[]) (by kernel_rfl) hv1
 ·exact var_lt (l:=[]) (by kernel_rfl) hv0
set_option maxRecDepth 100000 in
theorem card_witness {H:Type} {enc:TypeId×Value→H} {os:Os} {f:FuncId} {fn:Func} {s:OpenSpec} {laid:List (String×DataW Unit)} (args:Array Value)
  (hv:((World.laidAll Tryd.prog os laid).forCall (fun _ _=>0) ⟨#[],args,[]⟩).variablesZipB Tryd.prog=true)
  (hr:(((World.laidAll Tryd.prog os laid).forCall (fun _ _=>0) ⟨#[],args,[]⟩).heap.toList.drop Tryd.prog.globals.size).take ((begin Tryd.prog (fun _ _=>0) default).world.heap.size - Tryd.prog.globals.size)=(begin Tryd.prog (fun _ _=>0) default).world.heap.toList.drop Tryd.prog.globals.size)
  (hok:Input.okWideB Tryd.prog ((World.laidAll Tryd.prog os laid).forCall (fun _ _=>0) ⟨#[],args,[]⟩) f ⟨#[],args,[]⟩=true)
  (hrow:s.preRow enc Tryd.prog fn [] false laid ((World.laidAll Tryd.prog os laid).forCall (fun _ _=>0) ⟨#[],args,[]⟩).memory args):
  ∃(w:World) (tape:Tape) (i:Input),w.os=os∧(w.forCall tape i).Shaped Tryd.prog∧i.vars=[]∧Input.okWide Tryd.prog (w.forCall tape i) .any w.heap.size f i∧
   s.preRow enc Tryd.prog fn [] false laid (w.forCall tape i).memory i.args∧({}:Assume).holds Tryd.prog (lone (Frame.enter Tryd.prog f i.args .normal) [] (w.forCall tape i)):=
 ⟨World.laidAll Tryd.prog os laid,fun _ _=>0,⟨#[],args,[]⟩,World.laidAll_os _ _ _,World.shaped_of_ZipB hv hr,(Input.okWide_of_okWideB (base:=0) hok).1,(Input.okWide_of_okWideB hok).2,hrow,by
  simp only [Assume.holds]
  exact⟨by simp,by simp,fun _=>Modest.zero,by simp,by simp⟩⟩
theorem laid_met (os:Os) (args:Array Value):laidMetH Tryd.prog laidList ((World.laidAll Tryd.prog os laidList).forCall (fun _ _=>0) ⟨#[],args,[]⟩).memory:=by
 rw [MakeChecks.laidMetH_plain _ _ _ (by kernel_rfl)]
 exact laidMet_laidAll _ (by kernel_rfl) (by kernel_rfl)
end Go.Proofs.YthfgeelcbcgahaaDoor
namespace Go.Proofs.YthfgeelcbcgahaaDoor
open Go.RowKit Go.ChangeShapes Go.WideShapes Go.ChangeAt
def Reads {α:Type} (P:Program) (t:TypeId) (T:Ty α):Prop:=∀(H:Type) (enc:TypeId×Value→H) (W:World) (fuel:Nat) (cs:List Value) (x:DataW H×List MemPlace),
 DataW.trod enc P W 0 (fun _=>true) true fuel t cs=some x→∃y,T.R W.cell? cs y
theorem reads_int {P:Program} {t:TypeId} (ht:P.underlying t=some (.int .i64)):Reads P t Ty.int:=by
 intro H enc W fuel cs x h
 obtain⟨n,rfl,_,hw⟩:=DataW.trod_int ht h
 exact⟨n,rfl,hw⟩
theorem reads_sl {α:Type} {P:Program} {t e:TypeId} {T:Ty α} (hR:Reads P e T) (ht:P.underlying t=some (.slice e)) (hc:P.cellsOf e=T.size) (h0:0<T.size):Reads P t T.sl:=by
 intro H enc W fuel cs x h
 rcases Deep.open_slice ht h with⟨rfl,_⟩|⟨a,len,cap,m,n,D,Pl,rfl,_,hl,hm,hmm,hxe,hx⟩
 ·exact⟨[],_,rfl,none,0,rfl,Nat.le_refl _,Nat.zero_le _,fun _=>rfl,fun i x e=>by simp at e⟩
 ·simp only [if_true] at hmm
  subst m
  have h2:∀i,i<len→∃(p:List Value×α),T.R W.cell? p.1 p.2∧W.cells? 0 (a.add (i*T.size)) T.size=some p.1:=by
   intro i hi
   obtain⟨cs',h1,h2⟩:=hx i (by omega)
   obtain⟨y,hy⟩:=hR H enc W n cs' _ h2
   rw [hc] at h1
   exact⟨(cs',y),hy,h1⟩
  have h3:∃l:List α,l.length=len∧∀i y,l[i]? =some y→∃cs',T.R W.cell? cs' y∧W.cells? 0 (a.add (i*T.size)) T.size=some cs':=by
   clear hx hl h hxe
   induction len with
   |zero=>exact⟨[],rfl,by simp⟩
   |succ len ih=>
    obtain⟨l,hl,hi⟩:=ih (by intro i hi;exact h2 i (by omega))
    obtain⟨⟨cs',y⟩,hy,h1⟩:=h2 len (by omega)
    refine⟨l++ [y],by simp [hl],fun i z hz=>?_⟩
    rcases Nat.lt_or_ge i l.length with hlt|hge
    ·rw [List.getElem?_append_left hlt] at hz;exact hi i z hz
    ·have hb:=(List.getElem?_eq_some_iff.1 hz).1
     simp at hb
     obtain rfl:i=len:=by omega
     rw [List.getElem?_append_right hge,hl] at hz
     simp at hz
     subst hz
     exact⟨cs',hy,h1⟩
  obtain⟨l,hlen,hl2⟩:=h3
  refine⟨l,_,rfl,some a,cap,by rw [hlen],by omega,hm,by simp,fun i y hy=>?_⟩
  obtain⟨cs',hR',hcs⟩:=hl2 i y hy
  obtain⟨_,hlen',hat⟩:=World.cells?_some hcs
  have hpos:0<l.length:=by have:=(List.getElem?_eq_some_iff.1 hy).1;omega
  obtain⟨cs0,_,hcs0⟩:=hl2 0 l[0] (List.getElem?_eq_getElem hpos)
  obtain⟨_,hlen0,hat0⟩:=World.cells?_some hcs0
  have hfirst:=hat0 0 h0
  rw [List.getElem?_eq_getElem (by omega)] at hfirst
  have hsp:=World.cell?_spot hfirst
  obtain⟨b,o,s⟩:=a
  have hs:s=none:=by simpa [Addr.add] using hsp
  subst hs
  refine⟨b,o,cs',rfl,hR',fun j u hu=>?_⟩
  have hj:j<T.size:=by rw [←hlen'];exact(List.getElem?_eq_some_iff.1 hu).1
  have:=hat j hj
  rw [Addr.add_lit,Addr.add_lit,hu] at this
  exact this
def structOf (P:Program) (t:TypeId):Option (List (TypeId×Nat×Nat)):=
 match P.underlying t with
 |some (.struct fs)=>some (fs.toList.map fun f=>(f.type,f.offset,P.cellsOf f.type))
 |_=>none
theorem struct_fields {P:Program} {t:TypeId} {fs':List (TypeId×Nat×Nat)} (hs:structOf P t=some fs') {H:Type} {enc:TypeId×Value→H} {W:World} {fuel:Nat} {cs:List Value} {x:DataW H×List MemPlace}
  (h:DataW.trod enc P W 0 (fun _=>true) true fuel t cs=some x):cs.length=P.cellsOf t∧∀(i:Nat) (f:TypeId×Nat×Nat),fs'[i]? =some f→∃n y,DataW.trod enc P W 0 (fun _=>true) true n f.1 ((cs.drop f.2.1).take f.2.2)=some y:=by
 unfold structOf at hs
 split at hs
 ·rename_i fs hu
  obtain rfl:=Option.some.inj hs
  obtain⟨xs,n,_,_,hl,hlen,hf⟩:=DataW.trod_struct hu h
  refine⟨hl,fun i f hi=>?_⟩
  rw [List.getElem?_map] at hi
  cases hfi:fs.toList[i]? with
  |none=>rw [hfi] at hi;cases hi
  |some fd=>
   rw [hfi] at hi
   obtain rfl:=Option.some.inj hi
   have hfi':fs[i]? =some fd:=by simpa using hfi
   have hlt:i<xs.length:=by rw [hlen];exact(Array.getElem?_eq_some_iff.1 hfi').1
   have:=hf i fd hfi'
   rw [List.getElem?_eq_getElem hlt] at this
   exact⟨n,_,this⟩
 ·cases hs
theorem reads_pt:Reads Tryd.prog 34 Ty.pt:=by
 intro H enc W fuel cs x h
 obtain⟨hl,hf⟩:=struct_fields (fs':=[(3,0,1),(3,1,1),(3,2,1)]) (by kernel_rfl) h
 rw [show(Tryd.prog).cellsOf 34=3 by kernel_rfl] at hl
 match cs,hl with
 | [a,b,c],_=>
  obtain⟨_,_,h0⟩:=hf 0 _ rfl
  obtain⟨_,_,h1⟩:=hf 1 _ rfl
  obtain⟨_,_,h2⟩:=hf 2 _ rfl
  obtain⟨x0,e0,w0⟩:=reads_int (by kernel_rfl) _ _ _ _ _ _ h0
  obtain⟨x1,e1,w1⟩:=reads_int (by kernel_rfl) _ _ _ _ _ _ h1
  obtain⟨x2,e2,w2⟩:=reads_int (by kernel_rfl) _ _ _ _ _ _ h2
  refine⟨⟨x0,x1,x2⟩,?_,w0,w1,w2⟩
  simp at e0 e1 e2
  subst e0 e1 e2
  rfl
theorem reads_pts:Reads Tryd.prog 22 Ty.pts:=reads_sl reads_pt (by kernel_rfl) (by kernel_rfl) (by decide)
theorem arg_sl {α:Type} {P:Program} {t e:TypeId} {T:Ty α} (hR:Reads P t T.sl) (ht:P.underlying t=some (.slice e)) {H:Type} {enc:TypeId×Value→H} {W:World} {r:Reach} {b:Nat} {v:Value} {d:DataW H} {p:List MemPlace}
  (hval:Value.okWide P W r b t v) (h:DataW.Trod enc P W 0 (fun _=>true) true t v d p):∃l,Sl T W.cell? v l:=by
 obtain⟨a,len,cap,rfl⟩:=okWide_slice ht hval
 obtain⟨fuel,hf⟩:=h
 obtain⟨l,v,e,hv⟩:=hR _ _ _ _ _ _ hf
 simp [Value.cells] at e
 subst e
 exact⟨l,hv⟩
theorem own:ownKnob (Tryd.prog).godebug=none:=by kernel_rfl
theorem laidOut:laidOutB Tryd.prog=true:=by kernel_rfl
end Go.Proofs.YthfgeelcbcgahaaDoor
namespace Go.Proofs.YthfgeelcbcgahaaDoor
open Go.RowKit Go.ChangeShapes Go.WideShapes Go.ChangeAt
theorem sl_len {α:Type} {T:Ty α} {c:CM} {a:Option Addr} {n cap:Nat} {l:List α} (h:Sl T c (.slice a n cap) l):l.length=n:=by
 obtain⟨a',cap',he,_⟩:=h
 simp only [Value.slice.injEq] at he
 exact he.2.1.symm
theorem arg_size {α:Type} {P:Program} {t e:TypeId} {T:Ty α} {k:Nat} (ht:P.underlying t=some (.slice e)) (hb:P.bytesOf e=k) {H:Type} {enc:TypeId×Value→H} {W:World} {r:Reach} {b:Nat} {v:Value} {d:DataW H} {p:List MemPlace} {ts:List TypeId} {ds:List (DataW H)} {j:Nat}
  (hsz:(DataW.weightsEach P ts ds).all (· ≤reachBytes)=true) (hj:ts[j]? =some t) (hd:ds[j]? =some d)
  (hval:Value.okWide P W r b t v) (h:DataW.Trod enc P W 0 (fun _=>true) true t v d p) {l:List α} (hl:Sl T W.cell? v l):l.length*k≤140737488351232:=by
 obtain⟨a,len,cap,rfl⟩:=okWide_slice ht hval
 obtain⟨fuel,hf⟩:=h
 have hll:=sl_len hl
 rcases Deep.open_slice ht hf with⟨he,_⟩|⟨a',len',cap',m,n,D,Pl,he,_,hlc,_,hmm,hxe,_⟩
 ·simp [Value.cells] at he
  rw [hll,he.2.1];simp
 ·simp [Value.cells] at he
  obtain⟨_,rfl,rfl⟩:=he
  obtain rfl:d=.slice ((List.range len).map D) ((List.range (m - len)).map fun j=>D (len+j)):=by simpa using congrArg Prod.fst hxe
  have:=sized_slice hsz hj hd ht
  rw [hb,List.length_map,List.length_range] at this
  rw [hll]
  have h2:len*k≤(len+((List.range (m - len)).map fun j=>D (len+j)).length)*k:=Nat.mul_le_mul_right _ (Nat.le_add_right _ _)
  have h3:reachBytes=140737488351232:=rfl
  omega
end Go.Proofs.YthfgeelcbcgahaaDoor
