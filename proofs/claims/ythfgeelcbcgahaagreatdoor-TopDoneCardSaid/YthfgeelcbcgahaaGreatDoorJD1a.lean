/- The parts that laws are proved of, joined: Base, Types, Ty, Idx, Del, Own, App, Aux1, P1, P2, P3, P4, P6, Reg, RegM, Ov, H1, Map, P5, W1, W2, L1, L2, L3, W3, S1, K1, A6, N1, N2, N3, N4, N5, Clone, M1, S2, W4, S3, W5, S5, Q1, QA, C1, S4, M2, M3, Dfn, R4, Win, S6, Dfn2, Q2, Q3. No condition beside those that each theorem names. -/
import Derived.WalkKit
import Derived.WalkSpells
import Derived.WalkLawsBesides
import Derived.BigQuiet
import Derived.StillTailTactics
import Derived.Deep.RegionWith
import Derived.Deep.RegionLaw
import Derived.Lib.Hide
import Derived.Test.YthfgeelcbcgahaaGreatDoorRows
import Derived.Shelf.SlicesQ.IndexFunc
import Derived.Lib.SliceRun
import Derived.Deep.AppendLies
import Derived.Deep.RegionHeld3
import Derived.ChangeKeysEq
namespace Go.Proofs.YthfgeelcbcgahaaGreatDoor
theorem lzA {α : Type _} {xs : List α} {i : Nat} (h : i < xs.toArray.size) : xs.toArray[i] = xs[i]'(by simpa using h) := List.getElem_toArray h
theorem lzB {α : Type _} {a : α} {ys : List α} {i : Nat} (h : i + 1 < (a :: ys).length) : (a :: ys)[i + 1] = ys[i]'(Nat.lt_of_succ_lt_succ h) := List.getElem_cons_succ ..
theorem lzC {α : Type _} {a : α} {ys : List α} (h : 0 < (a :: ys).length) : (a :: ys)[0] = a := rfl
theorem lzD {α : Type _} (l : List α) (i : Nat) (a : α) : l.toArray.setIfInBounds i a = (l.set i a).toArray := List.setIfInBounds_toArray ..
theorem lzE {α : Type _} {x a : α} {xs : List α} : (x :: xs).set 0 a = a :: xs := rfl
theorem lzF {α : Type _} {x a : α} {xs : List α} {n : Nat} : (x :: xs).set (n + 1) a = x :: xs.set n a := rfl
theorem η {p : Prop} (h : p) : Go.RowKit.Hid p := Lib.hid h
theorem γ {α : Type _} {xs : Array α} {i : Nat} {a : α} (h : xs[i]? = some a) : i < xs.size := (Array.getElem?_eq_some_iff.1 h).1
theorem _root_.Go.RowKit.Hid.o {p : Prop} (h : Go.RowKit.Hid p) : p := h.out
theorem grA {a w : World} (h : Go.RowKit.Below a.heap.size a w := by repeat (first | with_reducible assumption | with_reducible exact Grow.refl _ | with_reducible apply Grow.drewN | with_reducible apply Grow.drew | with_reducible apply Grow.alloc | (refine Grow.setCell ?_ (by simp; done) _))) : Go.RowKit.Below a.heap.size a w := h
theorem grB {a w : World} (h : Go.RowKit.Below a.heap.size a w := by repeat (first | with_reducible assumption | with_reducible exact Grow.refl _ | with_reducible apply Grow.drewN | with_reducible apply Grow.drew | with_reducible apply Grow.alloc | (refine Grow.trans ?_ (by with_reducible assumption)))) : Go.RowKit.Below a.heap.size a w := h
end Go.Proofs.YthfgeelcbcgahaaGreatDoor
namespace Go.Proofs.YthfgeelcbcgahaaGreatDoor
open Go.RowKit
abbrev CM:=Addr→Option Value
def Sub (c c':CM):Prop:=∀a v,c a=some v→c' a=some v
theorem Sub.refl (c:CM):Sub c c:=fun _ _ h=>h
theorem Sub.trans {a b c:CM} (h:Sub a b) (k:Sub b c):Sub a c:=fun x v e=>k x v (h x v e)
theorem Sub.below {w w':World} (h:Below w.heap.size w w'):Sub w.cell? w'.cell?:=fun a v e=>by
 rw [h.cell (World.block_lt_of_cell? w a e)];exact e
abbrev Grow (w w':World):Prop:=Below w.heap.size w w'
theorem Grow.refl (w:World):Grow w w:=Below.refl _ _
theorem Grow.trans {a b c:World} (h:Grow a b) (k:Grow b c):Grow a c:=Below.trans h (k.mono h.size)
theorem Grow.alloc {a w:World} (h:Grow a w) (o:Obj):Grow a (w.alloc o):=Below.alloc h h.size o
theorem Grow.drew {a w:World} (h:Grow a w):Grow a w.drew:=Below.drew h
theorem Grow.drewN {a w:World} (h:Grow a w) (n:Nat):Grow a (w.drewN n):=below_drewN h n
theorem Grow.setCell {a w:World} (h:Grow a w) {p:Addr} (hp:a.heap.size≤p.block) (u:Value):Grow a (w.setCell p u):=Below.setCell h hp u
theorem Grow.grown {a w w':World} {row:Option Nat} (h:Grow a w) (hg:w.grownBy w' row) (hr:∀k,row=some k→a.heap.size≤k):Grow a w':=Below.grown h hg h.size hr
theorem Grow.sub {w w':World} (h:Grow w w'):Sub w.cell? w'.cell?:=Sub.below h
theorem bcell {W w1:World} (hb:Grow W w1):(∀b o,b<W.heap.size→w1.cell? ⟨b,o,none⟩=W.cell? ⟨b,o,none⟩)∧(∀b o,b<W.heap.size→w1.frozen? ⟨b,o,none⟩=W.frozen? ⟨b,o,none⟩):=
 ⟨fun b o h=>hb.cell (p:=⟨b,o,none⟩) h,fun b o h=>hb.frozen (p:=⟨b,o,none⟩) h⟩
theorem ret_int {k:IntKind} {a b:Int} (h:a=b):Ending.returned (.int k a)=.returned (.int k b):=by rw [h]
theorem ret_bool {a b:Bool} (h:a=b):Ending.returned (.bool a)=.returned (.bool b):=by rw [h]
def At (c:CM) (b o:Nat) (xs:List Value):Prop:=∀j v,xs[j]? =some v→c ⟨b,o+j,none⟩=some v
theorem At.mono {c c':CM} {b o:Nat} {xs:List Value} (h:Sub c c') (k:At c b o xs):At c' b o xs:=fun j v e=>h _ _ (k j v e)
structure Ty (α:Type) where
 size:Nat
 R:CM→List Value→α→Prop
 len:∀{c cs x},R c cs x→cs.length=size
 mono:∀{c c' cs x},Sub c c'→R c cs x→R c' cs x
def Sl {α:Type} (T:Ty α) (c:CM) (v:Value) (l:List α):Prop:=
 ∃a cap,v=.slice a l.length cap∧l.length≤cap∧cap≤maxLen∧(a=none→cap=0)∧
  ∀i x,l[i]? =some x→∃b o cs,a=some ⟨b,o,none⟩∧T.R c cs x∧At c b (o+i*T.size) cs
theorem Sl.mono {α:Type} {T:Ty α} {c c':CM} {v:Value} {l:List α} (h:Sub c c') (k:Sl T c v l):Sl T c' v l:=by
 obtain⟨a,cap,hv,h1,h2,h0,h3⟩:=k
 refine⟨a,cap,hv,h1,h2,h0,fun i x e=>?_⟩
 obtain⟨b,o,cs,ha,hR,hA⟩:=h3 i x e
 exact⟨b,o,cs,ha,T.mono h hR,hA.mono h⟩
def Ty.sl {α:Type} (T:Ty α):Ty (List α) where
 size:=1
 R:=fun c cs l=>∃v,cs=[v]∧Sl T c v l
 len:=by rintro c cs x ⟨v,rfl,_⟩;rfl
 mono:=by rintro c c' cs x h ⟨v,rfl,k⟩;exact⟨v,rfl,k.mono h⟩
def I64 (n:Int):Prop:=(Lit.int .i64 n).wf=true
def Ty.int:Ty Int where
 size:=1
 R:=fun _ cs n=>cs=[.int .i64 n]∧I64 n
 len:=by rintro c cs x ⟨rfl,_⟩;rfl
 mono:=by rintro c c' cs x _ h;exact h
structure Pt where
 h:Int
 k:Int
 n:Int
 deriving DecidableEq
def Pt.cells (p:Pt):List Value:=[.int .i64 p.h,.int .i64 p.k,.int .i64 p.n]
def Ty.pt:Ty Pt where
 size:=3
 R:=fun _ cs p=>cs=p.cells∧I64 p.h∧I64 p.k∧I64 p.n
 len:=by rintro c cs x ⟨rfl,_⟩;rfl
 mono:=by rintro c c' cs x _ h;exact h
abbrev Pts:=Sl Ty.pt
theorem flatMap_at {α:Type} {f:α→List Value} {size:Nat} (h0:0<size) (hf:∀x,(f x).length=size):∀(l:List α) (j:Nat),(l.flatMap f)[j]? =(l[j/size]?).bind fun x=>(f x)[j % size]?:=by
 intro l
 induction l with
 |nil=>intro j;simp
 |cons x l ih=>
  intro j
  rw [List.flatMap_cons]
  by_cases hj:j<size
  ·rw [List.getElem?_append_left (by rw [hf];exact hj),Nat.div_eq_of_lt hj,Nat.mod_eq_of_lt hj];rfl
  ·rw [List.getElem?_append_right (by rw [hf];omega),hf,ih,Nat.mod_eq_sub_mod (by omega:size≤j),Nat.div_eq_sub_div h0 (by omega:size≤j)]
   simp
theorem flat_cells {α:Type} {f:α→List Value} {size:Nat} (h0:0<size) (hf:∀x,(f x).length=size) {c:CM} {a:Option Addr} {l:List α}
  (h:∀i x,l[i]? =some x→∃b o,a=some ⟨b,o,none⟩∧At c b (o+i*size) (f x)):∀ad,a=some ad→∀j u,(l.flatMap f)[j]? =some u→c (ad.add j)=some u:=by
 rintro ad rfl j u hu
 rw [flatMap_at h0 hf] at hu
 cases hx:l[j/size]? with
 |none=>rw [hx] at hu;cases hu
 |some x=>
  rw [hx] at hu
  obtain⟨b,o,ha,hA⟩:=h _ x hx
  obtain rfl:=Option.some.inj ha
  have:=hA _ u hu
  rw [Nat.add_assoc,Nat.mul_comm,Nat.div_add_mod] at this
  rw [Addr.add_lit];exact this
theorem sl_of_own {α:Type} {T:Ty α} {f:α→List Value} (h0:0<T.size) (hf:∀x,(f x).length=T.size) {w:World} {base:Nat} {e:TypeId} {v:Value} {l:List α} (h:w.ownsRow base e T.size v l.length (l.flatMap f)) (hR:∀x∈l,T.R w.cell? (f x) x):Sl T w.cell? v l:=by
 obtain⟨hl,⟨rfl,hn⟩|⟨g,cap,cur,rfl,hg,hrow,hnc,hcm,hcs,htake⟩⟩:=h
 ·have:l=[]:=List.eq_nil_of_length_eq_zero hn
  subst this
  exact⟨none,0,rfl,Nat.le_refl _,Nat.zero_le _,fun _=>rfl,fun i x e=>by simp at e⟩
 ·refine⟨some ⟨g,0,none⟩,cap,rfl,hnc,hcm,by simp,fun i x e=>⟨g,0,f x,rfl,hR x (List.mem_of_getElem? e),fun j u hu=>?_⟩⟩
  have hi:i<l.length:=(List.getElem?_eq_some_iff.1 e).1
  have hj:j<T.size:=by rw [←hf x];exact(List.getElem?_eq_some_iff.1 hu).1
  have hx:(l.flatMap f)[i*T.size+j]? =some u:=by
   rw [flatMap_at h0 hf,Nat.mul_comm,Nat.mul_add_div h0,Nat.div_eq_of_lt hj,Nat.add_zero,e,Nat.mul_add_mod,Nat.mod_eq_of_lt hj];exact hu
  rw [←htake,List.getElem?_take] at hx
  split at hx
  ·simp only [World.cell?,hrow];simpa using hx
  ·cases hx
theorem Pts.at_ {c:CM} {a:Option Addr} {l:List Pt} (h:∀i x,l[i]? =some x→∃b o cs,a=some ⟨b,o,none⟩∧Ty.pt.R c cs x∧At c b (o+i*Ty.pt.size) cs) (k:Nat) (hk:k<l.length):
  ∃b o,a=some ⟨b,o,none⟩∧c ⟨b,o+k*3,none⟩=some (.int .i64 l[k].h)∧c ⟨b,o+k*3+1,none⟩=some (.int .i64 l[k].k)∧c ⟨b,o+k*3+2,none⟩=some (.int .i64 l[k].n)∧I64 l[k].h∧I64 l[k].k∧I64 l[k].n:=by
 obtain⟨b,o,cs,ha,⟨rfl,h1,h2,h3⟩,hA⟩:=h k l[k] (by simp [hk])
 exact⟨b,o,ha,hA 0 _ rfl,hA 1 _ rfl,hA 2 _ rfl,h1,h2,h3⟩
def ptCells (l:List Pt):List Value:=l.flatMap Pt.cells
def PtsOk (l:List Pt):Prop:=∀p∈l,I64 p.h∧I64 p.k∧I64 p.n
theorem Pts.ok {c:CM} {v:Value} {l:List Pt} (h:Pts c v l):PtsOk l:=by
 obtain⟨a,cap,rfl,h1,h2,h0,hel⟩:=h
 intro p hp
 obtain⟨i,hi⟩:=List.mem_iff_getElem?.1 hp
 obtain⟨b,o,cs,ha,⟨rfl,h⟩,hA⟩:=hel i p hi
 exact h
theorem Pts.of_own {w:World} {base:Nat} {e:TypeId} {v:Value} {l:List Pt} (h:w.ownsRow base e 3 v l.length (ptCells l)) (hok:PtsOk l):Pts w.cell? v l:=
 sl_of_own (T:=Ty.pt) (f:=Pt.cells) (by decide) (fun _=>rfl) h fun x hx=>⟨rfl,hok x hx⟩
def byteCell (b:UInt8):List Value:=[.int .u8 b.toNat]
def Ty.byte:Ty UInt8 where
 size:=1
 R:=fun _ cs b=>cs=byteCell b
 len:=by rintro c cs x rfl;rfl
 mono:=by rintro c c' cs x _ h;exact h
abbrev Bts:=Sl Ty.byte
def intCell (n:Int):List Value:=[.int .i64 n]
abbrev Ints:=Sl Ty.int
theorem Ints.of_own {w:World} {base:Nat} {e:TypeId} {v:Value} {l:List Int} (h:w.ownsRow base e 1 v l.length (l.flatMap intCell)) (hok:∀x∈l,I64 x):Ints w.cell? v l:=
 sl_of_own (T:=Ty.int) (f:=intCell) (by decide) (fun _=>rfl) h fun x hx=>⟨rfl,hok x hx⟩
theorem Bts.of_own {w:World} {base:Nat} {e:TypeId} {v:Value} {l:List UInt8} (h:w.ownsRow base e 1 v l.length (l.flatMap byteCell)):Bts w.cell? v l:=
 sl_of_own (T:=Ty.byte) (f:=byteCell) (by decide) (fun _=>rfl) h fun x hx=>rfl
theorem flat_len {α:Type} {f:α→List Value} {size:Nat} (hf:∀x,(f x).length=size):∀l:List α,(l.flatMap f).length=l.length*size
 | []=>by simp
 |x::l=>by rw [List.flatMap_cons,List.length_append,hf,flat_len hf l,List.length_cons,Nat.add_mul];omega
theorem flat_one {α:Type} {f:α→List Value} (hf:∀x,∀u∈f x,u.oneCell'=true) (l:List α):∀u∈l.flatMap f,u.oneCell'=true:=by
 intro u hu
 obtain⟨x,_,hx⟩:=List.mem_flatMap.1 hu
 exact hf x u hx
theorem one_pt (x:Pt):∀u∈x.cells,u.oneCell'=true:=by
 intro u hu
 simp only [Pt.cells,List.mem_cons,List.not_mem_nil,or_false] at hu
 rcases hu with rfl|rfl|rfl<;>rfl
theorem one_int (x:Int):∀u∈intCell x,u.oneCell'=true:=by
 intro u hu
 simp only [intCell,List.mem_cons,List.not_mem_nil,or_false] at hu
 subst hu;rfl
theorem one_byte (x:UInt8):∀u∈byteCell x,u.oneCell'=true:=by
 intro u hu
 simp only [byteCell,List.mem_cons,List.not_mem_nil,or_false] at hu
 subst hu;rfl
structure Sm where
 a:Int
 b:Int
 c:Int
 d:Int
 deriving DecidableEq
def Sm.cells (s:Sm):List Value:=[.int .i64 s.a,.int .i64 s.b,.int .i64 s.c,.int .i64 s.d]
theorem one_sm (x:Sm):∀u∈x.cells,u.oneCell'=true:=by
 intro u hu
 simp only [Sm.cells,List.mem_cons,List.not_mem_nil,or_false] at hu
 rcases hu with rfl|rfl|rfl|rfl<;>rfl
def Ty.sm:Ty Sm where
 size:=4
 R:=fun _ cs s=>cs=s.cells∧I64 s.a∧I64 s.b∧I64 s.c∧I64 s.d
 len:=by rintro c cs x ⟨rfl,_⟩;rfl
 mono:=by rintro c c' cs x _ h;exact h
abbrev Sms:=Sl Ty.sm
abbrev Ty.pts:=Ty.sl Ty.pt
structure Rc where
 kind:Int
 deed:Int
 parts:List Pt
 deriving DecidableEq
def Ty.rc:Ty Rc where
 size:=3
 R:=fun c cs x=>∃vparts:Value,cs=[.int .i64 x.kind,.int .i64 x.deed,vparts]∧I64 x.kind∧I64 x.deed∧Sl Ty.pt c vparts x.parts
 len:=by rintro c cs x ⟨vparts,rfl,_⟩;rfl
 mono:=by rintro c c' cs x h ⟨vparts,rfl,h1,h2,h3⟩;exact⟨vparts,rfl,h1,h2,h3.mono h⟩
abbrev Rcs:=Sl Ty.rc
theorem Rcs.at_ {c:CM} {a:Option Addr} {l:List Rc} (h:∀i x,l[i]? =some x→∃b o cs,a=some ⟨b,o,none⟩∧Ty.rc.R c cs x∧At c b (o+i*Ty.rc.size) cs) (k:Nat) (hk:k<l.length):
  ∃b o vparts,a=some ⟨b,o,none⟩∧c ⟨b,o+k*3,none⟩=some (.int .i64 l[k].kind)∧c ⟨b,o+k*3+1,none⟩=some (.int .i64 l[k].deed)∧c ⟨b,o+k*3+2,none⟩=some vparts∧I64 l[k].kind∧I64 l[k].deed∧Sl Ty.pt c vparts l[k].parts:=by
 obtain⟨b,o,cs,ha,⟨vparts,rfl,hR⟩,hA⟩:=h k l[k] (by simp [hk])
 exact⟨b,o,vparts,ha,hA 0 _ rfl,hA 1 _ rfl,hA 2 _ rfl,hR⟩
structure Rd where
 deed:Int
 parts:List Pt
 deriving DecidableEq
def Ty.rd:Ty Rd where
 size:=2
 R:=fun c cs x=>∃vparts:Value,cs=[.int .i64 x.deed,vparts]∧I64 x.deed∧Sl Ty.pt c vparts x.parts
 len:=by rintro c cs x ⟨vparts,rfl,_⟩;rfl
 mono:=by rintro c c' cs x h ⟨vparts,rfl,h1,h2⟩;exact⟨vparts,rfl,h1,h2.mono h⟩
abbrev Rds:=Sl Ty.rd
theorem Rds.at_ {c:CM} {a:Option Addr} {l:List Rd} (h:∀i x,l[i]? =some x→∃b o cs,a=some ⟨b,o,none⟩∧Ty.rd.R c cs x∧At c b (o+i*Ty.rd.size) cs) (k:Nat) (hk:k<l.length):
  ∃b o vparts,a=some ⟨b,o,none⟩∧c ⟨b,o+k*2,none⟩=some (.int .i64 l[k].deed)∧c ⟨b,o+k*2+1,none⟩=some vparts∧I64 l[k].deed∧Sl Ty.pt c vparts l[k].parts:=by
 obtain⟨b,o,cs,ha,⟨vparts,rfl,hR⟩,hA⟩:=h k l[k] (by simp [hk])
 exact⟨b,o,vparts,ha,hA 0 _ rfl,hA 1 _ rfl,hR⟩
structure Opn where
 deed:Int
 parts:List Pt
 dec:Bool
 heard:List Int
 deriving DecidableEq
def Ty.opn:Ty Opn where
 size:=4
 R:=fun c cs x=>∃vparts vheard:Value,cs=[.int .i64 x.deed,vparts,.bool x.dec,vheard]∧I64 x.deed∧Sl Ty.pt c vparts x.parts∧Sl Ty.int c vheard x.heard
 len:=by rintro c cs x ⟨vparts,vheard,rfl,_⟩;rfl
 mono:=by rintro c c' cs x h ⟨vparts,vheard,rfl,h1,h2,h3⟩;exact⟨vparts,vheard,rfl,h1,h2.mono h,h3.mono h⟩
abbrev Opns:=Sl Ty.opn
theorem Opns.at_ {c:CM} {a:Option Addr} {l:List Opn} (h:∀i x,l[i]? =some x→∃b o cs,a=some ⟨b,o,none⟩∧Ty.opn.R c cs x∧At c b (o+i*Ty.opn.size) cs) (k:Nat) (hk:k<l.length):
  ∃b o vparts vheard,a=some ⟨b,o,none⟩∧c ⟨b,o+k*4,none⟩=some (.int .i64 l[k].deed)∧c ⟨b,o+k*4+1,none⟩=some vparts∧c ⟨b,o+k*4+2,none⟩=some (.bool l[k].dec)∧c ⟨b,o+k*4+3,none⟩=some vheard∧I64 l[k].deed∧Sl Ty.pt c vparts l[k].parts∧Sl Ty.int c vheard l[k].heard:=by
 obtain⟨b,o,cs,ha,⟨vparts,vheard,rfl,hR⟩,hA⟩:=h k l[k] (by simp [hk])
 exact⟨b,o,vparts,vheard,ha,hA 0 _ rfl,hA 1 _ rfl,hA 2 _ rfl,hA 3 _ rfl,hR⟩
structure Ms where
 kind:Int
 deed:Int
 house:Int
 parts:List Pt
 deriving DecidableEq
def Ty.ms:Ty Ms where
 size:=4
 R:=fun c cs x=>∃vparts:Value,cs=[.int .i64 x.kind,.int .i64 x.deed,.int .i64 x.house,vparts]∧I64 x.kind∧I64 x.deed∧I64 x.house∧Sl Ty.pt c vparts x.parts
 len:=by rintro c cs x ⟨vparts,rfl,_⟩;rfl
 mono:=by rintro c c' cs x h ⟨vparts,rfl,h1,h2,h3,h4⟩;exact⟨vparts,rfl,h1,h2,h3,h4.mono h⟩
abbrev Mss:=Sl Ty.ms
theorem Mss.at_ {c:CM} {a:Option Addr} {l:List Ms} (h:∀i x,l[i]? =some x→∃b o cs,a=some ⟨b,o,none⟩∧Ty.ms.R c cs x∧At c b (o+i*Ty.ms.size) cs) (k:Nat) (hk:k<l.length):
  ∃b o vparts,a=some ⟨b,o,none⟩∧c ⟨b,o+k*4,none⟩=some (.int .i64 l[k].kind)∧c ⟨b,o+k*4+1,none⟩=some (.int .i64 l[k].deed)∧c ⟨b,o+k*4+2,none⟩=some (.int .i64 l[k].house)∧c ⟨b,o+k*4+3,none⟩=some vparts∧I64 l[k].kind∧I64 l[k].deed∧I64 l[k].house∧Sl Ty.pt c vparts l[k].parts:=by
 obtain⟨b,o,cs,ha,⟨vparts,rfl,hR⟩,hA⟩:=h k l[k] (by simp [hk])
 exact⟨b,o,vparts,ha,hA 0 _ rfl,hA 1 _ rfl,hA 2 _ rfl,hA 3 _ rfl,hR⟩
structure St where
 kind:Int
 n:Int
 parts:List Pt
 deriving DecidableEq
def Ty.st:Ty St where
 size:=3
 R:=fun c cs x=>∃vparts:Value,cs=[.int .i64 x.kind,.int .i64 x.n,vparts]∧I64 x.kind∧I64 x.n∧Sl Ty.pt c vparts x.parts
 len:=by rintro c cs x ⟨vparts,rfl,_⟩;rfl
 mono:=by rintro c c' cs x h ⟨vparts,rfl,h1,h2,h3⟩;exact⟨vparts,rfl,h1,h2,h3.mono h⟩
abbrev Sts:=Sl Ty.st
theorem Sts.at_ {c:CM} {a:Option Addr} {l:List St} (h:∀i x,l[i]? =some x→∃b o cs,a=some ⟨b,o,none⟩∧Ty.st.R c cs x∧At c b (o+i*Ty.st.size) cs) (k:Nat) (hk:k<l.length):
  ∃b o vparts,a=some ⟨b,o,none⟩∧c ⟨b,o+k*3,none⟩=some (.int .i64 l[k].kind)∧c ⟨b,o+k*3+1,none⟩=some (.int .i64 l[k].n)∧c ⟨b,o+k*3+2,none⟩=some vparts∧I64 l[k].kind∧I64 l[k].n∧Sl Ty.pt c vparts l[k].parts:=by
 obtain⟨b,o,cs,ha,⟨vparts,rfl,hR⟩,hA⟩:=h k l[k] (by simp [hk])
 exact⟨b,o,vparts,ha,hA 0 _ rfl,hA 1 _ rfl,hA 2 _ rfl,hR⟩
structure Hs where
 log:List Rc
 sums:Sm
 ready:List Rd
 done:List Int
 deriving DecidableEq
def Ty.hs:Ty Hs where
 size:=7
 R:=fun c cs x=>∃vlog vready vdone:Value,cs=[vlog,.int .i64 x.sums.a,.int .i64 x.sums.b,.int .i64 x.sums.c,.int .i64 x.sums.d,vready,vdone]∧Sl Ty.rc c vlog x.log∧I64 x.sums.a∧I64 x.sums.b∧I64 x.sums.c∧I64 x.sums.d∧Sl Ty.rd c vready x.ready∧Sl Ty.int c vdone x.done
 len:=by rintro c cs x ⟨vlog,vready,vdone,rfl,_⟩;rfl
 mono:=by rintro c c' cs x h ⟨vlog,vready,vdone,rfl,h1,h2,h3,h4,h5,h6,h7⟩;exact⟨vlog,vready,vdone,rfl,h1.mono h,h2,h3,h4,h5,h6.mono h,h7.mono h⟩
abbrev Hss:=Sl Ty.hs
theorem Hss.at_ {c:CM} {a:Option Addr} {l:List Hs} (h:∀i x,l[i]? =some x→∃b o cs,a=some ⟨b,o,none⟩∧Ty.hs.R c cs x∧At c b (o+i*Ty.hs.size) cs) (k:Nat) (hk:k<l.length):
  ∃b o vlog vready vdone,a=some ⟨b,o,none⟩∧c ⟨b,o+k*7,none⟩=some vlog∧c ⟨b,o+k*7+1,none⟩=some (.int .i64 l[k].sums.a)∧c ⟨b,o+k*7+2,none⟩=some (.int .i64 l[k].sums.b)∧c ⟨b,o+k*7+3,none⟩=some (.int .i64 l[k].sums.c)∧c ⟨b,o+k*7+4,none⟩=some (.int .i64 l[k].sums.d)∧c ⟨b,o+k*7+5,none⟩=some vready∧c ⟨b,o+k*7+6,none⟩=some vdone∧Sl Ty.rc c vlog l[k].log∧I64 l[k].sums.a∧I64 l[k].sums.b∧I64 l[k].sums.c∧I64 l[k].sums.d∧Sl Ty.rd c vready l[k].ready∧Sl Ty.int c vdone l[k].done:=by
 obtain⟨b,o,cs,ha,⟨vlog,vready,vdone,rfl,hR⟩,hA⟩:=h k l[k] (by simp [hk])
 exact⟨b,o,vlog,vready,vdone,ha,hA 0 _ rfl,hA 1 _ rfl,hA 2 _ rfl,hA 3 _ rfl,hA 4 _ rfl,hA 5 _ rfl,hA 6 _ rfl,hR⟩
structure Hd where
 log:List Rc
 boot:Int
 next:Int
 opn:List Opn
 deriving DecidableEq
def Ty.hd:Ty Hd where
 size:=4
 R:=fun c cs x=>∃vlog vopn:Value,cs=[vlog,.int .i64 x.boot,.int .i64 x.next,vopn]∧Sl Ty.rc c vlog x.log∧I64 x.boot∧I64 x.next∧Sl Ty.opn c vopn x.opn
 len:=by rintro c cs x ⟨vlog,vopn,rfl,_⟩;rfl
 mono:=by rintro c c' cs x h ⟨vlog,vopn,rfl,h1,h2,h3,h4⟩;exact⟨vlog,vopn,rfl,h1.mono h,h2,h3,h4.mono h⟩
abbrev Hds:=Sl Ty.hd
theorem Hds.at_ {c:CM} {a:Option Addr} {l:List Hd} (h:∀i x,l[i]? =some x→∃b o cs,a=some ⟨b,o,none⟩∧Ty.hd.R c cs x∧At c b (o+i*Ty.hd.size) cs) (k:Nat) (hk:k<l.length):
  ∃b o vlog vopn,a=some ⟨b,o,none⟩∧c ⟨b,o+k*4,none⟩=some vlog∧c ⟨b,o+k*4+1,none⟩=some (.int .i64 l[k].boot)∧c ⟨b,o+k*4+2,none⟩=some (.int .i64 l[k].next)∧c ⟨b,o+k*4+3,none⟩=some vopn∧Sl Ty.rc c vlog l[k].log∧I64 l[k].boot∧I64 l[k].next∧Sl Ty.opn c vopn l[k].opn:=by
 obtain⟨b,o,cs,ha,⟨vlog,vopn,rfl,hR⟩,hA⟩:=h k l[k] (by simp [hk])
 exact⟨b,o,vlog,vopn,ha,hA 0 _ rfl,hA 1 _ rfl,hA 2 _ rfl,hA 3 _ rfl,hR⟩
abbrev Ty.bts:=Ty.sl Ty.byte
structure Wd where
 head:Hd
 houses:List Hs
 net:List (List UInt8)
 deriving DecidableEq
def Of {α:Type} (T:Ty α) (c:CM) (v:Value) (x:α):Prop:=∃cs:List Value,v=.agg cs.toArray∧T.R c cs x
theorem Of.mono {α:Type} {T:Ty α} {c c':CM} {v:Value} {x:α} (h:Sub c c') (k:Of T c v x):Of T c' v x:=by
 obtain⟨cs,rfl,hR⟩:=k
 exact⟨cs,rfl,T.mono h hR⟩
theorem intAt {c:CM} {a:Option Addr} {l:List Int} (h:∀i x,l[i]? =some x→∃b o cs,a=some ⟨b,o,none⟩∧Ty.int.R c cs x∧At c b (o+i*Ty.int.size) cs) (k:Nat) (hk:k<l.length):
  ∃b o,a=some ⟨b,o,none⟩∧c ⟨b,o+k,none⟩=some (.int .i64 l[k])∧I64 l[k]:=by
 obtain⟨b,o,cs,ha,⟨rfl,hR⟩,hA⟩:=h k l[k] (by simp [hk])
 refine⟨b,o,ha,?_,hR⟩
 have:=hA 0 _ rfl
 simpa [Ty.int] using this
theorem byteAt {c:CM} {a:Option Addr} {l:List UInt8} (h:∀i x,l[i]? =some x→∃b o cs,a=some ⟨b,o,none⟩∧Ty.byte.R c cs x∧At c b (o+i*Ty.byte.size) cs) (k:Nat) (hk:k<l.length):
  ∃b o,a=some ⟨b,o,none⟩∧c ⟨b,o+k,none⟩=some (.int .u8 (l[k].toNat:Int)):=by
 obtain⟨b,o,cs,ha,rfl,hA⟩:=h k l[k] (by simp [hk])
 refine⟨b,o,ha,?_⟩
 have:=hA 0 _ rfl
 simpa [Ty.byte] using this
theorem smAt {c:CM} {a:Option Addr} {l:List Sm} (h:∀i x,l[i]? =some x→∃b o cs,a=some ⟨b,o,none⟩∧Ty.sm.R c cs x∧At c b (o+i*Ty.sm.size) cs) (k:Nat) (hk:k<l.length):
  ∃b o,a=some ⟨b,o,none⟩∧c ⟨b,o+k*4,none⟩=some (.int .i64 l[k].a)∧c ⟨b,o+k*4+1,none⟩=some (.int .i64 l[k].b)∧c ⟨b,o+k*4+2,none⟩=some (.int .i64 l[k].c)∧c ⟨b,o+k*4+3,none⟩=some (.int .i64 l[k].d)∧I64 l[k].a∧I64 l[k].b∧I64 l[k].c∧I64 l[k].d:=by
 obtain⟨b,o,cs,ha,⟨rfl,hR⟩,hA⟩:=h k l[k] (by simp [hk])
 exact⟨b,o,ha,hA 0 _ rfl,hA 1 _ rfl,hA 2 _ rfl,hA 3 _ rfl,hR⟩
structure EI (P:Program) (t e:TypeId) (size bytes:Nat):Prop where
 ht:P.underlying t=some (.slice e)
 hi:∃i z,P.info? e=some i∧i.zero=some z∧i.size=size∧i.bytes=bytes∧z.cells.size=size∧0<size∧∀u∈z.cells,u.oneCell'=true
theorem EI.mk' {P:Program} {t e:TypeId} {size bytes:Nat} {z:Value} (ht:P.underlying t=some (.slice e)) (h:(P.info? e).map (fun i=>(i.zero,i.size,i.bytes))=some (some z,size,bytes)) (hz:z.cells.size=size) (h0:0<size) (h1:z.cells.toList.all (fun u=>u.oneCell')=true):EI P t e size bytes:=by
 obtain⟨i,hi,h1',h2,h3⟩:=info_parts h
 exact⟨ht,i,z,hi,h1',h2,h3,hz,h0,fun u hu=>by simpa using List.all_eq_true.1 h1 u (by simpa using hu)⟩
theorem ei_pt:EI Tryz.prog 26 31 3 24:=EI.mk' (z:=.agg #[.int .i64 0,.int .i64 0,.int .i64 0]) (by kernel_rfl) (by kernel_rfl) rfl (by decide) rfl
theorem ei_int:EI Tryz.prog 47 3 1 8:=EI.mk' (z:=.int .i64 0) (by kernel_rfl) (by kernel_rfl) rfl (by decide) rfl
theorem ei_byte:EI Tryz.prog 139 5 1 1:=EI.mk' (z:=.int .u8 0) (by kernel_rfl) (by kernel_rfl) rfl (by decide) rfl
theorem ei_sm:EI Tryz.prog 44 48 4 32:=EI.mk' (z:=.agg #[.int .i64 0,.int .i64 0,.int .i64 0,.int .i64 0]) (by kernel_rfl) (by kernel_rfl) rfl (by decide) rfl
theorem ei_rc:EI Tryz.prog 32 81 3 40:=EI.mk' (z:=.agg #[.int .i64 0,.int .i64 0,.slice none 0 0]) (by kernel_rfl) (by kernel_rfl) rfl (by decide) rfl
theorem ei_rd:EI Tryz.prog 62 77 2 32:=EI.mk' (z:=.agg #[.int .i64 0,.slice none 0 0]) (by kernel_rfl) (by kernel_rfl) rfl (by decide) rfl
theorem ei_opn:EI Tryz.prog 33 147 4 64:=EI.mk' (z:=.agg #[.int .i64 0,.slice none 0 0,.bool false,.slice none 0 0]) (by kernel_rfl) (by kernel_rfl) rfl (by decide) rfl
theorem ei_ms:EI Tryz.prog 100 95 4 48:=EI.mk' (z:=.agg #[.int .i64 0,.int .i64 0,.int .i64 0,.slice none 0 0]) (by kernel_rfl) (by kernel_rfl) rfl (by decide) rfl
theorem ei_bts:EI Tryz.prog 37 139 1 24:=EI.mk' (z:=.slice none 0 0) (by kernel_rfl) (by kernel_rfl) rfl (by decide) rfl
theorem ei_errno:EI Tryz.prog 54 55 1 8:=EI.mk' (z:=.int .i64 0) (by kernel_rfl) (by kernel_rfl) rfl (by decide) rfl
theorem app_own {P:Program} {t e:TypeId} {size bytes:Nat} (hE:EI P t e size bytes) {W w:World} {ops:Array Oper} {rest:List Oper} {o:Oper} {a:Act} {Q:Exit→Act→World→Prop} (hgd:o.guard=none) (s x:Operand)
  (ho:o.op=.call { callee:=.builtin .append,args:=#[s,x],argTypes:=#[t,t] }) (hG:Grow W w)
  {v:Value} {n:Nat} {xs:List Value} (hs:a.eval s=v) (hown:w.ownsRow W.heap.size e size v n xs)
  (ad:Addr) (m c:Nat) (news:List Value) (hx:a.eval x=.slice (some ad) m c) (hl:news.length=m*size) (hnews:∀j u,news[j]? =some u→w.cell? (ad.add j)=some u) (h1:∀u∈news,u.oneCell'=true)
  (h63:n+m≤maxLen) (hbytes:(n+m)*bytes≤140737488355328)
  (h:∀v' w',w'.ownsRow W.heap.size e size v' (n+m) (xs++news)→Grow W w'→w.grownBy w' v.ownBlock→wpList P ops Q rest (a.put o.dst v') w'):wpList P ops Q (o::rest) a w:=by
 obtain⟨i,z,hi,hz,h2,h3,h4,h5,_⟩:=hE.hi
 exact wpList_append_own w hgd s x t ho W.heap.size e i z size bytes hE.ht hi hz h2 h3 h4 h5 v n xs hs hown ad m c news hx hl hnews h1 h63 hbytes hG.size fun v' w' a b _=>
  h v' w' a (hG.grown b fun k hk=>(hown.lt k hk).1) b
theorem new_cells (w:World) (c:Array Value) (t:TypeId):∀j u,c.toList[j]? =some u→(w.alloc (.cells c t)).cell? ((⟨w.heap.size,0,none⟩:Addr).add j)=some u:=by
 intro j u h
 have e:((⟨w.heap.size,0,none⟩:Addr).add j)=⟨w.heap.size,j,none⟩:=by unfold Addr.add;split<;>simp_all
 rw [e,World.cell?_alloc_new]
 simpa using h
theorem app1 {P:Program} {t e:TypeId} {size bytes:Nat} (hE:EI P t e size bytes) {W w0:World} {c:Array Value} {ops:Array Oper} {rest:List Oper} {o:Oper} {a:Act} {Q:Exit→Act→World→Prop} (hgd:o.guard=none) (s x:Operand)
  (ho:o.op=.call { callee:=.builtin .append,args:=#[s,x],argTypes:=#[t,t] }) (hG:Grow W w0)
  {v:Value} {n:Nat} {xs:List Value} (hs:a.eval s=v) (hown:w0.ownsRow W.heap.size e size v n xs)
  {g:Nat} (hx:a.eval x=.slice (some ⟨g,0,none⟩) 1 1) (hg:g=w0.heap.size) (hl:c.toList.length=size) (h1:∀u∈c.toList,u.oneCell'=true)
  (hbytes:(n+1)*bytes≤140737488355328) (hb0:0<bytes)
  (h:∀v' w',w'.ownsRow W.heap.size e size v' (n+1) (xs++c.toList)→Grow W w'→(w0.alloc (.cells c e)).grownBy w' v.ownBlock→wpList P ops Q rest (a.put o.dst v') w'):wpList P ops Q (o::rest) a (w0.alloc (.cells c e)):=by
 subst hg
 exact app_own hE hgd s x ho (hG.alloc _) hs (hown.alloc _) _ 1 1 c.toList hx (by omega) (new_cells w0 c e) h1 (by
  have h2:n+1≤(n+1)*bytes:=Nat.le_mul_of_pos_right _ hb0
  unfold maxLen;omega) hbytes h
def idxOf {α:Type} (p:α→Bool) (l:List α):Int:=match l.findIdx? p with|some i=>i|none=>-1
theorem idxOf_nonneg {α:Type} (p:α→Bool) (l:List α):decide (0≤idxOf p l)=l.any p:=by
 unfold idxOf
 cases h:l.findIdx? p with
 |none=>
  rw [List.findIdx?_eq_none_iff] at h
  symm
  simp only [show decide ((0:Int)≤ -1)=false from rfl]
  rw [List.any_eq_false]
  intro x hx;simp [h x hx]
 |some i=>
  rw [List.findIdx?_eq_some_iff_getElem] at h
  obtain⟨hi,hp,_⟩:=h
  simp only [show decide ((0:Int)≤(i:Int))=true by simp]
  symm
  rw [List.any_eq_true]
  exact⟨l[i],List.getElem_mem _,hp⟩
structure Tells {α:Type} (P:Program) (T:Ty α) (val:List Value→Value) (w:World) (F:FuncId) (caps:Array Value) (l:List α) (p:α→Bool):Prop where
 ent:∀args w,(callFunc F args).run P w=.ok (.enter F args) w
 say:∀(wx:World) (cs:List Value) (x:α),Grow w wx→x∈l→T.R wx.cell? cs x→Calls P F (#[val cs]++caps) wx fun e w'=>e=.returned (.bool (p x))∧Grow wx w'
def aggOf (cs:List Value):Value:=.agg cs.toArray
def oneOf (cs:List Value):Value:=cs.getD 0 undef
theorem Tells.later {α:Type} {P:Program} {T:Ty α} {val:List Value→Value} {w w':World} {F:FuncId} {caps:Array Value} {l:List α} {p:α→Bool} (h:Tells P T val w F caps l p) (hg:Grow w w'):Tells P T val w' F caps l p:=
 ⟨h.ent,fun wx cs x hG=>h.say wx cs x (hg.trans hG)⟩
theorem idx_step {α:Type} {p:α→Bool} {l:List α} {k:Nat} (hlt:k<l.length) (hE:(l.take k).findIdx? p=none):
  (p l[k]=true→idxOf p l=(k:Int))∧(p l[k]=false→(l.take (k+1)).findIdx? p=none):=by
 constructor
 ·intro hq
  have:l.findIdx? p=some k:=by
   rw [List.findIdx?_eq_some_iff_getElem]
   refine⟨hlt,hq,fun j hj=>?_⟩
   rw [List.findIdx?_eq_none_iff] at hE
   have h:=hE l[j] (by rw [List.mem_take_iff_getElem];exact⟨j,by omega,rfl⟩)
   simpa using h
  rw [idxOf,this]
 ·intro hq
  rw [List.take_succ_eq_append_getElem hlt,List.findIdx?_append,hE];simp [hq]
set_option maxHeartbeats 400000 in
theorem indexFunc_pt {v:Value} {l:List Pt} {F:FuncId} {caps:Array Value} {p:Pt→Bool} (w:World) (hv:Sl Ty.pt w.cell? v l) (hp:Tells Tryz.prog Ty.pt aggOf w F caps l p):
  Calls Tryz.prog 94 #[v,.func (.func F) #[] caps] w fun e w'=>e=.returned (.int .i64 (idxOf p l))∧Grow w w':=by
 obtain⟨a,cap,rfl,h1,h2,-,hel⟩:=hv
 unfold maxLen at h2
 go_enter Tryz.func94,Tryz.ntmps94
 go_wp2
 go_loopw [4,5,8] (fun _ _ i wr=>∃k:Nat,k≤l.length∧i=.int .i64 k∧Grow w wr∧(l.take k).findIdx? p=none) (fun _ _ i _=>l.length - (intOf i).toNat)
 case atStart=>exact⟨0,by omega,rfl,Grow.refl _,rfl⟩
 case round=>
  obtain⟨k,hk',rfl,hb,hE⟩:=hrel
  have HE:=η hE
  clear hE
  by_cases hlt:k<l.length
  ·obtain⟨b,o,rfl,c0,c1,c2,hR⟩:=Pts.at_ hel k hlt
   replace c0:=hb.sub _ _ c0
   replace c1:=hb.sub _ _ c1
   replace c2:=hb.sub _ _ c2
   have HP:=η (hp.say wr l[k].cells l[k] hb (List.getElem_mem _) ⟨rfl,hR⟩)
   have eg:=hp.ent
   obtain⟨hq1,hq2⟩:=idx_step hlt HE.o
   clear HE hp hel hR
   simp only [Pt.cells,aggOf] at HP
   generalize l[k]=q at*
   have H1:=η hq1
   have H2:=η hq2
   clear hq1 hq2
   cases hq:p q
   ·rw [hq] at HP
    go_wp2_with (go_at_fn F;refine HP.o.mono ?_;rintro e w' ⟨rfl,hb'⟩)
    go_roundw
    case rel=>exact⟨k+1,by omega,by go_num,hb.trans hb',H2.o hq⟩
    case measure=>simp [intOf];omega
   ·rw [hq] at HP
    go_wp2_with (go_at_fn F;refine HP.o.mono ?_;rintro e w' ⟨rfl,hb'⟩)
    go_ret
    exact⟨ret_int (H1.o hq).symm,hb.trans hb'⟩
  ·clear hel hp
   go_wp2
   go_ret
   refine⟨ret_int ?_,hb⟩
   have h:=HE.o
   rw [List.take_of_length_le (by omega)] at h
   rw [idxOf,h]
set_option maxHeartbeats 400000 in
theorem containsFunc_pt {v:Value} {l:List Pt} {F:FuncId} {caps:Array Value} {p:Pt→Bool} (w:World) (hv:Sl Ty.pt w.cell? v l) (hp:Tells Tryz.prog Ty.pt aggOf w F caps l p):
  Calls Tryz.prog 61 #[v,.func (.func F) #[] caps] w fun e w'=>e=.returned (.bool (l.any p))∧Grow w w':=by
 have HI:=η (indexFunc_pt w hv hp)
 have HN:=η (idxOf_nonneg p l)
 clear hv hp
 generalize idxOf p l=i at*
 go_enter Tryz.func61,Tryz.ntmps61
 go_wp2_with (go_at_call 94;refine HI.o.mono ?_;rintro e w' ⟨rfl,hb'⟩)
 go_ret
 exact⟨ret_bool HN.o,hb'⟩
set_option maxHeartbeats 400000 in
theorem indexFunc_rd {v:Value} {l:List Rd} {F:FuncId} {caps:Array Value} {p:Rd→Bool} (w:World) (hv:Sl Ty.rd w.cell? v l) (hp:Tells Tryz.prog Ty.rd aggOf w F caps l p):
  Calls Tryz.prog 96 #[v,.func (.func F) #[] caps] w fun e w'=>e=.returned (.int .i64 (idxOf p l))∧Grow w w':=by
 obtain⟨a,cap,rfl,h1,h2,-,hel⟩:=hv
 unfold maxLen at h2
 go_enter Tryz.func96,Tryz.ntmps96
 go_wp2
 go_loopw [4,5,8] (fun _ _ i wr=>∃k:Nat,k≤l.length∧i=.int .i64 k∧Grow w wr∧(l.take k).findIdx? p=none) (fun _ _ i _=>l.length - (intOf i).toNat)
 case atStart=>exact⟨0,by omega,rfl,Grow.refl _,rfl⟩
 case round=>
  obtain⟨k,hk',rfl,hb,hE⟩:=hrel
  have HE:=η hE
  clear hE
  by_cases hlt:k<l.length
  ·obtain⟨b,o,v1,rfl,c0,c1,hR⟩:=Rds.at_ hel k hlt
   replace c0:=hb.sub _ _ c0
   replace c1:=hb.sub _ _ c1
   have HP:=η (hp.say wr [.int .i64 l[k].deed,v1] l[k] hb (List.getElem_mem _) ⟨v1,rfl,hR.1,hR.2.mono hb.sub⟩)
   have eg:=hp.ent
   obtain⟨hq1,hq2⟩:=idx_step hlt HE.o
   clear HE hp hel hR
   simp only [aggOf] at HP
   generalize l[k]=q at*
   have H1:=η hq1
   have H2:=η hq2
   clear hq1 hq2
   cases hq:p q
   ·rw [hq] at HP
    go_wp2_with (go_at_fn F;refine HP.o.mono ?_;rintro e w' ⟨rfl,hb'⟩)
    go_roundw
    case rel=>exact⟨k+1,by omega,by go_num,hb.trans hb',H2.o hq⟩
    case measure=>simp [intOf];omega
   ·rw [hq] at HP
    go_wp2_with (go_at_fn F;refine HP.o.mono ?_;rintro e w' ⟨rfl,hb'⟩)
    go_ret
    exact⟨ret_int (H1.o hq).symm,hb.trans hb'⟩
  ·clear hel hp
   go_wp2
   go_ret
   refine⟨ret_int ?_,hb⟩
   have h:=HE.o
   rw [List.take_of_length_le (by omega)] at h
   rw [idxOf,h]
set_option maxHeartbeats 400000 in
theorem containsFunc_rd {v:Value} {l:List Rd} {F:FuncId} {caps:Array Value} {p:Rd→Bool} (w:World) (hv:Sl Ty.rd w.cell? v l) (hp:Tells Tryz.prog Ty.rd aggOf w F caps l p):
  Calls Tryz.prog 135 #[v,.func (.func F) #[] caps] w fun e w'=>e=.returned (.bool (l.any p))∧Grow w w':=by
 have HI:=η (indexFunc_rd w hv hp)
 have HN:=η (idxOf_nonneg p l)
 clear hv hp
 generalize idxOf p l=i at*
 go_enter Tryz.func135,Tryz.ntmps135
 go_wp2_with (go_at_call 96;refine HI.o.mono ?_;rintro e w' ⟨rfl,hb'⟩)
 go_ret
 exact⟨ret_bool HN.o,hb'⟩
set_option maxHeartbeats 400000 in
theorem indexFunc_opn {v:Value} {l:List Opn} {F:FuncId} {caps:Array Value} {p:Opn→Bool} (w:World) (hv:Sl Ty.opn w.cell? v l) (hp:Tells Tryz.prog Ty.opn aggOf w F caps l p):
  Calls Tryz.prog 103 #[v,.func (.func F) #[] caps] w fun e w'=>e=.returned (.int .i64 (idxOf p l))∧Grow w w':=by
 obtain⟨a,cap,rfl,h1,h2,-,hel⟩:=hv
 unfold maxLen at h2
 go_enter Tryz.func103,Tryz.ntmps103
 go_wp2
 go_loopw [4,5,8] (fun _ _ i wr=>∃k:Nat,k≤l.length∧i=.int .i64 k∧Grow w wr∧(l.take k).findIdx? p=none) (fun _ _ i _=>l.length - (intOf i).toNat)
 case atStart=>exact⟨0,by omega,rfl,Grow.refl _,rfl⟩
 case round=>
  obtain⟨k,hk',rfl,hb,hE⟩:=hrel
  have HE:=η hE
  clear hE
  by_cases hlt:k<l.length
  ·obtain⟨b,o,v1,v2,rfl,c0,c1,c2,c3,hR⟩:=Opns.at_ hel k hlt
   replace c0:=hb.sub _ _ c0
   replace c1:=hb.sub _ _ c1
   replace c2:=hb.sub _ _ c2
   replace c3:=hb.sub _ _ c3
   have HP:=η (hp.say wr [.int .i64 l[k].deed,v1,.bool l[k].dec,v2] l[k] hb (List.getElem_mem _) ⟨v1,v2,rfl,hR.1,hR.2.1.mono hb.sub,hR.2.2.mono hb.sub⟩)
   have eg:=hp.ent
   obtain⟨hq1,hq2⟩:=idx_step hlt HE.o
   clear HE hp hel hR
   simp only [aggOf] at HP
   generalize l[k]=q at*
   have H1:=η hq1
   have H2:=η hq2
   clear hq1 hq2
   cases hq:p q
   ·rw [hq] at HP
    go_wp2_with (go_at_fn F;refine HP.o.mono ?_;rintro e w' ⟨rfl,hb'⟩)
    go_roundw
    case rel=>exact⟨k+1,by omega,by go_num,hb.trans hb',H2.o hq⟩
    case measure=>simp [intOf];omega
   ·rw [hq] at HP
    go_wp2_with (go_at_fn F;refine HP.o.mono ?_;rintro e w' ⟨rfl,hb'⟩)
    go_ret
    exact⟨ret_int (H1.o hq).symm,hb.trans hb'⟩
  ·clear hel hp
   go_wp2
   go_ret
   refine⟨ret_int ?_,hb⟩
   have h:=HE.o
   rw [List.take_of_length_le (by omega)] at h
   rw [idxOf,h]
set_option maxHeartbeats 400000 in
theorem indexFunc_errno {v:Value} {l:List Int} {F:FuncId} {caps:Array Value} {p:Int→Bool} (w:World) (hv:Sl Ty.int w.cell? v l) (hp:Tells Tryz.prog Ty.int oneOf w F caps l p):
  Calls Tryz.prog 30 #[v,.func (.func F) #[] caps] w fun e w'=>e=.returned (.int .i64 (idxOf p l))∧Grow w w':=by
 obtain⟨a,cap,rfl,h1,h2,-,hel⟩:=hv
 unfold maxLen at h2
 go_enter Tryz.func30,Tryz.ntmps30
 go_wp2
 go_loopw [4,5,8] (fun _ _ i wr=>∃k:Nat,k≤l.length∧i=.int .i64 k∧Grow w wr∧(l.take k).findIdx? p=none) (fun _ _ i _=>l.length - (intOf i).toNat)
 case atStart=>exact⟨0,by omega,rfl,Grow.refl _,rfl⟩
 case round=>
  obtain⟨k,hk',rfl,hb,hE⟩:=hrel
  have HE:=η hE
  clear hE
  by_cases hlt:k<l.length
  ·obtain⟨b,o,rfl,c0,hR⟩:=intAt hel k hlt
   replace c0:=hb.sub _ _ c0
   have HP:=η (hp.say wr [.int .i64 l[k]] l[k] hb (List.getElem_mem _) ⟨rfl,hR⟩)
   have eg:=hp.ent
   obtain⟨hq1,hq2⟩:=idx_step hlt HE.o
   clear HE hp hel hR
   simp only [oneOf,List.getD_cons_zero] at HP
   generalize l[k]=q at*
   have H1:=η hq1
   have H2:=η hq2
   clear hq1 hq2
   cases hq:p q
   ·rw [hq] at HP
    go_wp2_with (go_at_fn F;refine HP.o.mono ?_;rintro e w' ⟨rfl,hb'⟩)
    go_roundw
    case rel=>exact⟨k+1,by omega,by go_num,hb.trans hb',H2.o hq⟩
    case measure=>simp [intOf];omega
   ·rw [hq] at HP
    go_wp2_with (go_at_fn F;refine HP.o.mono ?_;rintro e w' ⟨rfl,hb'⟩)
    go_ret
    exact⟨ret_int (H1.o hq).symm,hb.trans hb'⟩
  ·clear hel hp
   go_wp2
   go_ret
   refine⟨ret_int ?_,hb⟩
   have h:=HE.o
   rw [List.take_of_length_le (by omega)] at h
   rw [idxOf,h]
set_option maxHeartbeats 400000 in
theorem containsFunc_errno {v:Value} {l:List Int} {F:FuncId} {caps:Array Value} {p:Int→Bool} (w:World) (hv:Sl Ty.int w.cell? v l) (hp:Tells Tryz.prog Ty.int oneOf w F caps l p):
  Calls Tryz.prog 20 #[v,.func (.func F) #[] caps] w fun e w'=>e=.returned (.bool (l.any p))∧Grow w w':=by
 have HI:=η (indexFunc_errno w hv hp)
 have HN:=η (idxOf_nonneg p l)
 clear hv hp
 generalize idxOf p l=i at*
 go_enter Tryz.func20,Tryz.ntmps20
 go_wp2_with (go_at_call 30;refine HI.o.mono ?_;rintro e w' ⟨rfl,hb'⟩)
 go_ret
 exact⟨ret_bool HN.o,hb'⟩
theorem grownBy_trans {a b c:World} {row:Option Nat} (h:a.grownBy b row) (k:b.grownBy c row):a.grownBy c row:=
 ⟨k.os.trans h.os,k.tape.trans h.tape,k.output.trans h.output,Nat.le_trans h.size k.size,fun i hi hne=>(k.block i (Nat.lt_of_lt_of_le hi h.size) hne).trans (h.block i hi hne)⟩
theorem grownBy_of_grow {a b:World} (h:Grow a b) (row:Option Nat):a.grownBy b row:=⟨h.os,h.tape,h.output,h.size,fun i hi _=>h.block i hi⟩
theorem grownBy_setCell (w:World) (a:Addr) (v:Value):w.grownBy (w.setCell a v) (some a.block):=
 ⟨rfl,rfl,rfl,by simp,fun k _ hk=>Below.heap_setCell _ _ _ _ (fun e=>hk (by rw [e]))⟩
theorem owns_less {w:World} {base:Nat} {e:TypeId} {size g n cap m:Nat} {xs:List Value} (h:w.ownsRow base e size (.slice (some ⟨g,0,none⟩) n cap) n xs) (hm:m≤n):
  w.ownsRow base e size (.slice (some ⟨g,0,none⟩) m cap) m (xs.take (m*size)):=by
 obtain⟨hl,⟨h',_⟩|⟨g',cap',cur,h',hb,hg,hnc,hcm,hcs,htake⟩⟩:=h
 ·simp at h'
 ·simp only [Value.slice.injEq,Option.some.injEq,Addr.mk.injEq,and_true,true_and] at h'
  obtain⟨rfl,rfl⟩:=h'
  have hms:m*size≤n*size:=Nat.mul_le_mul_right _ hm
  refine⟨by rw [List.length_take,hl];omega,.inr ⟨g,cap,cur,rfl,hb,hg,by omega,hcm,hcs,?_⟩⟩
  rw [←htake,List.take_take,Nat.min_eq_left hms]
theorem setCells_owns {base:Nat} {e:TypeId} {size g n cap:Nat}:∀(vs:List Value) (o:Nat) (w:World) (xs:List Value),w.ownsRow base e size (.slice (some ⟨g,0,none⟩) n cap) n xs→o+vs.length≤xs.length→
  (w.setCells g o vs).ownsRow base e size (.slice (some ⟨g,0,none⟩) n cap) n (xs.take o++vs++xs.drop (o+vs.length))∧w.grownBy (w.setCells g o vs) (some g):=by
 intro vs
 induction vs with
 |nil=>intro o w xs h _;simp only [List.append_nil,List.length_nil,Nat.add_zero,List.take_append_drop];exact⟨h,⟨rfl,rfl,rfl,Nat.le_refl _,fun _ _ _=>rfl⟩⟩
 |cons v vs ih=>
  intro o w xs h hl
  obtain⟨h1,h2⟩:=h.stored o v
  simp only [List.length_cons] at hl
  obtain⟨h3,h4⟩:=ih (o+1) _ _ h1 (by simp;omega)
  refine⟨?_,grownBy_trans h2 h4⟩
  have:(xs.set o v).take (o+1)++vs++(xs.set o v).drop (o+1+vs.length)=xs.take o++v::vs++xs.drop (o+(vs.length+1)):=by
   have hs:(xs.take o++ [xs[o]]).set o v=xs.take o++ [v]:=by
    rw [List.set_append,if_neg (by simp;omega)];simp [Nat.min_eq_left (by omega:o≤xs.length)]
   rw [List.drop_set_of_lt (by omega),List.take_set,List.take_succ_eq_append_getElem (by omega:o<xs.length),hs]
   simp [Nat.add_comm,Nat.add_left_comm]
  rw [this] at h3
  exact h3
theorem clear_run {P:Program} {t e:TypeId} {size bytes:Nat} (hE:EI P t e size bytes) {w:World} (ty:TypeId)
  {base g n cap:Nat} {xs:List Value} (hown:w.ownsRow base e size (.slice (some ⟨g,0,none⟩) n cap) n xs) (i m c:Nat) (ao:Option Addr) (him:i+m≤cap) (hao:0<m→ao=some ⟨g,i*size,none⟩) (hin:i≤n):
  ∃w',(Builtin.clear_ #[t] ty #[.slice ao m c]).run P w=.ok (.tuple #[]) w'∧w'.ownsRow base e size (.slice (some ⟨g,0,none⟩) i cap) i (xs.take (i*size))∧w.grownBy w' (some g):=by
 obtain⟨ti,z,hi,hz,h2,h3,h4,h5,h6⟩:=hE.hi
 have hv:∀w,(zeroValue e).run P w=.ok z w:=fun w=>by simp [zeroValue,typeInfo,hi,hz]
 rcases Nat.eq_zero_or_pos m with rfl|hm
 ·have hr:(Builtin.clear_ #[t] ty #[.slice ao 0 c]).run P w=.ok (.tuple #[]) w:=by
   cases ao<;>simp [Builtin.clear_,run_underlying hE.ht]
  exact⟨w,hr,owns_less hown hin,⟨rfl,rfl,rfl,Nat.le_refl _,fun _ _ _=>rfl⟩⟩
 ·obtain rfl:=hao hm
  obtain⟨hl,⟨h',_⟩|⟨g',cap',cur,h',hb,hg,hnc,hcm,hcs,htake⟩⟩:=hown
  ·simp at h'
  simp only [Value.slice.injEq,Option.some.injEq,Addr.mk.injEq,and_true,true_and] at h'
  obtain⟨rfl,rfl⟩:=h'
  have hlen:(Builtin.zeroCells z.cells m).toList.length=m*size:=by rw [Array.length_toList,size_zeroCells,h4]
  have hfit:i*size+m*size≤cap*size:=by rw [←Nat.add_mul];exact Nat.mul_le_mul_right _ him
  have hone:∀u∈(Builtin.zeroCells z.cells m).toList,u.oneCell'=true:=by
   intro u hu
   have hu':=Array.mem_toList_iff.1 hu
   simp only [Builtin.zeroCells,Array.mem_map,Array.mem_range] at hu'
   obtain⟨j,hj,rfl⟩:=hu'
   have:j % z.cells.size<z.cells.size:=Nat.mod_lt _ (by omega)
   rw [getElem!_pos z.cells _ this]
   exact h6 _ (Array.getElem_mem _)
  have hst:=run_storeCells_at P g (i*size) e (Builtin.zeroCells z.cells m).toList 0 cur w hg (by omega) hone
  simp only [Nat.add_zero] at hst
  obtain⟨m',rfl⟩:∃m',m=m'+1:=⟨m - 1,by omega⟩
  have hr:(Builtin.clear_ #[t] ty #[.slice (some ⟨g,i*size,none⟩) (m'+1) c]).run P w=.ok (.tuple #[]) (w.setRow g (cur.toList.take (i*size)++(Builtin.zeroCells z.cells (m'+1)).toList++cur.toList.drop (i*size+(Builtin.zeroCells z.cells (m'+1)).toList.length)).toArray):=by
   simp [Builtin.clear_,run_underlying hE.ht,hv,hst]
  refine⟨_,hr,⟨?_,.inr ⟨g,cap,_,rfl,hb,setRow_heap w g cur _ e _ hg,by omega,hcm,?_,?_⟩⟩,⟨rfl,rfl,rfl,by simp,fun k _ hk=>setRow_other w g k _ (fun e=>hk (by simp [e]))⟩⟩
  ·have hms:i*size≤n*size:=Nat.mul_le_mul_right _ hin
   rw [List.length_take,hl];omega
  ·simp only [List.size_toArray,List.length_append,List.length_take,List.length_drop,Array.length_toList,hlen];omega
  ·have hms:i*size≤n*size:=Nat.mul_le_mul_right _ hin
   rw [←htake,List.take_take,Nat.min_eq_left hms]
   rw [List.append_assoc,List.take_append_of_le_length (by simp;omega),List.take_take,Nat.min_self]
theorem step_append_cut {P:Program} {t e:TypeId} {size bytes:Nat} (hE:EI P t e size bytes) {ops:Array Oper} {o:Oper} {a:Act} {w:World} {K:Act→World→Prop} {Q:Exit→Act→World→Prop} {E:Prop}
  (hgd:o.guard=none) (s x:Operand) (hop:o.op=Op.call { callee:=Callee.builtin Builtin.append,args:=#[s,x],argTypes:=#[t,t] })
  {base g n cap:Nat} (i j:Nat) (r:Nat) (ad:Option Addr) (m c:Nat) {xs:List Value} (hown:w.ownsRow base e size (.slice (some ⟨g,0,none⟩) n cap) n xs) (hij:i≤j) (hjn:j≤n) (h1:∀u∈xs,u.oneCell'=true)
  (hs:a.eval s=.slice (some ⟨g,0,none⟩) i cap) (hx:a.eval x=.slice ad m c) (hr:r=i+(n - j)) (hm:m=n - j) (had:ad=some ⟨g,j*size,none⟩∨(∃b,ad=some b)∧n=j)
  (hK:∀w',w'.ownsRow base e size (.slice (some ⟨g,0,none⟩) r cap) r (xs.take (i*size)++xs.drop (j*size))→w.grownBy w' (some g)→K (a.put o.dst (.slice (some ⟨g,0,none⟩) r cap)) w'):
  if Region.wanted o (yielded ops a.tmps)=true then Oper.wp P o a w K Q else E:=by
 obtain⟨ti,z,hi,hz,h2,h3,h4,h5,h6⟩:=hE.hi
 subst hm
 subst hr
 obtain⟨hl,⟨h',_⟩|⟨g',cap',cur,h',hb,hg,hnc,hcm,hcs,htake⟩⟩:=id hown
 ·simp at h'
 simp only [Value.slice.injEq,Option.some.injEq,Addr.mk.injEq,and_true,true_and] at h'
 obtain⟨rfl,rfl⟩:=h'
 have e1:n*size=j*size+(n - j)*size:=by rw [←Nat.add_mul];congr 1;omega
 have e2:i*size≤j*size:=Nat.mul_le_mul_right _ hij
 have hnl:(xs.drop (j*size)).length=(n - j)*size:=by rw [List.length_drop,hl];omega
 obtain⟨b,rfl⟩:∃b,ad=some b:=by rcases had with h|⟨h,_⟩;exact⟨_,h⟩;exact h
 have hnews:∀k u,(xs.drop (j*size))[k]? =some u→w.cell? (b.add k)=some u:=by
  intro k u hu
  rcases had with h|⟨_,h⟩
  ·obtain rfl:=Option.some.inj h
   rw [List.getElem?_drop] at hu
   have:=hown.cells (g:=g) rfl _ u hu
   rw [Addr.add_lit,Nat.zero_add] at this
   rw [Addr.add_lit];exact this
  ·rw [List.drop_of_length_le (by rw [hl,h];exact Nat.le_refl _)] at hu;simp at hu
 obtain⟨so,sg⟩:=setCells_owns (xs.drop (j*size)) (0+i*size) w xs hown (by rw [hnl,hl];omega)
 refine step_append_room hgd s x t hop e ti size hE.ht hi h2 g 0 i cap hs b (n - j) c (xs.drop (j*size)) hx hnl hnews (fun u hu=>h1 u (List.mem_of_mem_drop hu)) (by omega) (fun k hk=>?_) (hK _ ?_ sg)
 ·rw [hnl] at hk
  refine⟨?_,hown.frozenAt _⟩
  rw [Nat.zero_add,hown.cellAt _ (by omega),List.getElem?_eq_getElem (by rw [hl];omega)];rfl
 ·have h:=owns_less so (show i+(n - j)≤n by omega)
  rw [Nat.zero_add] at h
  have e3:(i+(n - j))*size=(xs.take (i*size)++xs.drop (j*size)).length:=by
   rw [List.length_append,hnl,List.length_take,hl,Nat.add_mul];omega
  rw [e3,List.take_left] at h
  rw [Nat.zero_add]
  exact h
set_option maxRecDepth 100000 in
set_option maxHeartbeats 1000000 in
theorem delete_rd {w:World} {base g n cap i:Nat} {xs:List Value} (hown:w.ownsRow base 77 2 (.slice (some ⟨g,0,none⟩) n cap) n xs) (hi:i<n) (h1:∀u∈xs,u.oneCell'=true):
  Calls Tryz.prog 66 #[.slice (some ⟨g,0,none⟩) n cap,.int .i64 i,.int .i64 ((i:Int)+1)] w fun e w'=>e=.returned (.slice (some ⟨g,0,none⟩) (n - 1) cap)∧w'.ownsRow base 77 2 (.slice (some ⟨g,0,none⟩) (n - 1) cap) (n - 1) (xs.take (i*2)++xs.drop ((i+1)*2))∧w.grownBy w' (some g):=by
 obtain⟨hl,⟨h',_⟩|⟨g',cap',cur,h',hb,hg,hnc,hcm,hcs,htake⟩⟩:=id hown
 ·simp at h'
 simp only [Value.slice.injEq,Option.some.injEq,Addr.mk.injEq,and_true,true_and] at h'
 obtain⟨rfl,rfl⟩:=h'
 have hA:∃A:Addr,(if cap=i+1 then some (⟨g,0,none⟩:Addr) else some ⟨g,(i+1)*2,none⟩)=some A∧Hid (some A=some (⟨g,(i+1)*2,none⟩:Addr)∨(∃b,some A=some b)∧n=i+1):=by
  by_cases h:cap=i+1
  ·exact⟨⟨g,0,none⟩,by simp [h],.inr ⟨⟨_,rfl⟩,by omega⟩⟩
  ·exact⟨_,by simp only [h,if_false],.inl rfl⟩
 obtain⟨A,hA,hA2⟩:=hA
 have HO:=η hown
 have H1:=η h1
 have hic:i≤cap:=by omega
 have hp0:(0:Int)≤(i:Int)+1:=by omega
 have hp1:(i:Int)+1≤(n:Int):=by omega
 have hp2:((i:Int)+1).toNat=i+1:=by omega
 have hne:((i:Int)==(i:Int)+1)=false:=by simp;omega
 have hcm':cap≤9223372036854775807:=by unfold maxLen at hcm;omega
 have hn1:i+(n - (i+1))=n - 1:=by omega
 have hn2:((n - 1:Nat):Int)=(n:Int) - 1:=by omega
 clear hown hg htake hcs hb hl hcm h1
 go_enter Tryz.func66,Tryz.ntmps66
 go_wp2_with fail
 go_region_law (refine step_append_cut ei_rd rfl (.tmp 22) (.tmp 25) rfl i (i+1) (n - 1) (some A) (n - (i+1)) (cap - (i+1)) (by exact World.ownsRow.drew HO.o) (by omega) (by omega) H1.o (by simp [Act.eval,Act.put]) (by simp [Act.eval,Act.put]) hn1.symm rfl hA2.o ?_;intro w1 HO1 HG1)
 have HO1':=η HO1
 have HG1':=η HG1
 clear HO1 HG1 HO hA hA2 hn1
 have hlt1:n - 1<cap:=by omega
 have hn3:(n:Int) - 1≤(n:Int):=by omega
 have hn4:((n:Int) - 1).toNat=n - 1:=by omega
 have hn5:n - (n - 1)=1:=by omega
 obtain⟨w2,hcl,HO2,HG2⟩:=clear_run ei_rd 0 HO1'.o (n - 1) 1 (cap - (n - 1)) (some ⟨g,(n - 1)*2,none⟩) (by omega) (fun _=>rfl) (Nat.le_refl _)
 have HCL:=η hcl
 have HO2':=η HO2
 have HG2':=η HG2
 clear hcl HO2 HG2
 go_wp2_with fail
 rw [HCL.o]
 go_wp2
 go_ret
 refine⟨rfl,?_,grownBy_trans (grownBy_of_grow ((Grow.refl w).drew) _) (grownBy_trans HG1'.o HG2'.o)⟩
 have h:=HO2'.o
 rw [List.take_of_length_le (by rw [HO1'.o.1];exact Nat.le_refl _)] at h
 exact h
set_option maxRecDepth 100000 in
set_option maxHeartbeats 1000000 in
theorem delete_opn {w:World} {base g n cap i:Nat} {xs:List Value} (hown:w.ownsRow base 147 4 (.slice (some ⟨g,0,none⟩) n cap) n xs) (hi:i<n) (h1:∀u∈xs,u.oneCell'=true):
  Calls Tryz.prog 106 #[.slice (some ⟨g,0,none⟩) n cap,.int .i64 i,.int .i64 ((i:Int)+1)] w fun e w'=>e=.returned (.slice (some ⟨g,0,none⟩) (n - 1) cap)∧w'.ownsRow base 147 4 (.slice (some ⟨g,0,none⟩) (n - 1) cap) (n - 1) (xs.take (i*4)++xs.drop ((i+1)*4))∧w.grownBy w' (some g):=by
 obtain⟨hl,⟨h',_⟩|⟨g',cap',cur,h',hb,hg,hnc,hcm,hcs,htake⟩⟩:=id hown
 ·simp at h'
 simp only [Value.slice.injEq,Option.some.injEq,Addr.mk.injEq,and_true,true_and] at h'
 obtain⟨rfl,rfl⟩:=h'
 have hA:∃A:Addr,(if cap=i+1 then some (⟨g,0,none⟩:Addr) else some ⟨g,(i+1)*4,none⟩)=some A∧Hid (some A=some (⟨g,(i+1)*4,none⟩:Addr)∨(∃b,some A=some b)∧n=i+1):=by
  by_cases h:cap=i+1
  ·exact⟨⟨g,0,none⟩,by simp [h],.inr ⟨⟨_,rfl⟩,by omega⟩⟩
  ·exact⟨_,by simp only [h,if_false],.inl rfl⟩
 obtain⟨A,hA,hA2⟩:=hA
 have HO:=η hown
 have H1:=η h1
 have hic:i≤cap:=by omega
 have hp0:(0:Int)≤(i:Int)+1:=by omega
 have hp1:(i:Int)+1≤(n:Int):=by omega
 have hp2:((i:Int)+1).toNat=i+1:=by omega
 have hne:((i:Int)==(i:Int)+1)=false:=by simp;omega
 have hcm':cap≤9223372036854775807:=by unfold maxLen at hcm;omega
 have hn1:i+(n - (i+1))=n - 1:=by omega
 have hn2:((n - 1:Nat):Int)=(n:Int) - 1:=by omega
 clear hown hg htake hcs hb hl hcm h1
 go_enter Tryz.func106,Tryz.ntmps106
 go_wp2_with fail
 go_region_law (refine step_append_cut ei_opn rfl (.tmp 22) (.tmp 25) rfl i (i+1) (n - 1) (some A) (n - (i+1)) (cap - (i+1)) (by exact World.ownsRow.drew HO.o) (by omega) (by omega) H1.o (by simp [Act.eval,Act.put]) (by simp [Act.eval,Act.put]) hn1.symm rfl hA2.o ?_;intro w1 HO1 HG1)
 have HO1':=η HO1
 have HG1':=η HG1
 clear HO1 HG1 HO hA hA2 hn1
 have hlt1:n - 1<cap:=by omega
 have hn3:(n:Int) - 1≤(n:Int):=by omega
 have hn4:((n:Int) - 1).toNat=n - 1:=by omega
 have hn5:n - (n - 1)=1:=by omega
 obtain⟨w2,hcl,HO2,HG2⟩:=clear_run ei_opn 0 HO1'.o (n - 1) 1 (cap - (n - 1)) (some ⟨g,(n - 1)*4,none⟩) (by omega) (fun _=>rfl) (Nat.le_refl _)
 have HCL:=η hcl
 have HO2':=η HO2
 have HG2':=η HG2
 clear hcl HO2 HG2
 go_wp2_with fail
 rw [HCL.o]
 go_wp2
 go_ret
 refine⟨rfl,?_,grownBy_trans (grownBy_of_grow ((Grow.refl w).drew) _) (grownBy_trans HG1'.o HG2'.o)⟩
 have h:=HO2'.o
 rw [List.take_of_length_le (by rw [HO1'.o.1];exact Nat.le_refl _)] at h
 exact h
set_option maxRecDepth 100000 in
set_option maxHeartbeats 1000000 in
theorem delete_bts {w:World} {base g n cap i:Nat} {xs:List Value} (hown:w.ownsRow base 139 1 (.slice (some ⟨g,0,none⟩) n cap) n xs) (hi:i<n) (h1:∀u∈xs,u.oneCell'=true):
  Calls Tryz.prog 71 #[.slice (some ⟨g,0,none⟩) n cap,.int .i64 i,.int .i64 ((i:Int)+1)] w fun e w'=>e=.returned (.slice (some ⟨g,0,none⟩) (n - 1) cap)∧w'.ownsRow base 139 1 (.slice (some ⟨g,0,none⟩) (n - 1) cap) (n - 1) (xs.take (i*1)++xs.drop ((i+1)*1))∧w.grownBy w' (some g):=by
 obtain⟨hl,⟨h',_⟩|⟨g',cap',cur,h',hb,hg,hnc,hcm,hcs,htake⟩⟩:=id hown
 ·simp at h'
 simp only [Value.slice.injEq,Option.some.injEq,Addr.mk.injEq,and_true,true_and] at h'
 obtain⟨rfl,rfl⟩:=h'
 have hA:∃A:Addr,(if cap=i+1 then some (⟨g,0,none⟩:Addr) else some ⟨g,(i+1)*1,none⟩)=some A∧Hid (some A=some (⟨g,(i+1)*1,none⟩:Addr)∨(∃b,some A=some b)∧n=i+1):=by
  by_cases h:cap=i+1
  ·exact⟨⟨g,0,none⟩,by simp [h],.inr ⟨⟨_,rfl⟩,by omega⟩⟩
  ·exact⟨_,by simp only [h,if_false],.inl rfl⟩
 obtain⟨A,hA,hA2⟩:=hA
 have HO:=η hown
 simp only [Nat.mul_one] at hA
 have H1:=η h1
 have hic:i≤cap:=by omega
 have hp0:(0:Int)≤(i:Int)+1:=by omega
 have hp1:(i:Int)+1≤(n:Int):=by omega
 have hp2:((i:Int)+1).toNat=i+1:=by omega
 have hne:((i:Int)==(i:Int)+1)=false:=by simp;omega
 have hcm':cap≤9223372036854775807:=by unfold maxLen at hcm;omega
 have hn1:i+(n - (i+1))=n - 1:=by omega
 have hn2:((n - 1:Nat):Int)=(n:Int) - 1:=by omega
 clear hown hg htake hcs hb hl hcm h1
 go_enter Tryz.func71,Tryz.ntmps71
 go_wp2_with fail
 go_region_law (refine step_append_cut ei_bts rfl (.tmp 22) (.tmp 25) rfl i (i+1) (n - 1) (some A) (n - (i+1)) (cap - (i+1)) (by exact World.ownsRow.drew HO.o) (by omega) (by omega) H1.o (by simp [Act.eval,Act.put]) (by simp [Act.eval,Act.put]) hn1.symm rfl hA2.o ?_;intro w1 HO1 HG1)
 have HO1':=η HO1
 have HG1':=η HG1
 clear HO1 HG1 HO hA hA2 hn1
 have hlt1:n - 1<cap:=by omega
 have hn3:(n:Int) - 1≤(n:Int):=by omega
 have hn4:((n:Int) - 1).toNat=n - 1:=by omega
 have hn5:n - (n - 1)=1:=by omega
 obtain⟨w2,hcl,HO2,HG2⟩:=clear_run ei_bts 0 HO1'.o (n - 1) 1 (cap - (n - 1)) (some ⟨g,(n - 1)*1,none⟩) (by omega) (fun _=>rfl) (Nat.le_refl _)
 have HCL:=η hcl
 have HO2':=η HO2
 have HG2':=η HG2
 clear hcl HO2 HG2
 go_wp2_with fail
 rw [show(Builtin.clear_ _ _ #[Value.slice (some (⟨g,n - 1,none⟩:Addr)) 1 _]).run _ _=_ from by simpa using HCL.o]
 go_wp2
 go_ret
 refine⟨rfl,?_,grownBy_trans (grownBy_of_grow ((Grow.refl w).drew) _) (grownBy_trans HG1'.o HG2'.o)⟩
 have h:=HO2'.o
 rw [List.take_of_length_le (by rw [HO1'.o.1];exact Nat.le_refl _)] at h
 exact h
def frag (w:World) (row:Option Nat):CM:=fun a=>if some a.block=row then none else w.cell? a
theorem frag_sub (w:World) (row:Option Nat):Sub (frag w row) w.cell?:=fun a v h=>by
 unfold frag at h;split at h
 ·cases h
 ·exact h
theorem frag_grown {w w':World} {row:Option Nat} (h:w.grownBy w' row):Sub (frag w row) (frag w' row):=fun a v e=>by
 unfold frag at e ⊢
 split at e
 ·cases e
 ·rename_i hne
  rw [if_neg hne,World.cell?_of_block (h.block a.block (World.block_lt_of_cell? w a e) hne)]
  exact e
theorem frag_of_lt {w w':World} (h:Grow w w') {row:Option Nat} (hr:∀k,row=some k→w.heap.size≤k):Sub w.cell? (frag w' row):=fun a v e=>by
 have hl:=World.block_lt_of_cell? w a e
 unfold frag
 rw [if_neg (fun e'=>by have:=hr _ e'.symm;omega)]
 exact h.sub _ _ e
def OwnT {α:Type} (T:Ty α) (w:World) (base e:Nat) (v:Value) (l:List α):Prop:=
 ∃css:List (List Value),w.ownsRow base e T.size v l.length css.flatten∧css.length=l.length∧∀(i:Nat) (cs:List Value) (x:α),css[i]? =some cs→l[i]? =some x→T.R (frag w v.ownBlock) cs x
theorem OwnT.nil {α:Type} (T:Ty α) (w:World) (base e:Nat):OwnT T w base e (.slice none 0 0) []:=⟨[],World.ownsRow_nil _ _ _ _,rfl,fun i cs x h=>by simp at h⟩
theorem OwnT.kept {α:Type} {T:Ty α} {w w':World} {base e:Nat} {v:Value} {l:List α} {row:Option Nat} (h:OwnT T w base e v l) (hg:w.grownBy w' row) (hne:v.ownBlock=none∨v.ownBlock≠row) (hs':Sub (frag w v.ownBlock) (frag w' v.ownBlock)):OwnT T w' base e v l:=by
 obtain⟨css,h1,h2,h3⟩:=h
 exact⟨css,h1.kept hg hne,h2,fun i cs x a b=>T.mono hs' (h3 i cs x a b)⟩
theorem OwnT.grow {α:Type} {T:Ty α} {w w':World} {base e:Nat} {v:Value} {l:List α} (h:OwnT T w base e v l) (hg:Grow w w'):OwnT T w' base e v l:=by
 obtain⟨css,h1,h2,h3⟩:=h
 refine⟨css,h1.kept (grownBy_of_grow hg none) (by cases v.ownBlock<;>simp),h2,fun i cs x a b=>T.mono (frag_grown (grownBy_of_grow hg _)) (h3 i cs x a b)⟩
theorem css_len {α:Type} {T:Ty α} {c:CM} {css:List (List Value)} {l:List α} (h2:css.length=l.length) (h3:∀(i:Nat) (cs:List Value) (x:α),css[i]? =some cs→l[i]? =some x→T.R c cs x):∀cs∈css,cs.length=T.size:=by
 intro cs hcs
 obtain⟨i,hi,rfl⟩:=List.mem_iff_getElem.1 hcs
 exact T.len (h3 i css[i] l[i] (by simp) (by simp))
theorem flatten_at {size:Nat} (h0:0<size):∀(css:List (List Value)),(∀cs∈css,cs.length=size)→∀j,css.flatten[j]? =(css[j/size]?).bind fun cs=>cs[j % size]?:=by
 intro css
 induction css with
 |nil=>intro _ j;simp
 |cons x l ih=>
  intro hf j
  rw [List.flatten_cons]
  have hx:=hf x (by simp)
  by_cases hj:j<size
  ·rw [List.getElem?_append_left (by rw [hx];exact hj),Nat.div_eq_of_lt hj,Nat.mod_eq_of_lt hj];rfl
  ·rw [List.getElem?_append_right (by rw [hx];omega),hx,ih (fun cs h=>hf cs (by simp [h])),Nat.mod_eq_sub_mod (by omega:size≤j),Nat.div_eq_sub_div h0 (by omega:size≤j)]
   simp
theorem flatten_len {size:Nat}:∀(css:List (List Value)),(∀cs∈css,cs.length=size)→css.flatten.length=css.length*size
 | [],_=>by simp
 |x::l,h=>by rw [List.flatten_cons,List.length_append,h x (by simp),flatten_len l (fun cs hc=>h cs (by simp [hc])),List.length_cons,Nat.add_mul];omega
theorem flatten_take {size:Nat}:∀(css:List (List Value)) (i:Nat),(∀cs∈css,cs.length=size)→css.flatten.take (i*size)=(css.take i).flatten
 | [],i,_=>by simp
 |x::l,0,_=>by simp
 |x::l,i+1,h=>by
  have hx:=h x (by simp)
  rw [List.flatten_cons,List.take_succ_cons,List.flatten_cons,Nat.add_mul,Nat.one_mul,Nat.add_comm,List.take_append,hx,List.take_of_length_le (by omega),←flatten_take l i (fun cs hc=>h cs (by simp [hc]))]
  congr 1
  congr 1
  omega
theorem flatten_drop {size:Nat}:∀(css:List (List Value)) (i:Nat),(∀cs∈css,cs.length=size)→css.flatten.drop (i*size)=(css.drop i).flatten
 | [],i,_=>by simp
 |x::l,0,_=>by simp
 |x::l,i+1,h=>by
  have hx:=h x (by simp)
  rw [List.flatten_cons,List.drop_succ_cons,Nat.add_mul,Nat.one_mul,Nat.add_comm,←flatten_drop l i (fun cs hc=>h cs (by simp [hc])),List.drop_append,hx,List.drop_of_length_le (by omega),List.nil_append]
  congr 1
  omega
theorem OwnT.sl {α:Type} {T:Ty α} (h0:0<T.size) {w:World} {base e:Nat} {v:Value} {l:List α} (h:OwnT T w base e v l):Sl T w.cell? v l:=by
 obtain⟨css,⟨hl,hs⟩,h2,h3⟩:=h
 have hcl:=css_len h2 h3
 rcases hs with⟨rfl,hn⟩|⟨g,cap,cur,rfl,hg,hrow,hnc,hcm,hcs,htake⟩
 ·have:l=[]:=List.eq_nil_of_length_eq_zero hn
  subst this
  exact⟨none,0,rfl,Nat.le_refl _,Nat.zero_le _,fun _=>rfl,fun i x e=>by simp at e⟩
 ·refine⟨some ⟨g,0,none⟩,cap,rfl,hnc,hcm,by simp,fun i x e=>?_⟩
  have hi:i<l.length:=(List.getElem?_eq_some_iff.1 e).1
  have hc:css[i]? =some css[i]:=List.getElem?_eq_getElem (by omega)
  refine⟨g,0,css[i],rfl,T.mono (frag_sub _ _) (h3 i _ x hc e),fun j u hu=>?_⟩
  have hj:j<T.size:=by rw [←hcl css[i] (List.getElem_mem _)];exact(List.getElem?_eq_some_iff.1 hu).1
  have hx:css.flatten[i*T.size+j]? =some u:=by
   rw [flatten_at h0 css hcl,Nat.mul_comm,Nat.mul_add_div h0,Nat.div_eq_of_lt hj,Nat.add_zero,hc,Nat.mul_add_mod,Nat.mod_eq_of_lt hj];exact hu
  rw [←htake,List.getElem?_take] at hx
  split at hx
  ·simp only [World.cell?,hrow];simpa using hx
  ·cases hx
theorem OwnT.snoc {α:Type} {T:Ty α} {w w':World} {base e:Nat} {v v':Value} {l:List α} {css:List (List Value)} {cs:List Value} {x:α} (h2:css.length=l.length) (h3:∀(i:Nat) (cs:List Value) (x:α),css[i]? =some cs→l[i]? =some x→T.R (frag w v.ownBlock) cs x)
  (ho:w'.ownsRow base e T.size v' (l.length+1) (css.flatten++cs)) (hs:Sub (frag w v.ownBlock) (frag w' v'.ownBlock)) (hR:T.R (frag w' v'.ownBlock) cs x):OwnT T w' base e v' (l++ [x]):=by
 refine⟨css++ [cs],by simpa using ho,by simp [h2],fun i cs' x' a b=>?_⟩
 by_cases hi:i<l.length
 ·rw [List.getElem?_append_left (by omega)] at a
  rw [List.getElem?_append_left hi] at b
  exact T.mono hs (h3 i _ _ a b)
 ·have:i=l.length:=by
   have:=(List.getElem?_eq_some_iff.1 b).1
   simp at this;omega
  subst this
  rw [←h2] at a
  simp at a b
  subst a;subst b
  exact hR
theorem OwnT.of_flat {α:Type} {T:Ty α} {f:α→List Value} {w:World} {base e:Nat} {v:Value} {l:List α} (h:w.ownsRow base e T.size v l.length (l.flatMap f)) (hR:∀c,∀x∈l,T.R c (f x) x):OwnT T w base e v l:=
 ⟨l.map f,by rw [←List.flatMap_def];exact h,by simp,fun i cs x a b=>by
  rw [List.getElem?_map,b] at a
  obtain rfl:=Option.some.inj a
  exact hR _ x (List.mem_of_getElem? b)⟩
theorem owns_set {w:World} {base:Nat} {e:TypeId} {size g n cap:Nat} {css:List (List Value)} {cs:List Value} {i:Nat} (hcl:∀cs∈css,cs.length=size) (h:w.ownsRow base e size (.slice (some ⟨g,0,none⟩) n cap) n css.flatten) (hi:i<css.length) (hcs:cs.length=size):
  (w.setCells g (i*size) cs).ownsRow base e size (.slice (some ⟨g,0,none⟩) n cap) n (css.set i cs).flatten∧w.grownBy (w.setCells g (i*size) cs) (some g):=by
 have hle:(i+1)*size≤css.length*size:=Nat.mul_le_mul_right _ (by omega)
 have hle':i*size+size≤css.length*size:=by rw [Nat.add_mul] at hle;omega
 obtain⟨h1,h2⟩:=setCells_owns cs (i*size) w css.flatten h (by rw [flatten_len css hcl,hcs];exact hle')
 refine⟨?_,h2⟩
 rw [hcs,flatten_take css i hcl,show i*size+size=(i+1)*size by rw [Nat.add_mul];omega,flatten_drop css (i+1) hcl] at h1
 rw [List.set_eq_take_append_cons_drop,if_pos hi]
 simpa using h1
def OwnC {α:Type} (T:Ty α) (c:CM) (w:World) (base e:Nat) (v:Value) (l:List α):Prop:=
 ∃css:List (List Value),w.ownsRow base e T.size v l.length css.flatten∧css.length=l.length∧∀(i:Nat) (cs:List Value) (x:α),css[i]? =some cs→l[i]? =some x→T.R c cs x
theorem OwnC.nil {α:Type} (T:Ty α) (c:CM) (w:World) (base e:Nat):OwnC T c w base e (.slice none 0 0) []:=⟨[],World.ownsRow_nil _ _ _ _,rfl,fun i cs x h=>by simp at h⟩
theorem OwnC.kept {α:Type} {T:Ty α} {c:CM} {w w':World} {base e:Nat} {v:Value} {l:List α} {row:Option Nat} (h:OwnC T c w base e v l) (hg:w.grownBy w' row) (hne:v.ownBlock=none∨v.ownBlock≠row):OwnC T c w' base e v l:=by
 obtain⟨css,h1,h2,h3⟩:=h
 exact⟨css,h1.kept hg hne,h2,h3⟩
theorem OwnC.grow {α:Type} {T:Ty α} {c:CM} {w w':World} {base e:Nat} {v:Value} {l:List α} (h:OwnC T c w base e v l) (hg:Grow w w'):OwnC T c w' base e v l:=
 h.kept (grownBy_of_grow hg none) (by cases v.ownBlock<;>simp)
theorem OwnC.mono {α:Type} {T:Ty α} {c c':CM} {w:World} {base e:Nat} {v:Value} {l:List α} (hs:Sub c c') (h:OwnC T c w base e v l):OwnC T c' w base e v l:=by
 obtain⟨css,h1,h2,h3⟩:=h
 exact⟨css,h1,h2,fun i cs x a b=>T.mono hs (h3 i cs x a b)⟩
theorem OwnC.lt {α:Type} {T:Ty α} {c:CM} {w:World} {base e:Nat} {v:Value} {l:List α} (h:OwnC T c w base e v l):∀k,v.ownBlock=some k→base≤k∧k<w.heap.size:=by
 obtain⟨css,h1,_⟩:=h
 exact h1.lt
theorem OwnC.form {α:Type} {T:Ty α} {c:CM} {w:World} {base e:Nat} {v:Value} {l:List α} (h:OwnC T c w base e v l):∃a cap,v=.slice a l.length cap:=by
 obtain⟨css,⟨_,⟨rfl,h0⟩|⟨g,cap,cur,rfl,_⟩⟩,_⟩:=h
 ·rw [h0];exact⟨_,_,rfl⟩
 ·exact⟨_,_,rfl⟩
theorem owns_form {w:World} {base:Nat} {e:TypeId} {size n:Nat} {v:Value} {xs:List Value} (h:w.ownsRow base e size v n xs):∃a cap,v=.slice a n cap:=by
 obtain⟨_,⟨rfl,rfl⟩|⟨g,cap,cur,rfl,_⟩⟩:=h
 ·exact⟨_,_,rfl⟩
 ·exact⟨_,_,rfl⟩
theorem OwnC.sl {α:Type} {T:Ty α} {c:CM} (h0:0<T.size) {w:World} {base e:Nat} {v:Value} {l:List α} (hs:Sub c w.cell?) (h:OwnC T c w base e v l):Sl T w.cell? v l:=by
 obtain⟨css,⟨hl,hs'⟩,h2,h3⟩:=h
 have hcl:=css_len h2 h3
 rcases hs' with⟨rfl,hn⟩|⟨g,cap,cur,rfl,hg,hrow,hnc,hcm,hcs,htake⟩
 ·have:l=[]:=List.eq_nil_of_length_eq_zero hn
  subst this
  exact⟨none,0,rfl,Nat.le_refl _,Nat.zero_le _,fun _=>rfl,fun i x e=>by simp at e⟩
 ·refine⟨some ⟨g,0,none⟩,cap,rfl,hnc,hcm,by simp,fun i x e=>?_⟩
  have hi:i<l.length:=(List.getElem?_eq_some_iff.1 e).1
  have hc:css[i]? =some css[i]:=List.getElem?_eq_getElem (by omega)
  refine⟨g,0,css[i],rfl,T.mono hs (h3 i _ x hc e),fun j u hu=>?_⟩
  have hj:j<T.size:=by rw [←hcl css[i] (List.getElem_mem _)];exact(List.getElem?_eq_some_iff.1 hu).1
  have hx:css.flatten[i*T.size+j]? =some u:=by
   rw [flatten_at h0 css hcl,Nat.mul_comm,Nat.mul_add_div h0,Nat.div_eq_of_lt hj,Nat.add_zero,hc,Nat.mul_add_mod,Nat.mod_eq_of_lt hj];exact hu
  rw [←htake,List.getElem?_take] at hx
  split at hx
  ·simp only [World.cell?,hrow];simpa using hx
  ·cases hx
theorem OwnC.snoc {α:Type} {T:Ty α} {c:CM} {w':World} {base e:Nat} {v':Value} {l:List α} {css:List (List Value)} {cs:List Value} {x:α} (h2:css.length=l.length) (h3:∀(i:Nat) (cs:List Value) (x:α),css[i]? =some cs→l[i]? =some x→T.R c cs x)
  (ho:w'.ownsRow base e T.size v' (l.length+1) (css.flatten++cs)) (hR:T.R c cs x):OwnC T c w' base e v' (l++ [x]):=by
 refine⟨css++ [cs],by simpa using ho,by simp [h2],fun i cs' x' a b=>?_⟩
 by_cases hi:i<l.length
 ·rw [List.getElem?_append_left (by omega)] at a
  rw [List.getElem?_append_left hi] at b
  exact h3 i _ _ a b
 ·have:i=l.length:=by
   have:=(List.getElem?_eq_some_iff.1 b).1
   simp at this;omega
  subst this
  rw [←h2] at a
  simp at a b
  subst a;subst b
  exact hR
theorem OwnC.get {α:Type} {T:Ty α} {c:CM} {w:World} {base e:Nat} {a:Option Addr} {cap:Nat} {l:List α} (h0:0<T.size) (h:OwnC T c w base e (.slice a l.length cap) l) (i:Nat) (hi:i<l.length):∃g cs,a=some ⟨g,0,none⟩∧T.R c cs l[i]∧At w.cell? g (i*T.size) cs:=by
 obtain⟨css,h1,h2,h3⟩:=h
 have hcl:=css_len h2 h3
 have hc:css[i]? =some css[i]:=List.getElem?_eq_getElem (by omega)
 have hR:=h3 i _ l[i] hc (List.getElem?_eq_getElem hi)
 obtain⟨hl,⟨_,hn⟩|⟨g,cap',cur,he,hg,hrow,hnc,hcm,hcs,htake⟩⟩:=id h1
 ·omega
 ·simp only [Value.slice.injEq,true_and] at he
  obtain⟨rfl,rfl⟩:=he
  refine⟨g,css[i],rfl,hR,fun j u hu=>?_⟩
  have hj:j<T.size:=by rw [←T.len hR];exact(List.getElem?_eq_some_iff.1 hu).1
  have:=h1.cells (g:=g) rfl (i*T.size+j) u (by
   rw [flatten_at h0 css hcl,Nat.mul_comm,Nat.mul_add_div h0,Nat.div_eq_of_lt hj,Nat.add_zero,hc,Nat.mul_add_mod,Nat.mod_eq_of_lt hj];exact hu)
  rw [Addr.add_lit,Nat.zero_add] at this
  exact this
theorem owns_base {w:World} {base b':Nat} {e:TypeId} {size n:Nat} {v:Value} {xs:List Value} (hb:b'≤base) (h:w.ownsRow base e size v n xs):w.ownsRow b' e size v n xs:=by
 obtain⟨h1,h2⟩:=h
 refine⟨h1,?_⟩
 rcases h2 with h2|⟨g,cap,cur,hv,hg,r⟩
 ·exact .inl h2
 ·exact .inr ⟨g,cap,cur,hv,Nat.le_trans hb hg,r⟩
theorem OwnC.base {α:Type} {T:Ty α} {c:CM} {w:World} {base b' e:Nat} {v:Value} {l:List α} (h:OwnC T c w base e v l) (hb:b'≤base):OwnC T c w b' e v l:=by
 obtain⟨css,h1,h2,h3⟩:=h
 exact⟨css,owns_base hb h1,h2,h3⟩
structure Appd (w w':World) (base:Nat) (e:TypeId) (size:Nat) (v:Value) (n:Nat) (a':Option Addr) (c':Nat) (xs:List Value):Prop where
 own:w'.ownsRow base e size (.slice a' n c') n xs
 grown:w.grownBy w' v.ownBlock
 blk:(Value.slice a' n c').ownBlock=v.ownBlock∨∃g,(Value.slice a' n c').ownBlock=some g∧w.heap.size≤g
theorem run_app_any {P:Program} {t e:TypeId} {size bytes:Nat} (hE:EI P t e size bytes) {w:World} (ty:TypeId) {base:Nat} {v:Value} {n:Nat} {xs:List Value} (hown:w.ownsRow base e size v n xs)
  (ao:Option Addr) (m c:Nat) (news:List Value) (hnone:ao=none→m=0∧c=0) (hl:news.length=m*size) (hnews:∀ad,ao=some ad→∀j u,news[j]? =some u→w.cell? (ad.add j)=some u) (h1:∀u∈news,u.oneCell'=true)
  (h63:n+m≤maxLen) (hbytes:(n+m)*bytes≤140737488355328) (hbase:base≤w.heap.size):
  ∃a' c' w',(Builtin.append_ #[t,t] ty #[v,.slice ao m c]).run P w=.ok (.slice a' (n+m) c') w'∧Appd w w' base e size v (n+m) a' c' (xs++news):=by
 obtain⟨i,z,hi,hz,k2,k3,k4,k5,_⟩:=hE.hi
 cases ao with
 |none=>
  obtain⟨rfl,rfl⟩:=hnone rfl
  have hn:news=[]:=List.eq_nil_of_length_eq_zero (by simpa using hl)
  subst hn
  obtain⟨a',c',rfl⟩:=owns_form hown
  exact⟨a',c',w,run_append_owned_none (P:=P) w base t ty e i size hE.ht hi _ n xs hown,by simpa using hown,⟨rfl,rfl,rfl,Nat.le_refl _,fun _ _ _=>rfl⟩,.inl rfl⟩
 |some ad=>
  obtain⟨v',w',hr,h2,h3,_,h5⟩:=run_append_own_at (P:=P) w base t ty e i z size bytes hE.ht hi hz k2 k3 k4 k5 v n xs hown ad m c news hl (hnews ad rfl) h1 h63 hbytes hbase
  obtain⟨a',c',rfl⟩:=owns_form h2
  refine⟨a',c',w',hr,h2,h3,?_⟩
  rcases h5 with h5|h5
  ·exact .inl h5
  ·exact .inr ⟨_,h5,Nat.le_refl _⟩
theorem wp_app_any {P:Program} {t e:TypeId} {size bytes:Nat} (hE:EI P t e size bytes) {w:World} {o:Oper} {a:Act} {K:Act→World→Prop} {Q:Exit→Act→World→Prop} (s x:Operand) (ho:o.op=.call { callee:=.builtin .append,args:=#[s,x],argTypes:=#[t,t] })
  {base:Nat} {v:Value} {n:Nat} {xs:List Value} (hs:a.eval s=v) (hown:w.ownsRow base e size v n xs)
  (ao:Option Addr) (m c:Nat) (news:List Value) (hx:a.eval x=.slice ao m c) (hnone:ao=none→m=0∧c=0) (hl:news.length=m*size) (hnews:∀ad,ao=some ad→∀j u,news[j]? =some u→w.cell? (ad.add j)=some u) (h1:∀u∈news,u.oneCell'=true)
  (h63:n+m≤maxLen) (hbytes:(n+m)*bytes≤140737488355328) (hbase:base≤w.heap.size)
  (h:∀a' c' w',Appd w w' base e size v (n+m) a' c' (xs++news)→K (a.put o.dst (.slice a' (n+m) c')) w'):o.wp P a w K Q:=by
 obtain⟨a',c',w',hr,h2⟩:=run_app_any hE o.type hown ao m c news hnone hl hnews h1 h63 hbytes hbase
 unfold Oper.wp execOp
 simp only [ho,resolve,invoke,builtin,Sem.run_bind,Sem.run_pure,Result.andThen_ok,List.map_toArray,List.map_cons,List.map_nil,hs,hx,hr]
 exact h a' c' w' h2
theorem wpList_app_any {P:Program} {t e:TypeId} {size bytes:Nat} (hE:EI P t e size bytes) {w:World} {ops:Array Oper} {rest:List Oper} {o:Oper} {a:Act} {Q:Exit→Act→World→Prop} (hgd:o.guard=none) (s x:Operand) (ho:o.op=.call { callee:=.builtin .append,args:=#[s,x],argTypes:=#[t,t] })
  {base:Nat} {v:Value} {n:Nat} {xs:List Value} (hs:a.eval s=v) (hown:w.ownsRow base e size v n xs)
  (ao:Option Addr) (m c:Nat) (news:List Value) (hx:a.eval x=.slice ao m c) (hnone:ao=none→m=0∧c=0) (hl:news.length=m*size) (hnews:∀ad,ao=some ad→∀j u,news[j]? =some u→w.cell? (ad.add j)=some u) (h1:∀u∈news,u.oneCell'=true)
  (h63:n+m≤maxLen) (hbytes:(n+m)*bytes≤140737488355328) (hbase:base≤w.heap.size)
  (h:∀a' c' w',Appd w w' base e size v (n+m) a' c' (xs++news)→wpList P ops Q rest (a.put o.dst (.slice a' (n+m) c')) w'):wpList P ops Q (o::rest) a w:=
 wpList_plain hgd fun _ hK=>wp_app_any hE s x ho hs hown ao m c news hx hnone hl hnews h1 h63 hbytes hbase fun a' c' w' h2=>hK _ _ (h a' c' w' h2)
theorem own_src {w:World} {base:Nat} {e:TypeId} {size n c:Nat} {ao:Option Addr} {xs:List Value} (h:w.ownsRow base e size (.slice ao n c) n xs):(ao=none→n=0∧c=0)∧∀ad,ao=some ad→∀j u,xs[j]? =some u→w.cell? (ad.add j)=some u:=by
 obtain⟨hl,⟨he,hn⟩|⟨g,cap,cur,he,hg,_⟩⟩:=id h
 ·simp only [Value.slice.injEq] at he
  obtain⟨rfl,rfl,rfl⟩:=he
  exact⟨fun _=>⟨rfl,rfl⟩,fun _ h=>by cases h⟩
 ·simp only [Value.slice.injEq,true_and] at he
  obtain⟨rfl,rfl⟩:=he
  refine⟨by simp,?_⟩
  rintro ad hd j u hu
  obtain rfl:=Option.some.inj hd
  exact h.cells (g:=g) rfl j u hu
def TOne {α:Type} (T:Ty α):Prop:=∀c cs x,T.R c cs x→∀u∈cs,u.oneCell'=true
theorem sl_oneCell {α:Type} {T:Ty α} {c:CM} {v:Value} {l:List α} (h:Sl T c v l):v.oneCell'=true:=by
 obtain⟨a,cap,rfl,-⟩:=h
 rfl
theorem one_Tpt:TOne Ty.pt:=by
 rintro c cs x ⟨rfl,-⟩ u hu
 exact one_pt x u hu
theorem one_Tint:TOne Ty.int:=by
 rintro c cs x ⟨rfl,-⟩ u hu
 simp only [List.mem_cons,List.not_mem_nil,or_false] at hu
 subst hu;rfl
theorem one_Tsm:TOne Ty.sm:=by
 rintro c cs x ⟨rfl,-⟩ u hu
 exact one_sm x u hu
theorem one_Trc:TOne Ty.rc:=by
 rintro c cs x ⟨v,rfl,-,-,h⟩ u hu
 simp only [List.mem_cons,List.not_mem_nil,or_false] at hu
 rcases hu with rfl|rfl|rfl
 ·rfl
 ·rfl
 ·exact sl_oneCell h
theorem one_Trd:TOne Ty.rd:=by
 rintro c cs x ⟨v,rfl,-,h⟩ u hu
 simp only [List.mem_cons,List.not_mem_nil,or_false] at hu
 rcases hu with rfl|rfl
 ·rfl
 ·exact sl_oneCell h
theorem one_Topn:TOne Ty.opn:=by
 rintro c cs x ⟨v,v',rfl,-,h,h'⟩ u hu
 simp only [List.mem_cons,List.not_mem_nil,or_false] at hu
 rcases hu with rfl|rfl|rfl|rfl
 ·rfl
 ·exact sl_oneCell h
 ·rfl
 ·exact sl_oneCell h'
theorem one_Tms:TOne Ty.ms:=by
 rintro c cs x ⟨v,rfl,-,-,-,h⟩ u hu
 simp only [List.mem_cons,List.not_mem_nil,or_false] at hu
 rcases hu with rfl|rfl|rfl|rfl
 ·rfl
 ·rfl
 ·rfl
 ·exact sl_oneCell h
theorem one_Ths:TOne Ty.hs:=by
 rintro c cs x ⟨v,v',v'',rfl,h,-,-,-,-,h',h''⟩ u hu
 simp only [List.mem_cons,List.not_mem_nil,or_false] at hu
 rcases hu with rfl|rfl|rfl|rfl|rfl|rfl|rfl
 ·exact sl_oneCell h
 ·rfl
 ·rfl
 ·rfl
 ·rfl
 ·exact sl_oneCell h'
 ·exact sl_oneCell h''
theorem one_Tsl {α:Type} (T:Ty α):TOne (Ty.sl T):=by
 rintro c cs x ⟨v,rfl,h⟩ u hu
 simp only [List.mem_cons,List.not_mem_nil,or_false] at hu
 subst hu;exact sl_oneCell h
def Src {α:Type} (T:Ty α) (c:CM) (w:World) (v:Value) (l:List α):Prop:=
 ∃(ao:Option Addr) (cap:Nat) (css:List (List Value)),v=.slice ao l.length cap∧(ao=none→l.length=0∧cap=0)∧l.length≤maxLen∧css.length=l.length∧
  (∀(i:Nat) (cs:List Value) (x:α),css[i]? =some cs→l[i]? =some x→T.R c cs x)∧∀ad,ao=some ad→∀j u,css.flatten[j]? =some u→w.cell? (ad.add j)=some u
theorem Src.of_sl_c {α:Type} {T:Ty α} (h0:0<T.size) {c:CM} {w:World} (hc:Sub c w.cell?) {v:Value} {l:List α} (h:Sl T c v l):Src T c w v l:=by
 obtain⟨a,cap,rfl,h1,h2,h3,hel⟩:=h
 have hex:∀n,n≤l.length→∃css:List (List Value),css.length=n∧∀(i:Nat) (cs:List Value) (x:α),css[i]? =some cs→l[i]? =some x→T.R c cs x∧∀ad,a=some ad→At c ad.block (ad.off+i*T.size) cs∧ad=⟨ad.block,ad.off,none⟩:=by
  intro n
  induction n with
  |zero=>intro _;exact⟨[],rfl,fun i cs x h=>by simp at h⟩
  |succ n ih=>
   intro hn
   obtain⟨css,hl,hi⟩:=ih (by omega)
   obtain⟨b,o,cs,ha,hR,hA⟩:=hel n l[n] (List.getElem?_eq_getElem (by omega))
   refine⟨css++ [cs],by simp [hl],fun i cs' x e e'=>?_⟩
   by_cases hlt:i<css.length
   ·rw [List.getElem?_append_left hlt] at e;exact hi i cs' x e e'
   ·have hb:=(List.getElem?_eq_some_iff.1 e).1
    simp at hb
    obtain rfl:i=css.length:=by omega
    simp at e
    subst e
    rw [hl,List.getElem?_eq_getElem (by omega)] at e'
    obtain rfl:=Option.some.inj e'
    refine⟨hR,fun ad h=>?_⟩
    rw [ha] at h
    obtain rfl:=Option.some.inj h
    exact⟨by rw [hl];exact hA,rfl⟩
 obtain⟨css,hl,hi⟩:=hex l.length (Nat.le_refl _)
 refine⟨a,cap,css,rfl,fun h=>⟨by have:=h3 h;omega,h3 h⟩,by omega,hl,fun i cs x e e'=>(hi i cs x e e').1,fun ad had j u hu=>?_⟩
 have hcl:=css_len (c:=c) hl (fun i cs x e e'=>(hi i cs x e e').1)
 rw [flatten_at h0 css hcl] at hu
 cases hx:css[j/T.size]? with
 |none=>rw [hx] at hu;cases hu
 |some cs=>
  rw [hx] at hu
  have hlt:=(List.getElem?_eq_some_iff.1 hx).1
  obtain⟨hA,hd⟩:=(hi _ cs _ hx (List.getElem?_eq_getElem (by omega))).2 ad had
  have:=hA _ u hu
  rw [Nat.add_assoc,Nat.mul_comm,Nat.div_add_mod] at this
  rw [hd,Addr.add_lit];exact hc _ _ this
theorem Src.mono {α:Type} {T:Ty α} {c c':CM} {w w':World} {v:Value} {l:List α} (h:Src T c w v l) (hc:Sub c c') (hs:Sub w.cell? w'.cell?):Src T c' w' v l:=by
 obtain⟨ao,cap,css,h1,h2,h2',h3,h4,h5⟩:=h
 exact⟨ao,cap,css,h1,h2,h2',h3,fun i cs x e e'=>T.mono hc (h4 i cs x e e'),fun ad had j u hu=>hs _ _ (h5 ad had j u hu)⟩
theorem Src.grow {α:Type} {T:Ty α} {c:CM} {w w':World} {v:Value} {l:List α} (h:Src T c w v l) (hg:Grow w w'):Src T c w' v l:=h.mono (Sub.refl _) hg.sub
theorem Src.kept {α:Type} {T:Ty α} {c:CM} {w w':World} {g n cap:Nat} {l:List α} {row:Option Nat} (h:Src T c w (.slice (some ⟨g,0,none⟩) n cap) l) (hg:w.grownBy w' row) (hne:some g≠row):Src T c w' (.slice (some ⟨g,0,none⟩) n cap) l:=by
 obtain⟨ao,cap',css,h1,h2,h2',h3,h4,h5⟩:=h
 refine⟨ao,cap',css,h1,h2,h2',h3,h4,fun ad had j u hu=>?_⟩
 have e:=h5 ad had j u hu
 simp only [Value.slice.injEq] at h1
 obtain⟨h1,-,-⟩:=h1
 rw [had] at h1
 obtain rfl:=Option.some.inj h1
 have hl:=World.block_lt_of_cell? w _ e
 rw [World.cell?_of_block (w:=w) (hg.block _ hl (by rw [Addr.add_lit];exact hne))]
 exact e
theorem Src.of_new {α:Type} {T:Ty α} {c:CM} {cs:Array Value} {x:α} (hR:T.R c cs.toList x) (w:World) (t:TypeId) {g:Nat} (hg:g=w.heap.size):Src T c (w.alloc (.cells cs t)) (.slice (some ⟨g,0,none⟩) 1 1) [x]:=by
 subst hg
 refine⟨_,1,[cs.toList],rfl,by simp,(by show 1≤maxLen;decide),rfl,fun i cs' y e e'=>?_,fun ad had j u hu=>?_⟩
 ·have hi:=(List.getElem?_eq_some_iff.1 e).1
  obtain rfl:i=0:=by simpa using hi
  simp at e e'
  subst e;subst e';exact hR
 ·obtain rfl:=Option.some.inj had
  exact new_cells w cs t j u (by simpa using hu)
theorem run_appc {P:Program} {t e:TypeId} {size bytes:Nat} (hE:EI P t e size bytes) {α:Type} {T:Ty α} (hT:T.size=size) (h1:TOne T) {c:CM} {w:World} (ty:TypeId) {base:Nat} {v vs:Value} {l m:List α} (hown:OwnC T c w base e v l) (hsrc:Src T c w vs m)
  (hb0:0<bytes) (hbytes:(l.length+m.length)*bytes≤140737488355328) (hbase:base≤w.heap.size):
  ∃a' c' w',(Builtin.append_ #[t,t] ty #[v,vs]).run P w=.ok (.slice a' (l.length+m.length) c') w'∧OwnC T c w' base e (.slice a' (l.length+m.length) c') (l++m)∧w.grownBy w' v.ownBlock∧
   ((Value.slice a' (l.length+m.length) c').ownBlock=v.ownBlock∨∃g,(Value.slice a' (l.length+m.length) c').ownBlock=some g∧w.heap.size≤g):=by
 obtain⟨css,k1,k2,k3⟩:=hown
 obtain⟨ao,cap,css',rfl,s2,s2',s3,s4,s5⟩:=hsrc
 subst hT
 have hcl:=css_len s3 s4
 have hle:l.length+m.length≤(l.length+m.length)*bytes:=Nat.le_mul_of_pos_right _ hb0
 obtain⟨a',c',w',hr,hA⟩:=run_app_any hE ty k1 ao m.length cap css'.flatten s2 (by rw [flatten_len css' hcl,s3]) s5 (by
   intro u hu
   obtain⟨cs,hcs,huc⟩:=List.mem_flatten.1 hu
   obtain⟨i,hi,rfl⟩:=List.mem_iff_getElem.1 hcs
   exact h1 _ _ _ (s4 i css'[i] m[i] (by simp) (by simp)) u huc) (by unfold maxLen;omega) hbytes hbase
 refine⟨a',c',w',hr,⟨css++css',?_,by simp [k2,s3],fun i cs x e e'=>?_⟩,hA.grown,hA.blk⟩
 ·have:=hA.own
  rw [←List.flatten_append] at this
  simpa using this
 ·by_cases hi:i<l.length
  ·rw [List.getElem?_append_left (by omega)] at e
   rw [List.getElem?_append_left hi] at e'
   exact k3 i _ _ e e'
  ·rw [List.getElem?_append_right (by omega)] at e
   rw [List.getElem?_append_right (by omega)] at e'
   rw [k2] at e
   exact s4 _ _ _ e e'
theorem wp_appc {P:Program} {t e:TypeId} {size bytes:Nat} (hE:EI P t e size bytes) {α:Type} {T:Ty α} (hT:T.size=size) (h1:TOne T) (hb0:0<bytes) {c:CM} {w:World} {o:Oper} {a:Act} {K:Act→World→Prop} {Q:Exit→Act→World→Prop} (s x:Operand) (ho:o.op=.call { callee:=.builtin .append,args:=#[s,x],argTypes:=#[t,t] })
  {base:Nat} {v vs:Value} {l m:List α} (hs:a.eval s=v) (hown:OwnC T c w base e v l) (hx:a.eval x=vs) (hsrc:Src T c w vs m)
  (hbytes:(l.length+m.length)*bytes≤140737488355328) (hbase:base≤w.heap.size)
  (h:∀a' c' w',OwnC T c w' base e (.slice a' (l.length+m.length) c') (l++m)→w.grownBy w' v.ownBlock→((Value.slice a' (l.length+m.length) c').ownBlock=v.ownBlock∨∃g,(Value.slice a' (l.length+m.length) c').ownBlock=some g∧w.heap.size≤g)→K (a.put o.dst (.slice a' (l.length+m.length) c')) w'):o.wp P a w K Q:=by
 obtain⟨a',c',w',hr,h2,h3,h4⟩:=run_appc hE hT h1 o.type hown hsrc hb0 hbytes hbase
 unfold Oper.wp execOp
 simp only [ho,resolve,invoke,builtin,Sem.run_bind,Sem.run_pure,Result.andThen_ok,List.map_toArray,List.map_cons,List.map_nil,hs,hx,hr]
 exact h a' c' w' h2 h3 h4
theorem wpList_appc {P:Program} {t e:TypeId} {size bytes:Nat} (hE:EI P t e size bytes) {α:Type} {T:Ty α} (hT:T.size=size) (h1:TOne T) (hb0:0<bytes) {c:CM} {w:World} {ops:Array Oper} {rest:List Oper} {o:Oper} {a:Act} {Q:Exit→Act→World→Prop} (hgd:o.guard=none) (s x:Operand) (ho:o.op=.call { callee:=.builtin .append,args:=#[s,x],argTypes:=#[t,t] })
  {base:Nat} {v vs:Value} {l m:List α} (hs:a.eval s=v) (hown:OwnC T c w base e v l) (hx:a.eval x=vs) (hsrc:Src T c w vs m)
  (hbytes:(l.length+m.length)*bytes≤140737488355328) (hbase:base≤w.heap.size)
  (h:∀a' c' w',OwnC T c w' base e (.slice a' (l.length+m.length) c') (l++m)→w.grownBy w' v.ownBlock→((Value.slice a' (l.length+m.length) c').ownBlock=v.ownBlock∨∃g,(Value.slice a' (l.length+m.length) c').ownBlock=some g∧w.heap.size≤g)→wpList P ops Q rest (a.put o.dst (.slice a' (l.length+m.length) c')) w'):wpList P ops Q (o::rest) a w:=
 wpList_plain hgd fun _ hK=>wp_appc hE hT h1 hb0 s x ho hs hown hx hsrc hbytes hbase fun a' c' w' h2 h3 h4=>hK _ _ (h a' c' w' h2 h3 h4)
theorem Sl.nil {α:Type} (T:Ty α) (c:CM):Sl T c (.slice none 0 0) []:=⟨none,0,rfl,Nat.le_refl _,Nat.zero_le _,fun _=>rfl,fun i x e=>by simp at e⟩
theorem grow_by {w0 w w':World} {v:Value} (hG:Grow w0 w) (hg:w.grownBy w' v.ownBlock) (hv:∀k,v.ownBlock=some k→w0.heap.size≤k):Grow w0 w':=hG.grown hg hv
def fitsE (S:Int→Int):List Pt→Int
 | []=>0
 |p::l=>if wrap64 (S p.k+p.n)<0 then 11 else if 1048576<wrap64 (S p.k+p.n) then 4 else fitsE S l
def S4 (s0 s1 s2 s3:Int) (k:Int):Int:=if k=0 then s0 else if k=1 then s1 else if k=2 then s2 else s3
def KeysOk (l:List Pt):Prop:=∀p∈l,0≤p.k∧p.k<4
theorem S4_cell (s0 s1 s2 s3 k:Int) (h0:0≤k) (h1:k<4):(#[.int .i64 s0,.int .i64 s1,.int .i64 s2,.int .i64 s3]:Array Value)[k.toNat]? =some (.int .i64 (S4 s0 s1 s2 s3 k)):=by
 have:k=0∨k=1∨k=2∨k=3:=by omega
 rcases this with rfl|rfl|rfl|rfl<;>rfl
def ofL (l:List Pt) (n:Int):List Pt:=l.filter fun p=>p.h==n
def Sm.get (s:Sm) (k:Int):Int:=S4 s.a s.b s.c s.d k
def Sm.put (s:Sm) (k x:Int):Sm:=if k=0 then { s with a:=x } else if k=1 then { s with b:=x } else if k=2 then { s with c:=x } else { s with d:=x }
def Sm.add (s:Sm) (k n:Int):Sm:=s.put k (wrap64 (s.get k+n))
def doP (s:Sm) (l:List Pt):Sm:=l.foldl (fun s p=>s.add p.k p.n) s
theorem Sm.set_cells (s:Sm) (k x:Int) (h0:0≤k) (h1:k<4):(#[.int .i64 s.a,.int .i64 s.b,.int .i64 s.c,.int .i64 s.d]:Array Value).setIfInBounds k.toNat (.int .i64 x)=#[.int .i64 (s.put k x).a,.int .i64 (s.put k x).b,.int .i64 (s.put k x).c,.int .i64 (s.put k x).d]:=by
 have:k=0∨k=1∨k=2∨k=3:=by omega
 rcases this with rfl|rfl|rfl|rfl<;>rfl
theorem Sm.row_cell {w:World} {B:Nat} {s:Sm} {t:TypeId} (h:w.heap[B]? =some (.cells #[.int .i64 s.a,.int .i64 s.b,.int .i64 s.c,.int .i64 s.d] t (0,0))) (k:Int) (h0:0≤k) (h1:k<4):w.cell? ⟨B,k.toNat,none⟩=some (.int .i64 (s.get k)):=by
 simp only [World.cell?,h];exact S4_cell _ _ _ _ _ h0 h1
theorem Sm.row_free {w:World} {B:Nat} {s:Sm} {t:TypeId} (h:w.heap[B]? =some (.cells #[.int .i64 s.a,.int .i64 s.b,.int .i64 s.c,.int .i64 s.d] t (0,0))) (o:Nat):w.frozen? ⟨B,o,none⟩=false:=by
 simp [World.frozen?,h]
theorem Sm.row_set {w:World} {B:Nat} {s:Sm} {t:TypeId} (h:w.heap[B]? =some (.cells #[.int .i64 s.a,.int .i64 s.b,.int .i64 s.c,.int .i64 s.d] t (0,0))) (k x:Int) (h0:0≤k) (h1:k<4):(w.setCell ⟨B,k.toNat,none⟩ (.int .i64 x)).heap[B]? =some (.cells #[.int .i64 (s.put k x).a,.int .i64 (s.put k x).b,.int .i64 (s.put k x).c,.int .i64 (s.put k x).d] t (0,0)):=by
 simp only [World.setCell,Array.getElem?_modify,h]
 simp [←Sm.set_cells s k x h0 h1]
theorem heap_later {w:World} {B:Nat} {o:Obj} (h:w.heap[B]? =some o) (o':Obj):(w.alloc o').heap[B]? =some o:=by
 exact(Below.heap_alloc w o' B (γ h)).trans h
set_option maxRecDepth 100000 in
set_option maxHeartbeats 400000 in
theorem part_do {v:Value} {l:List Pt} {s:Sm} (w:World) (hv:Pts w.cell? v l) (hk:KeysOk l):
  Calls Tryz.prog 54 #[.agg #[.int .i64 s.a,.int .i64 s.b,.int .i64 s.c,.int .i64 s.d],v] w fun e w'=>e=.returned (.agg #[.int .i64 (doP s l).a,.int .i64 (doP s l).b,.int .i64 (doP s l).c,.int .i64 (doP s l).d])∧Grow w w':=by
 obtain⟨a,cap,rfl,h1,h2,-,hel⟩:=hv
 unfold maxLen at h2
 go_enter Tryz.func54,Tryz.ntmps54
 go_wp2
 go_loopw [9] (fun i wr=>∃(k:Nat) (s':Sm),k≤l.length∧i=.int .i64 k∧Grow w wr∧doP s' (l.drop k)=doP s l∧wr.heap[w.heap.size]? =some (.cells #[.int .i64 s'.a,.int .i64 s'.b,.int .i64 s'.c,.int .i64 s'.d] 48 (0,0))∧wr.heap[w.heap.size+1]? =some (.cells #[.int .i64 0,.int .i64 0,.int .i64 0,.int .i64 0] 48 (0,0))) (fun i _=>l.length - (intOf i).toNat)
 case atStart=>exact⟨0,s,by omega,rfl,grA,rfl,heap_later (heap_alloc_new w _) _,by simpa using heap_alloc_new (w.alloc _) _⟩
 case round=>
  obtain⟨k,s',hk',rfl,hb,hE,hrow,hrow2⟩:=hrel
  have HE:=η hE
  clear hE
  by_cases hlt:k<l.length
  ·obtain⟨b,o,rfl,c0,c1,c2,-,-,-⟩:=Pts.at_ hel k hlt
   replace c0:=hb.sub _ _ c0
   replace c1:=hb.sub _ _ c1
   replace c2:=hb.sub _ _ c2
   obtain⟨hk0,hk1⟩:=hk l[k] (by simp)
   have HR:=η hrow
   have HR2:=η hrow2
   have cs:=Sm.row_cell hrow _ hk0 hk1
   have cf:=Sm.row_free hrow l[k].k.toNat
   have hsz:w.heap.size<wr.heap.size:=(γ hrow)
   have HD:=η (List.drop_eq_getElem_cons hlt)
   clear hel hk hrow hrow2
   generalize hp:l[k]=p at*
   obtain⟨ph,pk,pn⟩:=p
   clear hp
   simp only at c0 c1 c2 hk0 hk1 cs cf
   go_wp2
   go_region
   go_wp2
   go_roundw
   case rel=>exact⟨k+1,s'.add pk pn,by omega,by go_num,grA,by rw [←HE.o,HD.o];rfl,heap_later (Sm.row_set HR.o _ _ hk0 hk1) _,heap_later ((Below.heap_setCell _ _ _ _ (by simp)).trans HR2.o) _⟩
   case measure=>simp [intOf];omega
  ·have e0:wr.cell? ⟨w.heap.size,0,none⟩=some (.int .i64 s'.a):=by simp [World.cell?,hrow]
   have e1:wr.cell? ⟨w.heap.size,1,none⟩=some (.int .i64 s'.b):=by simp [World.cell?,hrow]
   have e2:wr.cell? ⟨w.heap.size,2,none⟩=some (.int .i64 s'.c):=by simp [World.cell?,hrow]
   have e3:wr.cell? ⟨w.heap.size,3,none⟩=some (.int .i64 s'.d):=by simp [World.cell?,hrow]
   have z0:wr.cell? ⟨w.heap.size+1,0,none⟩=some (.int .i64 0):=by simp [World.cell?,hrow2]
   have z1:wr.cell? ⟨w.heap.size+1,1,none⟩=some (.int .i64 0):=by simp [World.cell?,hrow2]
   have z2:wr.cell? ⟨w.heap.size+1,2,none⟩=some (.int .i64 0):=by simp [World.cell?,hrow2]
   have z3:wr.cell? ⟨w.heap.size+1,3,none⟩=some (.int .i64 0):=by simp [World.cell?,hrow2]
   have zf:∀o,wr.frozen? ⟨w.heap.size+1,o,none⟩=false:=by simp [World.frozen?,hrow2]
   have hs:s'=doP s l:=by rw [←HE.o,List.drop_of_length_le (by omega)];rfl
   have HS:=η hs
   clear hrow hrow2 hel hk HE hs
   go_wp2
   refine bodyPost_ret (v:=.agg #[.int .i64 s'.a,.int .i64 s'.b,.int .i64 s'.c,.int .i64 s'.d]) (by simp [results,Tryz.results54,go_sem,z0,z1,z2,z3]) rfl ?_
   refine⟨by rw [HS.o],?_⟩
   refine Grow.setCell (Grow.setCell (Grow.setCell (Grow.setCell hb ?_ _) ?_ _) ?_ _) ?_ _<;>simp
set_option maxHeartbeats 400000 in
theorem part_fits {v:Value} {l:List Pt} {s0 s1 s2 s3:Int} (w:World) (hv:Pts w.cell? v l) (hk:KeysOk l):
  Calls Tryz.prog 53 #[.agg #[.int .i64 s0,.int .i64 s1,.int .i64 s2,.int .i64 s3],v] w fun e w'=>e=.returned (.int .i64 (fitsE (S4 s0 s1 s2 s3) l))∧Grow w w':=by
 obtain⟨a,cap,rfl,h1,h2,-,hel⟩:=hv
 unfold maxLen at h2
 go_enter Tryz.func53,Tryz.ntmps53
 go_wp2
 go_loopw [4,10] (fun _ i wr=>∃k:Nat,k≤l.length∧i=.int .i64 k∧Grow (w.alloc (.cells #[.int .i64 s0,.int .i64 s1,.int .i64 s2,.int .i64 s3] 48)) wr∧fitsE (S4 s0 s1 s2 s3) l=fitsE (S4 s0 s1 s2 s3) (l.drop k)) (fun _ i _=>l.length - (intOf i).toNat)
 case atStart=>exact⟨0,by omega,rfl,Grow.refl _,rfl⟩
 case round=>
  obtain⟨k,hk',rfl,hb,hE⟩:=hrel
  have hbw:=((Grow.refl w).alloc _).trans hb
  by_cases hlt:k<l.length
  ·obtain⟨b,o,rfl,c0,c1,c2,-,-,-⟩:=Pts.at_ hel k hlt
   replace c0:=hbw.sub _ _ c0
   replace c1:=hbw.sub _ _ c1
   replace c2:=hbw.sub _ _ c2
   obtain⟨hk0,hk1⟩:=hk l[k] (by simp)
   have cs:wr.cell? ⟨w.heap.size,l[k].k.toNat,none⟩=some (.int .i64 (S4 s0 s1 s2 s3 l[k].k)):=hb.sub _ _ (by
    rw [World.cell?_alloc_new];exact S4_cell s0 s1 s2 s3 _ hk0 hk1)
   have hsz:w.heap.size<wr.heap.size:=by have:=hb.size;simp at this;omega
   rw [List.drop_eq_getElem_cons hlt,fitsE] at hE
   clear hel hk
   generalize l[k].h=ph at*
   generalize l[k].k=pk at*
   generalize l[k].n=pn at*
   generalize S4 s0 s1 s2 s3 pk=spk at*
   have HE:=η hE
   clear hE
   go_wp2
   go_region
   all_goals go_wp2
   ·go_ret
    exact⟨ret_int (by rw [HE.o,if_pos ‹_›]),grA⟩
   ·go_ret
    rename_i t1 _ t2
    exact⟨ret_int (by rw [HE.o,if_neg (by omega),if_pos t2]),grA⟩
   ·rename_i t1 _ t2
    go_roundw
    case rel=>exact⟨k+1,by omega,by go_num,grA,by rw [HE.o,if_neg (by omega),if_neg (by omega)]⟩
    case measure=>simp [intOf];omega
  ·go_wp2
   go_ret
   refine⟨?_,hbw⟩
   rw [hE,List.drop_of_length_le (by omega)]
   rfl
def rightS (s:Sm):Bool:=decide (0≤s.a∧s.a≤1048576∧0≤s.b∧s.b≤1048576∧0≤s.c∧s.c≤1048576∧0≤s.d∧s.d≤1048576)
theorem rightS_iff (s:Sm):rightS s=true↔∀k:Nat,k<4→0≤s.get k∧s.get k≤1048576:=by
 unfold rightS Sm.get S4
 simp only [decide_eq_true_eq]
 constructor
 ·rintro⟨a,b,c,d,e,f,g,h⟩ k hk
  have:k=0∨k=1∨k=2∨k=3:=by omega
  rcases this with rfl|rfl|rfl|rfl<;>simp<;>omega
 ·intro h
  have h0:=h 0 (by omega)
  have h1:=h 1 (by omega)
  have h2:=h 2 (by omega)
  have h3:=h 3 (by omega)
  simp at h0 h1 h2 h3
  omega
def keyFold (x:Int) (l:List Pt) (k:Int):Int:=l.foldl (fun x p=>if p.k=k then wrap64 (x+p.n) else x) x
theorem Sm.get_put (s:Sm) {j k:Int} (x:Int) (h0:0≤j) (h1:j<4) (g0:0≤k) (g1:k<4):(s.put k x).get j=if j=k then x else s.get j:=by
 have a:j=0∨j=1∨j=2∨j=3:=by omega
 have b:k=0∨k=1∨k=2∨k=3:=by omega
 rcases a with rfl|rfl|rfl|rfl<;>rcases b with rfl|rfl|rfl|rfl<;>rfl
theorem Sm.ext_get {s t:Sm} (h:∀j:Int,0≤j→j<4→s.get j=t.get j):s=t:=by
 obtain⟨a,b,c,d⟩:=s
 obtain⟨a',b',c',d'⟩:=t
 have h0:=h 0 (by omega) (by omega)
 have h1:=h 1 (by omega) (by omega)
 have h2:=h 2 (by omega) (by omega)
 have h3:=h 3 (by omega) (by omega)
 simp [Sm.get,S4] at h0 h1 h2 h3
 simp [h0,h1,h2,h3]
theorem doP_get:∀(l:List Pt) (s:Sm),KeysOk l→∀j:Int,0≤j→j<4→(doP s l).get j=keyFold (s.get j) l j
 | [],s,_,j,_,_=>rfl
 |p::l,s,hk,j,h0,h1=>by
  have hp:=hk p (by simp)
  show(doP (s.add p.k p.n) l).get j=keyFold (if p.k=j then wrap64 (s.get j+p.n) else s.get j) l j
  rw [doP_get l _ (fun q hq=>hk q (by simp [hq])) j h0 h1,Sm.add,Sm.get_put s _ h0 h1 hp.1 hp.2]
  by_cases h:j=p.k
  ·simp [h]
  ·have:¬p.k=j:=fun e=>h e.symm
   simp [h,this]
section
variable {P:Program} {ops:Array Oper} {Q:Exit→Act→World→Prop} {md:Region.Mode} {S:World→Prop} {c:Nat}
def DownSet (md:Region.Mode) (ops:Array Oper) (listed:Array Bool):Prop:=
 listed.size=ops.size∧∀(j:Nat) (o:Oper),ops[j]? =some o→listed.getD j true=true→∀e∈o.after,Region.binds md e=true→listed.getD e.on false=true
def waitsFor (md:Region.Mode) (ops:Array Oper):Nat→Nat→Nat→Bool
 |0,_,_=>false
 |f+1,i,c=>((ops[c]?).map fun o=>o.after.toList.any fun e=>Region.binds md e&&(e.on==i||waitsFor md ops f i e.on)).getD false
theorem waits_spec {f i:Nat} {listed:Array Bool} (hc:DownSet md ops listed) (hi:listed.getD i false=false):∀{c:Nat},waitsFor md ops f i c=true→c∉Region.ready md ops listed∧(c<ops.size→listed.getD c false=false):=by
 induction f with
 |zero=>intro c h;cases h
 |succ f ih=>
  intro c h
  unfold waitsFor at h
  cases ho:ops[c]? with
  |none=>rw [ho] at h;cases h
  |some o=>
   rw [ho] at h
   simp only [Option.map_some,Option.getD_some,List.any_eq_true,Bool.and_eq_true,Bool.or_eq_true,beq_iff_eq] at h
   obtain⟨e,he,hb,hor⟩:=h
   have he':e∈o.after:=by simpa using he
   have hun:listed.getD e.on false=false:=by
    rcases hor with rfl|h2
    ·exact hi
    ·have h3:=ih h2
     by_cases hlt:e.on<ops.size
     ·exact h3.2 hlt
     ·simp [Array.getElem?_eq_none (xs:=listed) (i:=e.on) (by rw [hc.1];omega)]
   refine⟨fun hr=>?_,fun _=>?_⟩
   ·obtain⟨_,o',ho',hall⟩:=mem_ready.1 hr
    rw [ho] at ho'
    obtain rfl:=Option.some.inj ho'
    have:=hall e he' hb
    rw [hun] at this
    cases this
   ·by_cases ht:listed.getD c true=true
    ·have:=hc.2 c o ho ht e he' hb
     rw [hun] at this
     cases this
    ·have hlt:=(γ ho)
     have hl:c<listed.size:=by rw [hc.1];exact hlt
     simp [hl] at ht ⊢
     exact ht
theorem DownSet.set {listed:Array Bool} (h:DownSet md ops listed) {j:Nat} (hj:j∈Region.ready md ops listed):DownSet md ops (listed.setIfInBounds j true):=by
 refine⟨by simpa using h.1,fun k o ho hk e he hb=>?_⟩
 obtain⟨_,oj,hoj,hall⟩:=mem_ready.1 hj
 have keep:listed.getD e.on false=true→(listed.setIfInBounds j true).getD e.on false=true:=by
  intro hx
  by_cases hje:j=e.on
  ·rw [hje]
   by_cases hl:e.on<listed.size
   ·simp [hl]
   ·simp [hl] at hx
  ·rw [getD_set_ne false hje];exact hx
 by_cases hjk:j=k
 ·subst hjk
  rw [hoj] at ho
  obtain rfl:=Option.some.inj ho
  exact keep (hall e he hb)
 ·rw [getD_set_ne true hjk] at hk
  exact keep (h.2 k o ho hk e he hb)
def wpBut (P:Program) (md:Region.Mode) (ops:Array Oper) (Q:Exit→Act→World→Prop) (S:World→Prop) (c:Nat):Nat→Array Bool→Act→World→Prop
 |0,listed,a,w=>Region.ready md ops listed=[]∧Q .normal a w
 |fuel+1,listed,a,w=>(Region.ready md ops listed=[]→Q .normal a w)∧∀i∈Region.ready md ops listed,wpOp P ops Q i (fun a' w'=>(i≠c→S w')∧wpBut P md ops Q S c fuel (listed.setIfInBounds i true) a' w') a w
theorem wpBut_any:∀(fuel:Nat) (listed:Array Bool) (a:Act) (w:World),wpBut P md ops Q S c fuel listed a w→wpAny P md ops Q fuel listed a w
 |0,_,_,_,h=>h
 |_+1,_,_,_,h=>⟨h.1,fun i hi=>wpOp_mono (fun a' w' h'=>wpBut_any _ _ a' w' h'.2) (h.2 i hi)⟩
theorem wpBut_first {i f:Nat} {oi:Oper} {v:Value} (hi:ops[i]? =some oi) (hsel:∀(j:Nat) (o:Oper) cs b,ops[j]? =some o→o.op≠ .select cs b)
  (hQ:∀k a w,Q (.panic k) (a.put oi.dst v) w→Q (.panic k) a w) (hw:waitsFor md ops f i c=true):
  ∀(fuel:Nat) (listed:Array Bool) (a:Act) (w:World),DownSet md ops listed→
   (∀j oj,ops[j]? =some oj→j≠i→listed.getD j true=false→(∀e∈oj.after,Region.binds md e=true→e.on≠i)→oi.apart ops oj=true)→
   i∈Region.ready md ops listed→YieldsIf P ops S oi v a→S w→
   wpBut P md ops Q S c fuel (listed.setIfInBounds i true) (a.put oi.dst v) w→wpBut P md ops Q S c (fuel+1) listed a w:=by
 have hun:∀listed:Array Bool,i∈Region.ready md ops listed→listed.getD i false=false:=by
  intro listed hr
  have h0:=(mem_ready.1 hr).1
  by_cases hl:i<listed.size
  ·simp [hl] at h0 ⊢;exact h0
  ·simp [hl]
 intro fuel
 induction fuel with
 |zero=>
  intro listed a w _ _ hr hy hS H
  refine⟨fun h=>(by rw [h] at hr;cases hr),fun j hj=>?_⟩
  by_cases hji:j=i
  ·subst hji;exact hy.wpOp hi hS ⟨fun _=>hS,H⟩
  ·have:=ready_mono hj hji
   rw [H.1] at this
   cases this
 |succ fuel ih=>
  intro listed a w hcl hfree hr hy hS H
  refine⟨fun h=>(by rw [h] at hr;cases hr),fun j hj=>?_⟩
  by_cases hji:j=i
  ·subst hji;exact hy.wpOp hi hS ⟨fun _=>hS,H⟩
  ·have hjc:j≠c:=fun e=>(waits_spec hcl (hun _ hr) hw).1 (e▸hj)
   have h1:=H.2 j (ready_mono hj hji)
   obtain⟨hjun,oj,hoj,hall⟩:=mem_ready.1 hj
   have hnot:∀e∈oj.after,Region.binds md e=true→e.on≠i:=fun e he hb heq=>by
    have h1:=hall e he hb
    rw [heq,hun _ hr] at h1
    cases h1
   have h2:=wpOp_putIf hoj (hfree j oj hoj hji hjun hnot) (fun cs b=>hsel i oi cs b hi) (fun cs b=>hsel j oj cs b hoj) hQ hy h1
   refine wpOp_mono (fun a' w' h3=>⟨fun _=>h3.2.1 hjc,ih (listed.setIfInBounds j true) a' w' (hcl.set hj) (fun k ok hk hki hku hno=>?_) (ready_mono hr (Ne.symm hji)) h3.1 (h3.2.1 hjc) ?_⟩) h2
   ·refine hfree k ok hk hki ?_ hno
    by_cases hjk:j=k
    ·subst hjk;exact hjun
    ·rw [getD_set_ne true hjk] at hku;exact hku
   ·rw [Array.setIfInBounds_comm _ _ hji]
    exact h3.2.2
def shutB (md:Region.Mode) (ops:Array Oper) (listed:Array Bool):Bool:=
 listed.size==ops.size&&(List.range ops.size).all fun j=>((ops[j]?).map fun o=>!(listed.getD j true)||o.after.toList.all fun e=>!Region.binds md e||listed.getD e.on false).getD true
theorem shut_of {listed:Array Bool} (h:shutB md ops listed=true):DownSet md ops listed:=by
 unfold shutB at h
 simp only [Bool.and_eq_true,beq_iff_eq,List.all_eq_true,List.mem_range] at h
 refine⟨h.1,fun j o ho hj e he hb=>?_⟩
 have h2:=h.2 j (γ ho)
 rw [ho] at h2
 simp only [Option.map_some,Option.getD_some,hj,Bool.not_true,Bool.false_or,List.all_eq_true,Bool.or_eq_true] at h2
 rcases h2 e (by simpa using he) with h3|h3
 ·rw [hb] at h3;cases h3
 ·exact h3
theorem but_done {listed:Array Bool} {a:Act} {w:World} {fuel:Nat} (hr:Region.ready md ops listed=[]) (h:Q .normal a w):wpBut P md ops Q S c fuel listed a w:=by
 cases fuel with
 |zero=>exact⟨hr,h⟩
 |succ n=>exact⟨fun _=>h,by rw [hr];simp⟩
theorem but_one {i:Nat} {o:Oper} {fuel:Nat} {listed:Array Bool} {a:Act} {w:World} (hr:Region.ready md ops listed=[i]) (hi:ops[i]? =some o)
  (h:∀K:Act→World→Prop,(∀a' w',(i≠c→S w')∧wpBut P md ops Q S c fuel (listed.setIfInBounds i true) a' w'→K a' w')→if Region.wanted o (yielded ops a.tmps)=true then Oper.wp P o a w K Q else K (a.put o.dst undef) w):
  wpBut P md ops Q S c (fuel+1) listed a w:=by
 refine⟨fun h0=>absurd (h0.symm.trans hr) (by simp),fun j hj=>?_⟩
 rw [hr] at hj
 obtain rfl:j=i:=by simpa using hj
 exact wpOp_step hi fun K hK=>h K hK
theorem but_two {i j:Nat} {o o':Oper} {fuel:Nat} {listed:Array Bool} {a:Act} {w:World} (hr:Region.ready md ops listed=[i,j]) (hi:ops[i]? =some o) (hj:ops[j]? =some o')
  (h:∀K:Act→World→Prop,(∀a' w',(i≠c→S w')∧wpBut P md ops Q S c fuel (listed.setIfInBounds i true) a' w'→K a' w')→if Region.wanted o (yielded ops a.tmps)=true then Oper.wp P o a w K Q else K (a.put o.dst undef) w)
  (h':∀K:Act→World→Prop,(∀a' w',(j≠c→S w')∧wpBut P md ops Q S c fuel (listed.setIfInBounds j true) a' w'→K a' w')→if Region.wanted o' (yielded ops a.tmps)=true then Oper.wp P o' a w K Q else K (a.put o'.dst undef) w):
  wpBut P md ops Q S c (fuel+1) listed a w:=by
 refine⟨fun h0=>absurd (h0.symm.trans hr) (by simp),fun x hx=>?_⟩
 rw [hr] at hx
 have hx:x=i∨x=j:=by simpa using hx
 rcases hx with rfl|rfl
 ·exact wpOp_step hi fun K hK=>h K hK
 ·exact wpOp_step hj fun K hK=>h' K hK
def tk (P:Program) (md:Region.Mode) (ops:Array Oper) (Q:Exit→Act→World→Prop) (S:World→Prop) (c:Nat) (w:World):List Nat→Nat→Array Bool→Act→Prop
 | [],fuel,listed,a=>wpBut P md ops Q S c fuel listed a w
 |i::is,F,listed,a=>∃fuel oi v,F=fuel+1∧ops[i]? =some oi∧YieldsIf P ops S oi v a∧tk P md ops Q S c w is fuel (listed.setIfInBounds i true) (a.put oi.dst v)
theorem tE {fuel:Nat} {listed:Array Bool} {a:Act} {w:World} (h:wpBut P md ops Q S c fuel listed a w):tk P md ops Q S c w [] fuel listed a:=h
theorem bO (i:Nat) {o:Oper} {fuel:Nat} {listed:Array Bool} {a:Act} {w:World} (hr:Region.ready md ops listed=[i]) (hi:ops[i]? =some o)
  (h:∀K:Act→World→Prop,Hid (∀a' w',(i≠c→S w')∧wpBut P md ops Q S c fuel (listed.setIfInBounds i true) a' w'→K a' w')→if Region.wanted o (yielded ops a.tmps)=true then Oper.wp P o a w K Q else K (a.put o.dst undef) w):
  wpBut P md ops Q S c (fuel+1) listed a w:=but_one hr hi fun K hK=>h K (η hK)
theorem bP (i j:Nat) {o o':Oper} {fuel:Nat} {listed:Array Bool} {a:Act} {w:World} (hr:Region.ready md ops listed=[i,j]) (hi:ops[i]? =some o) (hj:ops[j]? =some o')
  (h:∀K:Act→World→Prop,Hid (∀a' w',(i≠c→S w')∧wpBut P md ops Q S c fuel (listed.setIfInBounds i true) a' w'→K a' w')→if Region.wanted o (yielded ops a.tmps)=true then Oper.wp P o a w K Q else K (a.put o.dst undef) w)
  (h':∀K:Act→World→Prop,Hid (∀a' w',(j≠c→S w')∧wpBut P md ops Q S c fuel (listed.setIfInBounds j true) a' w'→K a' w')→if Region.wanted o' (yielded ops a.tmps)=true then Oper.wp P o' a w K Q else K (a.put o'.dst undef) w):
  wpBut P md ops Q S c (fuel+1) listed a w:=but_two hr hi hj (fun K hK=>h K (η hK)) fun K hK=>h' K (η hK)
theorem but_start (S:World→Prop) (c:Nat) {id:Nat} {a:Act} {w:World} (hm:P.follows .mixedOrders=true) (h:wpBut P .any ops Q S c ops.size (Array.replicate ops.size false) a w.drew):(Code.region id ops true).wp P Q a w:=
 wp_region_any hm (wpBut_any _ _ _ _ h)
end
section
variable {P:Program} {ops:Array Oper} {Q:Exit→Act→World→Prop} {md:Region.Mode} {S:World→Prop} {c:Nat}
def tkm (P:Program) (md:Region.Mode) (ops:Array Oper) (Q:Exit→Act→World→Prop) (S:World→Prop) (c:Nat) (w:World):List Nat→Nat→Array Bool→Act→Prop
 | [],fuel,listed,a=>wpBut P md ops Q S c fuel listed a w
 |i::is,F,listed,a=>∃fuel oi v,F=fuel+1∧ops[i]? =some oi∧YieldsIf P ops S oi v a∧tkm P md ops Q S c w is fuel (listed.setIfInBounds i true) (a.put oi.dst v)
def tkBm (md:Region.Mode) (ops:Array Oper) (c f:Nat):List Nat→Array Bool→Bool
 | [],_=>true
 |i::is,listed=>Region.free md ops listed i&&((Region.ready md ops listed).contains i&&(waitsFor md ops f i c&&tkBm md ops c f is (listed.setIfInBounds i true)))
theorem tkm_go {w:World} (hsel:∀(j:Nat) (o:Oper) cs b,ops[j]? =some o→o.op≠ .select cs b) (hQ:∀k d v a w,Q (.panic k) (a.put (some d) v) w→Q (.panic k) a w) (hS:S w) (f:Nat):∀(is:List Nat) (fuel:Nat) (listed:Array Bool) (a:Act),DownSet md ops listed→tkBm md ops c f is listed=true→tkm P md ops Q S c w is fuel listed a→wpBut P md ops Q S c fuel listed a w
 | [],_,_,_,_,_,h=>h
 |i::is,_,listed,a,hd,hb,h=>by
  obtain⟨fuel,oi,v,rfl,hi,hy,h⟩:=h
  simp only [tkBm,Bool.and_eq_true] at hb
  obtain⟨b1,b2,b3,b4⟩:=hb
  have hr:i∈Region.ready md ops listed:=by simpa using b2
  exact wpBut_first hi hsel (fun k a w h=>by
   cases hd:oi.dst with
   |none=>rw [hd] at h;exact h
   |some d=>rw [hd] at h;exact hQ k d _ a w h) b3 fuel listed a w hd (Region.free_spec hi b1) hr hy hS (tkm_go hsel hQ hS f is fuel _ _ (hd.set hr) b4 h)
theorem bLm (is:List Nat) (f:Nat) {fuel:Nat} {listed:Array Bool} {a:Act} {w:World} (h5:(Region.noSelect ops&&(shutB md ops listed&&tkBm md ops c f is listed))=true) (hQ:∀k d v a w,Q (.panic k) (a.put (some d) v) w→Q (.panic k) a w) (hS:S w)
  (h:tkm P md ops Q S c w is fuel listed a):wpBut P md ops Q S c fuel listed a w:=by
 simp only [Bool.and_eq_true] at h5
 exact tkm_go (Region.noSelect_spec h5.1) hQ hS f is fuel listed a (shut_of h5.2.1) h5.2.2 h
theorem tNm {i:Nat} {is:List Nat} {fuel:Nat} {listed:Array Bool} {a:Act} {w:World} {oi:Oper} {v:Value} (hi:ops[i]? =some oi) (hw:Region.wanted oi (yielded ops a.tmps)=true) (hy:∀w,S w→(execOp a.eval oi).run P w=.ok (.value v) w)
  (h:tkm P md ops Q S c w is fuel (listed.setIfInBounds i true) (a.put oi.dst v)):tkm P md ops Q S c w (i::is) (fuel+1) listed a:=⟨fuel,oi,v,rfl,hi,.inl ⟨hw,hy⟩,h⟩
theorem tEm {fuel:Nat} {listed:Array Bool} {a:Act} {w:World} (h:wpBut P md ops Q S c fuel listed a w):tkm P md ops Q S c w [] fuel listed a:=h
end
def ov (c:CM) (W w:World):CM:=fun a=>if a.block<W.heap.size then c a else w.cell? a
theorem ov_new {c:CM} {W w:World} {a:Addr} (h:W.heap.size≤a.block):ov c W w a=w.cell? a:=by
 unfold ov
 rw [if_neg (by omega)]
theorem ov_sub {c:CM} {W w:World} (h:Sub c W.cell?) (hg:Grow W w):Sub (ov c W w) w.cell?:=fun a v e=>by
 unfold ov at e
 split at e
 ·exact hg.sub _ _ (h _ _ e)
 ·exact e
theorem ov_mono {c c':CM} {W w w':World} (h:Sub c c') (hg:Grow w w'):Sub (ov c W w) (ov c' W w'):=fun a v e=>by
 unfold ov at e ⊢
 split at e
 ·exact(if_pos ‹_›).trans (h _ _ e)
 ·rw [if_neg ‹_›];exact hg.sub _ _ e
def wo (B:Nat) (c:CM):CM:=fun a=>if a.block=B then none else c a
theorem OwnC.slc {α:Type} {T:Ty α} {c d:CM} (h0:0<T.size) {w:World} {base e:Nat} {v:Value} {l:List α} (h:OwnC T c w base e v l) (hs:Sub c d) (hd:∀a:Addr,base≤a.block→d a=w.cell? a):Sl T d v l:=by
 obtain⟨css,⟨hl,hs'⟩,h2,h3⟩:=h
 have hcl:=css_len h2 h3
 rcases hs' with⟨rfl,hn⟩|⟨g,cap,cur,rfl,hg,hrow,hnc,hcm,hcs,htake⟩
 ·have:l=[]:=List.eq_nil_of_length_eq_zero hn
  subst this
  exact⟨none,0,rfl,Nat.le_refl _,Nat.zero_le _,fun _=>rfl,fun i x e=>by simp at e⟩
 ·refine⟨some ⟨g,0,none⟩,cap,rfl,hnc,hcm,by simp,fun i x e=>?_⟩
  have hi:i<l.length:=(List.getElem?_eq_some_iff.1 e).1
  have hc:css[i]? =some css[i]:=List.getElem?_eq_getElem (by omega)
  refine⟨g,0,css[i],rfl,T.mono hs (h3 i _ x hc e),fun j u hu=>?_⟩
  have hj:j<T.size:=by rw [←hcl css[i] (List.getElem_mem _)];exact(List.getElem?_eq_some_iff.1 hu).1
  have hx:css.flatten[i*T.size+j]? =some u:=by
   rw [flatten_at h0 css hcl,Nat.mul_comm,Nat.mul_add_div h0,Nat.div_eq_of_lt hj,Nat.add_zero,hc,Nat.mul_add_mod,Nat.mod_eq_of_lt hj];exact hu
  rw [←htake,List.getElem?_take] at hx
  rw [hd _ hg]
  split at hx
  ·simp only [World.cell?,hrow];simpa using hx
  ·cases hx
theorem OwnC.of_flat {α:Type} {T:Ty α} {f:α→List Value} {c:CM} {w:World} {base e:Nat} {v:Value} {l:List α} (h:w.ownsRow base e T.size v l.length (l.flatMap f)) (hR:∀x∈l,T.R c (f x) x):OwnC T c w base e v l:=
 ⟨l.map f,by rw [←List.flatMap_def];exact h,by simp,fun i cs x a b=>by
  rw [List.getElem?_map,b] at a
  obtain rfl:=Option.some.inj a
  exact hR x (List.mem_of_getElem? b)⟩
theorem OwnC.ints {c:CM} {w:World} {base e:Nat} {v:Value} {l:List Int} (h:w.ownsRow base e 1 v l.length (l.flatMap intCell)) (hok:∀x∈l,I64 x):OwnC Ty.int c w base e v l:=
 OwnC.of_flat (T:=Ty.int) (f:=intCell) h fun x hx=>⟨rfl,hok x hx⟩
theorem OwnC.pts {c:CM} {w:World} {base e:Nat} {v:Value} {l:List Pt} (h:w.ownsRow base e 3 v l.length (ptCells l)) (hok:PtsOk l):OwnC Ty.pt c w base e v l:=
 OwnC.of_flat (T:=Ty.pt) (f:=Pt.cells) h fun x hx=>⟨rfl,hok x hx⟩
def inStep (r:Rc) (st:List Rd×Bool×Sm×List Int) (x:Rd):List Rd×Bool×Sm×List Int:=
 if x.deed=r.deed∧st.2.1=false then
  if r.kind=2 then(st.1,true,doP st.2.2.1 x.parts,st.2.2.2++ [r.deed]) else if r.kind=3 then(st.1,true,st.2.2.1,st.2.2.2) else(st.1++ [x],true,st.2.2.1,st.2.2.2)
 else(st.1++ [x],st.2.1,st.2.2.1,st.2.2.2)
def refStep (h:Hs) (r:Rc):Hs:=
 let st:=h.ready.foldl (inStep r) ([],false,h.sums,h.done)
 { log:=h.log,sums:=st.2.2.1,ready:=if r.kind=1∧st.2.1=false then st.1++ [⟨r.deed,r.parts⟩] else st.1,done:=st.2.2.2 }
def houseR (l:List Rc):Hs:=l.foldl refStep ⟨l,⟨0,0,0,0⟩,[],[]⟩
def SmOk (s:Sm):Prop:=I64 s.a∧I64 s.b∧I64 s.c∧I64 s.d
theorem zero_ok:I64 0:=by unfold I64;decide
theorem wrap_ok (x:Int):I64 (wrap64 x):=wrap64_wf x
theorem SmOk.put {s:Sm} (h:SmOk s) (k:Int) {x:Int} (hx:I64 x):SmOk (s.put k x):=by
 unfold Sm.put
 obtain⟨a,b,c,d⟩:=h
 split
 ·exact⟨hx,b,c,d⟩
 ·split
  ·exact⟨a,hx,c,d⟩
  ·split
   ·exact⟨a,b,hx,d⟩
   ·exact⟨a,b,c,hx⟩
theorem SmOk.doP {s:Sm} (h:SmOk s) (l:List Pt):SmOk (doP s l):=by
 induction l generalizing s with
 |nil=>exact h
 |cons p l ih=>exact ih (h.put p.k (wrap_ok _))
structure HBox (c:CM) (w:World) (wr:World) (vl:Value) (vr vd:Value) (h:Hs):Prop where
 row:wr.heap[w.heap.size+1]? =some (.cells #[vl,.int .i64 h.sums.a,.int .i64 h.sums.b,.int .i64 h.sums.c,.int .i64 h.sums.d,vr,vd] 68 (0,0))
 res:wr.heap[w.heap.size]? =some (.cells #[.slice none 0 0,.int .i64 0,.int .i64 0,.int .i64 0,.int .i64 0,.slice none 0 0,.slice none 0 0] 68 (0,0))
 ready:OwnC Ty.rd c wr (w.heap.size+2) 77 vr h.ready
 done:wr.ownsRow (w.heap.size+2) 3 1 vd h.done.length (h.done.flatMap intCell)
 grow:Grow w wr
 size:w.heap.size+2≤wr.heap.size
structure HOk (h:Hs) (n:Nat):Prop where
 ready:h.ready.length≤n
 done:h.done.length≤n
 keys:∀x∈h.ready,KeysOk x.parts
 sums:SmOk h.sums
 ints:∀x∈h.done,I64 x
theorem HBox.later {c:CM} {w wr w':World} {vl vr vd:Value} {h:Hs} {row:Option Nat} (hb:HBox c w wr vl vr vd h) (hg:wr.grownBy w' row) (h1:∀k,row=some k→w.heap.size+2≤k) (h2:vr.ownBlock=none∨vr.ownBlock≠row) (h3:vd.ownBlock=none∨vd.ownBlock≠row):HBox c w w' vl vr vd h where
 row:=by rw [hg.block _ (by have:=hb.size;omega) (fun e=>by have:=h1 _ e.symm;omega)];exact hb.row
 res:=by rw [hg.block _ (by have:=hb.size;omega) (fun e=>by have:=h1 _ e.symm;omega)];exact hb.res
 ready:=hb.ready.kept hg h2
 done:=hb.done.kept hg h3
 grow:=hb.grow.grown hg (fun k hk=>by have:=h1 k hk;omega)
 size:=Nat.le_trans hb.size hg.size
structure HIn (c:CM) (w wo wx:World) (vl vr:Value) (rcs:List Value) (r:Rc) (h:Hs) (k m:Nat) (s6:Value) (st:List Rd×Bool×Sm×List Int) (vd:Value):Prop where
 fold:(h.ready.take m).foldl (inStep r) ([],false,h.sums,h.done)=st
 own:OwnC Ty.rd c wx (wo.heap.size+1) 77 s6 st.1
 box:HBox c w wx vl vr vd { h with sums:=st.2.2.1,done:=st.2.2.2 }
 len:st.1.length≤m
 dlen:st.2.2.2.length≤k+(if st.2.1 then 1 else 0)
 keys:∀x∈st.1,KeysOk x.parts
 sums:SmOk st.2.2.1
 ints:∀x∈st.2.2.2,I64 x
 rbox:At wx.cell? wo.heap.size 0 rcs
 size:wo.heap.size+1≤wx.heap.size
 osize:w.heap.size+2≤wo.heap.size
 vr:∀k,vr.ownBlock=some k→k<wo.heap.size
 disj:s6.ownBlock=none∨s6.ownBlock≠vd.ownBlock
theorem HIn.app {c:CM} {w wo wx w':World} {vl vr:Value} {rcs:List Value} {r:Rc} {h:Hs} {k m:Nat} {s6:Value} {st:List Rd×Bool×Sm×List Int} {vd:Value} {x:Rd} {b:Bool} {o1 o2:Obj} {g c':Nat}
  (H:HIn c w wo wx vl vr rcs r h k m s6 st vd) (hx:h.ready[m]? =some x) (hkx:KeysOk x.parts) (hst:inStep r st x=(st.1++ [x],b,st.2.2)) (hb:st.2.1=true→b=true)
  (ho:OwnC Ty.rd c w' (wo.heap.size+1) 77 (.slice (some ⟨g,0,none⟩) (st.1.length+1) c') (st.1++ [x])) (hg:((wx.alloc o1).alloc o2).grownBy w' s6.ownBlock) (hl:s6.ownBlock=some g∨g=wx.heap.size+1+1):
  HIn c w wo w' vl vr rcs r h k (m+1) (.slice (some ⟨g,0,none⟩) (st.1.length+1) c') (st.1++ [x],b,st.2.2) vd:=by
 have hg':wx.grownBy w' s6.ownBlock:=grownBy_trans (grownBy_of_grow (((Grow.refl wx).alloc o1).alloc o2) _) hg
 have hlt:=H.own.lt
 exact {
  fold:=by
   have hm:=(List.getElem?_eq_some_iff.1 hx)
   obtain⟨hm1,hm2⟩:=hm
   rw [List.take_succ_eq_append_getElem hm1,List.foldl_append,H.fold,hm2];simpa using hst
  own:=ho
  box:=H.box.later hg' (fun k hk=>by have:=(hlt k hk).1;have:=H.osize;omega) (by
   cases e:vr.ownBlock with
   |none=>exact .inl rfl
   |some q=>right;intro e';have:=H.vr q e;have:=(hlt q e'.symm).1;omega) (by
   rcases H.disj with d|d
   ·cases e:vd.ownBlock with
    |none=>exact .inl rfl
    |some q=>right;rw [d];simp
   ·right;exact fun e=>d e.symm)
  len:=by have:=H.len;simp;omega
  dlen:=by
   have:=H.dlen
   simp only
   cases hs:st.2.1 with
   |true=>rw [hb hs];rw [hs] at this;exact this
   |false=>rw [hs] at this;simp at this;omega
  keys:=fun y hy=>by
   simp only [List.mem_append,List.mem_singleton] at hy
   rcases hy with hy|rfl
   ·exact H.keys y hy
   ·exact hkx
  sums:=H.sums
  ints:=H.ints
  rbox:=fun j u hu=>by
   have e:=H.rbox j u hu
   have hl:=World.block_lt_of_cell? wx _ e
   simp only at hl
   rw [World.cell?_of_block (w:=wx) (hg'.block _ hl (fun e'=>by have:=(hlt _ e'.symm).1;simp only at this;omega))]
   exact e
  size:=Nat.le_trans H.size hg'.size
  osize:=H.osize
  vr:=H.vr
  disj:=by
   right
   rcases hl with hl|hl
   ·rcases H.disj with d|d
    ·rw [d] at hl;cases hl
    ·rw [hl] at d;exact d
   ·intro e'
    have:=(H.box.done.lt g e'.symm).2
    omega }
end Go.Proofs.YthfgeelcbcgahaaGreatDoor
namespace Go.Proofs.YthfgeelcbcgahaaGreatDoor
open Go.RowKit Go.Instr
def MapIs {κ:Type} (enc:κ→Value) (w:World) (m:Nat) (kv:List (κ×Value)):Prop:=
 ∃(es:List MapEntry) (clock:Nat),w.heap[m]? =some (.map es.toArray clock)∧es.map (fun e=>(e.key,e.val))=kv.map fun p=>(enc p.1,p.2)
structure KeyOk {κ:Type} [DecidableEq κ] (P:Program) (K:TypeId) (enc:κ→Value):Prop where
 chk:∀(b:Bool) (k:κ) (w:World),(checkKey b 10000 K (enc k)).run P w=.ok () w
 find:∀(k:κ) (kv:List (κ×Value)) (es:List MapEntry) (w:World),es.map (fun e=>(e.key,e.val))=kv.map (fun p=>(enc p.1,p.2))→
  (findKey K (enc k) es).run P w=.ok ((kv.findIdx? (fun p=>p.1==k)).bind fun i=>(kv[i]?).map fun p=>(i,p.2)) w
 same:∀k,sameBits 10000 (enc k) (enc k)=true
def mget {κ:Type} [DecidableEq κ] (kv:List (κ×Value)) (k:κ):Option Value:=(kv.find? (fun p=>p.1==k)).map (·.2)
def mput {κ:Type} [DecidableEq κ] (kv:List (κ×Value)) (k:κ) (v:Value):List (κ×Value):=match kv.findIdx? (fun p=>p.1==k) with|some i=>kv.set i (k,v)|none=>kv++ [(k,v)]
theorem mget_idx {κ:Type} [DecidableEq κ] (kv:List (κ×Value)) (k:κ):((kv.findIdx? (fun p=>p.1==k)).bind fun i=>(kv[i]?).map fun p=>(i,p.2)).map (·.2)=mget kv k:=by
 unfold mget
 cases h:kv.findIdx? (fun p=>p.1==k) with
 |none=>
  rw [List.findIdx?_eq_none_iff] at h
  have:kv.find? (fun p=>p.1==k)=none:=by
   rw [List.find?_eq_none];intro x hx;simpa using h x hx
  rw [this];rfl
 |some i=>
  have hf:=List.find?_eq_some_iff_getElem (xs:=kv) (p:=fun p:κ×Value=>p.1==k) (b:=kv[i]'(by rw [List.findIdx?_eq_some_iff_getElem] at h;exact h.1))
  have h':=h
  rw [List.findIdx?_eq_some_iff_getElem] at h
  obtain⟨hi,hp,hb⟩:=h
  rw [hf.2 ⟨hp,i,hi,rfl,fun j hj=>by simpa using hb j hj⟩]
  simp [List.getElem?_eq_getElem hi]
theorem run_lookup {κ:Type} [DecidableEq κ] {P:Program} {t K E:TypeId} {enc:κ→Value} (hK:KeyOk P K enc) (ht:P.underlying t=some (.map K E)) {z:Value} (hz:∀w,(zeroValue E).run P w=.ok z w) {w:World} {m:Nat} {kv:List (κ×Value)} (h:MapIs enc w m kv) (k:κ):
  (lookup t (.map (some m)) (enc k) false).run P w=.ok ((mget kv k).getD z) w:=by
 obtain⟨es,clock,hb,he⟩:=h
 have hf:=hK.find k kv es w he
 rw [←mget_idx]
 have hc:=fun b=>hK.chk b k w
 cases h:(kv.findIdx? (fun p=>p.1==k)).bind fun i=>(kv[i]?).map fun p=>(i,p.2) with
 |none=>
  rw [h] at hf
  simp [Instr.lookup,run_underlying ht,MapKept.run_getObj_map hb,hc,hf,hz,Result.andThen]
 |some q=>
  rw [h] at hf
  simp [Instr.lookup,run_underlying ht,MapKept.run_getObj_map hb,hc,hf,Result.andThen]
theorem run_put {κ:Type} [DecidableEq κ] {P:Program} {t K E:TypeId} {enc:κ→Value} (hK:KeyOk P K enc) (ht:P.underlying t=some (.map K E)) {w:World} {m:Nat} {kv:List (κ×Value)} (h:MapIs enc w m kv) (k:κ) (v:Value):
  ∃w',(mapUpdate t (.map (some m)) (enc k) v).run P w=.ok () w'∧MapIs enc w' m (mput kv k v)∧w.grownBy w' (some m):=by
 obtain⟨es,clock,hb,he⟩:=h
 have hf:=hK.find k kv es w he
 have hc:=fun b=>hK.chk b k w
 have hlt:m<w.heap.size:=(γ hb)
 have hlen:es.length=kv.length:=by have:=congrArg List.length he;simpa using this
 have hgr:∀o:Obj,w.grownBy { w with heap:=w.heap.setIfInBounds m o } (some m):=fun o=>
  ⟨rfl,rfl,rfl,by simp,fun k hk hne=>by simp only [Array.getElem?_setIfInBounds];rw [if_neg (fun e=>hne (by rw [e]))]⟩
 have hset:∀(o:Obj),(setObj m o).run P w=.ok () { w with heap:=w.heap.setIfInBounds m o }:=fun o=>by simp [setObj,Sem.run,hb]
 cases h:kv.findIdx? (fun p=>p.1==k) with
 |none=>
  rw [h] at hf
  refine⟨_,by simp [Instr.mapUpdate,run_underlying ht,MapKept.run_getObj_map hb,hc,hf,hset,Result.andThen];rfl,?_,hgr _⟩
  refine⟨es++ [{ key:=enc k,val:=v,born:=clock }],clock+1,by simp [hlt],?_⟩
  rw [mput,h];simp [he]
 |some i=>
  rw [h] at hf
  rw [List.findIdx?_eq_some_iff_getElem] at h
  obtain⟨hi,hp,hbf⟩:=h
  have hek:(es[i]'(by omega)).key=enc k:=by
   have:=congrArg (fun l=>l[i]?) he
   simp only [List.getElem?_map,List.getElem?_eq_getElem hi,List.getElem?_eq_getElem (show i<es.length by omega),Option.map_some,Option.some.injEq,Prod.mk.injEq] at this
   rw [this.1];congr 1;simpa using hp
  have hkeep:(keyThatStays (((es.toArray[i]?).map (·.key)).getD (enc k)) (enc k)).run P w=.ok (enc k) w:=by
   have:((es.toArray[i]?).map (·.key)).getD (enc k)=enc k:=by simp [List.getElem?_eq_getElem (show i<es.length by omega),hek]
   rw [this];simp [keyThatStays,hK.same]
  simp only [Option.bind_some,List.getElem?_eq_getElem hi,Option.map_some] at hf
  refine⟨_,by simp only [Instr.mapUpdate,Sem.run_bind,run_underlying ht,Result.andThen_ok,MapKept.run_getObj_map hb,hc,hf,hkeep,hset];rfl,?_,hgr _⟩
  refine⟨es.modify i fun e=>{ e with key:=enc k,val:=v },clock,by simp [hlt],?_⟩
  have hm:mput kv k v=kv.set i (k,v):=by
   have:kv.findIdx? (fun p=>p.1==k)=some i:=by rw [List.findIdx?_eq_some_iff_getElem];exact⟨hi,hp,hbf⟩
   rw [mput,this]
  rw [hm,List.map_set,←he]
  apply List.ext_getElem?
  intro j
  simp only [List.getElem?_map,List.getElem?_modify,List.getElem?_set,List.length_map]
  by_cases hij:i=j
  ·subst hij
   simp [show i<es.length by omega]
  ·simp [hij]
theorem find_of {κ:Type} [DecidableEq κ] {P:Program} {K:TypeId} {enc:κ→Value} (heq:∀(k k':κ) (w:World),(Op.equal K (enc k) (enc k')).run P w=.ok (decide (k=k')) w) (k:κ):∀(kv:List (κ×Value)) (es:List MapEntry) (n:Nat) (w:World),es.map (fun e=>(e.key,e.val))=kv.map (fun p=>(enc p.1,p.2))→
  (findAsking K (enc k) es n).run P w=.ok ((kv.findIdx? (fun p=>p.1==k)).bind fun i=>(kv[i]?).map fun p=>(n+i,p.2)) w
 | [],[],n,w,_=>by simp [findAsking]
 | [],_::_,n,w,h=>by simp at h
 |_::_,[],n,w,h=>by simp at h
 |p::kv,e::es,n,w,h=>by
  simp only [List.map_cons,List.cons.injEq,Prod.mk.injEq] at h
  obtain⟨⟨hk,hv⟩,h⟩:=h
  have ih:=find_of heq k kv es (n+1) w h
  simp only [findAsking,Sem.run_bind,hk,heq,Result.andThen_ok,Sem.run_ite,ih,Sem.run_pure,List.findIdx?_cons]
  by_cases hp:p.1=k
  ·simp [hp,hv]
  ·have:¬k=p.1:=fun e=>hp e.symm
   simp only [this,decide_false,Bool.false_eq_true,if_false,beq_eq_false_iff_ne.2 hp]
   congr 1
   cases kv.findIdx? (fun p=>p.1==k) with
   |none=>rfl
   |some i=>simp [Nat.add_assoc,Nat.add_comm 1 i]
def encPair (p:Int×Int):Value:=.agg #[.int .i64 p.1,.int .i64 p.2]
theorem keyPair:KeyOk (κ:=Int×Int) Tryz.prog 51 encPair where
 chk:=fun b k w=>by cases b<;>kernel_rfl
 find:=by
  intro k kv es w h
  have heq:∀(k k':Int×Int) (w:World),(Op.equal 51 (encPair k) (encPair k')).run Tryz.prog w=.ok (decide (k=k')) w:=by
   intro k k' w
   obtain⟨a,b⟩:=k
   obtain⟨a',b'⟩:=k'
   obtain⟨i,hi,-⟩:=Go.info_parts (show(Tryz.prog.info? 3).map (fun i=>(i.zero,i.size,i.bytes))=some (some (.int .i64 0),1,8) by kernel_rfl)
   have u3:=Tryz.underlying3
   have a3:=Tryz.isAgg3
   have z3:=Tryz.sizeOf3
   have hc:Tryz.prog.cellsOf 3=1:=by kernel_rfl
   unfold Op.equal Op.maxDepth
   rw [encPair,encPair,show(10000:Nat)=9999+1 from rfl,run_equalIn_array w 9999 _ _ Tryz.underlying51 hi,hc,show List.range 2=[0,1] from rfl]
   clear hi
   simp only [Op.eqItems]
   go_simp
   by_cases h1:a=a'<;>by_cases h2:b=b'<;>simp [h1,h2]
  have:=find_of heq k kv es 0 w h
  simp only [Nat.zero_add] at this
  cases es with
  |nil=>
   simp only [findKey,Sem.run_bind,run_underlying Tryz.underlying51,Result.andThen_ok,findNow,Sem.run_pure]
   cases kv with
   |nil=>rfl
   |cons _ _=>simp at h
  |cons e es=>
   have hn:findNow (.array 2 3) (encPair k) (e::es) 0=none:=by simp [findNow,sameNow]
   simp only [findKey,Sem.run_bind,run_underlying Tryz.underlying51,Result.andThen_ok,hn,this]
 same:=fun k=>by simp [encPair,sameBits]
theorem wp_put {κ:Type} [DecidableEq κ] {P:Program} {t K E:TypeId} {enc:κ→Value} (hK:KeyOk P K enc) (ht:P.underlying t=some (.map K E)) {w:World} {ops:Array Oper} {rest:List Oper} {o:Oper} {a:Act} {Q:Exit→Act→World→Prop} (hg:o.guard=none) (mo x y:Operand) (hop:o.op=Op.mapUpdate t mo x y)
  {m:Nat} {kv:List (κ×Value)} (h:MapIs enc w m kv) (k:κ) (v:Value) (hm:a.eval mo=.map (some m)) (hx:a.eval x=enc k) (hy:a.eval y=v) (hC:∀w',MapIs enc w' m (mput kv k v)→w.grownBy w' (some m)→wpList P ops Q rest (a.put o.dst undef) w'):wpList P ops Q (o::rest) a w:=by
 refine wpList_plain hg fun K' hK'=>?_
 obtain⟨w',hrun,h1,h2⟩:=run_put hK ht h k v
 unfold Oper.wp
 simp [execOp,hop,hm,hx,hy,hrun,Result.andThen]
 exact hK' _ _ (hC w' h1 h2)
theorem MapIs.new {κ:Type} {enc:κ→Value} (w:World):MapIs enc (w.alloc (.map #[] 0)) w.heap.size []:=⟨[],0,heap_alloc_new w _,rfl⟩
theorem MapIs.grown {κ:Type} {enc:κ→Value} {w w':World} {m:Nat} {kv:List (κ×Value)} {row:Option Nat} (h:MapIs enc w m kv) (hg:w.grownBy w' row) (hne:row≠some m):MapIs enc w' m kv:=by
 obtain⟨es,c,hb,he⟩:=h
 exact⟨es,c,by rw [hg.block m (γ hb) (fun e=>hne e.symm)];exact hb,he⟩
theorem MapIs.lt {κ:Type} {enc:κ→Value} {w:World} {m:Nat} {kv:List (κ×Value)} (h:MapIs enc w m kv):m<w.heap.size:=by
 obtain⟨es,c,hb,he⟩:=h
 exact(γ hb)
def setKv {κ:Type} (ks:List κ):List (κ×Value):=ks.map fun k=>(k,.bool true)
theorem mget_set {κ:Type} [DecidableEq κ] (ks:List κ) (k:κ):(mget (setKv ks) k).getD (.bool false)=.bool (decide (k∈ks)):=by
 unfold mget setKv
 induction ks with
 |nil=>simp
 |cons x ks ih=>
  simp only [List.map_cons,List.find?_cons]
  by_cases h:x=k
  ·simp [h]
  ·have h':¬k=x:=fun e=>h e.symm
   simp only [beq_eq_false_iff_ne.2 h,List.mem_cons,h',false_or]
   exact ih
theorem mget_in {κ:Type} [DecidableEq κ] {ks:List κ} {k:κ} (h:k∈ks):(mget (setKv ks) k).getD (.bool false)=.bool true:=by rw [mget_set];simp [h]
theorem mget_out {κ:Type} [DecidableEq κ] {ks:List κ} {k:κ} (h:¬k∈ks):(mget (setKv ks) k).getD (.bool false)=.bool false:=by rw [mget_set];simp [h]
theorem mput_set {κ:Type} [DecidableEq κ] (ks:List κ) (k:κ):∃ks',mput (setKv ks) k (.bool true)=setKv ks'∧∀x,x∈ks'↔x∈ks∨x=k:=by
 unfold mput
 cases h:(setKv ks).findIdx? (fun p=>p.1==k) with
 |none=>exact⟨ks++ [k],by simp [setKv],by simp⟩
 |some i=>
  rw [List.findIdx?_eq_some_iff_getElem] at h
  obtain⟨hi,hp,_⟩:=h
  have hi':i<ks.length:=by simpa [setKv] using hi
  have hk:ks[i]=k:=by simpa [setKv] using hp
  refine⟨ks,?_,fun x=>⟨Or.inl,fun h=>h.elim id fun h=>by rw [h,←hk];exact List.getElem_mem _⟩⟩
  apply List.ext_getElem?
  intro j
  rw [List.getElem?_set]
  by_cases hij:i=j
  ·subst hij;simp [setKv,hi',hk]
  ·simp [hij]
end Go.Proofs.YthfgeelcbcgahaaGreatDoor
namespace Go.Proofs.YthfgeelcbcgahaaGreatDoor
open Go.RowKit
def badPt (p:Pt) (h:Int):Bool:=decide (p.h<0∨h≤p.h∨p.k<0∨3<p.k∨1048576<p.n∨p.n< -1048576)
def wrongGo (h:Int):List (Int×Int)→List Pt→Int
 |_,[]=>0
 |had,p::l=>if badPt p h=true then 3 else if(p.h,p.k)∈had then 4 else wrongGo h ((p.h,p.k)::had) l
def wrongE (l:List Pt) (h:Int):Int:=if l.length=0∨4<l.length then 5 else wrongGo h [] l
theorem wrongGo_congr (h:Int):∀(l:List Pt) (a b:List (Int×Int)),(∀x,x∈a↔x∈b)→wrongGo h a l=wrongGo h b l
 | [],_,_,_=>rfl
 |p::l,a,b,hab=>by
  simp only [wrongGo,hab]
  rw [wrongGo_congr h l ((p.h,p.k)::a) ((p.h,p.k)::b) (fun x=>by simp [hab])]
end Go.Proofs.YthfgeelcbcgahaaGreatDoor
namespace Go.Proofs.YthfgeelcbcgahaaGreatDoor
theorem wrongGo_ok {h:Int}:∀{l:List Pt} {had:List (Int×Int)},wrongGo h had l=0→(∀p∈l,badPt p h=false)∧(∀p∈l,(p.h,p.k)∉had)∧(l.map fun p=>(p.h,p.k)).Nodup
 | [],_,_=>by simp
 |p::l,had,e=>by
  unfold wrongGo at e
  split at e
  ·cases e
  ·rename_i hb
   split at e
   ·cases e
   ·rename_i hn
    obtain⟨h1,h2,h3⟩:=wrongGo_ok e
    refine⟨fun q hq=>?_,fun q hq=>?_,?_⟩
    ·rcases List.mem_cons.1 hq with rfl|hq
     ·simpa using hb
     ·exact h1 q hq
    ·rcases List.mem_cons.1 hq with rfl|hq
     ·exact hn
     ·exact fun hm=>h2 q hq (List.mem_cons_of_mem _ hm)
    ·rw [List.map_cons,List.nodup_cons]
     refine⟨fun hm=>?_,h3⟩
     obtain⟨q,hq,he⟩:=List.mem_map.1 hm
     exact h2 q hq (by rw [he];exact List.mem_cons_self)
theorem wrong_ok {l:List Pt} {h:Int} (e:wrongE l h=0):0<l.length∧l.length≤4∧(∀p∈l,0≤p.h∧p.h<h∧0≤p.k∧p.k<4∧p.n≤1048576∧-1048576≤p.n)∧(l.map fun p=>(p.h,p.k)).Nodup:=by
 unfold wrongE at e
 split at e
 ·cases e
 ·rename_i hl
  obtain⟨h1,_,h3⟩:=wrongGo_ok e
  refine⟨by omega,by omega,fun p hp=>?_,h3⟩
  have:=of_decide_eq_false (h1 p hp)
  omega
theorem wrong_keys {l:List Pt} {h:Int} (e:wrongE l h=0):KeysOk l:=fun p hp=>by
 have:=(wrong_ok e).2.2.1 p hp
 exact⟨this.2.2.1,this.2.2.2.1⟩
def isD (d:Int) (x:Rd):Bool:=x.deed==d
theorem in_was (r:Rc):∀(l:List Rd) (a:List Rd) (s:Sm) (d:List Int),l.foldl (inStep r) (a,true,s,d)=(a++l,true,s,d)
 | [],a,s,d=>by simp
 |x::l,a,s,d=>by
  rw [List.foldl_cons,show inStep r (a,true,s,d) x=(a++ [x],true,s,d) by simp [inStep],in_was r l];simp
theorem in_fold (r:Rc):∀(l:List Rd) (a:List Rd) (s:Sm) (d:List Int),l.foldl (inStep r) (a,false,s,d)=
  match l.find? (isD r.deed) with
  |none=>(a++l,false,s,d)
  |some x=>(a++(if r.kind=2∨r.kind=3 then l.eraseP (isD r.deed) else l),true,if r.kind=2 then doP s x.parts else s,if r.kind=2 then d++ [r.deed] else d)
 | [],a,s,d=>by simp
 |x::l,a,s,d=>by
  rw [List.foldl_cons]
  by_cases h:x.deed=r.deed
  ·have hd:isD r.deed x=true:=by simp [isD,h]
   rw [List.find?_cons_of_pos hd,List.eraseP_cons_of_pos hd]
   by_cases h2:r.kind=2
   ·rw [show inStep r (a,false,s,d) x=(a,true,doP s x.parts,d++ [r.deed]) by simp [inStep,h,h2],in_was];simp [h2]
   ·by_cases h3:r.kind=3
    ·rw [show inStep r (a,false,s,d) x=(a,true,s,d) by simp [inStep,h,h3],in_was];simp [h3]
    ·rw [show inStep r (a,false,s,d) x=(a++ [x],true,s,d) by simp [inStep,h,h2,h3],in_was];simp [h2,h3]
  ·have hd:isD r.deed x=false:=by simp [isD,h]
   rw [show inStep r (a,false,s,d) x=(a++ [x],false,s,d) by simp [inStep,h],in_fold r l,List.find?_cons_of_neg (by simp [hd])]
   cases l.find? (isD r.deed) with
   |none=>simp
   |some y=>by_cases hk:r.kind=2∨r.kind=3<;>simp [hk,hd]
end Go.Proofs.YthfgeelcbcgahaaGreatDoor
namespace Go.Proofs.YthfgeelcbcgahaaGreatDoor
open Go.RowKit
def okRec (r:Rc):Bool:=decide (0≤r.deed∧(r.parts≠ []→wrongE r.parts 3=0)∧(r.kind=1→r.parts≠ []))
def hasKey (key:Int) (r:Rd):Bool:=r.parts.any fun p=>p.k==key
def whoE (l:List Rd) (key:Int):Int:=match l.find? (hasKey key) with|some r=>r.deed|none=>-1
theorem who_step {l:List Rd} {k:Nat} {key:Int} (hlt:k<l.length) (h:∀r∈l.take k,hasKey key r=false):(hasKey key l[k]=true→whoE l key=l[k].deed)∧(hasKey key l[k]=false→∀r∈l.take (k+1),hasKey key r=false):=by
 constructor
 ·intro hq
  have:l.find? (hasKey key)=some l[k]:=by
   rw [List.find?_eq_some_iff_getElem]
   exact⟨hq,k,hlt,rfl,fun j hj=>by simpa using h l[j] (by rw [List.mem_take_iff_getElem];exact⟨j,by omega,rfl⟩)⟩
  rw [whoE,this]
 ·intro hq r hr
  rw [List.take_succ_eq_append_getElem hlt] at hr
  rcases List.mem_append.1 hr with h'|h'
  ·exact h r h'
  ·simp at h';subst h';exact hq
theorem who_none {l:List Rd} {key:Int} (h:∀r∈l,hasKey key r=false):whoE l key= -1:=by
 have:l.find? (hasKey key)=none:=by rw [List.find?_eq_none];intro x hx;simp [h x hx]
 rw [whoE,this]
theorem who_lit (w:World) (B:Nat) (key:Int) (p:Pt) (hc:w.cell? ⟨B,0,none⟩=some (.int .i64 key)):
  Calls Tryz.prog 167 #[.agg #[.int .i64 p.h,.int .i64 p.k,.int .i64 p.n],.pointer (some ⟨B,0,none⟩)] w fun e w'=>e=.returned (.bool (p.k==key))∧Grow w w':=by
 have hB:=World.block_lt_of_cell? w _ hc
 simp only at hB
 go_enter Tryz.func167,Tryz.ntmps167
 go_wp2
 go_ret
 exact⟨rfl,grA⟩
theorem who_tells (w:World) (B:Nat) (key:Int) (l:List Pt) (hc:w.cell? ⟨B,0,none⟩=some (.int .i64 key)):Tells Tryz.prog Ty.pt aggOf w 167 #[.pointer (some ⟨B,0,none⟩)] l (fun p=>p.k==key) where
 ent:=fun args w=>by kernel_rfl
 say:=by
  rintro wx cs p hg _ ⟨rfl,_⟩
  exact who_lit wx B key p (hg.sub _ _ hc)
set_option maxRecDepth 100000 in
set_option maxHeartbeats 1000000 in
theorem locks_who {v:Value} {h:Hs} {key:Int} (w:World) (hv:Of Ty.hs w.cell? v h):
  Calls Tryz.prog 157 #[v,.int .i64 key] w fun e w'=>e=.returned (.int .i64 (whoE h.ready key))∧Grow w w':=by
 obtain⟨cs,rfl,vl,vr,vd,rfl,hl,-,-,-,-,hr,hd⟩:=hv
 obtain⟨al,cl,rfl,-⟩:=id hl
 obtain⟨ad,cd,rfl,-⟩:=id hd
 obtain⟨a,cap,rfl,h1,h2,-,hel⟩:=hr
 unfold maxLen at h2
 go_enter Tryz.func157,Tryz.ntmps157
 go_wp2
 go_loopw [4,6,10] (fun _ _ i wr=>∃k:Nat,k≤h.ready.length∧i=.int .i64 k∧Grow w wr∧wr.cell? ⟨w.heap.size+1,0,none⟩=some (.int .i64 key)∧∀r∈h.ready.take k,hasKey key r=false) (fun _ _ i _=>h.ready.length - (intOf i).toNat)
 case atStart=>exact⟨0,by omega,rfl,grA,by simp,by simp⟩
 case round=>
  obtain⟨k,hk',rfl,hb,hkey,hE⟩:=hrel
  by_cases hlt:k<h.ready.length
  ·obtain⟨b,o,vp,rfl,c0,c1,-,hP⟩:=Rds.at_ hel k hlt
   obtain⟨ap,cp,rfl,hp1,hp2,hp0,hpel⟩:=id hP
   replace c0:=hb.sub _ _ c0
   replace c1:=hb.sub _ _ c1
   obtain⟨s1,s2⟩:=who_step hlt hE
   have H1:=η s1
   have H2:=η s2
   have hcall:=fun(W:World) (hW:Grow wr W)=>containsFunc_pt W (Sl.mono (hb.trans hW).sub hP) (who_tells W (w.heap.size+1) key h.ready[k].parts (hW.sub _ _ hkey))
   have HC:=η hcall
   have HK:=η hkey
   have hq:h.ready[k].parts.any (fun p=>p.k==key)=hasKey key h.ready[k]:=rfl
   rw [hq] at HC
   clear hel hP hE s1 s2 hp1 hp2 hp0 hpel hcall hq hkey
   generalize h.ready[k]=r at*
   cases tk:hasKey key r
   ·rw [tk] at HC
    go_wp2_with (go_at_call 61;refine(HC.o _ ((Grow.refl _).alloc _)).mono ?_;rintro e w1 ⟨rfl,hb1⟩;have HB1:=η hb1;clear hb1)
    go_roundw
    case rel=>exact⟨k+1,by omega,by go_num,(hb.alloc _).trans HB1.o,(((Grow.refl wr).alloc _).trans HB1.o).sub _ _ HK.o,H2.o tk⟩
    case measure=>simp [intOf];omega
   ·rw [tk] at HC
    go_wp2_with (go_at_call 61;refine(HC.o _ ((Grow.refl _).alloc _)).mono ?_;rintro e w1 ⟨rfl,hb1⟩;have e0:=hb1.sub ⟨wr.heap.size,0,none⟩ _ (World.cell?_alloc_new wr _ _ 0);simp at e0;have HB1:=η hb1;clear hb1)
    go_ret
    exact⟨ret_int (H1.o tk).symm,(hb.alloc _).trans HB1.o⟩
  ·have hn:=who_none (l:=h.ready) (key:=key) (by rw [List.take_of_length_le (by omega)] at hE;exact hE)
   have HN:=η hn
   clear hel hE hn hkey
   go_wp2
   go_ret
   exact⟨ret_int HN.o.symm,hb⟩
set_option maxRecDepth 100000 in
set_option maxHeartbeats 1000000 in
theorem free_lit (w:World) (B:Nat) (p:Pt) (h:Hs) (cs:List Value) (hR:Ty.hs.R w.cell? cs h) (hc:At w.cell? B 0 cs):
  Calls Tryz.prog 156 #[.agg #[.int .i64 p.h,.int .i64 p.k,.int .i64 p.n],.pointer (some ⟨B,0,none⟩)] w fun e w'=>e=.returned (.bool (decide (0≤whoE h.ready p.k)))∧Grow w w':=by
 have hO:Of Ty.hs w.cell? (.agg cs.toArray) h:=⟨cs,rfl,hR⟩
 have hcall:=fun(W:World) (hW:Grow w W)=>locks_who (key:=p.k) W (hO.mono hW.sub)
 obtain⟨vl,vr,vd,rfl,hl,-,-,-,-,hr,hd⟩:=hR
 obtain⟨al,cl,rfl,-⟩:=id hl
 obtain⟨ad,cd,rfl,-⟩:=id hd
 obtain⟨a,cap,rfl,h1,h2,-,hel⟩:=hr
 have k0:=hc 0 _ rfl
 have k1:=hc 1 _ rfl
 have k2:=hc 2 _ rfl
 have k3:=hc 3 _ rfl
 have k4:=hc 4 _ rfl
 have k5:=hc 5 _ rfl
 have k6:=hc 6 _ rfl
 have hB:=World.block_lt_of_cell? w _ k0
 simp only [Nat.zero_add] at k0 k1 k2 k3 k4 k5 k6 hB
 have HC:=η hcall
 clear hcall hel hl hd hO hc h1 h2
 go_enter Tryz.func156,Tryz.ntmps156
 go_wp2_with (go_at_call 157;refine(HC.o _ ((Grow.refl _).alloc _)).mono ?_;rintro e w1 ⟨rfl,hb1⟩)
 go_ret
 exact⟨rfl,((Grow.refl w).alloc _).trans hb1⟩
theorem free_tells (w:World) (B:Nat) (h:Hs) (cs:List Value) (hR:Ty.hs.R w.cell? cs h) (hc:At w.cell? B 0 cs) (l:List Pt):Tells Tryz.prog Ty.pt aggOf w 156 #[.pointer (some ⟨B,0,none⟩)] l (fun p=>decide (0≤whoE h.ready p.k)) where
 ent:=fun args w=>by kernel_rfl
 say:=by
  rintro wx cs' p hg _ ⟨rfl,_⟩
  exact free_lit wx B p h cs (Ty.hs.mono hg.sub hR) (hc.mono hg.sub)
def freeE (l:List Rd) (ps:List Pt):Bool:=!ps.any fun p=>decide (0≤whoE l p.k)
set_option maxRecDepth 100000 in
set_option maxHeartbeats 1000000 in
theorem locks_free {v v':Value} {h:Hs} {ps:List Pt} (w:World) (hv:Of Ty.hs w.cell? v h) (hv':Pts w.cell? v' ps):
  Calls Tryz.prog 134 #[v,v'] w fun e w'=>e=.returned (.bool (freeE h.ready ps))∧Grow w w':=by
 obtain⟨cs,rfl,hR⟩:=hv
 have hcall:=fun(W:World) (B:Nat) (hW:Grow w W) (hc:At W.cell? B 0 cs)=>containsFunc_pt W (hv'.mono hW.sub) (free_tells W B h cs (Ty.hs.mono hW.sub hR) hc ps)
 obtain⟨vl,vr,vd,rfl,hl,-,-,-,-,hr,hd⟩:=hR
 obtain⟨al,cl,rfl,-⟩:=id hl
 obtain⟨ad,cd,rfl,-⟩:=id hd
 obtain⟨a,cap,rfl,h1,h2,-,hel⟩:=hr
 have HC:=η (hcall (w.alloc (.cells #[.slice al h.log.length cl,.int .i64 h.sums.a,.int .i64 h.sums.b,.int .i64 h.sums.c,.int .i64 h.sums.d,.slice a h.ready.length cap,.slice ad h.done.length cd] 68)) w.heap.size ((Grow.refl w).alloc _) (fun j u hu=>by rw [Nat.zero_add,World.cell?_alloc_new];simpa using hu))
 clear hcall hel hl hd h1 h2
 have hv:=hv'
 obtain⟨ap,cp,rfl,hp1,hp2,hp0,hpel⟩:=hv'
 clear hpel hv hp0 hp1 hp2
 have HF:Hid (freeE h.ready ps=!ps.any fun p=>decide (0≤whoE h.ready p.k)):=η rfl
 generalize (ps.any fun p=>decide (0≤whoE h.ready p.k))=r at*
 go_enter Tryz.func134,Tryz.ntmps134
 go_wp2_with (go_at_call 61;refine HC.o.mono ?_;rintro e w1 ⟨rfl,hb1⟩)
 go_ret
 exact⟨ret_bool HF.o.symm,((Grow.refl w).alloc _).trans hb1⟩
end Go.Proofs.YthfgeelcbcgahaaGreatDoor
namespace Go.Proofs.YthfgeelcbcgahaaGreatDoor
theorem find_isD {l:List Rd} {d:Int} {x:Rd} (h:l.find? (isD d)=some x):x.deed=d:=by
 have:=List.find?_some h
 simpa [isD] using this
theorem step_ready (h:Hs) (r:Rc):(refStep h r).ready=(if(h.ready.find? (isD r.deed)).isSome=true then(if r.kind=2∨r.kind=3 then h.ready.eraseP (isD r.deed) else h.ready) else if r.kind=1 then h.ready++ [⟨r.deed,r.parts⟩] else h.ready):=by
 unfold refStep
 rw [in_fold]
 cases hf:h.ready.find? (isD r.deed) with
 |none=>simp
 |some x=>simp
structure Fine (l:List Rd):Prop where
 nodup:(l.map (·.deed)).Nodup
 pos:∀x∈l,0≤x.deed
theorem fine_step {h:Hs} (hf:Fine h.ready) {r:Rc} (hr:0≤r.deed):Fine (refStep h r).ready:=by
 rw [step_ready]
 split
 ·split
  ·exact⟨hf.nodup.sublist ((List.eraseP_sublist).map _),fun x hx=>hf.pos x (List.eraseP_sublist.subset hx)⟩
  ·exact hf
 ·rename_i hn
  split
  ·refine⟨?_,fun x hx=>?_⟩
   ·rw [List.map_append,List.nodup_append]
    refine⟨hf.nodup,by simp,fun a ha b hb e=>?_⟩
    simp at hb
    subst hb
    obtain⟨x,hx,rfl⟩:=List.mem_map.1 ha
    apply hn
    rw [List.find?_isSome]
    exact⟨x,hx,by simp [isD,e]⟩
   ·simp only [List.mem_append,List.mem_singleton] at hx
    rcases hx with hx|rfl
    ·exact hf.pos x hx
    ·exact hr
  ·exact hf
theorem fold_log:∀(l:List Rc) (h:Hs) (x:List Rc),(l.foldl refStep { h with log:=x })={ (l.foldl refStep h) with log:=x }
 | [],_,_=>rfl
 |r::l,h,x=>by
  rw [List.foldl_cons,List.foldl_cons,←fold_log l];rfl
theorem house_snoc (l:List Rc) (r:Rc):houseR (l++ [r])={ (refStep (houseR l) r) with log:=l++ [r] }:=by
 unfold houseR
 rw [List.foldl_append]
 have:=fold_log l ⟨l,⟨0,0,0,0⟩,[],[]⟩ (l++ [r])
 simp only at this
 rw [this]
 rfl
theorem who_cons (x:Rd) (l:List Rd) (key:Int):whoE (x::l) key=if hasKey key x=true then x.deed else whoE l key:=by
 unfold whoE
 by_cases h:hasKey key x=true
 ·rw [List.find?_cons_of_pos h,if_pos h]
 ·rw [List.find?_cons_of_neg h,if_neg h]
theorem who_mem:∀(l:List Rd) (key:Int),whoE l key= -1∨∃x∈l,whoE l key=x.deed
 | [],_=>.inl rfl
 |x::l,key=>by
  rw [who_cons]
  split
  ·exact .inr ⟨x,List.mem_cons_self,rfl⟩
  ·rcases who_mem l key with h|⟨y,hy,h⟩
   ·exact .inl h
   ·exact .inr ⟨y,List.mem_cons_of_mem _ hy,h⟩
def readyE (l:List Rd) (d:Int):Bool:=l.any (isD d)
def voteE (h:Hs) (d:Int) (ps:List Pt):Int:=
 if d∈h.done then 10 else if readyE h.ready d=true then 0 else if freeE h.ready ps=false then 12 else fitsE h.sums.get ps
def noteE (h:Hs) (r:Rc):Hs:=houseR (h.log++ [r])
def sayE (kind d me:Int):List Ms:=[⟨kind,d,me,[]⟩]
def hearH (h:Hs) (m:Ms):Hs:=
 if m.kind=1 then(if voteE h m.deed m.parts=0∧readyE h.ready m.deed=false then noteE h ⟨1,m.deed,m.parts⟩ else h)
 else if m.kind=4 then(if readyE h.ready m.deed=true then noteE h ⟨2,m.deed,[]⟩ else h)
 else if m.kind=5 then(if readyE h.ready m.deed=true then noteE h ⟨3,m.deed,[]⟩ else h)
 else h
def hearM (h:Hs) (me:Int) (m:Ms):List Ms:=
 if m.kind=1 then(if voteE h m.deed m.parts=10 then [] else if voteE h m.deed m.parts=0 then sayE 2 m.deed me else sayE 3 m.deed me)
 else if m.kind=4 then(if m.deed∈(hearH h m).done then sayE 6 m.deed me else [])
 else []
def hTickE (h:Hs) (me:Int):List Ms:=h.ready.map fun r=>⟨7,r.deed,me,[]⟩
def wrongM (m:Ms):Int:=
 if m.kind<1∨7<m.kind then 1 else if m.deed<0∨1343<m.deed∨m.house<0∨2<m.house then 3
 else if 1<m.kind then(if m.parts=[] then 0 else 5)
 else if wrongE m.parts 3=0 then(if m.parts.all (fun p=>p.h==m.house)=true then 0 else 3) else wrongE m.parts 3
def Made (h:Hs):Prop:=h=houseR h.log
theorem made_house (l:List Rc):Made (houseR l):=by
 unfold Made
 have h:=fold_log l ⟨l,⟨0,0,0,0⟩,[],[]⟩ l
 have:(houseR l).log=l:=by
  have e:∀(k:List Rc) (h:Hs),(k.foldl refStep h).log=h.log:=by
   intro k
   induction k with
   |nil=>intro h;rfl
   |cons r k ih=>intro h;rw [List.foldl_cons,ih];rfl
  exact e l _
 rw [this]
theorem log_house (l:List Rc):(houseR l).log=l:=by
 have e:∀(k:List Rc) (h:Hs),(k.foldl refStep h).log=h.log:=by
  intro k
  induction k with
  |nil=>intro h;rfl
  |cons r k ih=>intro h;rw [List.foldl_cons,ih];rfl
 exact e l _
theorem note_step {h:Hs} (hm:Made h) (r:Rc):noteE h r={ (refStep h r) with log:=h.log++ [r] }:=by
 unfold noteE
 rw [house_snoc,←hm]
theorem note_ready {h:Hs} (hm:Made h) (r:Rc):(noteE h r).ready=(refStep h r).ready:=by rw [note_step hm]
theorem note_made (h:Hs) (r:Rc):Made (noteE h r):=made_house _
theorem readyE_find (l:List Rd) (d:Int):readyE l d=(l.find? (isD d)).isSome:=by
 unfold readyE
 rw [Bool.eq_iff_iff,List.any_eq_true,List.find?_isSome]
end Go.Proofs.YthfgeelcbcgahaaGreatDoor
namespace Go.Proofs.YthfgeelcbcgahaaGreatDoor
open Go.RowKit
theorem free_all (l:List Rd) (ps:List Pt):freeE l ps=ps.all fun p=>decide (whoE l p.k<0):=by
 unfold freeE
 induction ps with
 |nil=>rfl
 |cons p ps ih=>
  rw [List.any_cons,List.all_cons,←ih,Bool.not_or]
  congr 1
  by_cases h:0≤whoE l p.k
  ·simp [h,Int.not_lt.2 h]
  ·simp [h,Int.not_le.1 h]
theorem sl_one {α:Type} {T:Ty α} {c:CM} {B n:Nat} {cs:List Value} {x:α} (hR:T.R c cs x) (hA:At c B 0 cs) (hn:1≤n) (hm:n≤maxLen):Sl T c (.slice (some ⟨B,0,none⟩) 1 n) [x]:=
 ⟨_,n,rfl,hn,hm,by simp,fun i y hy=>by
  have hi:=(List.getElem?_eq_some_iff.1 hy).1
  obtain rfl:i=0:=by simpa using hi
  obtain rfl:x=y:=by simpa using hy
  exact⟨B,0,cs,rfl,hR,by simpa using hA⟩⟩
theorem at_new (w:World) (c:Array Value) (t:TypeId):At (w.alloc (.cells c t)).cell? w.heap.size 0 c.toList:=fun j u hu=>by
 rw [Nat.zero_add,World.cell?_alloc_new];simpa using hu
theorem Of.hs_form {c:CM} {v:Value} {h:Hs} (hv:Of Ty.hs c v h):∃al cl ar cr ad cd,v=.agg #[.slice al h.log.length cl,.int .i64 h.sums.a,.int .i64 h.sums.b,.int .i64 h.sums.c,.int .i64 h.sums.d,.slice ar h.ready.length cr,.slice ad h.done.length cd]:=by
 obtain⟨cs,rfl,hR⟩:=hv
 obtain⟨vl,vr,vd,rfl,hl,-,-,-,-,hr,hd⟩:=hR
 obtain⟨ah,ch,rfl,-⟩:=id hl
 obtain⟨ad,cd,rfl,-⟩:=id hd
 obtain⟨ar,cr,rfl,-⟩:=id hr
 exact⟨_,_,_,_,_,_,rfl⟩
theorem Of.rc_form {c:CM} {v:Value} {r:Rc} (hv:Of Ty.rc c v r):∃ap cp,v=.agg #[.int .i64 r.kind,.int .i64 r.deed,.slice ap r.parts.length cp]:=by
 obtain⟨cs,rfl,vp,rfl,-,-,hp⟩:=hv
 obtain⟨ap,cp,rfl,-⟩:=id hp
 exact⟨_,_,rfl⟩
theorem Of.cells {α:Type} {T:Ty α} {c:CM} {cs:Array Value} {x:α} (h:Of T c (.agg cs) x):T.R c cs.toList x:=by
 obtain⟨cs',he,hR⟩:=h
 simp only [Value.agg.injEq] at he
 subst he
 exact hR
theorem Of.hs_log {c:CM} {al ar ad:Option Addr} {nl cl nr cr nd cd:Nat} {sa sb sc sd:Value} {h:Hs} (hv:Of Ty.hs c (.agg #[.slice al nl cl,sa,sb,sc,sd,.slice ar nr cr,.slice ad nd cd]) h):Sl Ty.rc c (.slice al nl cl) h.log∧Sl Ty.rd c (.slice ar nr cr) h.ready∧Sl Ty.int c (.slice ad nd cd) h.done:=by
 obtain⟨vl,vr,vd,he,hl,-,-,-,-,hr,hd⟩:=hv.cells
 simp at he
 obtain⟨rfl,-,-,-,-,rfl,rfl⟩:=he
 exact⟨hl,hr,hd⟩
theorem Of.ms_form {c:CM} {v:Value} {m:Ms} (hv:Of Ty.ms c v m):∃ap cp,v=.agg #[.int .i64 m.kind,.int .i64 m.deed,.int .i64 m.house,.slice ap m.parts.length cp]:=by
 obtain⟨cs,rfl,vp,rfl,-,-,-,hp⟩:=hv
 obtain⟨ap,cp,rfl,-⟩:=id hp
 exact⟨_,_,rfl⟩
theorem Of.ms_parts {c:CM} {a b d:Value} {ap:Option Addr} {n cp:Nat} {m:Ms} (hv:Of Ty.ms c (.agg #[a,b,d,.slice ap n cp]) m):Sl Ty.pt c (.slice ap n cp) m.parts∧I64 m.kind∧I64 m.deed∧I64 m.house:=by
 obtain⟨cs,he,vp,rfl,h1,h2,h3,hp⟩:=hv
 simp at he
 obtain⟨-,-,-,rfl⟩:=he
 exact⟨hp,h1,h2,h3⟩
theorem at_ov {c:CM} {w W:World} {q:Nat} {cs:List Value} (h:At W.cell? q 0 cs) (hq:w.heap.size≤q):At (ov c w W) q 0 cs:=fun j v e=>by
 rw [ov_new (by exact hq)]
 exact h j v e
theorem by_cell {w w':World} {B:Nat} (h:w.grownBy w' (some B)) {a:Addr} (hl:a.block<w.heap.size) (hb:a.block≠B):w'.cell? a=w.cell? a:=
 World.cell?_of_block (h.block a.block hl (fun e=>hb (Option.some.inj e)))
theorem cells7 {w:World} {B:Nat} {a b c d e f g:Value} {t:TypeId} (h:w.heap[B]? =some (.cells #[a,b,c,d,e,f,g] t (0,0))):
  w.cell? ⟨B,0,none⟩=some a∧w.cell? ⟨B,1,none⟩=some b∧w.cell? ⟨B,2,none⟩=some c∧w.cell? ⟨B,3,none⟩=some d∧w.cell? ⟨B,4,none⟩=some e∧w.cell? ⟨B,5,none⟩=some f∧w.cell? ⟨B,6,none⟩=some g:=by
 refine⟨?_,?_,?_,?_,?_,?_,?_⟩<;>simp [World.cell?,h]
theorem cells4 {w:World} {B:Nat} {a b c d:Value} {t:TypeId} (h:w.heap[B]? =some (.cells #[a,b,c,d] t (0,0))):
  w.cell? ⟨B,0,none⟩=some a∧w.cell? ⟨B,1,none⟩=some b∧w.cell? ⟨B,2,none⟩=some c∧w.cell? ⟨B,3,none⟩=some d:=by
 refine⟨?_,?_,?_,?_⟩<;>simp [World.cell?,h]
theorem info_hs:(Tryz.prog.info? 68).map (·.size)=some 7:=by kernel_rfl
theorem row_free {w:World} {B:Nat} {cs:Array Value} {t:TypeId} (h:w.heap[B]? =some (.cells cs t (0,0))) (o:Nat):w.frozen? ⟨B,o,none⟩=false:=by simp [World.frozen?,h]
theorem row_by {w w':World} {B:Nat} {o:Obj} {row:Option Nat} (h:w.heap[B]? =some o) (hg:w.grownBy w' row) (hne:some B≠row):w'.heap[B]? =some o:=by
 rw [hg.block B (γ h) hne];exact h
theorem row_grow {w w':World} {B:Nat} {o:Obj} (h:w.heap[B]? =some o) (hg:Grow w w'):w'.heap[B]? =some o:=by
 rw [hg.block B (γ h)];exact h
theorem row_new (w:World) (o:Obj):(w.alloc o).heap[w.heap.size]? =some o:=heap_alloc_new w o
theorem wanted_go {o:Oper} {y:Nat→Option Bool} {X E:Prop} {inst:Decidable (Region.wanted o y=true)} (hgd:o.guard=none) (h:X):@ite Prop (Region.wanted o y=true) inst X E:=by
 rw [if_pos (by simp [Region.wanted,hgd])]
 exact h
theorem wp_store_row {P:Program} {ty:TypeId} {w:World} {o:Oper} {a:Act} {K:Act→World→Prop} {Q:Exit→Act→World→Prop} (d s:Operand) (ho:o.op=.store ty d s)
  {g:Nat} {t:TypeId} {old cells:Array Value} (hd:a.eval d=.pointer (some ⟨g,0,none⟩)) (hs:a.eval s=.agg cells) (hrow:w.heap[g]? =some (.cells old t (0,0)))
  (hi:(P.info? ty).map (·.size)=some cells.size) (hos:old.size=cells.size) (h1:cells.toList.all (·.oneCell')=true)
  (h:∀w',w'.heap[g]? =some (.cells cells t (0,0))→w.grownBy w' (some g)→K (a.put o.dst undef) w'):o.wp P a w K Q:=by
 have hr:=run_storeVar_row (P:=P) w g t ty old cells hrow hi hos (by rw [←Array.all_toList];exact h1)
 unfold Oper.wp execOp
 simp only [ho,hd,hs,Instr.storeAt,Instr.sureAddr,Sem.run_bind,Sem.run_pure,Result.andThen_ok,hr]
 exact h _ (setRow_heap w g old cells t _ hrow) ⟨rfl,rfl,rfl,by simp [World.setRow],fun k hk hne=>by
  simp only [World.setRow]
  rw [Array.getElem?_modify]
  rw [if_neg (fun e=>hne (by rw [e]))]⟩
theorem wpList_store_row {P:Program} {ty:TypeId} {ops:Array Oper} {rest:List Oper} {w:World} {o:Oper} {a:Act} {Q:Exit→Act→World→Prop} (hgd:o.guard=none) (d s:Operand) (ho:o.op=.store ty d s)
  {g:Nat} {t:TypeId} {old cells:Array Value} (hd:a.eval d=.pointer (some ⟨g,0,none⟩)) (hs:a.eval s=.agg cells) (hrow:w.heap[g]? =some (.cells old t (0,0)))
  (hi:(P.info? ty).map (·.size)=some cells.size) (hos:old.size=cells.size) (h1:cells.toList.all (·.oneCell')=true)
  (h:∀w',w'.heap[g]? =some (.cells cells t (0,0))→w.grownBy w' (some g)→wpList P ops Q rest (a.put o.dst undef) w'):wpList P ops Q (o::rest) a w:=
 wpList_plain hgd fun _ hK=>wp_store_row d s ho hd hs hrow hi hos h1 fun w' a b=>hK _ _ (h w' a b)
set_option maxHeartbeats 400000 in
theorem clone_pt {v:Value} {l:List Pt} (w:World) (hv:Sl Ty.pt w.cell? v l) (hm:l.length*24≤140737488355328):
  Calls Tryz.prog 29 #[v] w fun e w'=>∃v',e=.returned v'∧w'.ownsRow w.heap.size 31 3 v' l.length (l.flatMap Pt.cells)∧Grow w w':=by
 obtain⟨a,cap,rfl,h1,h2,h0,hel⟩:=hv
 have hnil:=fun w:World=>Go.Lib.run_eql_slice_nil (P:=Tryz.prog) w 26 31 a l.length cap 0 0 ei_pt.ht
 cases a with
 |none=>
  obtain rfl:=h0 rfl
  have hl:l=[]:=by
   cases l with
   |nil=>rfl
   |cons x l=>obtain⟨_,_,_,h,_⟩:=hel 0 x rfl;cases h
  subst hl
  have hnil':=fun w:World=>Go.Lib.run_eql_slice_nil (P:=Tryz.prog) w 26 31 none 0 0 0 0 ei_pt.ht
  simp only [Option.isNone_none] at hnil'
  clear hel h0 hm h1 h2 hnil
  show Calls _ _ #[.slice none 0 0] _ _
  go_enter Tryz.func29,Tryz.ntmps29
  go_wp2
  go_ret
  exact⟨_,rfl,World.ownsRow_nil _ _ _ _,grA⟩
 |some ad=>
  have hc:=flat_cells (f:=Pt.cells) (size:=3) (by decide) (fun _=>rfl) (c:=w.cell?) (a:=some ad) (l:=l) (fun i x e=>by
   obtain⟨b,o,cs,ha,⟨rfl,-⟩,hA⟩:=hel i x e
   exact⟨b,o,ha,hA⟩) ad rfl
  have hlen:(l.flatMap Pt.cells).length=l.length*3:=flat_len (f:=Pt.cells) (size:=3) (fun _=>rfl) l
  have h1c:∀u∈l.flatMap Pt.cells,u.oneCell'=true:=flat_one one_pt l
  simp only [Option.isNone_some] at hnil
  have HC:=η hc
  have HM:=η hm
  clear hel hc hm h2
  go_enter Tryz.func29,Tryz.ntmps29
  go_wp2_with (at_builtin;go_loud (refine app_own (W:=w) ei_pt rfl _ _ rfl ((Grow.refl w).alloc _) rfl (World.ownsRow_made w #[] 0 (Nat.le_refl _) (Nat.zero_le _) rfl) ad l.length cap (l.flatMap Pt.cells) rfl hlen ?_ ?_ ?_ ?_ ?_))
  ·intro j u hu;exact((Grow.refl w).alloc _).sub _ _ (HC.o j u hu)
  ·exact h1c
  ·have:=HM.o;unfold maxLen;omega
  ·have:=HM.o;omega
  ·intro v' w' hown hG _
   go_wp2
   go_ret
   exact⟨_,rfl,by simpa using hown,hG⟩
set_option maxHeartbeats 400000 in
theorem clone_int {v:Value} {l:List Int} (w:World) (hv:Sl Ty.int w.cell? v l) (hm:l.length*8≤140737488355328):
  Calls Tryz.prog 80 #[v] w fun e w'=>∃v',e=.returned v'∧w'.ownsRow w.heap.size 3 1 v' l.length (l.flatMap intCell)∧Grow w w':=by
 obtain⟨a,cap,rfl,h1,h2,h0,hel⟩:=hv
 have hnil:=fun w:World=>Go.Lib.run_eql_slice_nil (P:=Tryz.prog) w 47 3 a l.length cap 0 0 ei_int.ht
 cases a with
 |none=>
  obtain rfl:=h0 rfl
  have hl:l=[]:=by
   cases l with
   |nil=>rfl
   |cons x l=>obtain⟨_,_,_,h,_⟩:=hel 0 x rfl;cases h
  subst hl
  have hnil':=fun w:World=>Go.Lib.run_eql_slice_nil (P:=Tryz.prog) w 47 3 none 0 0 0 0 ei_int.ht
  simp only [Option.isNone_none] at hnil'
  clear hel h0 hm h1 h2 hnil
  show Calls _ _ #[.slice none 0 0] _ _
  go_enter Tryz.func80,Tryz.ntmps80
  go_wp2
  go_ret
  exact⟨_,rfl,World.ownsRow_nil _ _ _ _,grA⟩
 |some ad=>
  have hc:=flat_cells (f:=intCell) (size:=1) (by decide) (fun _=>rfl) (c:=w.cell?) (a:=some ad) (l:=l) (fun i x e=>by
   obtain⟨b,o,cs,ha,⟨rfl,-⟩,hA⟩:=hel i x e
   exact⟨b,o,ha,hA⟩) ad rfl
  have hlen:(l.flatMap intCell).length=l.length*1:=flat_len (f:=intCell) (size:=1) (fun _=>rfl) l
  have h1c:∀u∈l.flatMap intCell,u.oneCell'=true:=flat_one one_int l
  simp only [Option.isNone_some] at hnil
  have HC:=η hc
  have HM:=η hm
  clear hel hc hm h2
  go_enter Tryz.func80,Tryz.ntmps80
  go_wp2_with (at_builtin;go_loud (refine app_own (W:=w) ei_int rfl _ _ rfl ((Grow.refl w).alloc _) rfl (World.ownsRow_made w #[] 0 (Nat.le_refl _) (Nat.zero_le _) rfl) ad l.length cap (l.flatMap intCell) rfl hlen ?_ ?_ ?_ ?_ ?_))
  ·intro j u hu;exact((Grow.refl w).alloc _).sub _ _ (HC.o j u hu)
  ·exact h1c
  ·have:=HM.o;unfold maxLen;omega
  ·have:=HM.o;omega
  ·intro v' w' hown hG _
   go_wp2
   go_ret
   exact⟨_,rfl,by simpa using hown,hG⟩
set_option maxHeartbeats 400000 in
theorem clone_byte {v:Value} {l:List UInt8} (w:World) (hv:Sl Ty.byte w.cell? v l) (hm:l.length*1≤140737488355328):
  Calls Tryz.prog 72 #[v] w fun e w'=>∃v',e=.returned v'∧w'.ownsRow w.heap.size 5 1 v' l.length (l.flatMap byteCell)∧Grow w w':=by
 obtain⟨a,cap,rfl,h1,h2,h0,hel⟩:=hv
 have hnil:=fun w:World=>Go.Lib.run_eql_slice_nil (P:=Tryz.prog) w 139 5 a l.length cap 0 0 ei_byte.ht
 cases a with
 |none=>
  obtain rfl:=h0 rfl
  have hl:l=[]:=by
   cases l with
   |nil=>rfl
   |cons x l=>obtain⟨_,_,_,h,_⟩:=hel 0 x rfl;cases h
  subst hl
  have hnil':=fun w:World=>Go.Lib.run_eql_slice_nil (P:=Tryz.prog) w 139 5 none 0 0 0 0 ei_byte.ht
  simp only [Option.isNone_none] at hnil'
  clear hel h0 hm h1 h2 hnil
  show Calls _ _ #[.slice none 0 0] _ _
  go_enter Tryz.func72,Tryz.ntmps72
  go_wp2
  go_ret
  exact⟨_,rfl,World.ownsRow_nil _ _ _ _,grA⟩
 |some ad=>
  have hc:=flat_cells (f:=byteCell) (size:=1) (by decide) (fun _=>rfl) (c:=w.cell?) (a:=some ad) (l:=l) (fun i x e=>by
   obtain⟨b,o,cs,ha,rfl,hA⟩:=hel i x e
   exact⟨b,o,ha,hA⟩) ad rfl
  have hlen:(l.flatMap byteCell).length=l.length*1:=flat_len (f:=byteCell) (size:=1) (fun _=>rfl) l
  have h1c:∀u∈l.flatMap byteCell,u.oneCell'=true:=flat_one one_byte l
  simp only [Option.isNone_some] at hnil
  have HC:=η hc
  have HM:=η hm
  clear hel hc hm h2
  go_enter Tryz.func72,Tryz.ntmps72
  go_wp2_with (at_builtin;go_loud (refine app_own (W:=w) ei_byte rfl _ _ rfl ((Grow.refl w).alloc _) rfl (World.ownsRow_made w #[] 0 (Nat.le_refl _) (Nat.zero_le _) rfl) ad l.length cap (l.flatMap byteCell) rfl hlen ?_ ?_ ?_ ?_ ?_))
  ·intro j u hu;exact((Grow.refl w).alloc _).sub _ _ (HC.o j u hu)
  ·exact h1c
  ·have:=HM.o;unfold maxLen;omega
  ·have:=HM.o;omega
  ·intro v' w' hown hG _
   go_wp2
   go_ret
   exact⟨_,rfl,by simpa using hown,hG⟩
set_option maxHeartbeats 400000 in
theorem clone_sm {v:Value} {l:List Sm} (w:World) (hv:Sl Ty.sm w.cell? v l) (hm:l.length*32≤140737488355328):
  Calls Tryz.prog 51 #[v] w fun e w'=>∃v',e=.returned v'∧w'.ownsRow w.heap.size 48 4 v' l.length (l.flatMap Sm.cells)∧Grow w w':=by
 obtain⟨a,cap,rfl,h1,h2,h0,hel⟩:=hv
 have hnil:=fun w:World=>Go.Lib.run_eql_slice_nil (P:=Tryz.prog) w 44 48 a l.length cap 0 0 ei_sm.ht
 cases a with
 |none=>
  obtain rfl:=h0 rfl
  have hl:l=[]:=by
   cases l with
   |nil=>rfl
   |cons x l=>obtain⟨_,_,_,h,_⟩:=hel 0 x rfl;cases h
  subst hl
  have hnil':=fun w:World=>Go.Lib.run_eql_slice_nil (P:=Tryz.prog) w 44 48 none 0 0 0 0 ei_sm.ht
  simp only [Option.isNone_none] at hnil'
  clear hel h0 hm h1 h2 hnil
  show Calls _ _ #[.slice none 0 0] _ _
  go_enter Tryz.func51,Tryz.ntmps51
  go_wp2
  go_ret
  exact⟨_,rfl,World.ownsRow_nil _ _ _ _,grA⟩
 |some ad=>
  have hc:=flat_cells (f:=Sm.cells) (size:=4) (by decide) (fun _=>rfl) (c:=w.cell?) (a:=some ad) (l:=l) (fun i x e=>by
   obtain⟨b,o,cs,ha,⟨rfl,-⟩,hA⟩:=hel i x e
   exact⟨b,o,ha,hA⟩) ad rfl
  have hlen:(l.flatMap Sm.cells).length=l.length*4:=flat_len (f:=Sm.cells) (size:=4) (fun _=>rfl) l
  have h1c:∀u∈l.flatMap Sm.cells,u.oneCell'=true:=flat_one one_sm l
  simp only [Option.isNone_some] at hnil
  have HC:=η hc
  have HM:=η hm
  clear hel hc hm h2
  go_enter Tryz.func51,Tryz.ntmps51
  go_wp2_with (at_builtin;go_loud (refine app_own (W:=w) ei_sm rfl _ _ rfl ((Grow.refl w).alloc _) rfl (World.ownsRow_made w #[] 0 (Nat.le_refl _) (Nat.zero_le _) rfl) ad l.length cap (l.flatMap Sm.cells) rfl hlen ?_ ?_ ?_ ?_ ?_))
  ·intro j u hu;exact((Grow.refl w).alloc _).sub _ _ (HC.o j u hu)
  ·exact h1c
  ·have:=HM.o;unfold maxLen;omega
  ·have:=HM.o;omega
  ·intro v' w' hown hG _
   go_wp2
   go_ret
   exact⟨_,rfl,by simpa using hown,hG⟩
def fr (W0 w:World) (X:List (Option Nat)):CM:=fun a=>if a.block<W0.heap.size∨some a.block∈X then none else w.cell? a
theorem fr_sub (W0 w:World) (X:List (Option Nat)):Sub (fr W0 w X) w.cell?:=fun a v e=>by
 unfold fr at e
 split at e
 ·cases e
 ·exact e
theorem fr_ov (c:CM) (W0 w:World) (X:List (Option Nat)):Sub (fr W0 w X) (ov c W0 w):=fun a v e=>by
 unfold fr at e
 split at e
 ·cases e
 ·rename_i h
  rw [ov_new (by omega)];exact e
theorem fr_new {W0 w:World} {X:List (Option Nat)} {a:Addr} (h:W0.heap.size≤a.block) (hx:some a.block∉X):fr W0 w X a=w.cell? a:=by
 unfold fr
 rw [if_neg (by rintro(h1|h1);omega;exact hx h1)]
theorem fr_step {W0 w w':World} {X X':List (Option Nat)} (h:∀k,k<w.heap.size→W0.heap.size≤k→some k∉X→w'.heap[k]? =w.heap[k]?∧some k∉X'):Sub (fr W0 w X) (fr W0 w' X'):=fun a v e=>by
 unfold fr at e
 split at e
 ·cases e
 ·rename_i hn
  have h1:¬a.block<W0.heap.size:=fun hx=>hn (.inl hx)
  have h2:some a.block∉X:=fun hx=>hn (.inr hx)
  obtain⟨h3,h4⟩:=h a.block (World.block_lt_of_cell? w a e) (by omega) h2
  rw [fr_new (by omega) h4,World.cell?_of_block h3]
  exact e
theorem fr_grow {W0 w w':World} {X:List (Option Nat)} (h:Grow w w'):Sub (fr W0 w X) (fr W0 w' X):=fr_step fun k hk _ hx=>⟨h.block k hk,hx⟩
theorem fr_app {W0 w w':World} {v v':Value} (hg:w.grownBy w' v.ownBlock) (hb:v'.ownBlock=v.ownBlock∨∃g,v'.ownBlock=some g∧w.heap.size≤g):Sub (fr W0 w [v.ownBlock]) (fr W0 w' [v'.ownBlock]):=
 fr_step fun k hk _ hx=>⟨hg.block k hk (by simpa using hx),by
  rcases hb with hb|⟨g,hb,hge⟩
  ·rw [hb];exact hx
  ·rw [hb];simp;omega⟩
theorem pts_fr {W0 w1 w:World} {v:Value} {l:List Pt} {X:List (Option Nat)} (h:w.ownsRow w1.heap.size 31 3 v l.length (l.flatMap Pt.cells)) (hok:PtsOk l) (hW:W0.heap.size≤w1.heap.size) (hX:∀k,w1.heap.size≤k→some k∉X):Sl Ty.pt (fr W0 w X) v l:=
 (OwnC.pts (c:=fr W0 w X) h hok).slc (by decide) (Sub.refl _) fun a ha=>fr_new (by omega) (hX _ ha)
set_option maxRecDepth 100000 in
set_option maxHeartbeats 1000000 in
theorem log_own {v:Value} {l:List Rc} (w:World) (hv:Rcs w.cell? v l) (hm:l.length*40≤140737488355328) (hp:∀r∈l,r.parts.length*24≤140737488355328):
  Calls Tryz.prog 64 #[v] w fun e w'=>∃v',e=.returned v'∧OwnC Ty.rc (fr w w' [v'.ownBlock]) w' w.heap.size 81 v' l∧Grow w w':=by
 obtain⟨a,cap,rfl,h1,h2,-,hel⟩:=hv
 unfold maxLen at h2
 have HM:=η hm
 have HP:=η hp
 clear hm hp
 go_enter Tryz.func64,Tryz.ntmps64
 go_wp2
 go_loopw [3,8] (fun s3 i wr=>∃k:Nat,k≤l.length∧i=.int .i64 k∧Grow w wr∧OwnC Ty.rc (fr w wr [s3.ownBlock]) wr w.heap.size 81 s3 (l.take k)) (fun _ i _=>l.length - (intOf i).toNat)
 case atStart=>exact⟨0,by omega,rfl,Grow.refl _,OwnC.nil _ _ _ _ _⟩
 case round=>
  obtain⟨k,hk',rfl,hb,hown⟩:=hrel
  by_cases hlt:k<l.length
  ·obtain⟨b,o,vp,rfl,c0,c1,c2,i0,i1,hP⟩:=Rcs.at_ hel k hlt
   obtain⟨ap,cp,rfl,-⟩:=id hP
   replace c0:=hb.sub _ _ c0
   replace c1:=hb.sub _ _ c1
   replace c2:=hb.sub _ _ c2
   have htk:l.take (k+1)=l.take k++ [l[k]]:=by rw [List.take_succ_eq_append_getElem hlt]
   have HTK:=η htk
   have hpl:=HP.o l[k] (List.getElem_mem _)
   have hok:=Pts.ok (c:=w.cell?) hP
   have HCL:=η (fun(W:World) (hW:Grow wr W)=>clone_pt W (hP.mono (hb.trans hW).sub) hpl)
   have hlk:(l.take k).length=k:=by simp;omega
   have HOWN:=η hown
   have HI:=η (And.intro i0 (And.intro i1 hok))
   obtain⟨av,cv,rfl⟩:=hown.form
   clear hel hP htk hpl hok hown i0 i1
   generalize l[k]=r at*
   generalize hlt':l.take k=lk at*
   have HLT:=η hlt'
   have HLK:=η hlk
   clear hlt' hlk
   go_wp2_with fail
   refine(HCL.o _ ((Grow.refl _).alloc _)).mono ?_
   rintro e w2 ⟨v2,rfl,ho2,hb2⟩
   obtain⟨a2,cap2,rfl⟩:=owns_form ho2
   have HO2:=η ho2
   have HB2:=η hb2
   obtain⟨cw2,fw2⟩:=bcell hb2
   have z2:wr.heap.size<w2.heap.size:=by have:=hb2.size;simp at this;omega
   clear ho2 hb2
   have HG3:Hid (Grow wr (w2.setCell ⟨wr.heap.size,2,none⟩ (.slice a2 r.parts.length cap2))):=η ((((Grow.refl wr).alloc _).trans HB2.o).setCell (by simp) _)
   go_wp2_with (first|(at_builtin;refine wpList_appc (c:=fr w ((w2.setCell ⟨wr.heap.size,2,none⟩ (.slice a2 r.parts.length cap2)).alloc (.cells #[.int .i64 r.kind,.int .i64 r.deed,.slice a2 r.parts.length cap2] 81)) [(Value.slice av lk.length cv).ownBlock]) (base:=w.heap.size) (l:=lk) (m:=[r]) ei_rc rfl one_Trc (by decide) rfl (.tmp 16) (.tmp 18) rfl rfl ?own rfl (Src.of_new (cs:=#[.int .i64 r.kind,.int .i64 r.deed,.slice a2 r.parts.length cap2]) ?d0 _ _ ?d1) ?d2 ?d3 ?_))
   case own=>exact(HOWN.o.mono (fr_grow (HG3.o.alloc _))).grow (HG3.o.alloc _)
   case d0=>
    refine⟨_,rfl,HI.o.1,HI.o.2.1,?_⟩
    have hlt2:=HOWN.o.lt
    refine pts_fr (w1:=wr.alloc (.cells #[.int .i64 r.kind,.int .i64 r.deed,.slice ap r.parts.length cp] 81)) ?_ HI.o.2.2 ?_ ?_
    ·exact(HO2.o.kept (grownBy_setCell w2 ⟨wr.heap.size,2,none⟩ _) (by
      cases e:(Value.slice a2 r.parts.length cap2).ownBlock with
      |none=>exact .inl rfl
      |some q=>right;have:=(HO2.o.lt q e).1;simp at this ⊢;omega)).alloc _
    ·have:=hb.size;simp;omega
    ·intro q hq
     simp only [List.mem_singleton]
     intro e
     have:=(hlt2 q e.symm).2
     simp at hq;omega
   case d1=>simp
   case d2=>have:=HM.o;have:=HLK.o;simp;omega
   case d3=>have:=(HG3.o.alloc (.cells #[.int .i64 r.kind,.int .i64 r.deed,.slice a2 r.parts.length cap2] 81)).size;have:=hb.size;omega
   intro a5 c5 w5 hown5 hg5 hb5
   have hG5:Grow w w5:=grow_by (w0:=w) (hb.trans (HG3.o.alloc _)) hg5 (fun q hq=>(HOWN.o.lt q hq).1)
   have HO5:=η (hown5.mono (fr_app hg5 (hb5.imp_right fun⟨g,e,hge⟩=>⟨g,e,by simpa using hge⟩)))
   have HG5:=η hG5
   clear hown5 hg5 hb5 hG5 cw2 fw2
   go_wp2
   go_roundw
   case rel=>exact⟨k+1,by omega,by go_num,HG5.o,by rw [HTK.o];exact HO5.o⟩
   case measure=>simp [intOf];omega
  ·clear hel
   go_wp2
   go_ret
   have h9:=hown
   rw [List.take_of_length_le (by omega)] at h9
   exact⟨_,rfl,h9,hb⟩
def housesE (l:List Pt):List Int:=[0,1,2].filter fun n=>l.any fun p=>p.h==n
def commitM (o:Opn) (n:Int):Ms:=if o.dec then⟨4,o.deed,n,[]⟩ else⟨1,o.deed,n,ofL o.parts n⟩
def asksE (o:Opn):List Ms:=((housesE o.parts).filter fun n=>!decide (n∈o.heard)).map (commitM o)
def abortsE (d:Int) (l:List Pt):List Ms:=(housesE l).map fun n=>⟨5,d,n,[]⟩
def headStep (h:Hd) (r:Rc):Hd:=
 if r.kind=4 then { h with boot:=wrap64 (h.boot+1) }
 else if r.kind=5 then { h with opn:=h.opn++ [⟨r.deed,r.parts,true,[]⟩] }
 else if r.kind=6 then { h with opn:=h.opn.filter fun o=>!(o.deed==r.deed) }
 else h
def headR (l:List Rc):Hd:=l.foldl headStep ⟨l,0,0,[]⟩
def decidedR (l:List Rc):List Rd:=(l.filter fun r=>r.kind==5).map fun r=>⟨r.deed,r.parts⟩
def fallH (h:Hd):Hd:=if 19<h.boot then h else headR (h.log++ [⟨4,0,[]⟩])
def fallE (h:Hd):Int:=if 19<h.boot then 5 else 0
def fullE (h:Hd):Bool:=decide (11<h.opn.length∨63<h.next)
def newO (h:Hd) (l:List Pt):Opn:=⟨64*h.boot+h.next,l,false,[]⟩
def beginH (h:Hd) (l:List Pt):Hd:=if fullE h=true then h else { h with opn:=h.opn++ [newO h l],next:=h.next+1 }
def beginM (h:Hd) (l:List Pt):List Ms:=if fullE h=true then [] else asksE (newO h l)
def beginE (h:Hd):Int:=if fullE h=true then 9 else 0
def hearO (o:Opn) (m:Ms):List Opn×List Rc×List Ms:=
 if m.kind=2∧o.dec=false∧m.house∈housesE o.parts∧m.house∉o.heard then
  (if o.heard.length+1=(housesE o.parts).length then([{ o with dec:=true,heard:=[] }],[⟨5,o.deed,o.parts⟩],asksE { o with dec:=true,heard:=[] })
  else([{ o with heard:=o.heard++ [m.house] }],[],[]))
 else if m.kind=3∧o.dec=false then([],[],abortsE o.deed o.parts)
 else if m.kind=6∧o.dec=true∧m.house∈housesE o.parts∧m.house∉o.heard then
  (if o.heard.length+1=(housesE o.parts).length then([],[⟨6,o.deed,[]⟩],[]) else([{ o with heard:=o.heard++ [m.house] }],[],[]))
 else if m.kind=7∧o.dec=true then([o],[],[⟨4,m.deed,m.house,[]⟩])
 else([o],[],[])
def hearL (m:Ms):List Opn→Option (List Opn×List Rc×List Ms)
 | []=>none
 |o::l=>if o.deed=m.deed then some ((hearO o m).1++l,(hearO o m).2) else(hearL m l).map fun x=>(o::x.1,x.2)
def hHearH (h:Hd) (m:Ms):Hd:=match hearL m h.opn with
 |none=>h
 |some x=>{ h with opn:=x.1,log:=h.log++x.2.1 }
def hHearM (h:Hd) (m:Ms):List Ms:=match hearL m h.opn with
 |none=>if m.kind=7 then [⟨5,m.deed,m.house,[]⟩] else []
 |some x=>x.2.2
def tickE (h:Hd):List Ms:=h.opn.flatMap asksE
def quitH (h:Hd):Hd:={ h with opn:=h.opn.filter fun o=>o.dec }
def quitM (h:Hd):List Ms:=(h.opn.filter fun o=>!o.dec).flatMap fun o=>abortsE o.deed o.parts
end Go.Proofs.YthfgeelcbcgahaaGreatDoor
namespace Go.Proofs.YthfgeelcbcgahaaGreatDoor
def keysOf (l:List Rd):List Int:=l.flatMap fun r=>r.parts.map (·.k)
theorem keysOf_cons (x:Rd) (l:List Rd):keysOf (x::l)=x.parts.map (·.k)++keysOf l:=by simp [keysOf]
theorem keysOf_snoc (l:List Rd) (x:Rd):keysOf (l++ [x])=keysOf l++x.parts.map (·.k):=by simp [keysOf]
theorem hasKey_mem {key:Int} {x:Rd}:hasKey key x=true↔key∈x.parts.map (·.k):=by
 unfold hasKey
 rw [List.any_eq_true,List.mem_map]
 constructor
 ·rintro⟨p,hp,h⟩;exact⟨p,hp,by simpa using h⟩
 ·rintro⟨p,hp,h⟩;exact⟨p,hp,by simpa using h⟩
theorem who_keys {key:Int}:∀{l:List Rd},(∀x∈l,0≤x.deed)→(whoE l key<0↔key∉keysOf l)
 | [],_=>by simp [whoE,keysOf]
 |x::l,hp=>by
  have ih:=who_keys (l:=l) (key:=key) fun y hy=>hp y (List.mem_cons_of_mem _ hy)
  have hx:=hp x List.mem_cons_self
  rw [who_cons,keysOf_cons,List.mem_append,←hasKey_mem]
  by_cases h:hasKey key x=true
  ·simp [h];exact hx
  ·simp only [h,if_false,false_or,Bool.false_eq_true];exact ih
theorem keysOf_erase (p:Rd→Bool):∀l:List Rd,(keysOf (l.eraseP p)).Sublist (keysOf l)
 | []=>List.Sublist.refl _
 |x::l=>by
  by_cases h:p x=true
  ·rw [List.eraseP_cons_of_pos h,keysOf_cons];exact List.sublist_append_right _ _
  ·rw [List.eraseP_cons_of_neg h,keysOf_cons,keysOf_cons];exact(keysOf_erase p l).append_left _
theorem who_deed {key:Int}:∀{l:List Rd},(keysOf l).Nodup→∀r∈l,key∈r.parts.map (·.k)→whoE l key=r.deed
 |x::l,hn,r,hr,hk=>by
  rw [keysOf_cons,List.nodup_append] at hn
  obtain⟨h1,h2,h3⟩:=hn
  rw [who_cons]
  rcases List.mem_cons.1 hr with rfl|hr
  ·rw [if_pos (hasKey_mem.2 hk)]
  ·have hk2:key∈keysOf l:=List.mem_flatMap.2 ⟨r,hr,hk⟩
   rw [if_neg (fun h=>h3 _ (hasKey_mem.1 h) _ hk2 rfl)]
   exact who_deed h2 r hr hk
structure Calm (h:Hs):Prop where
 made:Made h
 fine:Fine h.ready
 apart:(keysOf h.ready).Nodup
theorem calm_zero:Calm ⟨[],⟨0,0,0,0⟩,[],[]⟩:=⟨rfl,⟨by simp,by simp⟩,by simp [keysOf]⟩
theorem nodup_keys {l:List Pt} {h:Int} (hn:(l.map fun p=>(p.h,p.k)).Nodup) (ha:∀p∈l,p.h=h):(l.map (·.k)).Nodup:=by
 have e:(l.map fun p=>(p.h,p.k))=(l.map (·.k)).map fun k=>(h,k):=by
  rw [List.map_map]
  exact List.map_congr_left fun p hp=>by simp [ha p hp]
 rw [e] at hn
 refine List.Pairwise.of_map _ (fun a b hab he=>hab (by rw [he])) hn
theorem free_none {l:List Rd} (hp:∀x∈l,0≤x.deed) {ps:List Pt} (h:freeE l ps=true):∀p∈ps,p.k∉keysOf l:=by
 rw [free_all,List.all_eq_true] at h
 intro p hm
 exact(who_keys hp).1 (by simpa using h p hm)
structure RightM (m:Ms):Prop where
 kind:1≤m.kind∧m.kind≤7
 deed:0≤m.deed∧m.deed≤1343
 house:0≤m.house∧m.house≤2
 none:m.kind≠1→m.parts=[]
 parts:m.kind=1→wrongE m.parts 3=0∧∀p∈m.parts,p.h=m.house
theorem right_m {m:Ms}:wrongM m=0↔RightM m:=by
 unfold wrongM
 constructor
 ·intro h
  split at h
  ·cases h
  split at h
  ·cases h
  split at h
  ·split at h
   ·exact⟨by omega,by omega,by omega,fun _=>‹_›,fun _=>by omega⟩
   ·cases h
  ·split at h
   ·split at h
    ·rename_i h1 h2
     exact⟨by omega,by omega,by omega,fun _=>by omega,fun _=>⟨h1,fun p hp=>by simpa using List.all_eq_true.1 h2 p hp⟩⟩
    ·cases h
   ·rename_i h1;exact absurd h h1
 ·rintro⟨h1,h2,h3,h4,h5⟩
  rw [if_neg (by omega),if_neg (by omega)]
  split
  ·rw [if_pos (h4 (by omega))]
  ·obtain⟨h6,h7⟩:=h5 (by omega)
   rw [if_pos h6,if_pos (List.all_eq_true.2 fun p hp=>by simpa using h7 p hp)]
theorem RightM.keys {m:Ms} (h:RightM m):KeysOk m.parts:=by
 by_cases hk:m.kind=1
 ·exact wrong_keys (h.parts hk).1
 ·rw [h.none hk];intro p hp;simp at hp
theorem calm_note {h:Hs} (hc:Calm h) {r:Rc} (hr:0≤r.deed) (h1:r.kind=1→(r.parts.map (·.k)).Nodup∧∀p∈r.parts,p.k∉keysOf h.ready):Calm (noteE h r):=by
 have e:=note_ready hc.made r
 refine⟨note_made _ _,by rw [e];exact fine_step hc.fine hr,?_⟩
 rw [e,step_ready]
 split
 ·split
  ·exact hc.apart.sublist (keysOf_erase _ _)
  ·exact hc.apart
 ·split
  ·rename_i hk
   obtain⟨h2,h3⟩:=h1 hk
   rw [keysOf_snoc,List.nodup_append]
   refine⟨hc.apart,h2,fun a ha b hb e=>?_⟩
   obtain⟨p,hp,rfl⟩:=List.mem_map.1 hb
   exact h3 p hp (e▸ha)
  ·exact hc.apart
theorem vote_free {h:Hs} {d:Int} {ps:List Pt} (hv:voteE h d ps=0) (hr:readyE h.ready d=false):freeE h.ready ps=true:=by
 unfold voteE at hv
 split at hv
 ·cases hv
 ·rw [if_neg (by simp [hr])] at hv
  split at hv
  ·cases hv
  ·rename_i h2;simpa using h2
theorem calm_hear {h:Hs} (hc:Calm h) {m:Ms} (hm:RightM m):Calm (hearH h m):=by
 unfold hearH
 split
 ·rename_i hk
  obtain⟨hw,hh⟩:=hm.parts hk
  split
  ·rename_i hv
   exact calm_note hc hm.deed.1 fun _=>⟨nodup_keys (wrong_ok hw).2.2.2 hh,free_none hc.fine.pos (vote_free hv.1 hv.2)⟩
  ·exact hc
 ·split
  ·split
   ·exact calm_note hc hm.deed.1 (by simp)
   ·exact hc
  ·split
   ·split
    ·exact calm_note hc hm.deed.1 (by simp)
    ·exact hc
   ·exact hc
structure AW where
 head:Hd
 houses:List Hs
 net:List Ms
def sendA (net ms:List Ms):List Ms:=net++ms.take (24 - net.length)
def hs0:Hs:=houseR []
def newA (n:Nat):AW:=⟨headR [⟨4,0,[]⟩],List.replicate n hs0,[]⟩
def forHouse (m:Ms):Bool:=decide (m.kind=1∨m.kind=4∨m.kind=5)
def comeA (w:AW) (m:Ms):AW:=
 match w.houses[m.house.toNat]? with
 |none=>w
 |some h=>if forHouse m=true then { w with houses:=w.houses.set m.house.toNat (hearH h m),net:=sendA w.net (hearM h m.house m) }
  else { w with head:=hHearH w.head m,net:=sendA w.net (hHearM w.head m) }
def tickA (w:AW) (n:Nat):AW:=
 if n=3 then { w with net:=sendA w.net (tickE w.head) }
 else match w.houses[n]? with
  |none=>w
  |some h=>{ w with net:=sendA w.net (hTickE h n) }
def there (w:AW) (n:Int):Bool:=decide (0≤n∧n<w.net.length)
def hereN (w:AW) (n:Int):Bool:=decide (0≤n∧n<w.houses.length)
def doA (w:AW) (s:St):AW:=
 if s.kind=1 then(if wrongE s.parts w.houses.length=0 then { w with head:=beginH w.head s.parts,net:=sendA w.net (beginM w.head s.parts) } else w)
 else if s.kind=2 then(if there w s.n=true then comeA { w with net:=w.net.eraseIdx s.n.toNat } (w.net.getD s.n.toNat ⟨0,0,0,[]⟩) else w)
 else if s.kind=3 then(if there w s.n=true then { w with net:=w.net.eraseIdx s.n.toNat } else w)
 else if s.kind=4 then(if there w s.n=true∧w.net.length<24 then { w with net:=w.net++ [w.net.getD s.n.toNat ⟨0,0,0,[]⟩] } else w)
 else if s.kind=5 then(if s.n=3 then { w with head:=fallH w.head } else w)
 else if s.kind=6 then(if s.n=3∨hereN w s.n=true then tickA w s.n.toNat else w)
 else if s.kind=7 then { w with head:=quitH w.head,net:=sendA w.net (quitM w.head) }
 else w
def doErr (w:AW) (s:St):Int:=
 if s.kind=1 then(if wrongE s.parts w.houses.length=0 then beginE w.head else wrongE s.parts w.houses.length)
 else if s.kind=2∨s.kind=3∨s.kind=4 then(if there w s.n=true then 0 else 6)
 else if s.kind=5 then(if s.n=3 then fallE w.head else if hereN w s.n=true then 0 else 6)
 else if s.kind=6 then(if s.n=3∨hereN w s.n=true then 0 else 6)
 else if s.kind=7 then 0
 else 1
def playA (w:AW) (l:List St):AW:=l.foldl doA w
abbrev Reg:=List (Int×List Pt)
theorem step_done (h:Hs) (r:Rc):(refStep h r).done=(match h.ready.find? (isD r.deed) with|none=>h.done|some _=>if r.kind=2 then h.done++ [r.deed] else h.done):=by
 unfold refStep
 rw [in_fold]
 cases hf:h.ready.find? (isD r.deed) with
 |none=>simp
 |some x=>simp
theorem step_sums (h:Hs) (r:Rc):(refStep h r).sums=(match h.ready.find? (isD r.deed) with|none=>h.sums|some x=>if r.kind=2 then doP h.sums x.parts else h.sums):=by
 unfold refStep
 rw [in_fold]
 cases hf:h.ready.find? (isD r.deed) with
 |none=>simp
 |some x=>simp
theorem note_done {h:Hs} (hm:Made h) (r:Rc):(noteE h r).done=(refStep h r).done:=by rw [note_step hm]
theorem ready_erase {l:List Rd} {d:Int} (hn:(l.map (·.deed)).Nodup):readyE (l.eraseP (isD d)) d=false:=by
 induction l with
 |nil=>rfl
 |cons x l ih=>
  rw [List.map_cons,List.nodup_cons] at hn
  by_cases h:isD d x=true
  ·rw [List.eraseP_cons_of_pos h]
   unfold readyE
   rw [List.any_eq_false]
   intro y hy hd
   have h1:x.deed=d:=by simpa [isD] using h
   have h2:y.deed=d:=by simpa [isD] using hd
   exact hn.1 (List.mem_map.2 ⟨y,hy,by rw [h1,h2]⟩)
  ·rw [List.eraseP_cons_of_neg h]
   have:=ih hn.2
   unfold readyE at this ⊢
   rw [List.any_cons,this]
   simpa using h
theorem ready_other {l:List Rd} {d e:Int} (h:readyE l d=true) (hne:e≠d):readyE (l.eraseP (isD e)) d=true:=by
 unfold readyE at h ⊢
 rw [List.any_eq_true] at h ⊢
 obtain⟨x,hx,hd⟩:=h
 refine⟨x,?_,hd⟩
 rw [List.mem_eraseP_of_neg]
 ·exact hx
 ·have:x.deed=d:=by simpa [isD] using hd
  simp [isD,this];exact fun e'=>hne e'.symm
theorem find_ready {l:List Rd} {d:Int} (h:readyE l d=true):∃x,l.find? (isD d)=some x:=by
 rw [readyE_find] at h
 exact Option.isSome_iff_exists.1 h
theorem find_unready {l:List Rd} {d:Int} (h:readyE l d=false):l.find? (isD d)=none:=by
 rw [readyE_find] at h
 simpa using h
theorem who_ready {l:List Rd} {d key:Int} (hd:0≤d) (h:readyE l d=false):whoE l key≠d:=by
 rcases who_mem l key with h2|⟨y,hy,h2⟩
 ·omega
 ·intro e
  unfold readyE at h
  rw [List.any_eq_false] at h
  exact h y hy (by simp [isD];omega)
theorem note1 {h:Hs} (hm:Made h) {d:Int} (ps:List Pt) (hr:readyE h.ready d=false):(noteE h ⟨1,d,ps⟩).ready=h.ready++ [⟨d,ps⟩]∧(noteE h ⟨1,d,ps⟩).done=h.done:=by
 rw [note_ready hm,note_done hm,step_ready,step_done]
 simp [find_unready hr]
theorem note2 {h:Hs} (hm:Made h) {d:Int} (hr:readyE h.ready d=true):(noteE h ⟨2,d,[]⟩).ready=h.ready.eraseP (isD d)∧(noteE h ⟨2,d,[]⟩).done=h.done++ [d]:=by
 obtain⟨x,hx⟩:=find_ready hr
 rw [note_ready hm,note_done hm,step_ready,step_done]
 simp [hx]
theorem note3 {h:Hs} (hm:Made h) {d:Int} (hr:readyE h.ready d=true):(noteE h ⟨3,d,[]⟩).ready=h.ready.eraseP (isD d)∧(noteE h ⟨3,d,[]⟩).done=h.done:=by
 obtain⟨x,hx⟩:=find_ready hr
 rw [note_ready hm,note_done hm,step_ready,step_done]
 simp [hx]
def Kept (h:Hs) (d:Int):Prop:=readyE h.ready d=true∨d∈h.done
theorem word_law {h:Hs} (hm:Made h) (hf:Fine h.ready) {d me:Int} (hd:0≤d) (hk:Kept h d) (house key:Int):
  d∈(hearH h ⟨4,d,house,[]⟩).done∧hearM h me ⟨4,d,house,[]⟩=sayE 6 d me∧whoE (hearH h ⟨4,d,house,[]⟩).ready key≠d:=by
 by_cases hr:readyE h.ready d=true
 ·have e:hearH h ⟨4,d,house,[]⟩=noteE h ⟨2,d,[]⟩:=by unfold hearH;simp [hr]
  obtain⟨e1,e2⟩:=note2 hm hr
  have hin:d∈(noteE h ⟨2,d,[]⟩).done:=by rw [e2];simp
  refine⟨by rw [e];exact hin,?_,?_⟩
  ·unfold hearM
   rw [e]
   simp [hin]
  ·rw [e,e1]
   exact who_ready hd (ready_erase hf.nodup)
 ·have e:hearH h ⟨4,d,house,[]⟩=h:=by unfold hearH;simp [hr]
  have hin:d∈h.done:=by
   rcases hk with hk|hk
   ·exact absurd hk hr
   ·exact hk
  refine⟨by rw [e];exact hin,?_,?_⟩
  ·unfold hearM
   rw [e]
   simp [hin]
  ·rw [e]
   exact who_ready hd (by simpa using hr)
end Go.Proofs.YthfgeelcbcgahaaGreatDoor
namespace Go.Proofs.YthfgeelcbcgahaaGreatDoor
open Go.RowKit
def atK (k q:Int) (p:Pt):Bool:=p.h==k&&p.k==q
def has (k q:Int) (P:List Pt):Bool:=(P.find? (atK k q)).isSome
def amt (k q:Int) (P:List Pt):Int:=match P.find? (atK k q) with|some p=>p.n|none=>0
def tot (k q:Int):List Rd→Int
 | []=>0
 |r::D=>amt k q r.parts+tot k q D
theorem tot_app (k q:Int):∀A B:List Rd,tot k q (A++B)=tot k q A+tot k q B
 | [],B=>by simp [tot]
 |r::A,B=>by rw [List.cons_append,tot,tot,tot_app k q A B];omega
theorem amt_none {k q:Int} {P:List Pt} (h:has k q P=false):amt k q P=0:=by
 unfold has at h
 unfold amt
 cases hf:P.find? (atK k q) with
 |none=>rfl
 |some p=>rw [hf] at h;cases h
theorem has_mem {k q:Int} {P:List Pt}:has k q P=true↔∃p∈P,p.h=k∧p.k=q:=by
 unfold has
 rw [List.find?_isSome]
 constructor
 ·rintro⟨p,hp,h⟩
  simp only [atK,Bool.and_eq_true,beq_iff_eq] at h
  exact⟨p,hp,h⟩
 ·rintro⟨p,hp,h1,h2⟩
  exact⟨p,hp,by simp [atK,h1,h2]⟩
theorem amt_bound {n:Int} {P:List Pt} (hw:wrongE P n=0) (k q:Int):-1048576≤amt k q P∧amt k q P≤1048576:=by
 unfold amt
 cases hf:P.find? (atK k q) with
 |none=>simp
 |some p=>
  have:=(wrong_ok hw).2.2.1 p (List.mem_of_find?_eq_some hf)
  exact⟨by simp only;omega,by simp only;omega⟩
theorem tot_filter {k q:Int} {p:Rd→Bool}:∀{D:List Rd},(∀r∈D,p r=false→amt k q r.parts=0)→tot k q (D.filter p)=tot k q D
 | [],_=>rfl
 |r::D,h=>by
  have ih:=tot_filter (p:=p) (D:=D) fun x hx=>h x (List.mem_cons_of_mem _ hx)
  cases hp:p r with
  |true=>rw [List.filter_cons_of_pos hp,tot,tot,ih]
  |false=>
   rw [List.filter_cons_of_neg (by simp [hp]),tot,ih,h r List.mem_cons_self hp];omega
theorem keyFold_none {q:Int}:∀{l:List Pt} (x:Int),(∀p∈l,p.k≠q)→keyFold x l q=x
 | [],x,_=>rfl
 |p::l,x,h=>by
  show keyFold (if p.k=q then _ else x) l q=x
  rw [if_neg (h p List.mem_cons_self)]
  exact keyFold_none x fun r hr=>h r (List.mem_cons_of_mem _ hr)
theorem keyFold_find {q:Int}:∀{l:List Pt} (x:Int),(l.map (·.k)).Nodup→keyFold x l q=(match l.find? (fun p=>p.k==q) with|some p=>wrap64 (x+p.n)|none=>x)
 | [],x,_=>rfl
 |p::l,x,h=>by
  rw [List.map_cons,List.nodup_cons] at h
  show keyFold (if p.k=q then wrap64 (x+p.n) else x) l q=_
  by_cases hq:p.k=q
  ·rw [if_pos hq,List.find?_cons_of_pos (by simpa using hq)]
   exact keyFold_none _ fun r hr e=>h.1 (List.mem_map.2 ⟨r,hr,by rw [e,hq]⟩)
  ·rw [if_neg hq,List.find?_cons_of_neg (by simpa using hq)]
   exact keyFold_find x h.2
theorem ofL_keys {n:Int} {P:List Pt} (hw:wrongE P n=0) (k:Int):((ofL P k).map (·.k)).Nodup:=by
 refine nodup_keys (h:=k) ((wrong_ok hw).2.2.2.sublist ((List.filter_sublist).map _)) fun p hp=>?_
 unfold ofL at hp
 have:=(List.mem_filter.1 hp).2
 simpa using this
theorem ofL_find (P:List Pt) (k q:Int):(ofL P k).find? (fun p=>p.k==q)=P.find? (atK k q):=by
 unfold ofL
 rw [List.find?_filter]
 congr 1
 funext a
 by_cases h1:a.h=k<;>by_cases h2:a.k=q<;>simp [atK,h1,h2]
theorem ofL_ok {n:Int} {P:List Pt} (hw:wrongE P n=0) (k:Int):KeysOk (ofL P k):=fun p hp=>by
 unfold ofL at hp
 exact wrong_keys hw p (List.mem_filter.1 hp).1
theorem rightS_get {s:Sm}:rightS s=true↔∀q:Int,0≤q→q<4→0≤s.get q∧s.get q≤1048576:=by
 rw [rightS_iff]
 constructor
 ·intro h q h0 h1
  have:=h q.toNat (by omega)
  rwa [show((q.toNat:Nat):Int)=q by omega] at this
 ·intro h k hk
  exact h k (by omega) (by omega)
theorem doP_sum {n:Int} {P:List Pt} (hw:wrongE P n=0) {s:Sm} (hs:rightS s=true) (k:Int) {q:Int} (h0:0≤q) (h1:q<4):(doP s (ofL P k)).get q=s.get q+amt k q P:=by
 rw [doP_get _ _ (ofL_ok hw k) q h0 h1,keyFold_find _ (ofL_keys hw k),ofL_find]
 have hb:=amt_bound hw k q
 have hr:=rightS_get.1 hs q h0 h1
 unfold amt at hb ⊢
 cases hf:P.find? (atK k q) with
 |none=>simp
 |some p=>
  rw [hf] at hb
  simp only at hb ⊢
  unfold wrap64;omega
theorem fits_all {S:Int→Int}:∀{l:List Pt},fitsE S l=0↔∀p∈l,0≤wrap64 (S p.k+p.n)∧wrap64 (S p.k+p.n)≤1048576
 | []=>by simp [fitsE]
 |p::l=>by
  rw [fitsE]
  constructor
  ·intro h
   split at h
   ·cases h
   split at h
   ·cases h
   intro r hr
   rcases List.mem_cons.1 hr with rfl|hr
   ·omega
   ·exact fits_all.1 h r hr
  ·intro h
   have:=h p List.mem_cons_self
   rw [if_neg (by omega),if_neg (by omega)]
   exact fits_all.2 fun r hr=>h r (List.mem_cons_of_mem _ hr)
theorem fits_sum {n:Int} {P:List Pt} (hw:wrongE P n=0) {s:Sm} (hs:rightS s=true) (k:Int):fitsE s.get (ofL P k)=0↔∀q:Int,0≤q→q<4→0≤s.get q+amt k q P∧s.get q+amt k q P≤1048576:=by
 rw [fits_all]
 constructor
 ·intro h q h0 h1
  have hr:=rightS_get.1 hs q h0 h1
  have hb:=amt_bound hw k q
  unfold amt at hb ⊢
  cases hf:P.find? (atK k q) with
  |none=>simp only;omega
  |some p=>
   rw [hf] at hb
   simp only at hb ⊢
   have hp:=List.mem_of_find?_eq_some hf
   have ha:=List.find?_some hf
   simp only [atK,Bool.and_eq_true,beq_iff_eq] at ha
   have:=h p (by unfold ofL;exact List.mem_filter.2 ⟨hp,by simp [ha.1]⟩)
   rw [ha.2] at this
   unfold wrap64 at this
   omega
 ·intro h p hp
  have hk:=ofL_ok hw k p hp
  have hr:=rightS_get.1 hs p.k hk.1 hk.2
  have:=h p.k hk.1 hk.2
  have hf:(ofL P k).find? (fun r=>r.k==p.k)=some p:=by
   have hn:=ofL_keys hw k
   have hall:∀(l:List Pt),(l.map (·.k)).Nodup→p∈l→l.find? (fun r=>r.k==p.k)=some p:=by
    intro l
    induction l with
    |nil=>intro _ h;simp at h
    |cons x l ih=>
     intro hn hm
     rw [List.map_cons,List.nodup_cons] at hn
     rcases List.mem_cons.1 hm with rfl|hm
     ·rw [List.find?_cons_of_pos (by simp)]
     ·have hne:x.k≠p.k:=fun e=>hn.1 (List.mem_map.2 ⟨p,hm,e.symm⟩)
      rw [List.find?_cons_of_neg (by simpa using hne)]
      exact ih hn.2 hm
   exact hall _ hn hp
  rw [ofL_find] at hf
  unfold amt at this
  rw [hf] at this
  simp only at this
  unfold wrap64
  omega
theorem fits_congr {S T:Int→Int}:∀{l:List Pt},(∀p∈l,S p.k=T p.k)→fitsE S l=fitsE T l
 | [],_=>rfl
 |p::l,h=>by rw [fitsE,fitsE,h p List.mem_cons_self,fits_congr fun r hr=>h r (List.mem_cons_of_mem _ hr)]
theorem houses_mem {P:List Pt} {k:Int}:k∈housesE P↔(k=0∨k=1∨k=2)∧ofL P k≠ []:=by
 unfold housesE ofL
 rw [List.mem_filter]
 constructor
 ·rintro⟨h1,h2⟩
  refine⟨by simpa using h1,fun e=>?_⟩
  obtain⟨p,hp,hk⟩:=List.any_eq_true.1 h2
  have:p∈P.filter (fun p=>p.h==k):=List.mem_filter.2 ⟨hp,hk⟩
  rw [e] at this;simp at this
 ·rintro⟨h1,h2⟩
  refine⟨by simpa using h1,?_⟩
  obtain⟨p,hp⟩:=List.exists_mem_of_ne_nil _ h2
  obtain⟨h3,h4⟩:=List.mem_filter.1 hp
  exact List.any_eq_true.2 ⟨p,h3,h4⟩
theorem houses_nodup (P:List Pt):(housesE P).Nodup:=by
 unfold housesE
 exact List.Nodup.sublist List.filter_sublist (by decide)
theorem houses_lt {P:List Pt} {n:Int} (hw:wrongE P n=0) {k:Int} (h:k∈housesE P):0≤k∧k<n:=by
 obtain⟨h1,h2⟩:=houses_mem.1 h
 obtain⟨p,hp⟩:=List.exists_mem_of_ne_nil _ h2
 unfold ofL at hp
 obtain⟨h3,h4⟩:=List.mem_filter.1 hp
 have:=(wrong_ok hw).2.2.1 p h3
 have h5:p.h=k:=by simpa using h4
 omega
theorem has_houses {P:List Pt} {n:Int} (hw:wrongE P n=0) (hn:n≤3) {k q:Int} (h:has k q P=true):k∈housesE P∧0≤q∧q<4:=by
 obtain⟨p,hp,h1,h2⟩:=has_mem.1 h
 have:=(wrong_ok hw).2.2.1 p hp
 refine⟨houses_mem.2 ⟨by omega,?_⟩,by omega,by omega⟩
 intro e
 have:p∈ofL P k:=by unfold ofL;exact List.mem_filter.2 ⟨hp,by simp [h1]⟩
 rw [e] at this;simp at this
theorem has_keys {P:List Pt} {k q:Int} (h:has k q P=true):q∈(ofL P k).map (·.k):=by
 obtain⟨p,hp,h1,h2⟩:=has_mem.1 h
 exact List.mem_map.2 ⟨p,by unfold ofL;exact List.mem_filter.2 ⟨hp,by simp [h1]⟩,h2⟩
theorem houses_some {P:List Pt} {n:Int} (hw:wrongE P n=0) (hn:n≤3):0<(housesE P).length:=by
 obtain⟨h1,h2,h3,h4⟩:=wrong_ok hw
 obtain⟨p,hp⟩:=List.exists_mem_of_length_pos h1
 have hb:=h3 p hp
 have:p.h∈housesE P:=houses_mem.2 ⟨by omega,fun e=>by
  have:p∈ofL P p.h:=by unfold ofL;exact List.mem_filter.2 ⟨hp,by simp⟩
  rw [e] at this;simp at this⟩
 exact List.length_pos_of_mem this
def errGo (P:List Pt):Nat→List Sm→Int
 |_,[]=>0
 |k,s::l=>if fitsE s.get (ofL P k)=0 then errGo P (k+1) l else fitsE s.get (ofL P k)
def putGo (P:List Pt):Nat→List Sm→List Sm
 |_,[]=>[]
 |k,s::l=>doP s (ofL P k)::putGo P (k+1) l
def doAllE (sums:List Sm) (P:List Pt):List Sm×Int:=if errGo P 0 sums=0 then(putGo P 0 sums,0) else(sums,errGo P 0 sums)
def allE (sums:List Sm):List Rd→List Sm×List Int
 | []=>(sums,[])
 |r::D=>((allE (doAllE sums r.parts).1 D).1,(doAllE sums r.parts).2::(allE (doAllE sums r.parts).1 D).2)
theorem errGo_zero {P:List Pt}:∀{l:List Sm} {k0:Nat},(∀(k:Nat) s,l[k]? =some s→fitsE s.get (ofL P ((k0+k:Nat):Int))=0)→errGo P k0 l=0
 | [],_,_=>rfl
 |s::l,k0,h=>by
  unfold errGo
  rw [if_pos (by simpa using h 0 s rfl)]
  exact errGo_zero fun k t ht=>by
   have:=h (k+1) t (by simpa using ht)
   rwa [show k0+(k+1)=k0+1+k by omega] at this
theorem putGo_get {P:List Pt}:∀{l:List Sm} {k0:Nat} (k:Nat),(putGo P k0 l)[k]? =(l[k]?).map fun s=>doP s (ofL P ((k0+k:Nat):Int))
 | [],_,k=>by simp [putGo]
 |s::l,k0,0=>by simp [putGo]
 |s::l,k0,k+1=>by
  unfold putGo
  rw [List.getElem?_cons_succ,List.getElem?_cons_succ,putGo_get k,show k0+1+k=k0+(k+1) by omega]
theorem putGo_len {P:List Pt}:∀(l:List Sm) (k0:Nat),(putGo P k0 l).length=l.length
 | [],_=>rfl
 |s::l,k0=>by unfold putGo;simp [putGo_len l]
def psum:List Pt→Int
 | []=>0
 |p::l=>p.n+psum l
def S12 (f:Int→Int→Int):Int:=(f 0 0+f 0 1+f 0 2+f 0 3)+(f 1 0+f 1 1+f 1 2+f 1 3)+(f 2 0+f 2 1+f 2 2+f 2 3)
theorem amt_cons {p:Pt} {P:List Pt} (hn:((p::P).map fun p=>(p.h,p.k)).Nodup) (k q:Int):amt k q (p::P)=(if k=p.h∧q=p.k then p.n else 0)+amt k q P:=by
 rw [List.map_cons,List.nodup_cons] at hn
 by_cases h:k=p.h∧q=p.k
 ·rw [if_pos h]
  have h0:has k q P=false:=by
   cases hh:has k q P with
   |false=>rfl
   |true=>
    obtain⟨r,hr,a,b⟩:=has_mem.1 hh
    exact absurd (List.mem_map.2 ⟨r,hr,by rw [a,b,h.1,h.2]⟩) hn.1
  rw [amt_none h0]
  unfold amt
  rw [List.find?_cons_of_pos (by simp [atK,h.1,h.2])]
  simp
 ·rw [if_neg h]
  unfold amt
  rw [List.find?_cons_of_neg (by simp only [atK,Bool.and_eq_true,beq_iff_eq];rintro⟨a,b⟩;exact h ⟨a.symm,b.symm⟩)]
  simp
theorem S12_amt:∀{P:List Pt},(P.map fun p=>(p.h,p.k)).Nodup→(∀p∈P,0≤p.h∧p.h<3∧0≤p.k∧p.k<4)→S12 (fun k q=>amt k q P)=psum P
 | [],_,_=>rfl
 |p::P,hn,hp=>by
  have ih:=S12_amt (P:=P) (by rw [List.map_cons,List.nodup_cons] at hn;exact hn.2) fun x hx=>hp x (List.mem_cons_of_mem _ hx)
  have h0:=hp p List.mem_cons_self
  simp only [S12] at ih ⊢
  simp only [amt_cons hn,psum]
  have a:p.h=0∨p.h=1∨p.h=2:=by omega
  have b:p.k=0∨p.k=1∨p.k=2∨p.k=3:=by omega
  rcases a with a|a|a<;>rcases b with b|b|b|b<;>simp [a,b]<;>omega
def smSum (s:Sm):Int:=s.a+s.b+s.c+s.d
theorem sorted_ext:∀{a b:List Int},a.Pairwise (· < ·)→b.Pairwise (· < ·)→(∀x,x∈a↔x∈b)→a=b
 | [],[],_,_,_=>rfl
 | [],y::b,_,_,h=>absurd ((h y).2 List.mem_cons_self) (by simp)
 |x::a,[],_,_,h=>absurd ((h x).1 List.mem_cons_self) (by simp)
 |x::a,y::b,ha,hb,h=>by
  rw [List.pairwise_cons] at ha hb
  have hxy:x=y:=by
   rcases List.mem_cons.1 ((h x).1 List.mem_cons_self) with e|e
   ·exact e
   ·rcases List.mem_cons.1 ((h y).2 List.mem_cons_self) with e'|e'
    ·exact e'.symm
    ·have:=hb.1 x e;have:=ha.1 y e';omega
  subst hxy
  rw [sorted_ext ha.2 hb.2 fun z=>⟨fun hz=>by
   rcases List.mem_cons.1 ((h z).1 (List.mem_cons_of_mem _ hz)) with e|e
   ·have:=ha.1 z hz;omega
   ·exact e,fun hz=>by
   rcases List.mem_cons.1 ((h z).2 (List.mem_cons_of_mem _ hz)) with e|e
   ·have:=hb.1 z hz;omega
   ·exact e⟩]
def dedupE:List Int→List Pt→List Int
 |had,[]=>had
 |had,p::l=>dedupE (if p.h∈had then had else had++ [p.h]) l
theorem dedup_mem:∀{l:List Pt} {had:List Int} {x:Int},x∈dedupE had l↔x∈had∨∃p∈l,p.h=x
 | [],had,x=>by simp [dedupE]
 |p::l,had,x=>by
  rw [dedupE,dedup_mem]
  split
  ·rename_i hp
   constructor
   ·rintro(h|⟨q,hq,rfl⟩)
    ·exact .inl h
    ·exact .inr ⟨q,List.mem_cons_of_mem _ hq,rfl⟩
   ·rintro(h|⟨q,hq,rfl⟩)
    ·exact .inl h
    ·rcases List.mem_cons.1 hq with rfl|hq
     ·exact .inl hp
     ·exact .inr ⟨q,hq,rfl⟩
  ·constructor
   ·rintro(h|⟨q,hq,rfl⟩)
    ·rcases List.mem_append.1 h with h|h
     ·exact .inl h
     ·exact .inr ⟨p,List.mem_cons_self,(by simpa using h:x=p.h).symm⟩
    ·exact .inr ⟨q,List.mem_cons_of_mem _ hq,rfl⟩
   ·rintro(h|⟨q,hq,rfl⟩)
    ·exact .inl (List.mem_append_left _ h)
    ·rcases List.mem_cons.1 hq with rfl|hq
     ·exact .inl (by simp)
     ·exact .inr ⟨q,hq,rfl⟩
theorem dedup_nodup:∀{l:List Pt} {had:List Int},had.Nodup→(dedupE had l).Nodup
 | [],_,h=>h
 |p::l,had,h=>by
  rw [dedupE]
  apply dedup_nodup
  split
  ·exact h
  ·rename_i hp
   rw [List.nodup_append]
   exact⟨h,by simp,fun a ha b hb=>by simp only [List.mem_singleton] at hb;subst hb;rintro rfl;exact hp ha⟩
theorem dedup_len:∀(l:List Pt) (had:List Int),(dedupE had l).length≤had.length+l.length
 | [],_=>by simp [dedupE]
 |p::l,had=>by
  rw [dedupE]
  have:=dedup_len l (if p.h∈had then had else had++ [p.h])
  have h2:(if p.h∈had then had else had++ [p.h]).length≤had.length+1:=by split<;>simp
  simp only [List.length_cons];omega
theorem sort_rise {l:List Int} (h:l.Nodup):(l.mergeSort fun x y=>decide (x≤y)).Pairwise (· < ·):=by
 have h1:(l.mergeSort fun x y=>decide (x≤y)).Pairwise fun a b=>decide (a≤b)=true:=
  List.pairwise_mergeSort (fun a b c h1 h2=>by simp only [decide_eq_true_eq] at*;omega) (fun a b=>by simp only [Bool.or_eq_true,decide_eq_true_eq];omega) l
 have h2:(l.mergeSort fun x y=>decide (x≤y)).Nodup:=(List.mergeSort_perm l _).nodup_iff.2 h
 exact(h1.and h2).imp fun {a b} h=>by
  have:=of_decide_eq_true h.1
  have h3:a≠b:=h.2
  omega
theorem houses_rise (l:List Pt):(housesE l).Pairwise (· < ·):=by
 unfold housesE
 exact List.Pairwise.filter _ (by simp)
theorem mem_houses {l:List Pt} {x:Int}:x∈housesE l↔(x=0∨x=1∨x=2)∧∃p∈l,p.h=x:=by
 unfold housesE
 simp [List.mem_filter]
theorem houses_sort {l:List Pt} (h:∀p∈l,0≤p.h∧p.h<3):(dedupE [] l).mergeSort (fun x y=>decide (x≤y))=housesE l:=by
 refine sorted_ext (sort_rise (dedup_nodup List.nodup_nil)) (houses_rise l) fun x=>?_
 rw [List.mem_mergeSort,dedup_mem,mem_houses]
 constructor
 ·rintro(h0|⟨p,hp,rfl⟩)
  ·simp at h0
  ·have:=h p hp
   exact⟨by omega,p,hp,rfl⟩
 ·rintro⟨-,p,hp,rfl⟩
  exact .inr ⟨p,hp,rfl⟩
theorem ofL_none {l:List Pt} {n:Int} (h:n∉housesE l) (h0:n=0∨n=1∨n=2):ofL l n=[]:=by
 rw [mem_houses] at h
 unfold ofL
 rw [List.filter_eq_nil_iff]
 intro p hp e
 exact h ⟨h0,p,hp,by simpa using e⟩
def doGo (P:List Pt) (sums:List Sm) (out:List Sm):List Int→List Sm×Int
 | []=>(out,0)
 |n::ns=>if fitsE (sums.getD n.toNat ⟨0,0,0,0⟩).get (ofL P n)=0 then doGo P sums (out.set n.toNat (doP (sums.getD n.toNat ⟨0,0,0,0⟩) (ofL P n))) ns else(sums,fitsE (sums.getD n.toNat ⟨0,0,0,0⟩).get (ofL P n))
theorem fits_nil (f:Int→Int):fitsE f []=0:=rfl
theorem doP_nil (s:Sm):doP s []=s:=rfl
theorem doGo_all {P:List Pt} {sums:List Sm} (hl:1≤sums.length) (hl3:sums.length≤3) (hP:∀p∈P,0≤p.h∧p.h<sums.length):doGo P sums sums (housesE P)=doAllE sums P:=by
 have hn:∀n:Int,(n=0∨n=1∨n=2)→(P.any fun p=>p.h==n)=false→ofL P n=[]:=fun n h0 h=>by
  apply ofL_none _ h0
  rw [mem_houses]
  rintro⟨-,p,hp,rfl⟩
  rw [List.any_eq_false] at h
  exact h p hp (by simp)
 have hb:∀n:Int,(sums.length:Int)≤n→(P.any fun p=>p.h==n)=false:=fun n h=>by
  rw [List.any_eq_false]
  intro p hp e
  have:=hP p hp
  simp only [beq_iff_eq] at e
  omega
 match sums,hl,hl3,hb with
 | [a],_,_,hb=>
  have b1:=hb 1 (by simp)
  have b2:=hb 2 (by simp)
  cases b0:(P.any fun p=>p.h==0) with
  |false=>simp [housesE,b0,b1,b2,doGo,doAllE,errGo,putGo,hn 0 (.inl rfl) b0,fits_nil,doP_nil]
  |true=>
   simp only [housesE,b0,b1,b2,doGo,doAllE,errGo,putGo,List.filter_cons,List.filter_nil,if_true,if_false,Bool.false_eq_true]
   split<;>simp_all
 | [a,b],_,_,hb=>
  have b2:=hb 2 (by simp)
  cases b0:(P.any fun p=>p.h==0)<;>cases b1:(P.any fun p=>p.h==1)<;>
   simp only [housesE,b0,b1,b2,doGo,doAllE,errGo,putGo,List.filter_cons,List.filter_nil,if_true,if_false,Bool.false_eq_true]<;>
   (try have e0:=hn 0 (.inl rfl) b0)<;>(try have e1:=hn 1 (.inr (.inl rfl)) b1)<;>
   simp_all [fits_nil,doP_nil]<;>(repeat' split)<;>simp_all
 | [a,b,c],_,_,hb=>
  cases b0:(P.any fun p=>p.h==0)<;>cases b1:(P.any fun p=>p.h==1)<;>cases b2:(P.any fun p=>p.h==2)<;>
   simp only [housesE,b0,b1,b2,doGo,doAllE,errGo,putGo,List.filter_cons,List.filter_nil,if_true,if_false,Bool.false_eq_true]<;>
   (try have e0:=hn 0 (.inl rfl) b0)<;>(try have e1:=hn 1 (.inr (.inl rfl)) b1)<;>(try have e2:=hn 2 (.inr (.inr rfl)) b2)<;>
   simp_all [fits_nil,doP_nil]<;>(repeat' split)<;>simp_all
end Go.Proofs.YthfgeelcbcgahaaGreatDoor
namespace Go.Proofs.YthfgeelcbcgahaaGreatDoor
theorem idx_none {l:List Rd} {d:Int} (h:l.findIdx? (isD d)=none):l.find? (isD d)=none:=by
 rw [List.findIdx?_eq_none_iff] at h
 rw [List.find?_eq_none]
 intro x hx
 rw [h x hx];simp
theorem idx_some {d:Int}:∀{l:List Rd} {i:Nat},l.findIdx? (isD d)=some i→∃hi:i<l.length,l.find? (isD d)=some l[i]∧l.eraseP (isD d)=l.eraseIdx i
 | [],i,h=>by simp at h
 |x::l,i,h=>by
  rw [List.findIdx?_cons] at h
  by_cases hx:isD d x=true
  ·rw [if_pos hx] at h
   obtain rfl:0=i:=by simpa using h
   exact⟨by simp,by rw [List.find?_cons_of_pos hx];rfl,by rw [List.eraseP_cons_of_pos hx];rfl⟩
  ·rw [if_neg hx] at h
   cases hk:l.findIdx? (isD d) with
   |none=>rw [hk] at h;simp at h
   |some k=>
    rw [hk] at h
    obtain rfl:k+1=i:=by simpa using h
    obtain⟨h1,h2,h3⟩:=idx_some hk
    exact⟨by simp;omega,by rw [List.find?_cons_of_neg hx,h2];rfl,by rw [List.eraseP_cons_of_neg hx,h3];rfl⟩
theorem step_out {h:Hs} {r:Rc} (e:h.ready.find? (isD r.deed)=none):refStep h r=if r.kind=1 then { h with ready:=h.ready++ [⟨r.deed,r.parts⟩] } else h:=by
 unfold refStep
 rw [in_fold,e]
 by_cases hk:r.kind=1<;>simp [hk]
theorem step_in {h:Hs} {r:Rc} {x:Rd} (e:h.ready.find? (isD r.deed)=some x):refStep h r=
  if r.kind=2 then { h with sums:=doP h.sums x.parts,ready:=h.ready.eraseP (isD r.deed),done:=h.done++ [r.deed] }
  else if r.kind=3 then { h with ready:=h.ready.eraseP (isD r.deed) } else h:=by
 unfold refStep
 rw [in_fold,e]
 by_cases h2:r.kind=2
 ·simp [h2]
 ·by_cases h3:r.kind=3<;>simp [h2,h3]
theorem step_idx_none {h:Hs} {r:Rc} (e:h.ready.findIdx? (isD r.deed)=none):refStep h r=if r.kind=1 then { h with ready:=h.ready++ [⟨r.deed,r.parts⟩] } else h:=step_out (idx_none e)
theorem step_idx_some {h:Hs} {r:Rc} {i:Nat} (e:h.ready.findIdx? (isD r.deed)=some i):∃hi:i<h.ready.length,refStep h r=
  if r.kind=2 then { h with sums:=doP h.sums h.ready[i].parts,ready:=h.ready.eraseIdx i,done:=h.done++ [r.deed] }
  else if r.kind=3 then { h with ready:=h.ready.eraseIdx i } else h:=by
 obtain⟨hi,h1,h2⟩:=idx_some e
 exact⟨hi,by rw [step_in h1,h2]⟩
end Go.Proofs.YthfgeelcbcgahaaGreatDoor
namespace Go.Proofs.YthfgeelcbcgahaaGreatDoor
open Go.RowKit
theorem lready_lit (w:World) (B:Nat) (d:Int) (wx:World) (cs:List Value) (x:Rd) (hc:w.cell? ⟨B,0,none⟩=some (.int .i64 d)) (hg:Grow w wx) (hR:Ty.rd.R wx.cell? cs x):
  Calls Tryz.prog 97 #[.agg cs.toArray,.pointer (some ⟨B,0,none⟩)] wx fun e w'=>e=.returned (.bool (isD d x))∧Grow wx w':=by
 obtain⟨vp,rfl,-,hp⟩:=hR
 obtain⟨ap,cp,rfl,-⟩:=hp
 have hB:=World.block_lt_of_cell? w _ hc
 simp only at hB
 have hBx:B<wx.heap.size:=Nat.lt_of_lt_of_le hB hg.size
 replace hc:=hg.sub _ _ hc
 go_enter Tryz.func97,Tryz.ntmps97
 go_wp2
 go_ret
 exact⟨rfl,grA⟩
theorem lready_tells (w:World) (B:Nat) (d:Int) (l:List Rd) (hc:w.cell? ⟨B,0,none⟩=some (.int .i64 d)):Tells Tryz.prog Ty.rd aggOf w 97 #[.pointer (some ⟨B,0,none⟩)] l (isD d) where
 ent:=fun args w=>by kernel_rfl
 say:=fun wx cs x hg _ hR=>lready_lit w B d wx cs x hc hg hR
theorem log_ready {v:Value} {l:List Rd} {d:Int} (w:World) (hv:Sl Ty.rd w.cell? v l):
  Calls Tryz.prog 65 #[v,.int .i64 d] w fun e w'=>e=.returned (.int .i64 (idxOf (isD d) l))∧Grow w w':=by
 have HX:=η (indexFunc_rd (w.alloc (.cells #[.int .i64 d] 3)) (hv.mono ((Grow.refl w).alloc _).sub) (lready_tells (w.alloc (.cells #[.int .i64 d] 3)) w.heap.size d l (by rw [World.cell?_alloc_new];rfl)))
 obtain⟨a,cap,rfl,-⟩:=hv
 go_enter Tryz.func65,Tryz.ntmps65
 go_wp2_with fail
 refine HX.o.mono ?_
 rintro e w1 ⟨rfl,hb1⟩
 have HB:=η hb1
 clear hb1
 go_wp2
 go_ret
 exact⟨rfl,((Grow.refl w).alloc _).trans HB.o⟩
abbrev zrow:Array Value:=#[.slice none 0 0,.int .i64 0,.int .i64 0,.int .i64 0,.int .i64 0,.slice none 0 0,.slice none 0 0]
def hmem (w w1 wr:World) (vl vr vd:Value):CM:=fr w wr [vl.ownBlock,vr.ownBlock,vd.ownBlock,some w.heap.size,some w1.heap.size]
structure LBox (w w1 wr:World) (vl vr vd:Value) (l:List Rc) (h:Hs):Prop where
 res:wr.heap[w.heap.size]? =some (.cells zrow 68 (0,0))
 row:wr.heap[w1.heap.size]? =some (.cells #[vl,.int .i64 h.sums.a,.int .i64 h.sums.b,.int .i64 h.sums.c,.int .i64 h.sums.d,vr,vd] 68 (0,0))
 log:OwnC Ty.rc (hmem w w1 wr vl vr vd) wr (w.heap.size+1) 81 vl l
 ready:OwnC Ty.rd (hmem w w1 wr vl vr vd) wr (w1.heap.size+1) 77 vr h.ready
 done:wr.ownsRow (w1.heap.size+1) 3 1 vd h.done.length (h.done.flatMap intCell)
 grow:Grow w wr
 size:w1.heap.size+1≤wr.heap.size
 lt:∀k,vl.ownBlock=some k→k<w1.heap.size
 w1:w.heap.size+1≤w1.heap.size
 disj:vr.ownBlock=none∨vr.ownBlock≠vd.ownBlock
structure Chg (w1 wr w':World) (vr vd vr' vd':Value):Prop where
 size:wr.heap.size≤w'.heap.size
 block:∀k,k<wr.heap.size→k≠w1.heap.size→vr.ownBlock≠some k→vd.ownBlock≠some k→w'.heap[k]? =wr.heap[k]?
 ready:vr'.ownBlock=vr.ownBlock∨∃g,vr'.ownBlock=some g∧wr.heap.size≤g
 done:vd'.ownBlock=vd.ownBlock∨∃g,vd'.ownBlock=some g∧wr.heap.size≤g
theorem Chg.mem {w w1 wr w':World} {vl vr vd vr' vd':Value} (c:Chg w1 wr w' vr vd vr' vd'):Sub (hmem w w1 wr vl vr vd) (hmem w w1 w' vl vr' vd'):=by
 refine fr_step fun k hk _ hx=>?_
 simp only [List.mem_cons,List.not_mem_nil,or_false,not_or] at hx ⊢
 obtain⟨x1,x2,x3,x4,x5⟩:=hx
 refine⟨c.block k hk (fun e=>x5 (by rw [e])) (fun e=>x2 e.symm) (fun e=>x3 e.symm),x1,?_,?_,x4,x5⟩
 ·rcases c.ready with e|⟨g,e,hg⟩
  ·rw [e];exact x2
  ·rw [e];simp;omega
 ·rcases c.done with e|⟨g,e,hg⟩
  ·rw [e];exact x3
  ·rw [e];simp;omega
theorem owns_block {w w':World} {base e size n:Nat} {v:Value} {xs:List Value} (h:w.ownsRow base e size v n xs) (hb:∀k,v.ownBlock=some k→w'.heap[k]? =w.heap[k]?):w'.ownsRow base e size v n xs:=by
 obtain⟨hl,h'|⟨g,cap,cur,rfl,hg,hrow,hrest⟩⟩:=h
 ·exact⟨hl,.inl h'⟩
 ·exact⟨hl,.inr ⟨g,cap,cur,rfl,hg,by rw [hb g rfl];exact hrow,hrest⟩⟩
theorem OwnC.block {α:Type} {T:Ty α} {c:CM} {w w':World} {base e:Nat} {v:Value} {l:List α} (h:OwnC T c w base e v l) (hb:∀k,v.ownBlock=some k→w'.heap[k]? =w.heap[k]?):OwnC T c w' base e v l:=by
 obtain⟨css,k1,k2,k3⟩:=h
 exact⟨css,owns_block k1 hb,k2,k3⟩
theorem LBox.put {w w1 wr w':World} {vl vr vd vr' vd':Value} {l:List Rc} {h h':Hs} (b:LBox w w1 wr vl vr vd l h) (c:Chg w1 wr w' vr vd vr' vd') (hG:Grow w w')
  (row:w'.heap[w1.heap.size]? =some (.cells #[vl,.int .i64 h'.sums.a,.int .i64 h'.sums.b,.int .i64 h'.sums.c,.int .i64 h'.sums.d,vr',vd'] 68 (0,0)))
  (ready:OwnC Ty.rd (hmem w w1 w' vl vr' vd') w' (w1.heap.size+1) 77 vr' h'.ready) (done:w'.ownsRow (w1.heap.size+1) 3 1 vd' h'.done.length (h'.done.flatMap intCell)) (disj:vr'.ownBlock=none∨vr'.ownBlock≠vd'.ownBlock):LBox w w1 w' vl vr' vd' l h' where
 res:=by
  have h1:=b.w1
  have h2:=b.size
  rw [c.block _ (by omega) (by omega) (fun e=>by have:=(b.ready.lt _ e).1;omega) (fun e=>by have:=(b.done.lt _ e).1;omega)];exact b.res
 row:=row
 log:=by
  refine(b.log.mono c.mem).block fun k hk=>?_
  have h1:=b.lt k hk
  have h2:=b.size
  exact c.block k (by omega) (by omega) (fun e=>by have:=(b.ready.lt _ e).1;omega) (fun e=>by have:=(b.done.lt _ e).1;omega)
 ready:=ready
 done:=done
 grow:=hG
 size:=Nat.le_trans b.size c.size
 lt:=b.lt
 w1:=b.w1
 disj:=disj
theorem LBox.later {w w1 wr w':World} {vl vr vd:Value} {l:List Rc} {h:Hs} (b:LBox w w1 wr vl vr vd l h) (hg:Grow wr w'):LBox w w1 w' vl vr vd l h:=
 have c:Chg w1 wr w' vr vd vr vd:=⟨hg.size,fun k hk _ _ _=>hg.block k hk,.inl rfl,.inl rfl⟩
 b.put c (b.grow.trans hg) (row_grow b.row hg) ((b.ready.mono c.mem).grow hg) (b.done.kept (grownBy_of_grow hg none) (by cases vd.ownBlock<;>simp)) b.disj
theorem row_set5' {w:World} {B:Nat} {a b c d e f g:Value} {t:TypeId} (h:w.heap[B]? =some (.cells #[a,b,c,d,e,f,g] t (0,0))) (u:Value):(w.setCell ⟨B,5,none⟩ u).heap[B]? =some (.cells #[a,b,c,d,e,u,g] t (0,0)):=by
 simp only [World.setCell,Array.getElem?_modify,h];simp
theorem row_set6' {w:World} {B:Nat} {a b c d e f g:Value} {t:TypeId} (h:w.heap[B]? =some (.cells #[a,b,c,d,e,f,g] t (0,0))) (u:Value):(w.setCell ⟨B,6,none⟩ u).heap[B]? =some (.cells #[a,b,c,d,e,f,u] t (0,0)):=by
 simp only [World.setCell,Array.getElem?_modify,h];simp
theorem row_set1234 {w:World} {B:Nat} {a b c d e f g:Value} {t:TypeId} (h:w.heap[B]? =some (.cells #[a,b,c,d,e,f,g] t (0,0))) (u1 u2 u3 u4:Value):
  ((((w.setCell ⟨B,1,none⟩ u1).setCell ⟨B,2,none⟩ u2).setCell ⟨B,3,none⟩ u3).setCell ⟨B,4,none⟩ u4).heap[B]? =some (.cells #[a,u1,u2,u3,u4,f,g] t (0,0)):=by
 simp only [World.setCell,Array.getElem?_modify,h];simp
theorem LBox.appR {w w1 wr wq w':World} {vl vr vd:Value} {l:List Rc} {h:Hs} {x:Rd} {a':Option Addr} {n c':Nat} (b:LBox w w1 wr vl vr vd l h) (hG:Grow wr wq)
  (ho:OwnC Ty.rd (hmem w w1 wq vl vr vd) w' (w1.heap.size+1) 77 (.slice a' n c') (h.ready++ [x])) (hg:wq.grownBy w' vr.ownBlock) (hb:(Value.slice a' n c').ownBlock=vr.ownBlock∨∃g,(Value.slice a' n c').ownBlock=some g∧wq.heap.size≤g):
  LBox w w1 (w'.setCell ⟨w1.heap.size,5,none⟩ (.slice a' n c')) vl (.slice a' n c') vd l { h with ready:=h.ready++ [x] }∧Chg w1 wr (w'.setCell ⟨w1.heap.size,5,none⟩ (.slice a' n c')) vr vd (.slice a' n c') vd:=by
 have bq:=b.later hG
 have hs:=hG.size
 have hs1:=b.size
 have hw1:=b.w1
 have hlt:=bq.ready.lt
 have hdl:=bq.done.lt
 have hB:∀k,k≠w1.heap.size→(w'.setCell ⟨w1.heap.size,5,none⟩ (.slice a' n c')).heap[k]? =w'.heap[k]?:=fun k hk=>Below.heap_setCell _ _ _ _ (fun e=>hk e)
 have c1:Chg w1 wq (w'.setCell ⟨w1.heap.size,5,none⟩ (.slice a' n c')) vr vd (.slice a' n c') vd:=⟨by simpa using hg.size,fun k hk h1 h2 _=>by rw [hB k h1,hg.block k hk (fun e=>h2 e.symm)],hb,.inl rfl⟩
 have hGw:Grow w (w'.setCell ⟨w1.heap.size,5,none⟩ (.slice a' n c')):=(bq.grow.grown hg (fun k hk=>by have:=(hlt k hk).1;omega)).setCell (by simp;omega) _
 have hdj:∀k,vd.ownBlock=some k→vr.ownBlock≠some k:=fun k hk e=>by
  rcases b.disj with d|d
  ·rw [d] at e;cases e
  ·exact d (e.trans hk.symm)
 refine⟨bq.put c1 hGw (row_set5' (row_by bq.row hg (fun e=>by have:=(hlt _ e.symm).1;omega)) _) ((ho.mono c1.mem).block fun k hk=>?_) (owns_block bq.done fun k hk=>?_) ?_,?_⟩
 ·exact hB k (by have:=(ho.lt k hk).1;omega)
 ·have:=hdl k hk
  rw [hB k (by omega),hg.block k this.2 (fun e=>hdj k hk e.symm)]
 ·rcases hb with e|⟨g,e,hge⟩
  ·rw [e];exact b.disj
  ·right;rw [e];intro e'
   have:=hdl g e'.symm;omega
 ·exact⟨Nat.le_trans hs c1.size,fun k hk h1 h2 h3=>(c1.block k (by omega) h1 h2 h3).trans (hG.block k hk),by
   rcases hb with e|⟨g,e,hge⟩
   ·exact .inl e
   ·exact .inr ⟨g,e,by omega⟩,.inl rfl⟩
theorem LBox.appD {w w1 wr wq w':World} {vl vr vd:Value} {l:List Rc} {h:Hs} {x:Int} {a':Option Addr} {n c':Nat} (b:LBox w w1 wr vl vr vd l h) (hG:Grow wr wq)
  (ho:w'.ownsRow (w1.heap.size+1) 3 1 (.slice a' n c') (h.done++ [x]).length ((h.done++ [x]).flatMap intCell)) (hg:wq.grownBy w' vd.ownBlock) (hb:(Value.slice a' n c').ownBlock=vd.ownBlock∨∃g,(Value.slice a' n c').ownBlock=some g∧wq.heap.size≤g):
  LBox w w1 (w'.setCell ⟨w1.heap.size,6,none⟩ (.slice a' n c')) vl vr (.slice a' n c') l { h with done:=h.done++ [x] }∧Chg w1 wr (w'.setCell ⟨w1.heap.size,6,none⟩ (.slice a' n c')) vr vd vr (.slice a' n c'):=by
 have bq:=b.later hG
 have hs:=hG.size
 have hs1:=b.size
 have hw1:=b.w1
 have hlt:=bq.ready.lt
 have hdl:=bq.done.lt
 have hB:∀k,k≠w1.heap.size→(w'.setCell ⟨w1.heap.size,6,none⟩ (.slice a' n c')).heap[k]? =w'.heap[k]?:=fun k hk=>Below.heap_setCell _ _ _ _ (fun e=>hk e)
 have c1:Chg w1 wq (w'.setCell ⟨w1.heap.size,6,none⟩ (.slice a' n c')) vr vd vr (.slice a' n c'):=⟨by simpa using hg.size,fun k hk h1 _ h2=>by rw [hB k h1,hg.block k hk (fun e=>h2 e.symm)],.inl rfl,hb⟩
 have hGw:Grow w (w'.setCell ⟨w1.heap.size,6,none⟩ (.slice a' n c')):=(bq.grow.grown hg (fun k hk=>by have:=(hdl k hk).1;omega)).setCell (by simp;omega) _
 have hdj:∀k,vr.ownBlock=some k→vd.ownBlock≠some k:=fun k hk e=>by
  rcases b.disj with d|d
  ·rw [d] at hk;cases hk
  ·exact d (hk.trans e.symm)
 refine⟨bq.put c1 hGw (row_set6' (row_by bq.row hg (fun e=>by have:=(hdl _ e.symm).1;omega)) _) ((bq.ready.mono c1.mem).block fun k hk=>?_) (owns_block ho fun k hk=>?_) ?_,?_⟩
 ·have:=hlt k hk
  rw [hB k (by omega),hg.block k this.2 (fun e=>hdj k hk e.symm)]
 ·exact hB k (by have:=(ho.lt k hk).1;omega)
 ·cases e0:vr.ownBlock with
  |none=>exact .inl rfl
  |some q=>
   right
   rcases hb with e|⟨g,e,hge⟩
   ·rw [e];intro e';exact hdj q e0 e'.symm
   ·rw [e];intro e';have:=hlt q e0;simp at e';omega
 ·exact⟨Nat.le_trans hs c1.size,fun k hk h1 h2 h3=>(c1.block k (by omega) h1 h2 h3).trans (hG.block k hk),.inl rfl,by
   rcases hb with e|⟨g,e,hge⟩
   ·exact .inl e
   ·exact .inr ⟨g,e,by omega⟩⟩
theorem LBox.sum {w w1 wr wq:World} {vl vr vd:Value} {l:List Rc} {h:Hs} {s:Sm} (b:LBox w w1 wr vl vr vd l h) (hG:Grow wr wq):
  LBox w w1 ((((wq.setCell ⟨w1.heap.size,1,none⟩ (.int .i64 s.a)).setCell ⟨w1.heap.size,2,none⟩ (.int .i64 s.b)).setCell ⟨w1.heap.size,3,none⟩ (.int .i64 s.c)).setCell ⟨w1.heap.size,4,none⟩ (.int .i64 s.d)) vl vr vd l { h with sums:=s }∧
  Chg w1 wr ((((wq.setCell ⟨w1.heap.size,1,none⟩ (.int .i64 s.a)).setCell ⟨w1.heap.size,2,none⟩ (.int .i64 s.b)).setCell ⟨w1.heap.size,3,none⟩ (.int .i64 s.c)).setCell ⟨w1.heap.size,4,none⟩ (.int .i64 s.d)) vr vd vr vd:=by
 have bq:=b.later hG
 have hs:=hG.size
 have hs1:=b.size
 have hw1:=b.w1
 have hB:∀k,k≠w1.heap.size→((((wq.setCell ⟨w1.heap.size,1,none⟩ (.int .i64 s.a)).setCell ⟨w1.heap.size,2,none⟩ (.int .i64 s.b)).setCell ⟨w1.heap.size,3,none⟩ (.int .i64 s.c)).setCell ⟨w1.heap.size,4,none⟩ (.int .i64 s.d)).heap[k]? =wq.heap[k]?:=fun k hk=>by
  rw [Below.heap_setCell _ _ _ _ (fun e=>hk e),Below.heap_setCell _ _ _ _ (fun e=>hk e),Below.heap_setCell _ _ _ _ (fun e=>hk e),Below.heap_setCell _ _ _ _ (fun e=>hk e)]
 have c1:Chg w1 wq ((((wq.setCell ⟨w1.heap.size,1,none⟩ (.int .i64 s.a)).setCell ⟨w1.heap.size,2,none⟩ (.int .i64 s.b)).setCell ⟨w1.heap.size,3,none⟩ (.int .i64 s.c)).setCell ⟨w1.heap.size,4,none⟩ (.int .i64 s.d)) vr vd vr vd:=⟨by simp,fun k hk h1 _ _=>hB k h1,.inl rfl,.inl rfl⟩
 have hGw:Grow w ((((wq.setCell ⟨w1.heap.size,1,none⟩ (.int .i64 s.a)).setCell ⟨w1.heap.size,2,none⟩ (.int .i64 s.b)).setCell ⟨w1.heap.size,3,none⟩ (.int .i64 s.c)).setCell ⟨w1.heap.size,4,none⟩ (.int .i64 s.d)):=(((bq.grow.setCell (by simp;omega) _).setCell (by simp;omega) _).setCell (by simp;omega) _).setCell (by simp;omega) _
 refine⟨bq.put c1 hGw (row_set1234 bq.row _ _ _ _) ((bq.ready.mono c1.mem).block fun k hk=>hB k (by have:=(bq.ready.lt k hk).1;omega)) (owns_block bq.done fun k hk=>hB k (by have:=(bq.done.lt k hk).1;omega)) b.disj,?_⟩
 exact⟨Nat.le_trans hs c1.size,fun k hk h1 h2 h3=>(c1.block k (by omega) h1 h2 h3).trans (hG.block k hk),.inl rfl,.inl rfl⟩
theorem LBox.delR {w w1 wr wq w':World} {vl vd:Value} {l:List Rc} {h:Hs} {g cap i:Nat} (b:LBox w w1 wr vl (.slice (some ⟨g,0,none⟩) h.ready.length cap) vd l h) (hG:Grow wr wq) (hi:i<h.ready.length)
  {css:List (List Value)} (k2:css.length=h.ready.length) (k3:∀(i:Nat) (cs:List Value) (x:Rd),css[i]? =some cs→h.ready[i]? =some x→Ty.rd.R (hmem w w1 wq vl (.slice (some ⟨g,0,none⟩) h.ready.length cap) vd) cs x)
  (hnew:w'.ownsRow (w1.heap.size+1) 77 2 (.slice (some ⟨g,0,none⟩) (h.ready.length - 1) cap) (h.ready.length - 1) (css.flatten.take (i*2)++css.flatten.drop ((i+1)*2))) (hg:wq.grownBy w' (some g)):
  LBox w w1 (w'.setCell ⟨w1.heap.size,5,none⟩ (.slice (some ⟨g,0,none⟩) (h.ready.length - 1) cap)) vl (.slice (some ⟨g,0,none⟩) (h.ready.length - 1) cap) vd l { h with ready:=h.ready.eraseIdx i }∧
  Chg w1 wr (w'.setCell ⟨w1.heap.size,5,none⟩ (.slice (some ⟨g,0,none⟩) (h.ready.length - 1) cap)) (.slice (some ⟨g,0,none⟩) h.ready.length cap) vd (.slice (some ⟨g,0,none⟩) (h.ready.length - 1) cap) vd:=by
 have bq:=b.later hG
 have hsz:=hG.size
 have hs1:=b.size
 have hw1:=b.w1
 have hlt:=bq.ready.lt g rfl
 have hdl:=bq.done.lt
 have hB:∀k,k≠w1.heap.size→(w'.setCell ⟨w1.heap.size,5,none⟩ (.slice (some ⟨g,0,none⟩) (h.ready.length - 1) cap)).heap[k]? =w'.heap[k]?:=fun k hk=>Below.heap_setCell _ _ _ _ (fun e=>hk e)
 have c1:Chg w1 wq (w'.setCell ⟨w1.heap.size,5,none⟩ (.slice (some ⟨g,0,none⟩) (h.ready.length - 1) cap)) (.slice (some ⟨g,0,none⟩) h.ready.length cap) vd (.slice (some ⟨g,0,none⟩) (h.ready.length - 1) cap) vd:=⟨by simpa using hg.size,fun k hk h1 h2 _=>by rw [hB k h1,hg.block k hk (fun e=>h2 e.symm)],.inl rfl,.inl rfl⟩
 have hGw:Grow w (w'.setCell ⟨w1.heap.size,5,none⟩ (.slice (some ⟨g,0,none⟩) (h.ready.length - 1) cap)):=(bq.grow.grown hg (fun k hk=>by simp at hk;omega)).setCell (by simp;omega) _
 have hdj:∀k,vd.ownBlock=some k→g≠k:=fun k hk e=>by
  rcases b.disj with d|d
  ·cases d
  ·exact d (by rw [hk,←e];rfl)
 have hcl:=css_len k2 k3
 refine⟨bq.put c1 hGw (row_set5' (row_by bq.row hg (by simp;omega)) _) ⟨css.eraseIdx i,?_,?_,?_⟩ (owns_block bq.done fun k hk=>?_) (.inr fun e=>hdj g e.symm rfl),?_⟩
 ·have e:(css.eraseIdx i).flatten=css.flatten.take (i*2)++css.flatten.drop ((i+1)*2):=by
   rw [flatten_take (size:=2) css i hcl,flatten_drop (size:=2) css (i+1) hcl,List.eraseIdx_eq_take_drop_succ,List.flatten_append]
  rw [e]
  have e2:(h.ready.eraseIdx i).length=h.ready.length - 1:=List.length_eraseIdx_of_lt hi
  rw [e2]
  refine owns_block hnew fun k hk=>hB k ?_
  have:g=k:=by simpa [Value.ownBlock] using hk
  omega
 ·simp only [List.length_eraseIdx_of_lt hi,List.length_eraseIdx_of_lt (by omega:i<css.length)];omega
 ·intro j cs x a e
  rw [List.getElem?_eraseIdx] at a e
  by_cases hj:j<i
  ·rw [if_pos hj] at a e
   exact Ty.rd.mono c1.mem (k3 j cs x a e)
  ·rw [if_neg hj] at a e
   exact Ty.rd.mono c1.mem (k3 (j+1) cs x a e)
 ·have:=hdl k hk
  rw [hB k (by omega),hg.block k this.2 (fun e=>hdj k hk (Option.some.inj e).symm)]
 ·exact⟨Nat.le_trans hsz c1.size,fun k hk h1 h2 h3=>(c1.block k (by omega) h1 h2 h3).trans (hG.block k hk),.inl rfl,.inl rfl⟩
structure TellsG {α:Type} (P:Program) (T:Ty α) (val:List Value→Value) (w:World) (row:Option Nat) (F:FuncId) (caps:Array Value) (l:List α) (p:α→Bool):Prop where
 ent:∀args w,(callFunc F args).run P w=.ok (.enter F args) w
 say:∀(wx:World) (cs:List Value) (x:α),w.grownBy wx row→x∈l→T.R wx.cell? cs x→Calls P F (#[val cs]++caps) wx fun e w'=>e=.returned (.bool (p x))∧Grow wx w'
theorem TellsG.tells {α:Type} {P:Program} {T:Ty α} {val:List Value→Value} {w:World} {row:Option Nat} {F:FuncId} {caps:Array Value} {l:List α} {p:α→Bool} (h:TellsG P T val w row F caps l p):Tells P T val w F caps l p:=
 ⟨h.ent,fun wx cs x hg=>h.say wx cs x (grownBy_of_grow hg _)⟩
theorem filter_take_succ {α:Type} (q:α→Bool) {l:List α} {j:Nat} (h:j<l.length):(l.take (j+1)).filter q=(l.take j).filter q++if q l[j] then [l[j]] else []:=by
 rw [List.take_succ_eq_append_getElem h,List.filter_append]
 by_cases hq:q l[j]<;>simp [hq]
theorem filter_none {α:Type} {p:α→Bool} {l:List α} (h:l.findIdx? p=none):l.filter (fun x=>!p x)=l:=by
 rw [List.findIdx?_eq_none_iff] at h
 rw [List.filter_eq_self]
 intro x hx;simp [h x hx]
set_option maxRecDepth 100000 in
set_option maxHeartbeats 1000000 in
theorem deleteFunc_pt {w:World} {base:Nat} {v:Value} {l:List Pt} {F:FuncId} {caps:Array Value} {p:Pt→Bool} (ho:OwnT Ty.pt w base 31 v l) (hp:TellsG Tryz.prog Ty.pt aggOf w v.ownBlock F caps l p):
  Calls Tryz.prog 84 #[v,.func (.func F) #[] caps] w fun e w'=>∃v',e=.returned v'∧OwnT Ty.pt w' base 31 v' (l.filter fun x=>!p x)∧w.grownBy w' v.ownBlock∧v'.ownBlock=v.ownBlock:=by
 have hIdx:=indexFunc_pt w (ho.sl (by decide)) hp.tells
 cases hfi:l.findIdx? p with
 |none=>
  have hx:idxOf p l= -1:=by rw [idxOf,hfi]
  have HF:=η (filter_none hfi)
  rw [hx] at hIdx
  have HI:=η hIdx
  have HO:=η ho
  clear hIdx hx hfi ho hp
  go_enter Tryz.func84,Tryz.ntmps84
  go_wp2_with (go_at_call 94;refine HI.o.mono ?_;rintro e w1 ⟨rfl,hb1⟩)
  go_ret
  exact⟨_,rfl,by rw [HF.o];exact HO.o.grow hb1,grownBy_of_grow hb1 _,rfl⟩
 |some k=>
  have hx:idxOf p l=k:=by rw [idxOf,hfi]
  rw [hx] at hIdx
  rw [List.findIdx?_eq_some_iff_getElem] at hfi
  obtain⟨hk,hpk,hbefore⟩:=hfi
  obtain⟨css,hown,hcl0,hR⟩:=ho
  have hcl:=css_len hcl0 hR
  obtain⟨hl,⟨rfl,hn⟩|⟨g,cap,cur,rfl,hb,hg,hnc,hcm,hcs,htake⟩⟩:=id hown
  ·omega
  have hbl:(Value.slice (some (⟨g,0,none⟩:Addr)) l.length cap).ownBlock=some g:=rfl
  rw [hbl] at hR hp ⊢
  have hf0:(l.take (k+1)).filter (fun x=>!p x)=l.take k:=by
   rw [filter_take_succ _ hk,hpk]
   simp only [Bool.not_true,Bool.false_eq_true,if_false,List.append_nil]
   rw [List.filter_eq_self]
   intro x hx
   obtain⟨j,hj,rfl⟩:=List.mem_iff_getElem.1 hx
   have:=hbefore j (by simp at hj;omega)
   simpa using this
  have hkne:((k:Int)== -1)=false:=by rw [beq_eq_false_iff_ne];omega
  have hcm':cap≤9223372036854775807:=by unfold maxLen at hcm;omega
  have HI:=η hIdx
  have HO:=η hown
  have HR:=η hR
  have HP:=η hp.say
  have eg:=hp.ent
  have HF:=η hf0
  have HC:=η hcl
  have HC0:=η hcl0
  clear hIdx hown hR hp hf0 hcl hcl0 hl hg htake hcs hb hcm hbefore hpk hx
  go_enter Tryz.func84,Tryz.ntmps84
  go_wp2_with (go_at_call 94;refine HI.o.mono ?_;rintro e w1 ⟨rfl,hb1⟩)
  go_loopw [5,6,7] (fun si sj _ wr=>∃(i j:Nat) (css':List (List Value)),i<j∧j≤l.length∧si=.int .i64 i∧sj=.int .i64 j∧w.grownBy wr (some g)∧css'.length=l.length∧(∀cs∈css',cs.length=3)∧
    wr.ownsRow base 31 3 (.slice (some ⟨g,0,none⟩) l.length cap) l.length css'.flatten∧css'.drop j=css.drop j∧((l.take j).filter fun x=>!p x).length=i∧
    ∀(a:Nat) (cs:List Value) (x:Pt),a<i→css'[a]? =some cs→((l.take j).filter fun x=>!p x)[a]? =some x→Ty.pt.R (frag w (some g)) cs x) (fun _ sj _ _=>l.length - (intOf sj).toNat)
  case atStart=>
   refine⟨k,k+1,css,by omega,by omega,rfl,by go_num,grownBy_of_grow hb1 _,HC0.o,HC.o,HO.o.kept (grownBy_of_grow hb1 none) (by right;simp [Value.ownBlock]),rfl,by rw [HF.o];simp;omega,fun a cs x ha h1 h2=>?_⟩
   rw [HF.o,List.getElem?_take,if_pos ha] at h2
   exact HR.o a cs x h1 h2
  case round=>
   obtain⟨i,j,css',hij,hj',rfl,rfl,hgr,hl',hcs',hown',hdrop,hfl,hRi⟩:=hrel
   have HOWN:=η hown'
   have HCS:=η hcs'
   have HD:=η hdrop
   have HFL:=η hfl
   have HRI:=η hRi
   have HL':=η hl'
   have HGR:=η hgr
   clear hown' hcs' hdrop hfl hRi hl' hgr hb1
   by_cases hlt:j<l.length
   ·have hjc:css[j]? =some css[j]!:=by rw [List.getElem?_eq_getElem (by rw [HC0.o];exact hlt),getElem!_pos css j (by rw [HC0.o];exact hlt)]
    obtain⟨hcsj,hRR⟩:=HR.o j _ l[j] hjc (List.getElem?_eq_getElem hlt)
    have hjc':css'[j]? =some css[j]!:=by
     have:(css'.drop j)[0]? =(css.drop j)[0]?:=by rw [HD.o]
     rw [List.getElem?_drop,List.getElem?_drop,Nat.add_zero,hjc] at this
     exact this
    rw [hcsj] at hjc hjc'
    have hcj:∀(t:Nat) (u:Value),(l[j].cells)[t]? =some u→t<3→wr.cell? ⟨g,j*3+t,none⟩=some u:=by
     intro t u hu ht
     rw [HOWN.o.cellAt _ (by omega),flatten_at (size:=3) (by decide) css' HCS.o,show(j*3+t)/3=j by omega,show(j*3+t) % 3=t by omega,hjc']
     exact hu
    have hci:∀(t:Nat),t<3→∃u,wr.cell? ⟨g,i*3+t,none⟩=some u:=by
     intro t ht
     exact⟨_,by rw [HOWN.o.cellAt _ (by omega)];exact List.getElem?_eq_getElem (by rw [HOWN.o.1];omega)⟩
    have hfz:∀o,wr.frozen? ⟨g,o,none⟩=false:=HOWN.o.frozenAt
    have hgl:g<wr.heap.size:=(HOWN.o.lt g rfl).2
    have c0:wr.cell? ⟨g,j*3,none⟩=some (.int .i64 l[j].h):=hcj 0 _ rfl (by decide)
    have c1:wr.cell? ⟨g,j*3+1,none⟩=some (.int .i64 l[j].k):=hcj 1 _ rfl (by decide)
    have c2:wr.cell? ⟨g,j*3+2,none⟩=some (.int .i64 l[j].n):=hcj 2 _ rfl (by decide)
    obtain⟨u0,hu0⟩:∃u,wr.cell? ⟨g,i*3,none⟩=some u:=hci 0 (by decide)
    obtain⟨u1,hu1⟩:∃u,wr.cell? ⟨g,i*3+1,none⟩=some u:=hci 1 (by decide)
    obtain⟨u2,hu2⟩:∃u,wr.cell? ⟨g,i*3+2,none⟩=some u:=hci 2 (by decide)
    have hRw:Ty.pt.R (frag w (some g)) l[j].cells l[j]:=⟨rfl,hRR⟩
    have hsay:=fun(W:World) (hW:Grow wr W)=>HP.o W _ l[j] (grownBy_trans HGR.o (grownBy_of_grow hW _)) (List.getElem_mem _) (Ty.pt.mono (Sub.trans (frag_grown (grownBy_trans HGR.o (grownBy_of_grow hW _))) (frag_sub _ _)) hRw)
    have hstep:=filter_take_succ (fun x=>!p x) hlt
    have HS:=η hsay
    have HST:=η hstep
    have HRW:=η hRw
    clear hsay hstep hcj hci hRw hRR hjc hjc' hcsj
    simp only [Pt.cells,aggOf] at HS
    simp only [Pt.cells] at HRW
    cases hq:p l[j]
    ·rw [hq] at HS HST
     generalize l[j]=q at*
     go_wp2_with (go_at_fn F;refine(HS.o _ ((Grow.refl wr).alloc _)).mono ?_;rintro e w1 ⟨rfl,hb1⟩;have e0:=hb1.sub ⟨wr.heap.size,0,none⟩ _ (World.cell?_alloc_new wr _ _ 0);have e1:=hb1.sub ⟨wr.heap.size,1,none⟩ _ (World.cell?_alloc_new wr _ _ 1);have e2:=hb1.sub ⟨wr.heap.size,2,none⟩ _ (World.cell?_alloc_new wr _ _ 2);simp at e0 e1 e2;have d0:=(((Grow.refl wr).alloc _).trans hb1).sub _ _ hu0;have d1:=(((Grow.refl wr).alloc _).trans hb1).sub _ _ hu1;have d2:=(((Grow.refl wr).alloc _).trans hb1).sub _ _ hu2;have df:∀o,w1.frozen? ⟨g,o,none⟩=false:=fun o=>((((Grow.refl wr).alloc _).trans hb1).frozen (p:=⟨g,o,none⟩) hgl).trans (hfz o);have dz:=hb1.size;have HB1:=η hb1;clear hb1)
     obtain⟨hset,hsg⟩:=owns_set (cs:=[.int .i64 q.h,.int .i64 q.k,.int .i64 q.n]) (i:=i) HCS.o (HOWN.o.kept (grownBy_of_grow (((Grow.refl wr).alloc _).trans HB1.o) none) (by right;simp [Value.ownBlock])) (by rw [HL'.o];omega) rfl
     have HSET:=η hset
     have HSG:=η hsg
     clear hset hsg
     go_roundw
     case rel=>
      refine⟨i+1,j+1,css'.set i [.int .i64 q.h,.int .i64 q.k,.int .i64 q.n],by omega,by omega,by go_num,by go_num,grownBy_trans (grownBy_trans HGR.o (grownBy_of_grow (((Grow.refl wr).alloc _).trans HB1.o) _)) HSG.o,by simpa using HL'.o,?_,HSET.o,?_,?_,?_⟩
      ·intro cs hc
       rcases List.mem_or_eq_of_mem_set hc with h|rfl
       ·exact HCS.o cs h
       ·rfl
      ·rw [List.drop_set_of_lt (by omega)]
       have:(css'.drop j).drop 1=(css.drop j).drop 1:=by rw [HD.o]
       simpa [List.drop_drop] using this
      ·rw [HST.o];simp [HFL.o]
      ·intro a cs x ha h1 h2
       rw [HST.o] at h2
       simp only [Bool.not_false,if_true] at h2
       by_cases hai:a<i
       ·rw [List.getElem?_set_ne (by omega)] at h1
        rw [List.getElem?_append_left (by rw [HFL.o];exact hai)] at h2
        exact HRI.o a cs x hai h1 h2
       ·obtain rfl:a=i:=by omega
        rw [List.getElem?_append_right (by rw [HFL.o];omega),HFL.o,Nat.sub_self] at h2
        rw [List.getElem?_set_self (by rw [HL'.o];omega)] at h1
        obtain rfl:=Option.some.inj h1
        obtain rfl:=Option.some.inj h2
        exact HRW.o
     case measure=>simp [intOf];omega
    ·rw [hq] at HS HST
     generalize l[j]=q at*
     go_wp2_with (go_at_fn F;refine(HS.o _ ((Grow.refl wr).alloc _)).mono ?_;rintro e w1 ⟨rfl,hb1⟩)
     have HB1:=η hb1
     clear hb1
     go_roundw
     case rel=>
      refine⟨i,j+1,css',by omega,by omega,rfl,by go_num,grownBy_trans HGR.o (grownBy_of_grow (((Grow.refl wr).alloc _).trans HB1.o) _),HL'.o,HCS.o,HOWN.o.kept (grownBy_of_grow (((Grow.refl wr).alloc _).trans HB1.o) none) (by right;simp [Value.ownBlock]),?_,?_,?_⟩
      ·have:(css'.drop j).drop 1=(css.drop j).drop 1:=by rw [HD.o]
       simpa [List.drop_drop] using this
      ·rw [HST.o];simp [HFL.o]
      ·intro a cs x ha h1 h2
       rw [HST.o] at h2
       simp only [Bool.not_true,Bool.false_eq_true,if_false,List.append_nil] at h2
       exact HRI.o a cs x ha h1 h2
     case measure=>simp [intOf];omega
   ·obtain rfl:j=l.length:=by omega
    have hic:i≤cap:=by omega
    obtain⟨w2,hcl,HO2,HG2⟩:=clear_run ei_pt 0 HOWN.o i (l.length - i) (cap - i) (some ⟨g,i*3,none⟩) (by omega) (fun _=>rfl) (by omega)
    have HCL:=η hcl
    have HO2':=η HO2
    have HG2':=η HG2
    clear hcl HO2 HG2 eg
    have hil:i<cap:=by omega
    have hil2:i≤l.length:=by omega
    go_wp2_with fail
    rw [HCL.o]
    go_wp2
    go_ret
    refine⟨_,rfl,?_,grownBy_trans HGR.o HG2'.o,rfl⟩
    have hfin:(l.filter fun x=>!p x).length=i:=by have:=HFL.o;rw [List.take_of_length_le (Nat.le_refl _)] at this;exact this
    refine⟨css'.take i,?_,by rw [List.length_take,HL'.o,hfin];omega,fun a cs x h1 h2=>?_⟩
    ·have h:=HO2'.o
     rw [flatten_take css' i HCS.o] at h
     rw [hfin];exact h
    ·rw [List.getElem?_take] at h1
     split at h1
     ·rename_i hai
      have h3:=HRI.o a cs x hai h1 (by rw [List.take_of_length_le (Nat.le_refl _)];exact h2)
      exact Ty.pt.mono (frag_grown (grownBy_trans HGR.o HG2'.o)) h3
     ·cases h1
def sameK (p q:Pt):Bool:=q.h==p.h&&q.k==p.k
theorem wrong_lit {B:Nat} {p:Pt} (wx:World) (cs:List Value) (x:Pt) (hB:B<wx.heap.size) (c0:wx.cell? ⟨B,0,none⟩=some (.int .i64 p.h)) (c1:wx.cell? ⟨B,1,none⟩=some (.int .i64 p.k)) (hR:Ty.pt.R wx.cell? cs x):
  Calls Tryz.prog 62 #[.agg cs.toArray,.pointer (some ⟨B,0,none⟩)] wx fun e w'=>e=.returned (.bool (sameK p x))∧Grow wx w':=by
 obtain⟨rfl,-⟩:=hR
 obtain⟨ph,pk,pn⟩:=p
 obtain⟨qh,qk,qn⟩:=x
 unfold Pt.cells sameK
 simp only at c0 c1 ⊢
 cases h1:(qh==ph)
 ·go_enter Tryz.func62,Tryz.ntmps62
  go_wp2
  go_ret
  exact⟨rfl,grA⟩
 ·go_enter Tryz.func62,Tryz.ntmps62
  go_wp2
  go_ret
  exact⟨ret_bool (by simp),grA⟩
theorem any_same (l:List Pt) (p:Pt):(l.any (sameK p))=decide ((p.h,p.k)∈l.map fun q=>(q.h,q.k)):=by
 rw [Bool.eq_iff_iff,List.any_eq_true,decide_eq_true_eq,List.mem_map]
 constructor
 ·rintro⟨q,hq,h⟩
  simp only [sameK,Bool.and_eq_true,beq_iff_eq] at h
  exact⟨q,hq,by rw [h.1,h.2]⟩
 ·rintro⟨q,hq,h⟩
  simp only [Prod.mk.injEq] at h
  exact⟨q,hq,by simp [sameK,h.1,h.2]⟩
theorem ways_pt2 (p:Pt) (h:Int):(p.h<0)∨(0≤p.h∧h≤p.h)∨(0≤p.h∧p.h<h∧p.k<0)∨(0≤p.h∧p.h<h∧0≤p.k∧4≤p.k)∨(0≤p.h∧p.h<h∧0≤p.k∧p.k<4∧p.n< -1048576)∨(0≤p.h∧p.h<h∧0≤p.k∧p.k<4∧-1048576≤p.n∧1048576<p.n)∨(0≤p.h∧p.h<h∧0≤p.k∧p.k<4∧-1048576≤p.n∧p.n≤1048576):=by omega
theorem Sl.take' {α:Type} {T:Ty α} {c:CM} {a:Option Addr} {n cap:Nat} {l:List α} (h:Sl T c (.slice a n cap) l) (m:Nat) (hm:m≤n):Sl T c (.slice a m cap) (l.take m):=by
 obtain⟨a',cap',he,h1,h2,h3,hel⟩:=h
 simp only [Value.slice.injEq] at he
 obtain⟨rfl,rfl,rfl⟩:=he
 have hl:(l.take m).length=m:=by simp;omega
 refine⟨a,cap,by rw [hl],by rw [hl];omega,h2,h3,fun i x e=>?_⟩
 have hi:=(List.getElem?_eq_some_iff.1 e).1
 rw [List.getElem?_take_of_lt (by omega)] at e
 exact hel i x e
set_option maxRecDepth 100000 in
set_option maxHeartbeats 2000000 in
theorem part_wrong {v:Value} {l:List Pt} {h:Int} (w:World) (hv:Pts w.cell? v l):
  Calls Tryz.prog 33 #[v,.int .i64 h] w fun e w'=>e=.returned (.int .i64 (wrongE l h))∧Grow w w':=by
 have HV:=η hv
 obtain⟨a,cap,rfl,h1,h2,-,hel⟩:=hv
 unfold maxLen at h2
 by_cases hl0:l.length=0
 ·have hE:wrongE l h=5:=by simp [wrongE,hl0]
  have HE:=η hE
  have hl1:l.length<1:=by omega
  clear hel hE hl0
  go_enter Tryz.func33,Tryz.ntmps33
  go_wp2
  go_ret
  exact⟨ret_int HE.o.symm,Grow.refl _⟩
 by_cases hl4:4<l.length
 ·have hE:wrongE l h=5:=by rw [wrongE,if_pos (.inr hl4)]
  have HE:=η hE
  have hl1:¬l.length<1:=by omega
  clear hel hE hl0
  go_enter Tryz.func33,Tryz.ntmps33
  go_wp2
  go_ret
  exact⟨ret_int HE.o.symm,Grow.refl _⟩
 have hE:wrongE l h=wrongGo h [] l:=by rw [wrongE,if_neg (by omega)]
 have HE:=η hE
 have hl1:¬l.length<1:=by omega
 clear hE hl0
 go_enter Tryz.func33,Tryz.ntmps33
 go_wp2
 go_loopw [4,5,17] (fun _ _ i wr=>∃(k:Nat),k≤l.length∧i=.int .i64 k∧Grow w wr∧wrongE l h=wrongGo h ((l.take k).map fun q=>(q.h,q.k)) (l.drop k)) (fun _ _ i _=>l.length - (intOf i).toNat)
 case atStart=>exact⟨0,by omega,rfl,grA,HE.o⟩
 case round=>
  obtain⟨k,hk',rfl,hb,hE⟩:=hrel
  by_cases hlt:k<l.length
  ·obtain⟨b,o,rfl,c0,c1,c2,i0,i1,i2⟩:=Pts.at_ hel k hlt
   replace c0:=hb.sub _ _ c0
   replace c1:=hb.sub _ _ c1
   replace c2:=hb.sub _ _ c2
   rw [List.drop_eq_getElem_cons hlt,wrongGo] at hE
   have hw:=ways_pt2 l[k] h
   have hbad:∀b,decide (l[k].h<0∨h≤l[k].h∨l[k].k<0∨3<l[k].k∨1048576<l[k].n∨l[k].n< -1048576)=b→badPt l[k] h=b:=fun b hb=>hb
   have HB:=η hbad
   have HE2:=η hE
   have HNX:=η (show wrongGo h ((l[k].h,l[k].k)::(l.take k).map fun q=>(q.h,q.k)) (l.drop (k+1))=wrongGo h ((l.take (k+1)).map fun q=>(q.h,q.k)) (l.drop (k+1)) from wrongGo_congr h _ _ _ fun x=>by
    rw [List.take_succ_eq_append_getElem hlt,List.map_append,List.mem_append,List.mem_cons,or_comm];simp)
   have HSL:=η (HV.o.take' k hk')
   have HAN:=η (any_same (l.take k) l[k])
   clear hel hE hbad HE HV i0 i1 i2
   generalize l[k]=p at*
   obtain⟨ph,pk,pn⟩:=p
   simp only at hw c0 c1 c2
   rcases hw with hw|⟨w1,hw⟩|⟨w1,w2,hw⟩|⟨w1,w2,w3,hw⟩|⟨w1,w2,w3,w4,hw⟩|⟨w1,w2,w3,w4,w5,hw⟩|⟨w1,w2,w3,w4,w5,hw⟩
   iterate 6 (· (go_wp2;go_ret;exact⟨ret_int (by rw [HE2.o,if_pos (HB.o true (by simp only [decide_eq_true_eq];omega))]),grA⟩))
   have hnb:=HB.o false (by simp only [decide_eq_false_iff_not];omega)
   have hE3:=HE2.o
   rw [if_neg (by rw [hnb];exact Bool.false_ne_true)] at hE3
   have HE3:=η hE3
   clear hE3 hnb HB HE2
   have HCF:=η (containsFunc_pt (l:=l.take k) (F:=62) (caps:=#[.pointer (some ⟨wr.heap.size,0,none⟩)]) (p:=sameK ⟨ph,pk,pn⟩) (wr.alloc (.cells #[.int .i64 ph,.int .i64 pk,.int .i64 pn] 31)) (HSL.o.mono (hb.alloc _).sub) ⟨fun args w=>by kernel_rfl,fun wx cs x hg _ hR=>wrong_lit wx cs x (Nat.lt_of_lt_of_le (by simp) hg.size) (hg.sub _ _ (by rw [World.cell?_alloc_new];rfl)) (hg.sub _ _ (by rw [World.cell?_alloc_new];rfl)) hR⟩)
   rw [HAN.o] at HCF
   simp only at HCF
   by_cases hin:(ph,pk)∈(l.take k).map fun q=>(q.h,q.k)
   ·rw [decide_eq_true hin] at HCF
    have HI:=η hin
    clear hin HAN HSL
    go_wp2_with fail
    refine HCF.o.mono ?_
    rintro e w3 ⟨rfl,hb3⟩
    have HB3:=η ((hb.alloc _).trans hb3)
    clear hb3
    go_wp2
    go_ret
    exact⟨ret_int (by rw [HE3.o,if_pos HI.o]),HB3.o⟩
   ·rw [decide_eq_false hin] at HCF
    have HI:=η hin
    clear hin HAN HSL
    go_wp2_with fail
    refine HCF.o.mono ?_
    rintro e w3 ⟨rfl,hb3⟩
    have HB3:=η ((hb.alloc _).trans hb3)
    clear hb3
    go_wp2
    go_roundw
    case rel=>exact⟨k+1,by omega,by go_num,HB3.o,by rw [HE3.o,if_neg HI.o];exact HNX.o⟩
    case measure=>simp [intOf];omega
  ·go_wp2
   go_ret
   refine⟨ret_int ?_,hb⟩
   rw [hE,List.drop_of_length_le (by omega)]
   rfl
def win (lo hi:Nat) (w:World):CM:=fun a=>if lo≤a.block∧a.block<hi then w.cell? a else none
theorem win_sub (lo hi:Nat) (w:World):Sub (win lo hi w) w.cell?:=fun a v e=>by
 unfold win at e
 split at e
 ·exact e
 ·cases e
theorem win_ov (W w:World):Sub (ov (fun _=>none) W w) (win W.heap.size w.heap.size w):=fun a v e=>by
 unfold ov at e
 split at e
 ·cases e
 ·unfold win
  rw [if_pos ⟨by omega,World.block_lt_of_cell? w a e⟩];exact e
theorem win_by {lo hi:Nat} {w w':World} {row:Option Nat} (h:w.grownBy w' row) (hr:∀k,row=some k→k<lo∨hi≤k):Sub (win lo hi w) (win lo hi w'):=fun a v e=>by
 unfold win at e ⊢
 split at e
 ·rename_i hc
  rw [if_pos hc,World.cell?_of_block (h.block a.block (World.block_lt_of_cell? w a e) (fun e=>by have:=hr a.block e.symm;omega))]
  exact e
 ·cases e
theorem win_grow {w w':World} (h:Grow w w') (lo hi:Nat):Sub (win lo hi w) (win lo hi w'):=win_by (grownBy_of_grow h none) (fun k e=>by cases e)
theorem wanted_yes {o:Oper} {y:Nat→Option Bool} {X E:Prop} {inst:Decidable (Region.wanted o y=true)} (hgd:Region.wanted o y=true) (h:X):@ite Prop (Region.wanted o y=true) inst X E:=by
 rw [if_pos hgd]
 exact h
theorem win_ovn {lo hi:Nat} {w W:World} (h:w.heap.size≤lo):Sub (win lo hi W) (ov (fun _=>none) w W):=fun a v e=>by
 unfold win at e
 split at e
 ·unfold ov
  rw [if_neg (by omega)];exact e
 ·cases e
theorem win_set {lo hi B:Nat} {w w':World} (h:w.grownBy w' (some B)) (hb:B<lo∨hi≤B):Sub (win lo hi w) (win lo hi w'):=win_by h fun k e=>by
 obtain rfl:=Option.some.inj e
 exact hb
theorem cell1 {w:World} {B:Nat} {a:Value} {t:TypeId} (h:w.heap[B]? =some (.cells #[a] t (0,0))):w.cell? ⟨B,0,none⟩=some a:=by simp [World.cell?,h]
theorem note_log (h:Hs) (r:Rc):(noteE h r).log=h.log++ [r]:=log_house _
theorem headR_fold:∀(l:List Rc) (h:Hd) (x:List Rc),(l.foldl headStep { h with log:=x })={ (l.foldl headStep h) with log:=x }
 | [],_,_=>rfl
 |r::l,h,x=>by
  rw [List.foldl_cons,List.foldl_cons,←headR_fold l]
  congr 1
  unfold headStep
  split
  ·rfl
  ·split
   ·rfl
   ·split<;>rfl
theorem head_snoc (l:List Rc) (r:Rc):headR (l++ [r])={ (headStep (headR l) r) with log:=l++ [r] }:=by
 unfold headR
 rw [List.foldl_append]
 have:=headR_fold l ⟨l,0,0,[]⟩ (l++ [r])
 simp only at this
 rw [this]
 show headStep _ r=_
 unfold headStep
 split
 ·rfl
 ·split
  ·rfl
  ·split<;>rfl
theorem headR_next (l:List Rc):(headR l).next=0∧(headR l).log=l:=by
 have:∀(k:List Rc) (h:Hd),(k.foldl headStep h).next=h.next∧(k.foldl headStep h).log=h.log:=by
  intro k
  induction k with
  |nil=>intro h;exact⟨rfl,rfl⟩
  |cons r k ih=>
   intro h
   rw [List.foldl_cons,(ih _).1,(ih _).2]
   unfold headStep
   split
   ·exact⟨rfl,rfl⟩
   ·split
    ·exact⟨rfl,rfl⟩
    ·split<;>exact⟨rfl,rfl⟩
 exact this l _
theorem dec_snoc (l:List Rc) (r:Rc):decidedR (l++ [r])=if r.kind=5 then decidedR l++ [⟨r.deed,r.parts⟩] else decidedR l:=by
 unfold decidedR
 rw [List.filter_append,List.map_append]
 split
 ·rename_i h
  rw [List.filter_cons_of_pos (by simp [h])];rfl
 ·rename_i h
  rw [List.filter_cons_of_neg (by simp [h])];simp
set_option maxRecDepth 100000 in
set_option maxHeartbeats 1000000 in
theorem deleteFunc_opn_c {c:CM} {w:World} {base:Nat} {v:Value} {l:List Opn} {F:FuncId} {caps:Array Value} {p:Opn→Bool} (hc:Sub c (frag w v.ownBlock)) (ho:OwnC Ty.opn c w base 147 v l) (hp:TellsG Tryz.prog Ty.opn aggOf w v.ownBlock F caps l p):
  Calls Tryz.prog 77 #[v,.func (.func F) #[] caps] w fun e w'=>∃v',e=.returned v'∧OwnC Ty.opn c w' base 147 v' (l.filter fun x=>!p x)∧w.grownBy w' v.ownBlock∧v'.ownBlock=v.ownBlock:=by
 have hIdx:=indexFunc_opn w (OwnC.sl (by decide) (hc.trans (frag_sub _ _)) ho) hp.tells
 cases hfi:l.findIdx? p with
 |none=>
  have hx:idxOf p l= -1:=by rw [idxOf,hfi]
  have HF:=η (filter_none hfi)
  rw [hx] at hIdx
  have HI:=η hIdx
  have HO:=η ho
  clear hIdx hx hfi ho hp
  go_enter Tryz.func77,Tryz.ntmps77
  go_wp2_with (go_at_call 103;refine HI.o.mono ?_;rintro e w1 ⟨rfl,hb1⟩)
  go_ret
  exact⟨_,rfl,by rw [HF.o];exact HO.o.grow hb1,grownBy_of_grow hb1 _,rfl⟩
 |some k=>
  have hx:idxOf p l=k:=by rw [idxOf,hfi]
  rw [hx] at hIdx
  rw [List.findIdx?_eq_some_iff_getElem] at hfi
  obtain⟨hk,hpk,hbefore⟩:=hfi
  obtain⟨css,hown,hcl0,hR⟩:=ho
  have hcl:=css_len hcl0 hR
  obtain⟨hl,⟨rfl,hn⟩|⟨g,cap,cur,rfl,hb,hg,hnc,hcm,hcs,htake⟩⟩:=id hown
  ·omega
  have hbl:(Value.slice (some (⟨g,0,none⟩:Addr)) l.length cap).ownBlock=some g:=rfl
  rw [hbl] at hp hc ⊢
  have HCC:=η hc
  clear hc
  have hf0:(l.take (k+1)).filter (fun x=>!p x)=l.take k:=by
   rw [filter_take_succ _ hk,hpk]
   simp only [Bool.not_true,Bool.false_eq_true,if_false,List.append_nil]
   rw [List.filter_eq_self]
   intro x hx
   obtain⟨j,hj,rfl⟩:=List.mem_iff_getElem.1 hx
   have:=hbefore j (by simp at hj;omega)
   simpa using this
  have hkne:((k:Int)== -1)=false:=by rw [beq_eq_false_iff_ne];omega
  have hcm':cap≤9223372036854775807:=by unfold maxLen at hcm;omega
  have HI:=η hIdx
  have HO:=η hown
  have HR:=η hR
  have HP:=η hp.say
  have eg:=hp.ent
  have HF:=η hf0
  have HC:=η hcl
  have HC0:=η hcl0
  clear hIdx hown hR hp hf0 hcl hcl0 hl hg htake hcs hb hcm hbefore hpk hx
  go_enter Tryz.func77,Tryz.ntmps77
  go_wp2_with (go_at_call 103;refine HI.o.mono ?_;rintro e w1 ⟨rfl,hb1⟩)
  go_loopw [5,6,7] (fun si sj _ wr=>∃(i j:Nat) (css':List (List Value)),i<j∧j≤l.length∧si=.int .i64 i∧sj=.int .i64 j∧w.grownBy wr (some g)∧css'.length=l.length∧(∀cs∈css',cs.length=4)∧
    wr.ownsRow base 147 4 (.slice (some ⟨g,0,none⟩) l.length cap) l.length css'.flatten∧css'.drop j=css.drop j∧((l.take j).filter fun x=>!p x).length=i∧
    ∀(a:Nat) (cs:List Value) (x:Opn),a<i→css'[a]? =some cs→((l.take j).filter fun x=>!p x)[a]? =some x→Ty.opn.R c cs x) (fun _ sj _ _=>l.length - (intOf sj).toNat)
  case atStart=>
   refine⟨k,k+1,css,by omega,by omega,rfl,by go_num,grownBy_of_grow hb1 _,HC0.o,HC.o,HO.o.kept (grownBy_of_grow hb1 none) (by right;simp [Value.ownBlock]),rfl,by rw [HF.o];simp;omega,fun a cs x ha h1 h2=>?_⟩
   rw [HF.o,List.getElem?_take,if_pos ha] at h2
   exact HR.o a cs x h1 h2
  case round=>
   obtain⟨i,j,css',hij,hj',rfl,rfl,hgr,hl',hcs',hown',hdrop,hfl,hRi⟩:=hrel
   have HOWN:=η hown'
   have HCS:=η hcs'
   have HD:=η hdrop
   have HFL:=η hfl
   have HRI:=η hRi
   have HL':=η hl'
   have HGR:=η hgr
   clear hown' hcs' hdrop hfl hRi hl' hgr hb1
   by_cases hlt:j<l.length
   ·have hjc:css[j]? =some css[j]!:=by rw [List.getElem?_eq_getElem (by rw [HC0.o];exact hlt),getElem!_pos css j (by rw [HC0.o];exact hlt)]
    obtain⟨v1,v2,hcsj,hRR⟩:=HR.o j _ l[j] hjc (List.getElem?_eq_getElem hlt)
    obtain⟨sa1,sc1,rfl,-⟩:=id hRR.2.1;obtain⟨sa2,sc2,rfl,-⟩:=id hRR.2.2
    have hjc':css'[j]? =some css[j]!:=by
     have:(css'.drop j)[0]? =(css.drop j)[0]?:=by rw [HD.o]
     rw [List.getElem?_drop,List.getElem?_drop,Nat.add_zero,hjc] at this
     exact this
    rw [hcsj] at hjc hjc'
    have hcj:∀(t:Nat) (u:Value),([.int .i64 l[j].deed,.slice sa1 l[j].parts.length sc1,.bool l[j].dec,.slice sa2 l[j].heard.length sc2])[t]? =some u→t<4→wr.cell? ⟨g,j*4+t,none⟩=some u:=by
     intro t u hu ht
     rw [HOWN.o.cellAt _ (by omega),flatten_at (size:=4) (by decide) css' HCS.o,show(j*4+t)/4=j by omega,show(j*4+t) % 4=t by omega,hjc']
     exact hu
    have hci:∀(t:Nat),t<4→∃u,wr.cell? ⟨g,i*4+t,none⟩=some u:=by
     intro t ht
     exact⟨_,by rw [HOWN.o.cellAt _ (by omega)];exact List.getElem?_eq_getElem (by rw [HOWN.o.1];omega)⟩
    have hfz:∀o,wr.frozen? ⟨g,o,none⟩=false:=HOWN.o.frozenAt
    have hgl:g<wr.heap.size:=(HOWN.o.lt g rfl).2
    have c0:wr.cell? ⟨g,j*4,none⟩=some (.int .i64 l[j].deed):=hcj 0 _ rfl (by decide)
    have c1:wr.cell? ⟨g,j*4+1,none⟩=some (.slice sa1 l[j].parts.length sc1):=hcj 1 _ rfl (by decide)
    have c2:wr.cell? ⟨g,j*4+2,none⟩=some (.bool l[j].dec):=hcj 2 _ rfl (by decide)
    have c3:wr.cell? ⟨g,j*4+3,none⟩=some (.slice sa2 l[j].heard.length sc2):=hcj 3 _ rfl (by decide)
    obtain⟨u0,hu0⟩:∃u,wr.cell? ⟨g,i*4,none⟩=some u:=hci 0 (by decide)
    obtain⟨u1,hu1⟩:∃u,wr.cell? ⟨g,i*4+1,none⟩=some u:=hci 1 (by decide)
    obtain⟨u2,hu2⟩:∃u,wr.cell? ⟨g,i*4+2,none⟩=some u:=hci 2 (by decide)
    obtain⟨u3,hu3⟩:∃u,wr.cell? ⟨g,i*4+3,none⟩=some u:=hci 3 (by decide)
    have hRw:Ty.opn.R c [.int .i64 l[j].deed,.slice sa1 l[j].parts.length sc1,.bool l[j].dec,.slice sa2 l[j].heard.length sc2] l[j]:=⟨_,_,rfl,hRR⟩
    have hsay:=fun(W:World) (hW:Grow wr W)=>HP.o W _ l[j] (grownBy_trans HGR.o (grownBy_of_grow hW _)) (List.getElem_mem _) (Ty.opn.mono (Sub.trans HCC.o (Sub.trans (frag_grown (grownBy_trans HGR.o (grownBy_of_grow hW _))) (frag_sub _ _))) hRw)
    have hstep:=filter_take_succ (fun x=>!p x) hlt
    have HS:=η hsay
    have HST:=η hstep
    have HRW:=η hRw
    clear hsay hstep hcj hci hRw hRR hjc hjc' hcsj
    simp only [aggOf] at HS
    cases hq:p l[j]
    ·rw [hq] at HS HST
     generalize l[j]=q at*
     go_wp2_with (go_at_fn F;refine(HS.o _ ((Grow.refl wr).alloc _)).mono ?_;rintro e w1 ⟨rfl,hb1⟩;have e0:=hb1.sub ⟨wr.heap.size,0,none⟩ _ (World.cell?_alloc_new wr _ _ 0);have e1:=hb1.sub ⟨wr.heap.size,1,none⟩ _ (World.cell?_alloc_new wr _ _ 1);have e2:=hb1.sub ⟨wr.heap.size,2,none⟩ _ (World.cell?_alloc_new wr _ _ 2);have e3:=hb1.sub ⟨wr.heap.size,3,none⟩ _ (World.cell?_alloc_new wr _ _ 3);simp at e0 e1 e2 e3;have d0:=(((Grow.refl wr).alloc _).trans hb1).sub _ _ hu0;have d1:=(((Grow.refl wr).alloc _).trans hb1).sub _ _ hu1;have d2:=(((Grow.refl wr).alloc _).trans hb1).sub _ _ hu2;have d3:=(((Grow.refl wr).alloc _).trans hb1).sub _ _ hu3;have df:∀o,w1.frozen? ⟨g,o,none⟩=false:=fun o=>((((Grow.refl wr).alloc _).trans hb1).frozen (p:=⟨g,o,none⟩) hgl).trans (hfz o);have dz:=hb1.size;have HB1:=η hb1;clear hb1)
     obtain⟨hset,hsg⟩:=owns_set (cs:=[.int .i64 q.deed,.slice sa1 q.parts.length sc1,.bool q.dec,.slice sa2 q.heard.length sc2]) (i:=i) HCS.o (HOWN.o.kept (grownBy_of_grow (((Grow.refl wr).alloc _).trans HB1.o) none) (by right;simp [Value.ownBlock])) (by rw [HL'.o];omega) rfl
     have HSET:=η hset
     have HSG:=η hsg
     clear hset hsg
     go_roundw
     case rel=>
      refine⟨i+1,j+1,css'.set i [.int .i64 q.deed,.slice sa1 q.parts.length sc1,.bool q.dec,.slice sa2 q.heard.length sc2],by omega,by omega,by go_num,by go_num,grownBy_trans (grownBy_trans HGR.o (grownBy_of_grow (((Grow.refl wr).alloc _).trans HB1.o) _)) HSG.o,by simpa using HL'.o,?_,HSET.o,?_,?_,?_⟩
      ·intro cs hc
       rcases List.mem_or_eq_of_mem_set hc with h|rfl
       ·exact HCS.o cs h
       ·rfl
      ·rw [List.drop_set_of_lt (by omega)]
       have:(css'.drop j).drop 1=(css.drop j).drop 1:=by rw [HD.o]
       simpa [List.drop_drop] using this
      ·rw [HST.o];simp [HFL.o]
      ·intro a cs x ha h1 h2
       rw [HST.o] at h2
       simp only [Bool.not_false,if_true] at h2
       by_cases hai:a<i
       ·rw [List.getElem?_set_ne (by omega)] at h1
        rw [List.getElem?_append_left (by rw [HFL.o];exact hai)] at h2
        exact HRI.o a cs x hai h1 h2
       ·obtain rfl:a=i:=by omega
        rw [List.getElem?_append_right (by rw [HFL.o];omega),HFL.o,Nat.sub_self] at h2
        rw [List.getElem?_set_self (by rw [HL'.o];omega)] at h1
        obtain rfl:=Option.some.inj h1
        obtain rfl:=Option.some.inj h2
        exact HRW.o
     case measure=>simp [intOf];omega
    ·rw [hq] at HS HST
     generalize l[j]=q at*
     go_wp2_with (go_at_fn F;refine(HS.o _ ((Grow.refl wr).alloc _)).mono ?_;rintro e w1 ⟨rfl,hb1⟩)
     have HB1:=η hb1
     clear hb1
     go_roundw
     case rel=>
      refine⟨i,j+1,css',by omega,by omega,rfl,by go_num,grownBy_trans HGR.o (grownBy_of_grow (((Grow.refl wr).alloc _).trans HB1.o) _),HL'.o,HCS.o,HOWN.o.kept (grownBy_of_grow (((Grow.refl wr).alloc _).trans HB1.o) none) (by right;simp [Value.ownBlock]),?_,?_,?_⟩
      ·have:(css'.drop j).drop 1=(css.drop j).drop 1:=by rw [HD.o]
       simpa [List.drop_drop] using this
      ·rw [HST.o];simp [HFL.o]
      ·intro a cs x ha h1 h2
       rw [HST.o] at h2
       simp only [Bool.not_true,Bool.false_eq_true,if_false,List.append_nil] at h2
       exact HRI.o a cs x ha h1 h2
     case measure=>simp [intOf];omega
   ·obtain rfl:j=l.length:=by omega
    have hic:i≤cap:=by omega
    obtain⟨w2,hcl,HO2,HG2⟩:=clear_run ei_opn 0 HOWN.o i (l.length - i) (cap - i) (some ⟨g,i*4,none⟩) (by omega) (fun _=>rfl) (by omega)
    have HCL:=η hcl
    have HO2':=η HO2
    have HG2':=η HG2
    clear hcl HO2 HG2 eg
    have hil:i<cap:=by omega
    have hil2:i≤l.length:=by omega
    go_wp2_with fail
    rw [HCL.o]
    go_wp2
    go_ret
    refine⟨_,rfl,?_,grownBy_trans HGR.o HG2'.o,rfl⟩
    have hfin:(l.filter fun x=>!p x).length=i:=by have:=HFL.o;rw [List.take_of_length_le (Nat.le_refl _)] at this;exact this
    refine⟨css'.take i,?_,by rw [List.length_take,HL'.o,hfin];omega,fun a cs x h1 h2=>?_⟩
    ·have h:=HO2'.o
     rw [flatten_take css' i HCS.o] at h
     rw [hfin];exact h
    ·rw [List.getElem?_take] at h1
     split at h1
     ·rename_i hai
      have h3:=HRI.o a cs x hai h1 (by rw [List.take_of_length_le (Nat.le_refl _)];exact h2)
      exact h3
     ·cases h1
def sumsOf (k:Int) (D:List Rd) (done:List Int):Sm:=
 done.foldl (fun s d=>match D.find? (isD d) with|some r=>doP s (ofL r.parts k)|none=>s) ⟨0,0,0,0⟩
structure RegOk (G:Reg) (n:Int):Prop where
 nd:(G.map (·.1)).Nodup
 ok:∀x∈G,0≤x.1∧wrongE x.2 n=0
structure DecOk (G:Reg) (D:List Rd):Prop where
 reg:∀r∈D,(r.deed,r.parts)∈G
 nd:(D.map (·.deed)).Nodup
structure HI (G:Reg) (D:List Rd) (k:Int) (h:Hs):Prop where
 calm:Calm h
 reg:∀r∈h.ready,∃P,(r.deed,P)∈G∧r.parts=ofL P k∧r.parts≠ []
 fits:∀r∈h.ready,fitsE h.sums.get r.parts=0
 right:rightS h.sums=true
 done:∀d∈h.done,∃r∈D,r.deed=d∧ofL r.parts k≠ []
 nodup:h.done.Nodup
 apart:∀r∈h.ready,r.deed∉h.done
 sums:h.sums=sumsOf k D h.done
 add:∀q:Int,0≤q→q<4→h.sums.get q=tot k q (D.filter fun r=>decide (r.deed∈h.done))
 log:∀r∈h.log,okRec r=true
theorem reg_same {G:Reg} (h:(G.map (·.1)).Nodup):∀{d:Int} {P Q:List Pt},(d,P)∈G→(d,Q)∈G→P=Q:=by
 induction G with
 |nil=>intro d P Q h;simp at h
 |cons x G ih=>
  intro d P Q h1 h2
  rw [List.map_cons,List.nodup_cons] at h
  rcases List.mem_cons.1 h1 with e1|h1<;>rcases List.mem_cons.1 h2 with e2|h2
  ·rw [←e1] at e2;exact(Prod.mk.inj e2).2.symm
  ·exact absurd (List.mem_map.2 ⟨_,h2,by rw [←e1]⟩) h.1
  ·exact absurd (List.mem_map.2 ⟨_,h1,by rw [←e2]⟩) h.1
  ·exact ih h.2 h1 h2
theorem find_dec {D:List Rd} (h:(D.map (·.deed)).Nodup) {r:Rd} (hr:r∈D):D.find? (isD r.deed)=some r:=by
 induction D with
 |nil=>simp at hr
 |cons x D ih=>
  rw [List.map_cons,List.nodup_cons] at h
  rcases List.mem_cons.1 hr with rfl|hr
  ·rw [List.find?_cons_of_pos (by simp [isD])]
  ·rw [List.find?_cons_of_neg (by simp [isD];exact fun e=>h.1 (List.mem_map.2 ⟨r,hr,e.symm⟩))]
   exact ih h.2 hr
theorem tot_done {k q:Int} {r:Rd}:∀{D:List Rd} {done:List Int},(D.map (·.deed)).Nodup→r∈D→r.deed∉done→
  tot k q (D.filter fun x=>decide (x.deed∈done++ [r.deed]))=tot k q (D.filter fun x=>decide (x.deed∈done))+amt k q r.parts
 | [],done,_,h,_=>by simp at h
 |x::D,done,hn,h,hd=>by
  rw [List.map_cons,List.nodup_cons] at hn
  rcases List.mem_cons.1 h with rfl|h
  ·have e:(D.filter fun x=>decide (x.deed∈done++ [r.deed]))=D.filter fun x=>decide (x.deed∈done):=by
    refine List.filter_congr fun y hy=>?_
    have hne:y.deed≠r.deed:=fun e=>hn.1 (List.mem_map.2 ⟨y,hy,e⟩)
    simp [hne]
   rw [List.filter_cons_of_pos (by simp),List.filter_cons_of_neg (by simpa using hd),tot,e];omega
  ·have ih:=tot_done (k:=k) (q:=q) hn.2 h hd
   have hne:x.deed≠r.deed:=fun e=>hn.1 (List.mem_map.2 ⟨r,h,e.symm⟩)
   by_cases hx:x.deed∈done
   ·rw [List.filter_cons_of_pos (by simp [hx]),List.filter_cons_of_pos (by simp [hx]),tot,tot,ih];omega
   ·rw [List.filter_cons_of_neg (by simp [hx,hne]),List.filter_cons_of_neg (by simp [hx]),ih]
theorem mem_erase {l:List Rd} {d:Int} (hn:(l.map (·.deed)).Nodup) {r:Rd} (h:r∈l.eraseP (isD d)):r∈l∧r.deed≠d:=by
 refine⟨List.eraseP_sublist.subset h,fun e=>?_⟩
 have:=ready_erase (d:=d) hn
 unfold readyE at this
 rw [List.any_eq_false] at this
 exact this r h (by simp [isD,e])
theorem note_sums {h:Hs} (hm:Made h) (r:Rc):(noteE h r).sums=(refStep h r).sums:=by rw [note_step hm]
theorem HI.hear {G:Reg} {D:List Rd} {k:Int} {h:Hs} {n:Int} (hi:HI G D k h) (hg:RegOk G n) (hd:DecOk G D) {m:Ms} (hm:RightM m) (hk:m.house=k)
  (h1:m.kind=1→∃P,(m.deed,P)∈G∧m.parts=ofL P k∧m.parts≠ []) (h4:m.kind=4→∃r∈D,r.deed=m.deed∧ofL r.parts k≠ []):HI G D k (hearH h m):=by
 have hc:=calm_hear hi.calm hm
 obtain⟨kind,d,house,ps⟩:=m
 simp only at hk
 subst hk
 have hmade:=hi.calm.made
 by_cases k1:kind=1
 ·subst k1
  by_cases hv:voteE h d ps=0∧readyE h.ready d=false
  ·have e:hearH h ⟨1,d,house,ps⟩=noteE h ⟨1,d,ps⟩:=by unfold hearH;rw [if_pos rfl,if_pos hv]
   rw [e] at hc ⊢
   obtain⟨P,hP,hps,hne⟩:=h1 rfl
   simp only at hP hps hne
   have hnd:d∉h.done:=by
    intro hx
    have:=hv.1
    unfold voteE at this
    rw [if_pos hx] at this
    cases this
   have hfit:fitsE h.sums.get ps=0:=by
    have:=hv.1
    unfold voteE at this
    rw [if_neg hnd,if_neg (by simp [hv.2])] at this
    split at this
    ·cases this
    ·exact this
   obtain⟨e1,e2⟩:=note1 hmade ps hv.2
   have e3:(noteE h ⟨1,d,ps⟩).sums=h.sums:=by rw [note_sums hmade,step_sums,find_unready hv.2]
   refine⟨hc,?_,?_,by rw [e3];exact hi.right,by rw [e2];exact hi.done,by rw [e2];exact hi.nodup,?_,by rw [e3,e2];exact hi.sums,by rw [e3,e2];exact hi.add,?_⟩
   ·rw [e1]
    intro r hr
    rcases List.mem_append.1 hr with hr|hr
    ·exact hi.reg r hr
    ·obtain rfl:=List.mem_singleton.1 hr
     exact⟨P,hP,hps,hne⟩
   ·rw [e1,e3]
    intro r hr
    rcases List.mem_append.1 hr with hr|hr
    ·exact hi.fits r hr
    ·obtain rfl:=List.mem_singleton.1 hr
     exact hfit
   ·rw [e1,e2]
    intro r hr
    rcases List.mem_append.1 hr with hr|hr
    ·exact hi.apart r hr
    ·obtain rfl:=List.mem_singleton.1 hr
     exact hnd
   ·rw [note_log]
    intro r hr
    rcases List.mem_append.1 hr with hr|hr
    ·exact hi.log r hr
    ·obtain rfl:=List.mem_singleton.1 hr
     have hp:=hm.parts rfl
     have hdd:=hm.deed
     simp only at hp hdd
     unfold okRec
     rw [decide_eq_true_eq]
     exact⟨hdd.1,fun _=>hp.1,fun _=>hne⟩
  ·rw [show hearH h ⟨1,d,house,ps⟩=h by unfold hearH;rw [if_pos rfl,if_neg hv]]
   exact hi
 have hdd:=hm.deed
 simp only at hdd
 have hlog:∀kd:Int,kd≠1→∀r∈(noteE h ⟨kd,d,[]⟩).log,okRec r=true:=by
  intro kd hkd
  rw [note_log]
  intro r hr
  rcases List.mem_append.1 hr with hr|hr
  ·exact hi.log r hr
  ·obtain rfl:=List.mem_singleton.1 hr
   unfold okRec
   rw [decide_eq_true_eq]
   exact⟨hdd.1,fun h=>absurd rfl h,fun h=>absurd h hkd⟩
 by_cases k4:kind=4
 ·subst k4
  by_cases hr:readyE h.ready d=true
  ·have e:hearH h ⟨4,d,house,ps⟩=noteE h ⟨2,d,[]⟩:=by unfold hearH;simp [hr]
   rw [e] at hc ⊢
   obtain⟨e1,e2⟩:=note2 hmade hr
   obtain⟨x,hx⟩:=find_ready hr
   have hxm:=List.mem_of_find?_eq_some hx
   have hxd:x.deed=d:=find_isD hx
   obtain⟨P,hP,hxp,hxne⟩:=hi.reg x hxm
   obtain⟨r,hrD,hrd,hrne⟩:=h4 rfl
   simp only at hrd
   have hrG:=hd.reg r hrD
   rw [hrd,←hxd] at hrG
   obtain rfl:P=r.parts:=reg_same hg.nd hP hrG
   have hw:=(hg.ok _ hP).2
   simp only at hw
   have e3:(noteE h ⟨2,d,[]⟩).sums=doP h.sums (ofL r.parts house):=by
    rw [note_sums hmade,step_sums,hx]
    simp [hxp]
   have hfit:=hi.fits x hxm
   rw [hxp] at hfit
   have hget:=(fits_sum hw hi.right house).1 hfit
   have hsum:∀q:Int,0≤q→q<4→(doP h.sums (ofL r.parts house)).get q=h.sums.get q+amt house q r.parts:=fun q a b=>doP_sum hw hi.right house a b
   have hnd:d∉h.done:=by rw [←hxd];exact hi.apart x hxm
   refine⟨hc,?_,?_,?_,?_,?_,?_,?_,?_,hlog 2 (by decide)⟩
   ·rw [e1]
    exact fun y hy=>hi.reg y (mem_erase hi.calm.fine.nodup hy).1
   ·rw [e1,e3]
    intro y hy
    obtain⟨hy1,hy2⟩:=mem_erase hi.calm.fine.nodup hy
    rw [←hi.fits y hy1]
    obtain⟨Q,hQ,hyp,-⟩:=hi.reg y hy1
    have hwQ:=(hg.ok _ hQ).2
    simp only at hwQ
    refine fits_congr fun p hp=>?_
    rw [hyp] at hp
    have hpk:=ofL_ok hwQ house p hp
    rw [hsum p.k hpk.1 hpk.2]
    have hz:has house p.k r.parts=false:=by
     cases hh:has house p.k r.parts with
     |false=>rfl
     |true=>
      have k1:=who_deed hi.calm.apart x hxm (by rw [hxp];exact has_keys hh)
      have k2:=who_deed (key:=p.k) hi.calm.apart y hy1 (by rw [hyp];exact List.mem_map.2 ⟨p,hp,rfl⟩)
      exact absurd (by rw [←k2,k1,hxd]) hy2
    rw [amt_none hz];omega
   ·rw [e3]
    exact rightS_get.2 fun q a b=>by rw [hsum q a b];exact hget q a b
   ·rw [e2]
    intro y hy
    rcases List.mem_append.1 hy with hy|hy
    ·exact hi.done y hy
    ·obtain rfl:=List.mem_singleton.1 hy
     exact⟨r,hrD,hrd,hrne⟩
   ·rw [e2,List.nodup_append]
    refine⟨hi.nodup,by simp,fun a ha b hb e=>?_⟩
    rw [e,List.mem_singleton.1 hb] at ha
    exact hnd ha
   ·rw [e1,e2]
    intro y hy
    obtain⟨hy1,hy2⟩:=mem_erase hi.calm.fine.nodup hy
    simp only [List.mem_append,List.mem_singleton,not_or]
    exact⟨hi.apart y hy1,hy2⟩
   ·rw [e3,e2]
    unfold sumsOf
    rw [List.foldl_append]
    show _=(match D.find? (isD d) with|some r=>doP (sumsOf house D h.done) (ofL r.parts house)|none=>_)
    rw [←hrd,find_dec hd.nd hrD]
    simp only
    rw [←hi.sums]
   ·intro q a b
    rw [e3,e2,hsum q a b,hi.add q a b]
    have:=tot_done (k:=house) (q:=q) hd.nd hrD (done:=h.done) (by rw [hrd];exact hnd)
    rw [hrd] at this
    rw [this]
  ·rw [show hearH h ⟨4,d,house,ps⟩=h by unfold hearH;simp [hr]]
   exact hi
 by_cases k5:kind=5
 ·subst k5
  by_cases hr:readyE h.ready d=true
  ·have e:hearH h ⟨5,d,house,ps⟩=noteE h ⟨3,d,[]⟩:=by unfold hearH;simp [hr]
   rw [e] at hc ⊢
   obtain⟨e1,e2⟩:=note3 hmade hr
   obtain⟨x,hx⟩:=find_ready hr
   have e3:(noteE h ⟨3,d,[]⟩).sums=h.sums:=by rw [note_sums hmade,step_sums,hx];simp
   have hsub:∀y∈h.ready.eraseP (isD d),y∈h.ready:=fun y hy=>List.eraseP_sublist.subset hy
   exact⟨hc,by rw [e1];exact fun y hy=>hi.reg y (hsub y hy),by rw [e1,e3];exact fun y hy=>hi.fits y (hsub y hy),by rw [e3];exact hi.right,by rw [e2];exact hi.done,by rw [e2];exact hi.nodup,
    by rw [e1,e2];exact fun y hy=>hi.apart y (hsub y hy),by rw [e3,e2];exact hi.sums,by rw [e3,e2];exact hi.add,hlog 3 (by decide)⟩
  ·rw [show hearH h ⟨5,d,house,ps⟩=h by unfold hearH;simp [hr]]
   exact hi
 ·rw [show hearH h ⟨kind,d,house,ps⟩=h by unfold hearH;simp [k1,k4,k5]]
  exact hi
theorem HI.more {G G':Reg} {D:List Rd} {k:Int} {h:Hs} (hi:HI G D k h) (hG:∀x∈G,x∈G'):HI G' D k h:=
 ⟨hi.calm,fun r hr=>by obtain⟨P,a,b⟩:=hi.reg r hr;exact⟨P,hG _ a,b⟩,hi.fits,hi.right,hi.done,hi.nodup,hi.apart,hi.sums,hi.add,hi.log⟩
theorem sumsOf_more {k:Int} {D:List Rd} {r:Rd}:∀{done:List Int} (s:Sm),(∀d∈done,∃r∈D,r.deed=d)→
  done.foldl (fun s d=>match (D++ [r]).find? (isD d) with|some r=>doP s (ofL r.parts k)|none=>s) s=done.foldl (fun s d=>match D.find? (isD d) with|some r=>doP s (ofL r.parts k)|none=>s) s
 | [],s,_=>rfl
 |d::done,s,h=>by
  obtain⟨x,hx,hd⟩:=h d List.mem_cons_self
  have:(D.find? (isD d)).isSome=true:=by rw [List.find?_isSome];exact⟨x,hx,by simp [isD,hd]⟩
  obtain⟨y,hy⟩:=Option.isSome_iff_exists.1 this
  rw [List.foldl_cons,List.foldl_cons,List.find?_append,hy]
  exact sumsOf_more _ fun e he=>h e (List.mem_cons_of_mem _ he)
theorem HI.dec {G:Reg} {D:List Rd} {k:Int} {h:Hs} {r:Rd} (hi:HI G D k h) (hr:r.deed∉h.done):HI G (D++ [r]) k h:=by
 refine⟨hi.calm,hi.reg,hi.fits,hi.right,fun d hd=>?_,hi.nodup,hi.apart,?_,fun q a b=>?_,hi.log⟩
 ·obtain⟨x,hx,e⟩:=hi.done d hd
  exact⟨x,List.mem_append_left _ hx,e⟩
 ·unfold sumsOf
  rw [sumsOf_more _ fun d hd=>by obtain⟨x,hx,e,-⟩:=hi.done d hd;exact⟨x,hx,e⟩]
  exact hi.sums
 ·rw [List.filter_append,List.filter_cons_of_neg (by simpa using hr),List.filter_nil,List.append_nil]
  exact hi.add q a b
theorem HI.zero (G:Reg) (D:List Rd) (k:Int):HI G D k hs0:=by
 refine⟨calm_zero,by intro r hr;simp [hs0,houseR] at hr,by intro r hr;simp [hs0,houseR] at hr,by decide,by intro r hr;simp [hs0,houseR] at hr,by simp [hs0,houseR],by intro r hr;simp [hs0,houseR] at hr,rfl,?_,by intro r hr;simp [hs0,houseR] at hr⟩
 intro q a b
 have:(D.filter fun r=>decide (r.deed∈hs0.done))=[]:=by
  rw [List.filter_eq_nil_iff];intro x _;simp [hs0,houseR]
 rw [this]
 have hq:q=0∨q=1∨q=2∨q=3:=by omega
 rcases hq with rfl|rfl|rfl|rfl<;>rfl
def rdy (hs:List Hs) (k d:Int):Prop:=∃h,hs[k.toNat]? =some h∧readyE h.ready d=true
def dne (hs:List Hs) (k d:Int):Prop:=∃h,hs[k.toNat]? =some h∧d∈h.done
structure Core (n:Nat) (G:Reg) (hd:Hd) (hs:List Hs):Prop where
 len:hs.length=n
 n3:1≤n∧n≤3
 reg:RegOk G n
 old:∀x∈G,x.1<64*hd.boot+hd.next
 boot:1≤hd.boot∧hd.boot≤20
 next:0≤hd.next∧hd.next≤64
 lboot:(headR hd.log).boot=hd.boot
 lopn:∀d P,(∃o∈(headR hd.log).opn,o.deed=d∧o.parts=P)↔∃o∈hd.opn,o.deed=d∧o.parts=P∧o.dec=true
 lnd:((headR hd.log).opn.map (·.deed)).Nodup
 ldec:∀o∈(headR hd.log).opn,o.dec=true∧o.heard=[]
 ond:(hd.opn.map (·.deed)).Nodup
 oreg:∀o∈hd.opn,(o.deed,o.parts)∈G
 olen:hd.opn.length≤12
 odec:∀o∈hd.opn,(o.dec=true↔∃r∈decidedR hd.log,r.deed=o.deed)
 onew:∀o∈hd.opn,o.heard.Nodup∧(∀k∈o.heard,k∈housesE o.parts)∧o.heard.length<(housesE o.parts).length
 ordy:∀o∈hd.opn,o.dec=false→∀k∈o.heard,rdy hs k o.deed
 odne:∀o∈hd.opn,o.dec=true→∀k∈o.heard,dne hs k o.deed
 dec:DecOk G (decidedR hd.log)
 held:∀r∈decidedR hd.log,∀k∈housesE r.parts,rdy hs k r.deed∨dne hs k r.deed
 ends:∀r∈decidedR hd.log,(∀o∈hd.opn,o.deed≠r.deed)→∀k∈housesE r.parts,dne hs k r.deed
 house:∀(k:Nat) h,hs[k]? =some h→HI G (decidedR hd.log) k h
 ord:(decidedR hd.log).Pairwise fun r1 r2=>∀k q,has k q r1.parts=true→has k q r2.parts=true→dne hs k r1.deed
 pre:∀A B,decidedR hd.log=A++B→∀k q,0≤tot k q A∧tot k q A≤1048576
structure MOk (n:Nat) (G:Reg) (hd:Hd) (hs:List Hs) (m:Ms):Prop where
 right:RightM m
 here:m.house<n
 reg:∃P,(m.deed,P)∈G∧m.house∈housesE P∧(m.kind=1→m.parts=ofL P m.house)
 yes:m.kind=2→∀o∈hd.opn,o.deed=m.deed→o.dec=false→rdy hs m.house m.deed
 commit:m.kind=4→∃r∈decidedR hd.log,r.deed=m.deed
 abort:m.kind=5→((∀r∈decidedR hd.log,r.deed≠m.deed)∧∀o∈hd.opn,o.deed≠m.deed)∨dne hs m.house m.deed
 ack:m.kind=6→dne hs m.house m.deed
theorem set_get {hs:List Hs} {k:Int} {h h':Hs} (hk:hs[k.toNat]? =some h) (j:Int):(hs.set k.toNat h')[j.toNat]? =if j.toNat=k.toNat then some h' else hs[j.toNat]?:=by
 have hl:=(List.getElem?_eq_some_iff.1 hk).1
 by_cases e:j.toNat=k.toNat
 ·rw [if_pos e,e,List.getElem?_set_self hl]
 ·rw [if_neg e,List.getElem?_set_ne (fun e'=>e e'.symm)]
theorem rdy_set {hs:List Hs} {k:Int} {h h':Hs} (hk:hs[k.toNat]? =some h) {j d:Int} (hr:rdy hs j d) (hh:j.toNat=k.toNat→readyE h.ready d=true→readyE h'.ready d=true):rdy (hs.set k.toNat h') j d:=by
 obtain⟨x,hx,hd⟩:=hr
 unfold rdy
 rw [set_get hk]
 by_cases e:j.toNat=k.toNat
 ·rw [if_pos e]
  rw [e,hk] at hx
  obtain rfl:=Option.some.inj hx
  exact⟨_,rfl,hh e hd⟩
 ·rw [if_neg e];exact⟨x,hx,hd⟩
theorem dne_set {hs:List Hs} {k:Int} {h h':Hs} (hk:hs[k.toNat]? =some h) (hh:∀d∈h.done,d∈h'.done) {j d:Int} (hr:dne hs j d):dne (hs.set k.toNat h') j d:=by
 obtain⟨x,hx,hd⟩:=hr
 unfold dne
 rw [set_get hk]
 by_cases e:j.toNat=k.toNat
 ·rw [if_pos e]
  rw [e,hk] at hx
  obtain rfl:=Option.some.inj hx
  exact⟨_,rfl,hh _ hd⟩
 ·rw [if_neg e];exact⟨x,hx,hd⟩
theorem Core.house' {n:Nat} {G:Reg} {hd:Hd} {hs:List Hs} (c:Core n G hd hs) {k:Int} {h:Hs} (h0:0≤k) (hk:hs[k.toNat]? =some h):HI G (decidedR hd.log) k h:=by
 have:=c.house k.toNat h hk
 rwa [show((k.toNat:Nat):Int)=k by omega] at this
theorem Core.ready_parts {n:Nat} {G:Reg} {hd:Hd} {hs:List Hs} (c:Core n G hd hs) {k d:Int} (h0:0≤k) (h:rdy hs k d) {P:List Pt} (hP:(d,P)∈G):
  ∃h,hs[k.toNat]? =some h∧HI G (decidedR hd.log) k h∧(⟨d,ofL P k⟩:Rd)∈h.ready∧d∉h.done:=by
 obtain⟨x,hx,hr⟩:=h
 have hi:=c.house' h0 hx
 obtain⟨y,hy⟩:=find_ready hr
 have hym:=List.mem_of_find?_eq_some hy
 have hyd:y.deed=d:=find_isD hy
 obtain⟨Q,hQ,hp,-⟩:=hi.reg y hym
 rw [hyd] at hQ
 obtain rfl:=reg_same c.reg.nd hQ hP
 refine⟨x,hx,hi,?_,by rw [←hyd];exact hi.apart y hym⟩
 rw [←hyd,←hp];exact hym
theorem Core.not_both {n:Nat} {G:Reg} {hd:Hd} {hs:List Hs} (c:Core n G hd hs) {k d:Int} (h0:0≤k) (h:rdy hs k d):¬dne hs k d:=by
 rintro⟨y,hy,hyd⟩
 obtain⟨x,hx,hr⟩:=h
 rw [hx] at hy
 obtain rfl:=Option.some.inj hy
 have hi:=c.house' h0 hx
 obtain⟨z,hz⟩:=find_ready hr
 have:=hi.apart z (List.mem_of_find?_eq_some hz)
 rw [find_isD hz] at this
 exact this hyd
theorem Core.done_dec {n:Nat} {G:Reg} {hd:Hd} {hs:List Hs} (c:Core n G hd hs) {k d:Int} (h0:0≤k) (h:dne hs k d):∃r∈decidedR hd.log,r.deed=d:=by
 obtain⟨x,hx,hr⟩:=h
 obtain⟨r,a,b,-⟩:=(c.house' h0 hx).done d hr
 exact⟨r,a,b⟩
theorem Core.hear {n:Nat} {G:Reg} {hd:Hd} {hs:List Hs} (c:Core n G hd hs) {m:Ms} (hm:MOk n G hd hs m) {h:Hs} (hk:hs[m.house.toNat]? =some h):
  Core n G hd (hs.set m.house.toNat (hearH h m))∧(∀x,MOk n G hd hs x→MOk n G hd (hs.set m.house.toNat (hearH h m)) x)∧∀x∈hearM h m.house m,MOk n G hd (hs.set m.house.toNat (hearH h m)) x:=by
 have hk0:=hm.right.house.1
 have hi:=c.house' hk0 hk
 obtain⟨P,hP,hPk,hPp⟩:=hm.reg
 have hPne:=(houses_mem.1 hPk).2
 have hmade:=hi.calm.made
 have hi':HI G (decidedR hd.log) m.house (hearH h m):=by
  refine hi.hear c.reg c.dec hm.right rfl (fun h1=>⟨P,hP,hPp h1,by rw [hPp h1];exact hPne⟩) fun h4=>?_
  obtain⟨r,hr,hrd⟩:=hm.commit h4
  have:=c.dec.reg r hr
  rw [hrd] at this
  obtain rfl:=reg_same c.reg.nd this hP
  exact⟨r,hr,hrd,hPne⟩
 have hfine:=hi.calm.fine
 have hdone:∀d∈h.done,d∈(hearH h m).done:=by
  intro d hd'
  unfold hearH
  split
  ·split
   ·rename_i hv
    rw [(note1 hmade _ hv.2).2];exact hd'
   ·exact hd'
  ·split
   ·split
    ·rename_i hr
     rw [(note2 hmade hr).2];exact List.mem_append_left _ hd'
    ·exact hd'
   ·split
    ·split
     ·rename_i hr
      rw [(note3 hmade hr).2];exact hd'
     ·exact hd'
    ·exact hd'
 have hready:∀d,readyE h.ready d=true→readyE (hearH h m).ready d=true∨(d=m.deed∧m.kind=4∧d∈(hearH h m).done)∨(d=m.deed∧m.kind=5):=by
  intro d hr
  unfold hearH
  split
  ·split
   ·rename_i hv
    left
    rw [(note1 hmade _ hv.2).1]
    unfold readyE at hr ⊢
    rw [List.any_append,hr];rfl
   ·exact .inl hr
  ·split
   ·rename_i h4
    split
    ·rename_i hr2
     by_cases e:m.deed=d
     ·right;left
      refine⟨e.symm,h4,?_⟩
      rw [(note2 hmade hr2).2,←e];simp
     ·left
      rw [(note2 hmade hr2).1];exact ready_other hr e
    ·exact .inl hr
   ·split
    ·rename_i h5
     split
     ·rename_i hr2
      by_cases e:m.deed=d
      ·exact .inr (.inr ⟨e.symm,h5⟩)
      ·left
       rw [(note3 hmade hr2).1];exact ready_other hr e
     ·exact .inl hr
    ·exact .inl hr
 have hyes:m.kind=1→voteE h m.deed m.parts=0→readyE (hearH h m).ready m.deed=true:=by
  intro h1 hv
  unfold hearH
  rw [if_pos h1]
  split
  ·rename_i hv2
   rw [(note1 hmade _ hv2.2).1]
   simp [readyE,isD]
  ·rename_i hv2
   cases hr:readyE h.ready m.deed with
   |true=>rfl
   |false=>exact absurd ⟨hv,hr⟩ hv2
 obtain⟨h',hh'⟩:∃x,x=hearH h m:=⟨_,rfl⟩
 rw [←hh'] at hi' hdone hready hyes ⊢
 have D1:∀{j d:Int},dne hs j d→dne (hs.set m.house.toNat h') j d:=fun hx=>dne_set hk hdone hx
 have hund:∀o∈hd.opn,o.dec=false→m.kind=4→o.deed≠m.deed:=by
  intro o ho hod h4 e
  obtain⟨r,hr,hrd⟩:=hm.commit h4
  have:=(c.odec o ho).2 ⟨r,hr,by rw [hrd,e]⟩
  rw [hod] at this;cases this
 have hab:m.kind=5→readyE h.ready m.deed=true→(∀r∈decidedR hd.log,r.deed≠m.deed)∧∀o∈hd.opn,o.deed≠m.deed:=by
  intro h5 hr
  rcases hm.abort h5 with hx|hx
  ·exact hx
  ·exact absurd hx (c.not_both hk0 ⟨h,hk,hr⟩)
 have R1:∀{j d:Int},rdy hs j d→(∃r∈decidedR hd.log,r.deed=d)→0≤j→rdy (hs.set m.house.toNat h') j d∨dne (hs.set m.house.toNat h') j d:=by
  intro j d hr hdD hj
  by_cases e:j.toNat=m.house.toNat
  ·obtain rfl:j=m.house:=by omega
   obtain⟨x,hx,hxr⟩:=hr
   rw [hk] at hx
   obtain rfl:=Option.some.inj hx
   rcases hready d hxr with h1|⟨h1,h2,h3⟩|⟨h1,h2⟩
   ·exact .inl (rdy_set hk ⟨h,hk,hxr⟩ fun _ _=>h1)
   ·right
    refine⟨h',?_,h3⟩
    rw [set_get hk,if_pos rfl]
   ·subst h1
    obtain⟨r,hrD,hrd⟩:=hdD
    exact absurd hrd ((hab h2 hxr).1 r hrD)
  ·exact .inl (rdy_set hk hr fun e'=>absurd e' e)
 have R2:∀{j d:Int},rdy hs j d→(∃o∈hd.opn,o.deed=d∧o.dec=false)→rdy (hs.set m.house.toNat h') j d:=by
  intro j d hr ⟨o,ho,hod,hoc⟩
  refine rdy_set hk hr fun _ hxr=>?_
  rcases hready d hxr with h1|⟨h1,h2,-⟩|⟨h1,h2⟩
  ·exact h1
  ·exact absurd (hod.trans h1) (hund o ho hoc h2)
  ·subst h1
   exact absurd hod ((hab h2 hxr).2 o ho)
 have hc':Core n G hd (hs.set m.house.toNat h'):={
  len:=by rw [List.length_set];exact c.len
  n3:=c.n3
  reg:=c.reg
  old:=c.old
  boot:=c.boot
  next:=c.next
  lboot:=c.lboot
  lopn:=c.lopn
  lnd:=c.lnd
  ldec:=c.ldec
  ond:=c.ond
  oreg:=c.oreg
  olen:=c.olen
  odec:=c.odec
  onew:=c.onew
  ordy:=fun o ho hoc k hk'=>R2 (c.ordy o ho hoc k hk') ⟨o,ho,rfl,hoc⟩
  odne:=fun o ho hoc k hk'=>D1 (c.odne o ho hoc k hk')
  dec:=c.dec
  held:=fun r hr k hk'=>by
   rcases c.held r hr k hk' with hx|hx
   ·exact R1 hx ⟨r,hr,rfl⟩ (by have:=(houses_mem.1 hk').1;omega)
   ·exact .inr (D1 hx)
  ends:=fun r hr ho k hk'=>D1 (c.ends r hr ho k hk')
  house:=fun k x hx=>by
   by_cases e:k=m.house.toNat
   ·subst e
    rw [List.getElem?_set_self (List.getElem?_eq_some_iff.1 hk).1] at hx
    obtain rfl:=Option.some.inj hx
    rwa [show((m.house.toNat:Nat):Int)=m.house by omega]
   ·rw [List.getElem?_set_ne (fun e'=>e e'.symm)] at hx
    exact c.house k x hx
  ord:=c.ord.imp fun hx k q h1 h2=>D1 (hx k q h1 h2)
  pre:=c.pre }
 have hM:∀x,MOk n G hd hs x→MOk n G hd (hs.set m.house.toNat h') x:=fun x hx=>{
  right:=hx.right
  here:=hx.here
  reg:=hx.reg
  yes:=fun h2 o ho hod hoc=>R2 (hx.yes h2 o ho hod hoc) ⟨o,ho,hod,hoc⟩
  commit:=hx.commit
  abort:=fun h5=>by
   rcases hx.abort h5 with hy|hy
   ·exact .inl hy
   ·exact .inr (D1 hy)
  ack:=fun h6=>D1 (hx.ack h6) }
 refine⟨hc',hM,?_⟩
 have hget:(hs.set m.house.toNat h')[m.house.toNat]? =some h':=by rw [set_get hk,if_pos rfl]
 have hR:∀kd:Int,1<kd→kd≤7→RightM ⟨kd,m.deed,m.house,[]⟩:=fun kd a b=>⟨⟨by show 1≤kd;omega,b⟩,hm.right.deed,hm.right.house,fun _=>rfl,fun e=>absurd (show kd=1 from e) (by omega)⟩
 intro x hx
 unfold hearM at hx
 split at hx
 ·rename_i h1
  split at hx
  ·simp at hx
  ·split at hx
   ·rename_i hv
    obtain rfl:=List.mem_singleton.1 hx
    exact⟨hR 2 (by omega) (by omega),hm.here,⟨P,hP,hPk,(fun e=>by cases e)⟩,fun _ _ _ _ _=>⟨h',hget,hyes h1 hv⟩,(fun e=>by cases e),(fun e=>by cases e),(fun e=>by cases e)⟩
   ·obtain rfl:=List.mem_singleton.1 hx
    exact⟨hR 3 (by omega) (by omega),hm.here,⟨P,hP,hPk,(fun e=>by cases e)⟩,(fun e=>by cases e),(fun e=>by cases e),(fun e=>by cases e),(fun e=>by cases e)⟩
 ·split at hx
  ·rw [←hh'] at hx
   split at hx
   ·rename_i hd6
    obtain rfl:=List.mem_singleton.1 hx
    exact⟨hR 6 (by omega) (by omega),hm.here,⟨P,hP,hPk,(fun e=>by cases e)⟩,(fun e=>by cases e),(fun e=>by cases e),(fun e=>by cases e),fun _=>⟨h',hget,hd6⟩⟩
   ·simp at hx
  ·simp at hx
end Go.Proofs.YthfgeelcbcgahaaGreatDoor
