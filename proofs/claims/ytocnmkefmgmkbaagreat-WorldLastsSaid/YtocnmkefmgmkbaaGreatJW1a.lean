/- Parts of proofs, joined: Base, Types, Ty, Idx, Del, Own, App, Aux1, P1, P2, P3, P4, P6, Reg, RegM, Ov, H1, Map, P5, W1, W2, L1, L2, L3, W3, S1, K1, A6, N1, N2, N3, N4, N5, Clone. No condition beside those that each theorem names. -/
import Derived.WalkKit
import Derived.WalkSpells
import Derived.WalkLawsBesides
import Derived.BigQuiet
import Derived.StillTailTactics
import Derived.Deep.RegionWith
import Derived.Deep.RegionLaw
import Derived.Lib.Hide
import Derived.Test.YtocnmkefmgmkbaaGreatRows
import Derived.Shelf.SlicesQ.IndexFunc
import Derived.Lib.SliceRun
import Derived.Deep.AppendLies
import Derived.Deep.RegionHeld3
import Derived.ChangeKeysEq
set_option maxRecDepth 100000
set_option maxHeartbeats 40000000
namespace Go.Proofs.YtocnmkefmgmkbaaGreat
theorem lzA {α : Type _} {xs : List α} {i : Nat} (h : i < xs.toArray.size) : xs.toArray[i] = xs[i]'(by simpa using h) := List.getElem_toArray h
theorem lzB {α : Type _} {a : α} {ys : List α} {i : Nat} (h : i + 1 < (a :: ys).length) : (a :: ys)[i + 1] = ys[i]'(Nat.lt_of_succ_lt_succ h) := List.getElem_cons_succ ..
theorem lzC {α : Type _} {a : α} {ys : List α} (h : 0 < (a :: ys).length) : (a :: ys)[0] = a := rfl
theorem uh {α : Type _} (l : List α) (i : Nat) (a : α) : l.toArray.setIfInBounds i a = (l.set i a).toArray := List.setIfInBounds_toArray ..
theorem uj {α : Type _} {x a : α} {xs : List α} : (x :: xs).set 0 a = a :: xs := rfl
theorem um {α : Type _} {x a : α} {xs : List α} {n : Nat} : (x :: xs).set (n + 1) a = x :: xs.set n a := rfl
theorem η {p : Prop} (h : p) : Go.RowKit.Hid p := Lib.hid h
theorem γ {α : Type _} {xs : Array α} {i : Nat} {a : α} (h : xs[i]? = some a) : i < xs.size := (Array.getElem?_eq_some_iff.1 h).1
theorem _root_.Go.RowKit.Hid.o {p : Prop} (h : Go.RowKit.Hid p) : p := h.out
theorem gY {a w : World} (h : Go.RowKit.Below a.heap.size a w := by repeat (first | with_reducible assumption | with_reducible exact Grow.refl _ | with_reducible apply Grow.drewN | with_reducible apply Grow.drew | with_reducible apply Grow.alloc | (refine Grow.setCell ?_ (by simp; done) _))) : Go.RowKit.Below a.heap.size a w := h
theorem Ce {a w : World} (h : Go.RowKit.Below a.heap.size a w := by repeat (first | with_reducible assumption | with_reducible exact Grow.refl _ | with_reducible apply Grow.drewN | with_reducible apply Grow.drew | with_reducible apply Grow.alloc | (refine Grow.trans ?_ (by with_reducible assumption)))) : Go.RowKit.Below a.heap.size a w := h
theorem δ {p : Prop} (h : p := by omega) : p := h
theorem κ {p : Prop} (h : p := by kernel_rfl) : p := h
theorem ρ {p : Prop} (h : p := by rfl) : p := h
theorem ε {p : Prop} (h : p := by decide) : p := h
theorem σ {p : Prop} (h : p := by simp) : p := h
theorem lzP {a : Go.Act} {d : Nat} {v : Go.Value} : a.put (some d) v = { a with tmps := a.tmps.setIfInBounds d v } := rfl
theorem lzQ {a : Go.Act} {v : Go.Value} : a.put none v = a := rfl
theorem aV : type_of% (And.intro @lzA.{0} (And.intro @lzB.{0} @lzC.{0})) := And.intro @lzA.{0} (And.intro @lzB.{0} @lzC.{0})
theorem aK : type_of% (And.intro @lzP (And.intro @lzQ (And.intro aV (And.intro @uh.{0} (And.intro @uj.{0} @um.{0}))))) := And.intro @lzP (And.intro @lzQ (And.intro aV (And.intro @uh.{0} (And.intro @uj.{0} @um.{0}))))
inductive Vq where | q
def ι := Vq.q
inductive Vs where | q
def ς := Vs.q
instance : CoeFun Vq (fun _ => Int → Go.Value) := ⟨fun _ => .int .i64⟩
instance : CoeFun Vs (fun _ => Option Go.Addr → Nat → Nat → Go.Value) := ⟨fun _ => .slice⟩
instance : Coe Unit Go.Value := ⟨fun _ => .slice none 0 0⟩
instance : Coe Go.World Nat := ⟨fun w => w.heap.size⟩
theorem τ {q p : Prop} (h : q) (k : q → p := by intro _; omega) : p := k h
theorem ω {q p : Prop} (h : q) (k : q → p := by intro this; (try simp at this); omega) : p := k h
theorem φ {q p : Prop} (h : q) (k : q → p := by intro this; (try simp); omega) : p := k h
theorem iO : type_of% (And.intro (@List.length_nil.{0}) (And.intro (@List.length_cons.{0}) Nat.zero_add)) := And.intro (@List.length_nil.{0}) (And.intro (@List.length_cons.{0}) Nat.zero_add)
end Go.Proofs.YtocnmkefmgmkbaaGreat
namespace Go.Proofs.YtocnmkefmgmkbaaGreat
open Go.RowKit
abbrev CM:=Addr->Option Value
def Sub (c c':CM):Prop:=∀a v,c a=some v->c' a=some v
theorem Sub.refl (c:CM):Sub c c:=fun _ _ h=>h
theorem Sub.trans {a b c:CM} (h:Sub a b) (k:Sub b c):Sub a c:=fun x v e=>k x v (h x v e)
theorem Sub.below {w w':World} (h:Below w.heap.size w w'):Sub w.cell? w'.cell?:=fun a v e=>by
 rw [h.cell (World.block_lt_of_cell? w a e)];exact e
abbrev Grow (w w':World):Prop:=Below w.heap.size w w'
theorem Grow.refl (w:World):Grow w w:=Below.refl _ _
theorem Grow.trans {a b c:World} (h:Grow a b) (k:Grow b c):Grow a c:=Below.trans h (k.mono h.size)
theorem Grow.alloc {a w:World} (h:Grow a w) (o:Obj):Grow a (w.alloc o):=Below.alloc h h.size o
theorem Grow.drew {a w:World} (h:Grow a w):Grow a w.drew:=Below.drew h
theorem Grow.drewN {a w:World} (h:Grow a w) (n:Nat):Grow a (w.drewN n):=below_drewN h n
theorem Grow.setCell {a w:World} (h:Grow a w) {p:Addr} (hp:a.heap.size<=p.block) (u:Value):Grow a (w.setCell p u):=Below.setCell h hp u
theorem Grow.grown {a w w':World} {row:Option Nat} (h:Grow a w) (hg:w.grownBy w' row) (hr:∀k,row=some k->a.heap.size<=k):Grow a w':=Below.grown h hg h.size hr
theorem Grow.sub {w w':World} (h:Grow w w'):Sub w.cell? w'.cell?:=Sub.below h
theorem fJ {W w1:World} (hb:Grow W w1):(∀b o,b<W.heap.size->w1.cell? ⟨b,o,none⟩=W.cell? ⟨b,o,none⟩)/\(∀b o,b<W.heap.size->w1.frozen? ⟨b,o,none⟩=W.frozen? ⟨b,o,none⟩):=
 ⟨fun b o h=>hb.cell (p:=⟨b,o,none⟩) h,fun b o h=>hb.frozen (p:=⟨b,o,none⟩) h⟩
theorem bC {k:IntKind} {a b:Int} (h:a=b):Ending.returned (.int k a)=.returned (.int k b):=by rw [h]
theorem bK {a b:Bool} (h:a=b):Ending.returned (.bool a)=.returned (.bool b):=by rw [h]
def At (c:CM) (b o:Nat) (xs:List Value):Prop:=∀j v,xs[j]? =some v->c ⟨b,o+j,none⟩=some v
theorem At.mono {c c':CM} {b o:Nat} {xs:List Value} (h:Sub c c') (k:At c b o xs):At c' b o xs:=fun j v e=>h _ _ (k j v e)
structure Ty (α:Type) where
 size:Nat
 R:CM->List Value->α->Prop
 len:∀{c cs x},R c cs x->cs.length=size
 mono:∀{c c' cs x},Sub c c'->R c cs x->R c' cs x
def Sl {α:Type} (T:Ty α) (c:CM) (v:Value) (l:List α):Prop:=
 ∃a cap,v=ς a l.length cap/\l.length<=cap/\cap<=maxLen/\(a=none->cap=0)/\
  ∀i x,l[i]? =some x->∃b o cs,a=some ⟨b,o,none⟩/\T.R c cs x/\At c b (o+i*T.size) cs
theorem Sl.mono {α:Type} {T:Ty α} {c c':CM} {v:Value} {l:List α} (h:Sub c c') (k:Sl T c v l):Sl T c' v l:=by
 obtain⟨a,cap,hv,h1,h2,h0,h3⟩:=k;refine⟨a,cap,hv,h1,h2,h0,fun i x e=>?_⟩;obtain⟨b,o,cs,ha,hR,hA⟩:=h3 i x e;exact⟨b,o,cs,ha,T.mono h hR,hA.mono h⟩
def Ty.sl {α:Type} (T:Ty α):Ty (List α) where
 size:=1
 R:=fun c cs l=>∃v,cs=[v]/\Sl T c v l
 len:=by rintro c cs x ⟨v,rfl,_⟩;rfl
 mono:=by rintro c c' cs x h ⟨v,rfl,k⟩;exact⟨v,rfl,k.mono h⟩
def I64 (n:Int):Prop:=(Lit.int .i64 n).wf=true
def Ty.int:Ty Int where
 size:=1
 R:=fun _ cs n=>cs=[ι n]/\I64 n
 len:=by rintro c cs x ⟨rfl,_⟩;rfl
 mono:=by rintro c c' cs x _ h;exact h
structure Pt where
 h:Int
 k:Int
 n:Int
 deriving DecidableEq
def Pt.cells (p:Pt):List Value:=[ι p.h,ι p.k,ι p.n]
def Ty.pt:Ty Pt where
 size:=3
 R:=fun _ cs p=>cs=p.cells/\I64 p.h/\I64 p.k/\I64 p.n
 len:=by rintro c cs x ⟨rfl,_⟩;rfl
 mono:=by rintro c c' cs x _ h;exact h
abbrev m_:=Sl Ty.pt
theorem Dh {α:Type} {f:α->List Value} {size:Nat} (h0:0<size) (hf:∀x,(f x).length=size):∀(l:List α) (j:Nat),(l.flatMap f)[j]? =(l[j/size]?).bind fun x=>(f x)[j % size]?:=by
 intro l;induction l with
 |nil=>intro j;simp
 |cons x l ih=>
  intro j;rw [List.flatMap_cons];by_cases hj:j<size
  ·rw [List.getElem?_append_left (by rw [hf];exact hj),Nat.div_eq_of_lt hj,Nat.mod_eq_of_lt hj];rfl
  ·rw [List.getElem?_append_right (by rw [hf];omega),hf,ih,Nat.mod_eq_sub_mod (δ:size<=j),Nat.div_eq_sub_div h0 (δ:size<=j)]
   simp
theorem wW {α:Type} {f:α->List Value} {size:Nat} (h0:0<size) (hf:∀x,(f x).length=size) {c:CM} {a:Option Addr} {l:List α}
  (h:∀i x,l[i]? =some x->∃b o,a=some ⟨b,o,none⟩/\At c b (o+i*size) (f x)):∀ad,a=some ad->∀j u,(l.flatMap f)[j]? =some u->c (ad.add j)=some u:=by
 rintro ad rfl j u hu;rw [Dh h0 hf] at hu;cases hx:l[j/size]? with
 |none=>rw [hx] at hu;cases hu
 |some x=>
  rw [hx] at hu;obtain⟨b,o,ha,hA⟩:=h _ x hx;obtain rfl:=Option.some.inj ha;have:=hA _ u hu;rw [Nat.add_assoc,Nat.mul_comm,Nat.div_add_mod] at this;rw [Addr.add_lit];exact this
theorem zx {α:Type} {T:Ty α} {f:α->List Value} (h0:0<T.size) (hf:∀x,(f x).length=T.size) {w:World} {base:Nat} {e:TypeId} {v:Value} {l:List α} (h:w.ownsRow base e T.size v l.length (l.flatMap f)) (hR:∀x∈l,T.R w.cell? (f x) x):Sl T w.cell? v l:=by
 obtain⟨hl,⟨rfl,hn⟩|⟨g,cap,cur,rfl,hg,hrow,hnc,hcm,hcs,htake⟩⟩:=h
 ·have:l=[]:=List.eq_nil_of_length_eq_zero hn
  subst this;exact⟨none,0,rfl,Nat.le_refl _,Nat.zero_le _,fun _=>rfl,fun i x e=>by simp at e⟩
 ·refine⟨some ⟨g,0,none⟩,cap,rfl,hnc,hcm,σ,fun i x e=>⟨g,0,f x,rfl,hR x (List.mem_of_getElem? e),fun j u hu=>?_⟩⟩
  have hi:i<l.length:=(List.getElem?_eq_some_iff.1 e).1;have hj:j<T.size:=by rw [<-hf x];exact(List.getElem?_eq_some_iff.1 hu).1
  have hx:(l.flatMap f)[i*T.size+j]? =some u:=by
   rw [Dh h0 hf,Nat.mul_comm,Nat.mul_add_div h0,Nat.div_eq_of_lt hj,Nat.add_zero,e,Nat.mul_add_mod,Nat.mod_eq_of_lt hj];exact hu
  rw [<-htake,List.getElem?_take] at hx;split at hx
  ·simp only [World.cell?,hrow];simpa using hx
  ·cases hx
theorem m_.at_ {c:CM} {a:Option Addr} {l:List Pt} (h:∀i x,l[i]? =some x->∃b o cs,a=some ⟨b,o,none⟩/\Ty.pt.R c cs x/\At c b (o+i*Ty.pt.size) cs) (k:Nat) (hk:k<l.length):
  ∃b o,a=some ⟨b,o,none⟩/\c ⟨b,o+k*3,none⟩=some (ι l[k].h)/\c ⟨b,o+k*3+1,none⟩=some (ι l[k].k)/\c ⟨b,o+k*3+2,none⟩=some (ι l[k].n)/\I64 l[k].h/\I64 l[k].k/\I64 l[k].n:=by
 obtain⟨b,o,cs,ha,⟨rfl,h1,h2,h3⟩,hA⟩:=h k l[k] (by simp [hk]);exact⟨b,o,ha,hA 0 _ rfl,hA 1 _ rfl,hA 2 _ rfl,h1,h2,h3⟩
def sF (l:List Pt):List Value:=l.flatMap Pt.cells
theorem Iw (l:List Pt) (p:Pt):sF (l++ [p])=sF l++p.cells:=by simp [sF]
def wH (l:List Pt):Prop:=∀p∈l,I64 p.h/\I64 p.k/\I64 p.n
theorem m_.ok {c:CM} {v:Value} {l:List Pt} (h:m_ c v l):wH l:=by
 obtain⟨a,cap,rfl,h1,h2,h0,hel⟩:=h;intro p hp;obtain⟨i,hi⟩:=List.mem_iff_getElem?.1 hp;obtain⟨b,o,cs,ha,⟨rfl,h⟩,hA⟩:=hel i p hi;exact h
theorem m_.zy {w:World} {base:Nat} {e:TypeId} {v:Value} {l:List Pt} (h:w.ownsRow base e 3 v l.length (sF l)) (hok:wH l):m_ w.cell? v l:=
 zx (T:=Ty.pt) (f:=Pt.cells) ε (fun _=>rfl) h fun x hx=>⟨rfl,hok x hx⟩
def fA (b:UInt8):List Value:=[.int .u8 b.toNat]
def Ty.byte:Ty UInt8 where
 size:=1
 R:=fun _ cs b=>cs=fA b
 len:=by rintro c cs x rfl;rfl
 mono:=by rintro c c' cs x _ h;exact h
abbrev Sz:=Sl Ty.byte
def dB (n:Int):List Value:=[ι n]
abbrev Ints:=Sl Ty.int
theorem Ints.zy {w:World} {base:Nat} {e:TypeId} {v:Value} {l:List Int} (h:w.ownsRow base e 1 v l.length (l.flatMap dB)) (hok:∀x∈l,I64 x):Ints w.cell? v l:=
 zx (T:=Ty.int) (f:=dB) ε (fun _=>rfl) h fun x hx=>⟨rfl,hok x hx⟩
theorem Sz.zy {w:World} {base:Nat} {e:TypeId} {v:Value} {l:List UInt8} (h:w.ownsRow base e 1 v l.length (l.flatMap fA)):Sz w.cell? v l:=
 zx (T:=Ty.byte) (f:=fA) ε (fun _=>rfl) h fun x hx=>rfl
theorem nI {α:Type} {f:α->List Value} {size:Nat} (hf:∀x,(f x).length=size):∀l:List α,(l.flatMap f).length=l.length*size
 | []=>by simp
 |x::l=>by rw [List.flatMap_cons,List.length_append,hf,nI hf l,List.length_cons,Nat.add_mul];omega
theorem rC {α:Type} {f:α->List Value} (hf:∀x,∀u∈f x,u.oneCell'=true) (l:List α):∀u∈l.flatMap f,u.oneCell'=true:=by
 intro u hu;obtain⟨x,_,hx⟩:=List.mem_flatMap.1 hu;exact hf x u hx
theorem Oa (x:Pt):∀u∈x.cells,u.oneCell'=true:=by
 intro u hu;simp only [Pt.cells,List.mem_cons,List.not_mem_nil,or_false] at hu;rcases hu with rfl|rfl|rfl<;>rfl
theorem x9 (x:Int):∀u∈dB x,u.oneCell'=true:=by
 intro u hu;simp only [dB,List.mem_cons,List.not_mem_nil,or_false] at hu;subst hu;rfl
theorem one_byte (x:UInt8):∀u∈fA x,u.oneCell'=true:=by
 intro u hu;simp only [fA,List.mem_cons,List.not_mem_nil,or_false] at hu;subst hu;rfl
structure Sm where
 a:Int
 b:Int
 c:Int
 d:Int
 deriving DecidableEq
def Sm.cells (s:Sm):List Value:=[ι s.a,ι s.b,ι s.c,ι s.d]
def Ty.sm:Ty Sm where
 size:=4
 R:=fun _ cs s=>cs=s.cells/\I64 s.a/\I64 s.b/\I64 s.c/\I64 s.d
 len:=by rintro c cs x ⟨rfl,_⟩;rfl
 mono:=by rintro c c' cs x _ h;exact h
abbrev Ty.pts:=Ty.sl Ty.pt
structure Rc where
 kind:Int
 deed:Int
 parts:List Pt
 deriving DecidableEq
def Ty.rc:Ty Rc where
 size:=3
 R:=fun c cs x=>∃bY:Value,cs=[ι x.kind,ι x.deed,bY]/\I64 x.kind/\I64 x.deed/\Sl Ty.pt c bY x.parts
 len:=by rintro c cs x ⟨bY,rfl,_⟩;rfl
 mono:=by rintro c c' cs x h ⟨bY,rfl,h1,h2,h3⟩;exact⟨bY,rfl,h1,h2,h3.mono h⟩
abbrev UD:=Sl Ty.rc
theorem UD.at_ {c:CM} {a:Option Addr} {l:List Rc} (h:∀i x,l[i]? =some x->∃b o cs,a=some ⟨b,o,none⟩/\Ty.rc.R c cs x/\At c b (o+i*Ty.rc.size) cs) (k:Nat) (hk:k<l.length):
  ∃b o bY,a=some ⟨b,o,none⟩/\c ⟨b,o+k*3,none⟩=some (ι l[k].kind)/\c ⟨b,o+k*3+1,none⟩=some (ι l[k].deed)/\c ⟨b,o+k*3+2,none⟩=some bY/\I64 l[k].kind/\I64 l[k].deed/\Sl Ty.pt c bY l[k].parts:=by
 obtain⟨b,o,cs,ha,⟨bY,rfl,hR⟩,hA⟩:=h k l[k] (by simp [hk]);exact⟨b,o,bY,ha,hA 0 _ rfl,hA 1 _ rfl,hA 2 _ rfl,hR⟩
structure Rd where
 deed:Int
 parts:List Pt
 deriving DecidableEq
def Ty.rd:Ty Rd where
 size:=2
 R:=fun c cs x=>∃bY:Value,cs=[ι x.deed,bY]/\I64 x.deed/\Sl Ty.pt c bY x.parts
 len:=by rintro c cs x ⟨bY,rfl,_⟩;rfl
 mono:=by rintro c c' cs x h ⟨bY,rfl,h1,h2⟩;exact⟨bY,rfl,h1,h2.mono h⟩
abbrev Yv:=Sl Ty.rd
theorem Yv.at_ {c:CM} {a:Option Addr} {l:List Rd} (h:∀i x,l[i]? =some x->∃b o cs,a=some ⟨b,o,none⟩/\Ty.rd.R c cs x/\At c b (o+i*Ty.rd.size) cs) (k:Nat) (hk:k<l.length):
  ∃b o bY,a=some ⟨b,o,none⟩/\c ⟨b,o+k*2,none⟩=some (ι l[k].deed)/\c ⟨b,o+k*2+1,none⟩=some bY/\I64 l[k].deed/\Sl Ty.pt c bY l[k].parts:=by
 obtain⟨b,o,cs,ha,⟨bY,rfl,hR⟩,hA⟩:=h k l[k] (by simp [hk]);exact⟨b,o,bY,ha,hA 0 _ rfl,hA 1 _ rfl,hR⟩
structure Opn where
 deed:Int
 parts:List Pt
 dec:Bool
 heard:List Int
 deriving DecidableEq
def Ty.opn:Ty Opn where
 size:=4
 R:=fun c cs x=>∃bY qP:Value,cs=[ι x.deed,bY,.bool x.dec,qP]/\I64 x.deed/\Sl Ty.pt c bY x.parts/\Sl Ty.int c qP x.heard
 len:=by rintro c cs x ⟨bY,qP,rfl,_⟩;rfl
 mono:=by rintro c c' cs x h ⟨bY,qP,rfl,h1,h2,h3⟩;exact⟨bY,qP,rfl,h1,h2.mono h,h3.mono h⟩
abbrev Ci:=Sl Ty.opn
theorem Ci.at_ {c:CM} {a:Option Addr} {l:List Opn} (h:∀i x,l[i]? =some x->∃b o cs,a=some ⟨b,o,none⟩/\Ty.opn.R c cs x/\At c b (o+i*Ty.opn.size) cs) (k:Nat) (hk:k<l.length):
  ∃b o bY qP,a=some ⟨b,o,none⟩/\c ⟨b,o+k*4,none⟩=some (ι l[k].deed)/\c ⟨b,o+k*4+1,none⟩=some bY/\c ⟨b,o+k*4+2,none⟩=some (.bool l[k].dec)/\c ⟨b,o+k*4+3,none⟩=some qP/\I64 l[k].deed/\Sl Ty.pt c bY l[k].parts/\Sl Ty.int c qP l[k].heard:=by
 obtain⟨b,o,cs,ha,⟨bY,qP,rfl,hR⟩,hA⟩:=h k l[k] (by simp [hk]);exact⟨b,o,bY,qP,ha,hA 0 _ rfl,hA 1 _ rfl,hA 2 _ rfl,hA 3 _ rfl,hR⟩
structure Ms where
 kind:Int
 deed:Int
 house:Int
 parts:List Pt
 deriving DecidableEq
def Ty.ms:Ty Ms where
 size:=4
 R:=fun c cs x=>∃bY:Value,cs=[ι x.kind,ι x.deed,ι x.house,bY]/\I64 x.kind/\I64 x.deed/\I64 x.house/\Sl Ty.pt c bY x.parts
 len:=by rintro c cs x ⟨bY,rfl,_⟩;rfl
 mono:=by rintro c c' cs x h ⟨bY,rfl,h1,h2,h3,h4⟩;exact⟨bY,rfl,h1,h2,h3,h4.mono h⟩
abbrev nL:=Sl Ty.ms
theorem nL.at_ {c:CM} {a:Option Addr} {l:List Ms} (h:∀i x,l[i]? =some x->∃b o cs,a=some ⟨b,o,none⟩/\Ty.ms.R c cs x/\At c b (o+i*Ty.ms.size) cs) (k:Nat) (hk:k<l.length):
  ∃b o bY,a=some ⟨b,o,none⟩/\c ⟨b,o+k*4,none⟩=some (ι l[k].kind)/\c ⟨b,o+k*4+1,none⟩=some (ι l[k].deed)/\c ⟨b,o+k*4+2,none⟩=some (ι l[k].house)/\c ⟨b,o+k*4+3,none⟩=some bY/\I64 l[k].kind/\I64 l[k].deed/\I64 l[k].house/\Sl Ty.pt c bY l[k].parts:=by
 obtain⟨b,o,cs,ha,⟨bY,rfl,hR⟩,hA⟩:=h k l[k] (by simp [hk]);exact⟨b,o,bY,ha,hA 0 _ rfl,hA 1 _ rfl,hA 2 _ rfl,hA 3 _ rfl,hR⟩
structure St where
 kind:Int
 n:Int
 parts:List Pt
 deriving DecidableEq
def Ty.st:Ty St where
 size:=3
 R:=fun c cs x=>∃bY:Value,cs=[ι x.kind,ι x.n,bY]/\I64 x.kind/\I64 x.n/\Sl Ty.pt c bY x.parts
 len:=by rintro c cs x ⟨bY,rfl,_⟩;rfl
 mono:=by rintro c c' cs x h ⟨bY,rfl,h1,h2,h3⟩;exact⟨bY,rfl,h1,h2,h3.mono h⟩
abbrev Sts:=Sl Ty.st
theorem Sts.at_ {c:CM} {a:Option Addr} {l:List St} (h:∀i x,l[i]? =some x->∃b o cs,a=some ⟨b,o,none⟩/\Ty.st.R c cs x/\At c b (o+i*Ty.st.size) cs) (k:Nat) (hk:k<l.length):
  ∃b o bY,a=some ⟨b,o,none⟩/\c ⟨b,o+k*3,none⟩=some (ι l[k].kind)/\c ⟨b,o+k*3+1,none⟩=some (ι l[k].n)/\c ⟨b,o+k*3+2,none⟩=some bY/\I64 l[k].kind/\I64 l[k].n/\Sl Ty.pt c bY l[k].parts:=by
 obtain⟨b,o,cs,ha,⟨bY,rfl,hR⟩,hA⟩:=h k l[k] (by simp [hk]);exact⟨b,o,bY,ha,hA 0 _ rfl,hA 1 _ rfl,hA 2 _ rfl,hR⟩
structure Hs where
 log:List Rc
 sums:Sm
 ready:List Rd
 done:List Int
 deriving DecidableEq
def Ty.hs:Ty Hs where
 size:=7
 R:=fun c cs x=>∃oG qQ wI:Value,cs=[oG,ι x.sums.a,ι x.sums.b,ι x.sums.c,ι x.sums.d,qQ,wI]/\Sl Ty.rc c oG x.log/\I64 x.sums.a/\I64 x.sums.b/\I64 x.sums.c/\I64 x.sums.d/\Sl Ty.rd c qQ x.ready/\Sl Ty.int c wI x.done
 len:=by rintro c cs x ⟨oG,qQ,wI,rfl,_⟩;rfl
 mono:=by rintro c c' cs x h ⟨oG,qQ,wI,rfl,h1,h2,h3,h4,h5,h6,h7⟩;exact⟨oG,qQ,wI,rfl,h1.mono h,h2,h3,h4,h5,h6.mono h,h7.mono h⟩
abbrev nQ:=Sl Ty.hs
theorem nQ.at_ {c:CM} {a:Option Addr} {l:List Hs} (h:∀i x,l[i]? =some x->∃b o cs,a=some ⟨b,o,none⟩/\Ty.hs.R c cs x/\At c b (o+i*Ty.hs.size) cs) (k:Nat) (hk:k<l.length):
  ∃b o oG qQ wI,a=some ⟨b,o,none⟩/\c ⟨b,o+k*7,none⟩=some oG/\c ⟨b,o+k*7+1,none⟩=some (ι l[k].sums.a)/\c ⟨b,o+k*7+2,none⟩=some (ι l[k].sums.b)/\c ⟨b,o+k*7+3,none⟩=some (ι l[k].sums.c)/\c ⟨b,o+k*7+4,none⟩=some (ι l[k].sums.d)/\c ⟨b,o+k*7+5,none⟩=some qQ/\c ⟨b,o+k*7+6,none⟩=some wI/\Sl Ty.rc c oG l[k].log/\I64 l[k].sums.a/\I64 l[k].sums.b/\I64 l[k].sums.c/\I64 l[k].sums.d/\Sl Ty.rd c qQ l[k].ready/\Sl Ty.int c wI l[k].done:=by
 obtain⟨b,o,cs,ha,⟨oG,qQ,wI,rfl,hR⟩,hA⟩:=h k l[k] (by simp [hk]);exact⟨b,o,oG,qQ,wI,ha,hA 0 _ rfl,hA 1 _ rfl,hA 2 _ rfl,hA 3 _ rfl,hA 4 _ rfl,hA 5 _ rfl,hA 6 _ rfl,hR⟩
structure Hd where
 log:List Rc
 aG:Int
 next:Int
 opn:List Opn
 deriving DecidableEq
def Ty.hd:Ty Hd where
 size:=4
 R:=fun c cs x=>∃oG zC:Value,cs=[oG,ι x.aG,ι x.next,zC]/\Sl Ty.rc c oG x.log/\I64 x.aG/\I64 x.next/\Sl Ty.opn c zC x.opn
 len:=by rintro c cs x ⟨oG,zC,rfl,_⟩;rfl
 mono:=by rintro c c' cs x h ⟨oG,zC,rfl,h1,h2,h3,h4⟩;exact⟨oG,zC,rfl,h1.mono h,h2,h3,h4.mono h⟩
abbrev Hds:=Sl Ty.hd
theorem Hds.at_ {c:CM} {a:Option Addr} {l:List Hd} (h:∀i x,l[i]? =some x->∃b o cs,a=some ⟨b,o,none⟩/\Ty.hd.R c cs x/\At c b (o+i*Ty.hd.size) cs) (k:Nat) (hk:k<l.length):
  ∃b o oG zC,a=some ⟨b,o,none⟩/\c ⟨b,o+k*4,none⟩=some oG/\c ⟨b,o+k*4+1,none⟩=some (ι l[k].aG)/\c ⟨b,o+k*4+2,none⟩=some (ι l[k].next)/\c ⟨b,o+k*4+3,none⟩=some zC/\Sl Ty.rc c oG l[k].log/\I64 l[k].aG/\I64 l[k].next/\Sl Ty.opn c zC l[k].opn:=by
 obtain⟨b,o,cs,ha,⟨oG,zC,rfl,hR⟩,hA⟩:=h k l[k] (by simp [hk]);exact⟨b,o,oG,zC,ha,hA 0 _ rfl,hA 1 _ rfl,hA 2 _ rfl,hA 3 _ rfl,hR⟩
abbrev Ty.GT:=Ty.sl Ty.byte
structure Wd where
 head:Hd
 aA:List Hs
 net:List (List UInt8)
 deriving DecidableEq
def Of {α:Type} (T:Ty α) (c:CM) (v:Value) (x:α):Prop:=∃cs:List Value,v=.agg cs.toArray/\T.R c cs x
theorem Of.mono {α:Type} {T:Ty α} {c c':CM} {v:Value} {x:α} (h:Sub c c') (k:Of T c v x):Of T c' v x:=by
 obtain⟨cs,rfl,hR⟩:=k;exact⟨cs,rfl,T.mono h hR⟩
theorem Bd {c:CM} {a:Option Addr} {l:List Int} (h:∀i x,l[i]? =some x->∃b o cs,a=some ⟨b,o,none⟩/\Ty.int.R c cs x/\At c b (o+i*Ty.int.size) cs) (k:Nat) (hk:k<l.length):
  ∃b o,a=some ⟨b,o,none⟩/\c ⟨b,o+k,none⟩=some (ι l[k])/\I64 l[k]:=by
 obtain⟨b,o,cs,ha,⟨rfl,hR⟩,hA⟩:=h k l[k] (by simp [hk]);refine⟨b,o,ha,?_,hR⟩;have:=hA 0 _ rfl;simpa [Ty.int] using this
theorem byteAt {c:CM} {a:Option Addr} {l:List UInt8} (h:∀i x,l[i]? =some x->∃b o cs,a=some ⟨b,o,none⟩/\Ty.byte.R c cs x/\At c b (o+i*Ty.byte.size) cs) (k:Nat) (hk:k<l.length):
  ∃b o,a=some ⟨b,o,none⟩/\c ⟨b,o+k,none⟩=some (.int .u8 (l[k].toNat:Int)):=by
 obtain⟨b,o,cs,ha,rfl,hA⟩:=h k l[k] (by simp [hk]);refine⟨b,o,ha,?_⟩;have:=hA 0 _ rfl;simpa [Ty.byte] using this
structure EI (P:Program) (t e:TypeId) (size bytes:Nat):Prop where
 ht:P.underlying t=some (.slice e)
 hi:∃i z,P.info? e=some i/\i.zero=some z/\i.size=size/\i.bytes=bytes/\z.cells.size=size/\0<size/\∀u∈z.cells,u.oneCell'=true
theorem EI.mk' {P:Program} {t e:TypeId} {size bytes:Nat} {z:Value} (ht:P.underlying t=some (.slice e)) (h:(P.info? e).map (fun i=>(i.zero,i.size,i.bytes))=some (some z,size,bytes)) (hz:z.cells.size=size) (h0:0<size) (h1:z.cells.toList.all (fun u=>u.oneCell')=true):EI P t e size bytes:=by
 obtain⟨i,hi,h1',h2,h3⟩:=info_parts h;exact⟨ht,i,z,hi,h1',h2,h3,hz,h0,fun u hu=>by simpa using List.all_eq_true.1 h1 u (by simpa using hu)⟩
theorem Di:EI Tryz.prog 23 111 3 24:=EI.mk' (z:=.agg #[ι 0,ι 0,ι 0]) κ κ rfl ε rfl
theorem iM:EI Tryz.prog 48 3 1 8:=EI.mk' (z:=ι 0) κ κ rfl ε rfl
theorem yc:EI Tryz.prog 97 5 1 1:=EI.mk' (z:=.int .u8 0) κ κ rfl ε rfl
theorem jv:EI Tryz.prog 26 79 3 40:=EI.mk' (z:=.agg #[ι 0,ι 0,()]) κ κ rfl ε rfl
theorem Dj:EI Tryz.prog 45 53 2 32:=EI.mk' (z:=.agg #[ι 0,()]) κ κ rfl ε rfl
theorem h_:EI Tryz.prog 27 58 4 64:=EI.mk' (z:=.agg #[ι 0,(),.bool false,()]) κ κ rfl ε rfl
theorem tN:EI Tryz.prog 90 85 4 48:=EI.mk' (z:=.agg #[ι 0,ι 0,ι 0,()]) κ κ rfl ε rfl
theorem jU:EI Tryz.prog 31 97 1 24:=EI.mk' (z:=ς none 0 0) κ κ rfl ε rfl
theorem UZ:EI Tryz.prog 38 34 1 8:=EI.mk' (z:=ι 0) κ κ rfl ε rfl
theorem CQ {P:Program} {t e:TypeId} {size bytes:Nat} (hE:EI P t e size bytes) {W w:World} {ops:Array Oper} {rest:List Oper} {o:Oper} {a:Act} {Q:Exit->Act->World->Prop} (hgd:o.guard=none) (s x:Operand)
  (ho:o.op=.call { callee:=.builtin .append,args:=#[s,x],argTypes:=#[t,t] }) (hG:Grow W w)
  {v:Value} {n:Nat} {xs:List Value} (hs:a.eval s=v) (hown:w.ownsRow W.heap.size e size v n xs)
  (ad:Addr) (m c:Nat) (news:List Value) (hx:a.eval x=ς (some ad) m c) (hl:news.length=m*size) (hnews:∀j u,news[j]? =some u->w.cell? (ad.add j)=some u) (h1:∀u∈news,u.oneCell'=true)
  (h63:n+m<=maxLen) (hbytes:(n+m)*bytes<=140737488355328)
  (h:∀v' w',w'.ownsRow W.heap.size e size v' (n+m) (xs++news)->Grow W w'->w.grownBy w' v.ownBlock->wpList P ops Q rest (a.put o.dst v') w'):wpList P ops Q (o::rest) a w:=by
 obtain⟨i,z,hi,hz,h2,h3,h4,h5,_⟩:=hE.hi;exact wpList_append_own w hgd s x t ho W.heap.size e i z size bytes hE.ht hi hz h2 h3 h4 h5 v n xs hs hown ad m c news hx hl hnews h1 h63 hbytes hG.size fun v' w' a b _=>
  h v' w' a (hG.grown b fun k hk=>(hown.lt k hk).1) b
theorem mJ (w:World) (c:Array Value) (t:TypeId):∀j u,c.toList[j]? =some u->(w.alloc (.cells c t)).cell? ((⟨w.heap.size,0,none⟩:Addr).add j)=some u:=by
 intro j u h;have e:((⟨w.heap.size,0,none⟩:Addr).add j)=⟨w.heap.size,j,none⟩:=by unfold Addr.add;split<;>simp_all
 rw [e,World.cell?_alloc_new];simpa using h
theorem app1 {P:Program} {t e:TypeId} {size bytes:Nat} (hE:EI P t e size bytes) {W w0:World} {c:Array Value} {ops:Array Oper} {rest:List Oper} {o:Oper} {a:Act} {Q:Exit->Act->World->Prop} (hgd:o.guard=none) (s x:Operand)
  (ho:o.op=.call { callee:=.builtin .append,args:=#[s,x],argTypes:=#[t,t] }) (hG:Grow W w0)
  {v:Value} {n:Nat} {xs:List Value} (hs:a.eval s=v) (hown:w0.ownsRow W.heap.size e size v n xs)
  {g:Nat} (hx:a.eval x=ς (some ⟨g,0,none⟩) 1 1) (hg:g=w0.heap.size) (hl:c.toList.length=size) (h1:∀u∈c.toList,u.oneCell'=true)
  (hbytes:(n+1)*bytes<=140737488355328) (hb0:0<bytes)
  (h:∀v' w',w'.ownsRow W.heap.size e size v' (n+1) (xs++c.toList)->Grow W w'->(w0.alloc (.cells c e)).grownBy w' v.ownBlock->wpList P ops Q rest (a.put o.dst v') w'):wpList P ops Q (o::rest) a (w0.alloc (.cells c e)):=by
 subst hg;exact CQ hE hgd s x ho (hG.alloc _) hs (hown.alloc _) _ 1 1 c.toList hx δ (mJ w0 c e) h1 (by
  have h2:n+1<=(n+1)*bytes:=Nat.le_mul_of_pos_right _ hb0;unfold maxLen;omega) hbytes h
def idxOf {α:Type} (p:α->Bool) (l:List α):Int:=match l.findIdx? p with|some i=>i|none=>-1
theorem sG {α:Type} (p:α->Bool) (l:List α):decide (0<=idxOf p l)=l.any p:=by
 unfold idxOf;cases h:l.findIdx? p with
 |none=>
  rw [List.findIdx?_eq_none_iff] at h;symm;simp only [show decide ((0:Int)<= -1)=false from rfl];rw [List.any_eq_false];intro x hx;simp [h x hx]
 |some i=>
  rw [List.findIdx?_eq_some_iff_getElem] at h;obtain⟨hi,hp,_⟩:=h;simp only [show decide ((0:Int)<=(i:Int))=true by simp];symm;rw [List.any_eq_true];exact⟨l[i],List.getElem_mem _,hp⟩
structure qF {α:Type} (P:Program) (T:Ty α) (val:List Value->Value) (w:World) (F:FuncId) (caps:Array Value) (l:List α) (p:α->Bool):Prop where
 ent:∀args w,(callFunc F args).run P w=.ok (.enter F args) w
 say:∀(wx:World) (cs:List Value) (x:α),Grow w wx->x∈l->T.R wx.cell? cs x->Calls P F (#[val cs]++caps) wx fun e w'=>e=.returned (.bool (p x))/\Grow wx w'
def lQ (cs:List Value):Value:=.agg cs.toArray
theorem qF.later {α:Type} {P:Program} {T:Ty α} {val:List Value->Value} {w w':World} {F:FuncId} {caps:Array Value} {l:List α} {p:α->Bool} (h:qF P T val w F caps l p) (hg:Grow w w'):qF P T val w' F caps l p:=
 ⟨h.ent,fun wx cs x hG=>h.say wx cs x (hg.trans hG)⟩
theorem yg {α:Type} {p:α->Bool} {l:List α} {k:Nat} (hlt:k<l.length) (hE:(l.take k).findIdx? p=none):
  (p l[k]=true->idxOf p l=(k:Int))/\(p l[k]=false->(l.take (k+1)).findIdx? p=none):=by
 constructor
 ·intro hq
  have:l.findIdx? p=some k:=by
   rw [List.findIdx?_eq_some_iff_getElem];refine⟨hlt,hq,fun j hj=>?_⟩;rw [List.findIdx?_eq_none_iff] at hE;have h:=hE l[j] (by rw [List.mem_take_iff_getElem];exact⟨j,δ,rfl⟩);simpa using h
  rw [idxOf,this]
 ·intro hq
  rw [List.take_succ_eq_append_getElem hlt,List.findIdx?_append,hE];simp [hq]
theorem yh {v:Value} {l:List Pt} {F:FuncId} {caps:Array Value} {p:Pt->Bool} (w:World) (hv:Sl Ty.pt w.cell? v l) (hp:qF Tryz.prog Ty.pt lQ w F caps l p):
  Calls Tryz.prog 133 #[v,.func (.func F) #[] caps] w fun e w'=>e=.returned (ι (idxOf p l))/\Grow w w':=by
 obtain⟨a,cap,rfl,h1,h2,-,hel⟩:=hv;unfold maxLen at h2;go_enter Tryz.func133,Tryz.ntmps133;go_wp2;go_loopw [4,5,8] (fun _ _ i wr=>∃k:Nat,k<=l.length/\i=ι k/\Grow w wr/\(l.take k).findIdx? p=none) (fun _ _ i _=>l.length - (intOf i).toNat)
 case atStart=>exact⟨0,δ,rfl,Grow.refl _,rfl⟩
 case round=>
  obtain⟨k,hk',rfl,hb,hE⟩:=hrel;have HE:=η hE;clear hE;by_cases hlt:k<l.length
  ·obtain⟨b,o,rfl,c0,c1,c2,hR⟩:=m_.at_ hel k hlt
   replace c0:=hb.sub _ _ c0;replace c1:=hb.sub _ _ c1;replace c2:=hb.sub _ _ c2;have HP:=η (hp.say wr l[k].cells l[k] hb (List.getElem_mem _) ⟨rfl,hR⟩);have eg:=hp.ent;obtain⟨hq1,hq2⟩:=yg hlt HE.o;clear HE hp hel hR;simp only [Pt.cells,lQ] at HP;generalize l[k]=q at*;have H1:=η hq1;have H2:=η hq2;clear hq1 hq2;cases hq:p q
   ·rw [hq] at HP
    go_wp2_with (go_at_fn F;refine HP.o.mono ?_;rintro e w' ⟨rfl,hb'⟩)
    go_roundw
    case rel=>exact⟨k+1,δ,by go_num,hb.trans hb',H2.o hq⟩
    case measure=>simp [intOf];omega
   ·rw [hq] at HP
    go_wp2_with (go_at_fn F;refine HP.o.mono ?_;rintro e w' ⟨rfl,hb'⟩)
    go_ret;exact⟨bC (H1.o hq).symm,hb.trans hb'⟩
  ·clear hel hp
   go_wp2;go_ret;refine⟨bC ?_,hb⟩;have h:=HE.o;rw [List.take_of_length_le δ] at h;rw [idxOf,h]
theorem nV {v:Value} {l:List Pt} {F:FuncId} {caps:Array Value} {p:Pt->Bool} (w:World) (hv:Sl Ty.pt w.cell? v l) (hp:qF Tryz.prog Ty.pt lQ w F caps l p):
  Calls Tryz.prog 111 #[v,.func (.func F) #[] caps] w fun e w'=>e=.returned (.bool (l.any p))/\Grow w w':=by
 have HI:=η (yh w hv hp);have HN:=η (sG p l);clear hv hp;generalize idxOf p l=i at*;go_enter Tryz.func111,Tryz.ntmps111;go_wp2_with (go_at_call 133;refine HI.o.mono ?_;rintro e w' ⟨rfl,hb'⟩)
 go_ret;exact⟨bK HN.o,hb'⟩
theorem yj {v:Value} {l:List Rd} {F:FuncId} {caps:Array Value} {p:Rd->Bool} (w:World) (hv:Sl Ty.rd w.cell? v l) (hp:qF Tryz.prog Ty.rd lQ w F caps l p):
  Calls Tryz.prog 109 #[v,.func (.func F) #[] caps] w fun e w'=>e=.returned (ι (idxOf p l))/\Grow w w':=by
 obtain⟨a,cap,rfl,h1,h2,-,hel⟩:=hv;unfold maxLen at h2;go_enter Tryz.func109,Tryz.ntmps109;go_wp2;go_loopw [4,5,8] (fun _ _ i wr=>∃k:Nat,k<=l.length/\i=ι k/\Grow w wr/\(l.take k).findIdx? p=none) (fun _ _ i _=>l.length - (intOf i).toNat)
 case atStart=>exact⟨0,δ,rfl,Grow.refl _,rfl⟩
 case round=>
  obtain⟨k,hk',rfl,hb,hE⟩:=hrel;have HE:=η hE;clear hE;by_cases hlt:k<l.length
  ·obtain⟨b,o,v1,rfl,c0,c1,hR⟩:=Yv.at_ hel k hlt
   replace c0:=hb.sub _ _ c0;replace c1:=hb.sub _ _ c1;have HP:=η (hp.say wr [ι l[k].deed,v1] l[k] hb (List.getElem_mem _) ⟨v1,rfl,hR.1,hR.2.mono hb.sub⟩);have eg:=hp.ent;obtain⟨hq1,hq2⟩:=yg hlt HE.o;clear HE hp hel hR;simp only [lQ] at HP;generalize l[k]=q at*;have H1:=η hq1;have H2:=η hq2;clear hq1 hq2;cases hq:p q
   ·rw [hq] at HP
    go_wp2_with (go_at_fn F;refine HP.o.mono ?_;rintro e w' ⟨rfl,hb'⟩)
    go_roundw
    case rel=>exact⟨k+1,δ,by go_num,hb.trans hb',H2.o hq⟩
    case measure=>simp [intOf];omega
   ·rw [hq] at HP
    go_wp2_with (go_at_fn F;refine HP.o.mono ?_;rintro e w' ⟨rfl,hb'⟩)
    go_ret;exact⟨bC (H1.o hq).symm,hb.trans hb'⟩
  ·clear hel hp
   go_wp2;go_ret;refine⟨bC ?_,hb⟩;have h:=HE.o;rw [List.take_of_length_le δ] at h;rw [idxOf,h]
theorem Cj {v:Value} {l:List Rd} {F:FuncId} {caps:Array Value} {p:Rd->Bool} (w:World) (hv:Sl Ty.rd w.cell? v l) (hp:qF Tryz.prog Ty.rd lQ w F caps l p):
  Calls Tryz.prog 137 #[v,.func (.func F) #[] caps] w fun e w'=>e=.returned (.bool (l.any p))/\Grow w w':=by
 have HI:=η (yj w hv hp);have HN:=η (sG p l);clear hv hp;generalize idxOf p l=i at*;go_enter Tryz.func137,Tryz.ntmps137;go_wp2_with (go_at_call 109;refine HI.o.mono ?_;rintro e w' ⟨rfl,hb'⟩)
 go_ret;exact⟨bK HN.o,hb'⟩
theorem wJ {v:Value} {l:List Opn} {F:FuncId} {caps:Array Value} {p:Opn->Bool} (w:World) (hv:Sl Ty.opn w.cell? v l) (hp:qF Tryz.prog Ty.opn lQ w F caps l p):
  Calls Tryz.prog 118 #[v,.func (.func F) #[] caps] w fun e w'=>e=.returned (ι (idxOf p l))/\Grow w w':=by
 obtain⟨a,cap,rfl,h1,h2,-,hel⟩:=hv;unfold maxLen at h2;go_enter Tryz.func118,Tryz.ntmps118;go_wp2;go_loopw [4,5,8] (fun _ _ i wr=>∃k:Nat,k<=l.length/\i=ι k/\Grow w wr/\(l.take k).findIdx? p=none) (fun _ _ i _=>l.length - (intOf i).toNat)
 case atStart=>exact⟨0,δ,rfl,Grow.refl _,rfl⟩
 case round=>
  obtain⟨k,hk',rfl,hb,hE⟩:=hrel;have HE:=η hE;clear hE;by_cases hlt:k<l.length
  ·obtain⟨b,o,v1,v2,rfl,c0,c1,c2,c3,hR⟩:=Ci.at_ hel k hlt
   replace c0:=hb.sub _ _ c0;replace c1:=hb.sub _ _ c1;replace c2:=hb.sub _ _ c2;replace c3:=hb.sub _ _ c3;have HP:=η (hp.say wr [ι l[k].deed,v1,.bool l[k].dec,v2] l[k] hb (List.getElem_mem _) ⟨v1,v2,rfl,hR.1,hR.2.1.mono hb.sub,hR.2.2.mono hb.sub⟩);have eg:=hp.ent;obtain⟨hq1,hq2⟩:=yg hlt HE.o;clear HE hp hel hR;simp only [lQ] at HP;generalize l[k]=q at*;have H1:=η hq1;have H2:=η hq2;clear hq1 hq2;cases hq:p q
   ·rw [hq] at HP
    go_wp2_with (go_at_fn F;refine HP.o.mono ?_;rintro e w' ⟨rfl,hb'⟩)
    go_roundw
    case rel=>exact⟨k+1,δ,by go_num,hb.trans hb',H2.o hq⟩
    case measure=>simp [intOf];omega
   ·rw [hq] at HP
    go_wp2_with (go_at_fn F;refine HP.o.mono ?_;rintro e w' ⟨rfl,hb'⟩)
    go_ret;exact⟨bC (H1.o hq).symm,hb.trans hb'⟩
  ·clear hel hp
   go_wp2;go_ret;refine⟨bC ?_,hb⟩;have h:=HE.o;rw [List.take_of_length_le δ] at h;rw [idxOf,h]
theorem grownBy_trans {a b c:World} {row:Option Nat} (h:a.grownBy b row) (k:b.grownBy c row):a.grownBy c row:=
 ⟨k.os.trans h.os,k.tape.trans h.tape,k.output.trans h.output,Nat.le_trans h.size k.size,fun i hi hne=>(k.block i (Nat.lt_of_lt_of_le hi h.size) hne).trans (h.block i hi hne)⟩
theorem ak {a b:World} (h:Grow a b) (row:Option Nat):a.grownBy b row:=⟨h.os,h.tape,h.output,h.size,fun i hi _=>h.block i hi⟩
theorem grownBy_setCell (w:World) (a:Addr) (v:Value):w.grownBy (w.setCell a v) (some a.block):=
 ⟨rfl,rfl,rfl,σ,fun k _ hk=>Below.heap_setCell _ _ _ _ (fun e=>hk (by rw [e]))⟩
theorem Gq {w:World} {base:Nat} {e:TypeId} {size g n cap m:Nat} {xs:List Value} (h:w.ownsRow base e size (ς (some ⟨g,0,none⟩) n cap) n xs) (hm:m<=n):
  w.ownsRow base e size (ς (some ⟨g,0,none⟩) m cap) m (xs.take (m*size)):=by
 obtain⟨hl,⟨h',_⟩|⟨g',cap',cur,h',hb,hg,hnc,hcm,hcs,htake⟩⟩:=h
 ·simp at h'
 ·simp only [Value.slice.injEq,Option.some.injEq,Addr.mk.injEq,and_true,true_and] at h'
  obtain⟨rfl,rfl⟩:=h';have hms:m*size<=n*size:=Nat.mul_le_mul_right _ hm;refine⟨by rw [List.length_take,hl];omega,.inr ⟨g,cap,cur,rfl,hb,hg,δ,hcm,hcs,?_⟩⟩;rw [<-htake,List.take_take,Nat.min_eq_left hms]
theorem wK {base:Nat} {e:TypeId} {size g n cap:Nat}:∀(vs:List Value) (o:Nat) (w:World) (xs:List Value),w.ownsRow base e size (ς (some ⟨g,0,none⟩) n cap) n xs->o+vs.length<=xs.length->
  (w.setCells g o vs).ownsRow base e size (ς (some ⟨g,0,none⟩) n cap) n (xs.take o++vs++xs.drop (o+vs.length))/\w.grownBy (w.setCells g o vs) (some g):=by
 intro vs;induction vs with
 |nil=>intro o w xs h _;simp only [List.append_nil,List.length_nil,Nat.add_zero,List.take_append_drop];exact⟨h,⟨rfl,rfl,rfl,Nat.le_refl _,fun _ _ _=>rfl⟩⟩
 |cons v vs ih=>
  intro o w xs h hl;obtain⟨h1,h2⟩:=h.stored o v;simp only [List.length_cons] at hl;obtain⟨h3,h4⟩:=ih (o+1) _ _ h1 (by simp;omega);refine⟨?_,grownBy_trans h2 h4⟩;have:(xs.set o v).take (o+1)++vs++(xs.set o v).drop (o+1+vs.length)=xs.take o++v::vs++xs.drop (o+(vs.length+1)):=by
   have hs:(xs.take o++ [xs[o]]).set o v=xs.take o++ [v]:=by
    rw [List.set_append,if_neg (by simp;omega)];simp [Nat.min_eq_left (δ:o<=xs.length)]
   rw [List.drop_set_of_lt δ,List.take_set,List.take_succ_eq_append_getElem (δ:o<xs.length),hs];simp [Nat.add_comm,Nat.add_left_comm]
  rw [this] at h3;exact h3
theorem rD {P:Program} {t e:TypeId} {size bytes:Nat} (hE:EI P t e size bytes) {w:World} (ty:TypeId)
  {base g n cap:Nat} {xs:List Value} (hown:w.ownsRow base e size (ς (some ⟨g,0,none⟩) n cap) n xs) (i m c:Nat) (ao:Option Addr) (him:i+m<=cap) (hao:0<m->ao=some ⟨g,i*size,none⟩) (hin:i<=n):
  ∃w',(Builtin.clear_ #[t] ty #[ς ao m c]).run P w=.ok (.tuple #[]) w'/\w'.ownsRow base e size (ς (some ⟨g,0,none⟩) i cap) i (xs.take (i*size))/\w.grownBy w' (some g):=by
 obtain⟨ti,z,hi,hz,h2,h3,h4,h5,h6⟩:=hE.hi;have hv:∀w,(zeroValue e).run P w=.ok z w:=fun w=>by simp [zeroValue,typeInfo,hi,hz]
 rcases Nat.eq_zero_or_pos m with rfl|hm
 ·have hr:(Builtin.clear_ #[t] ty #[ς ao 0 c]).run P w=.ok (.tuple #[]) w:=by
   cases ao<;>simp [Builtin.clear_,run_underlying hE.ht]
  exact⟨w,hr,Gq hown hin,⟨rfl,rfl,rfl,Nat.le_refl _,fun _ _ _=>rfl⟩⟩
 ·obtain rfl:=hao hm
  obtain⟨hl,⟨h',_⟩|⟨g',cap',cur,h',hb,hg,hnc,hcm,hcs,htake⟩⟩:=hown
  ·simp at h'
  simp only [Value.slice.injEq,Option.some.injEq,Addr.mk.injEq,and_true,true_and] at h';obtain⟨rfl,rfl⟩:=h';have hlen:(Builtin.zeroCells z.cells m).toList.length=m*size:=by rw [Array.length_toList,size_zeroCells,h4]
  have hfit:i*size+m*size<=cap*size:=by rw [<-Nat.add_mul];exact Nat.mul_le_mul_right _ him
  have hone:∀u∈(Builtin.zeroCells z.cells m).toList,u.oneCell'=true:=by
   intro u hu;have hu':=Array.mem_toList_iff.1 hu;simp only [Builtin.zeroCells,Array.mem_map,Array.mem_range] at hu';obtain⟨j,hj,rfl⟩:=hu';have:j % z.cells.size<z.cells.size:=Nat.mod_lt _ δ;rw [getElem!_pos z.cells _ this];exact h6 _ (Array.getElem_mem _)
  have hst:=run_storeCells_at P g (i*size) e (Builtin.zeroCells z.cells m).toList 0 cur w hg δ hone;simp only [Nat.add_zero] at hst;obtain⟨m',rfl⟩:∃m',m=m'+1:=⟨m - 1,δ⟩;have hr:(Builtin.clear_ #[t] ty #[ς (some ⟨g,i*size,none⟩) (m'+1) c]).run P w=.ok (.tuple #[]) (w.setRow g (cur.toList.take (i*size)++(Builtin.zeroCells z.cells (m'+1)).toList++cur.toList.drop (i*size+(Builtin.zeroCells z.cells (m'+1)).toList.length)).toArray):=by
   simp [Builtin.clear_,run_underlying hE.ht,hv,hst]
  refine⟨_,hr,⟨?_,.inr ⟨g,cap,_,rfl,hb,setRow_heap w g cur _ e _ hg,δ,hcm,?_,?_⟩⟩,⟨rfl,rfl,rfl,σ,fun k _ hk=>setRow_other w g k _ (fun e=>hk (by simp [e]))⟩⟩
  ·have hms:i*size<=n*size:=Nat.mul_le_mul_right _ hin
   rw [List.length_take,hl];omega
  ·simp only [List.size_toArray,List.length_append,List.length_take,List.length_drop,Array.length_toList,hlen];omega
  ·have hms:i*size<=n*size:=Nat.mul_le_mul_right _ hin
   rw [<-htake,List.take_take,Nat.min_eq_left hms];rw [List.append_assoc,List.take_append_of_le_length (by simp;omega),List.take_take,Nat.min_self]
theorem nX {P:Program} {t e:TypeId} {size bytes:Nat} (hE:EI P t e size bytes) {ops:Array Oper} {o:Oper} {a:Act} {w:World} {K:Act->World->Prop} {Q:Exit->Act->World->Prop} {E:Prop}
  (hgd:o.guard=none) (s x:Operand) (hop:o.op=Op.call { callee:=Callee.builtin Builtin.append,args:=#[s,x],argTypes:=#[t,t] })
  {base g n cap:Nat} (i j:Nat) (r:Nat) (ad:Option Addr) (m c:Nat) {xs:List Value} (hown:w.ownsRow base e size (ς (some ⟨g,0,none⟩) n cap) n xs) (hij:i<=j) (hjn:j<=n) (h1:∀u∈xs,u.oneCell'=true)
  (hs:a.eval s=ς (some ⟨g,0,none⟩) i cap) (hx:a.eval x=ς ad m c) (hr:r=i+(n - j)) (hm:m=n - j) (had:ad=some ⟨g,j*size,none⟩∨(∃b,ad=some b)/\n=j)
  (hK:∀w',w'.ownsRow base e size (ς (some ⟨g,0,none⟩) r cap) r (xs.take (i*size)++xs.drop (j*size))->w.grownBy w' (some g)->K (a.put o.dst (ς (some ⟨g,0,none⟩) r cap)) w'):
  if Region.wanted o (yielded ops a.tmps)=true then Oper.wp P o a w K Q else E:=by
 obtain⟨ti,z,hi,hz,h2,h3,h4,h5,h6⟩:=hE.hi;subst hm;subst hr;obtain⟨hl,⟨h',_⟩|⟨g',cap',cur,h',hb,hg,hnc,hcm,hcs,htake⟩⟩:=id hown
 ·simp at h'
 simp only [Value.slice.injEq,Option.some.injEq,Addr.mk.injEq,and_true,true_and] at h';obtain⟨rfl,rfl⟩:=h';have e1:n*size=j*size+(n - j)*size:=by rw [<-Nat.add_mul];congr 1;omega
 have e2:i*size<=j*size:=Nat.mul_le_mul_right _ hij;have hnl:(xs.drop (j*size)).length=(n - j)*size:=by rw [List.length_drop,hl];omega
 obtain⟨b,rfl⟩:∃b,ad=some b:=by rcases had with h|⟨h,_⟩;exact⟨_,h⟩;exact h
 have hnews:∀k u,(xs.drop (j*size))[k]? =some u->w.cell? (b.add k)=some u:=by
  intro k u hu;rcases had with h|⟨_,h⟩
  ·obtain rfl:=Option.some.inj h
   rw [List.getElem?_drop] at hu;have:=hown.cells (g:=g) rfl _ u hu;rw [Addr.add_lit,Nat.zero_add] at this;rw [Addr.add_lit];exact this
  ·rw [List.drop_of_length_le (by rw [hl,h];exact Nat.le_refl _)] at hu;simp at hu
 obtain⟨so,sg⟩:=wK (xs.drop (j*size)) (0+i*size) w xs hown (by rw [hnl,hl];omega);refine step_append_room hgd s x t hop e ti size hE.ht hi h2 g 0 i cap hs b (n - j) c (xs.drop (j*size)) hx hnl hnews (fun u hu=>h1 u (List.mem_of_mem_drop hu)) δ (fun k hk=>?_) (hK _ ?_ sg)
 ·rw [hnl] at hk
  refine⟨?_,hown.frozenAt _⟩;rw [Nat.zero_add,hown.cellAt _ δ,List.getElem?_eq_getElem (by rw [hl];omega)];rfl
 ·have h:=Gq so (show i+(n - j)<=n by omega)
  rw [Nat.zero_add] at h;have e3:(i+(n - j))*size=(xs.take (i*size)++xs.drop (j*size)).length:=by
   rw [List.length_append,hnl,List.length_take,hl,Nat.add_mul];omega
  rw [e3,List.take_left] at h;rw [Nat.zero_add];exact h
theorem Gs {w:World} {base g n cap i:Nat} {xs:List Value} (hown:w.ownsRow base 53 2 (ς (some ⟨g,0,none⟩) n cap) n xs) (hi:i<n) (h1:∀u∈xs,u.oneCell'=true):
  Calls Tryz.prog 75 #[ς (some ⟨g,0,none⟩) n cap,ι i,ι ((i:Int)+1)] w fun e w'=>e=.returned (ς (some ⟨g,0,none⟩) (n - 1) cap)/\w'.ownsRow base 53 2 (ς (some ⟨g,0,none⟩) (n - 1) cap) (n - 1) (xs.take (i*2)++xs.drop ((i+1)*2))/\w.grownBy w' (some g):=by
 obtain⟨hl,⟨h',_⟩|⟨g',cap',cur,h',hb,hg,hnc,hcm,hcs,htake⟩⟩:=id hown
 ·simp at h'
 simp only [Value.slice.injEq,Option.some.injEq,Addr.mk.injEq,and_true,true_and] at h';obtain⟨rfl,rfl⟩:=h';have hA:∃A:Addr,(if cap=i+1 then some (⟨g,0,none⟩:Addr) else some ⟨g,(i+1)*2,none⟩)=some A/\Hid (some A=some (⟨g,(i+1)*2,none⟩:Addr)∨(∃b,some A=some b)/\n=i+1):=by
  by_cases h:cap=i+1
  ·exact⟨⟨g,0,none⟩,by simp [h],.inr ⟨⟨_,rfl⟩,δ⟩⟩
  ·exact⟨_,by simp only [h,if_false],.inl rfl⟩
 obtain⟨A,hA,hA2⟩:=hA;have HO:=η hown;have H1:=η h1;have hic:i<=cap:=by omega
 have hp0:(0:Int)<=(i:Int)+1:=by omega
 have hp1:(i:Int)+1<=(n:Int):=by omega
 have hp2:((i:Int)+1).toNat=i+1:=by omega
 have hne:((i:Int)==(i:Int)+1)=false:=by simp;omega
 have hcm':cap<=9223372036854775807:=by unfold maxLen at hcm;omega
 have hn1:i+(n - (i+1))=n - 1:=by omega
 have hn2:((n - 1:Nat):Int)=(n:Int) - 1:=by omega
 clear hown hg htake hcs hb hl hcm h1;go_enter Tryz.func75,Tryz.ntmps75;go_wp2_with fail
 go_region_law (refine nX Dj rfl (.tmp 22) (.tmp 25) rfl i (i+1) (n - 1) (some A) (n - (i+1)) (cap - (i+1)) (by exact World.ownsRow.drew HO.o) δ δ H1.o (by simp [Act.eval,Act.put]) (by simp [Act.eval,Act.put]) hn1.symm rfl hA2.o ?_;intro w1 uI SA)
 have Kq:=η uI;have U_:=η SA;clear uI SA HO hA hA2 hn1;have hlt1:n - 1<cap:=by omega
 have hn3:(n:Int) - 1<=(n:Int):=by omega
 have hn4:((n:Int) - 1).toNat=n - 1:=by omega
 have ZZ:n - (n - 1)=1:=by omega
 obtain⟨w2,hcl,ql,HG2⟩:=rD Dj 0 Kq.o (n - 1) 1 (cap - (n - 1)) (some ⟨g,(n - 1)*2,none⟩) δ (fun _=>rfl) (Nat.le_refl _);have CS:=η hcl;have Iy:=η ql;have FD:=η HG2;clear hcl ql HG2;go_wp2_with fail
 rw [CS.o];go_wp2;go_ret;refine⟨rfl,?_,grownBy_trans (ak ((Grow.refl w).drew) _) (grownBy_trans U_.o FD.o)⟩;have h:=Iy.o;rw [List.take_of_length_le (by rw [Kq.o.1];exact Nat.le_refl _)] at h;exact h
theorem Ob {w:World} {base g n cap i:Nat} {xs:List Value} (hown:w.ownsRow base 58 4 (ς (some ⟨g,0,none⟩) n cap) n xs) (hi:i<n) (h1:∀u∈xs,u.oneCell'=true):
  Calls Tryz.prog 121 #[ς (some ⟨g,0,none⟩) n cap,ι i,ι ((i:Int)+1)] w fun e w'=>e=.returned (ς (some ⟨g,0,none⟩) (n - 1) cap)/\w'.ownsRow base 58 4 (ς (some ⟨g,0,none⟩) (n - 1) cap) (n - 1) (xs.take (i*4)++xs.drop ((i+1)*4))/\w.grownBy w' (some g):=by
 obtain⟨hl,⟨h',_⟩|⟨g',cap',cur,h',hb,hg,hnc,hcm,hcs,htake⟩⟩:=id hown
 ·simp at h'
 simp only [Value.slice.injEq,Option.some.injEq,Addr.mk.injEq,and_true,true_and] at h';obtain⟨rfl,rfl⟩:=h';have hA:∃A:Addr,(if cap=i+1 then some (⟨g,0,none⟩:Addr) else some ⟨g,(i+1)*4,none⟩)=some A/\Hid (some A=some (⟨g,(i+1)*4,none⟩:Addr)∨(∃b,some A=some b)/\n=i+1):=by
  by_cases h:cap=i+1
  ·exact⟨⟨g,0,none⟩,by simp [h],.inr ⟨⟨_,rfl⟩,δ⟩⟩
  ·exact⟨_,by simp only [h,if_false],.inl rfl⟩
 obtain⟨A,hA,hA2⟩:=hA;have HO:=η hown;have H1:=η h1;have hic:i<=cap:=by omega
 have hp0:(0:Int)<=(i:Int)+1:=by omega
 have hp1:(i:Int)+1<=(n:Int):=by omega
 have hp2:((i:Int)+1).toNat=i+1:=by omega
 have hne:((i:Int)==(i:Int)+1)=false:=by simp;omega
 have hcm':cap<=9223372036854775807:=by unfold maxLen at hcm;omega
 have hn1:i+(n - (i+1))=n - 1:=by omega
 have hn2:((n - 1:Nat):Int)=(n:Int) - 1:=by omega
 clear hown hg htake hcs hb hl hcm h1;go_enter Tryz.func121,Tryz.ntmps121;go_wp2_with fail
 go_region_law (refine nX h_ rfl (.tmp 22) (.tmp 25) rfl i (i+1) (n - 1) (some A) (n - (i+1)) (cap - (i+1)) (by exact World.ownsRow.drew HO.o) δ δ H1.o (by simp [Act.eval,Act.put]) (by simp [Act.eval,Act.put]) hn1.symm rfl hA2.o ?_;intro w1 uI SA)
 have Kq:=η uI;have U_:=η SA;clear uI SA HO hA hA2 hn1;have hlt1:n - 1<cap:=by omega
 have hn3:(n:Int) - 1<=(n:Int):=by omega
 have hn4:((n:Int) - 1).toNat=n - 1:=by omega
 have ZZ:n - (n - 1)=1:=by omega
 obtain⟨w2,hcl,ql,HG2⟩:=rD h_ 0 Kq.o (n - 1) 1 (cap - (n - 1)) (some ⟨g,(n - 1)*4,none⟩) δ (fun _=>rfl) (Nat.le_refl _);have CS:=η hcl;have Iy:=η ql;have FD:=η HG2;clear hcl ql HG2;go_wp2_with fail
 rw [CS.o];go_wp2;go_ret;refine⟨rfl,?_,grownBy_trans (ak ((Grow.refl w).drew) _) (grownBy_trans U_.o FD.o)⟩;have h:=Iy.o;rw [List.take_of_length_le (by rw [Kq.o.1];exact Nat.le_refl _)] at h;exact h
theorem Oc {w:World} {base g n cap i:Nat} {xs:List Value} (hown:w.ownsRow base 97 1 (ς (some ⟨g,0,none⟩) n cap) n xs) (hi:i<n) (h1:∀u∈xs,u.oneCell'=true):
  Calls Tryz.prog 81 #[ς (some ⟨g,0,none⟩) n cap,ι i,ι ((i:Int)+1)] w fun e w'=>e=.returned (ς (some ⟨g,0,none⟩) (n - 1) cap)/\w'.ownsRow base 97 1 (ς (some ⟨g,0,none⟩) (n - 1) cap) (n - 1) (xs.take (i*1)++xs.drop ((i+1)*1))/\w.grownBy w' (some g):=by
 obtain⟨hl,⟨h',_⟩|⟨g',cap',cur,h',hb,hg,hnc,hcm,hcs,htake⟩⟩:=id hown
 ·simp at h'
 simp only [Value.slice.injEq,Option.some.injEq,Addr.mk.injEq,and_true,true_and] at h';obtain⟨rfl,rfl⟩:=h';have hA:∃A:Addr,(if cap=i+1 then some (⟨g,0,none⟩:Addr) else some ⟨g,(i+1)*1,none⟩)=some A/\Hid (some A=some (⟨g,(i+1)*1,none⟩:Addr)∨(∃b,some A=some b)/\n=i+1):=by
  by_cases h:cap=i+1
  ·exact⟨⟨g,0,none⟩,by simp [h],.inr ⟨⟨_,rfl⟩,δ⟩⟩
  ·exact⟨_,by simp only [h,if_false],.inl rfl⟩
 obtain⟨A,hA,hA2⟩:=hA;have HO:=η hown;simp only [Nat.mul_one] at hA;have H1:=η h1;have hic:i<=cap:=by omega
 have hp0:(0:Int)<=(i:Int)+1:=by omega
 have hp1:(i:Int)+1<=(n:Int):=by omega
 have hp2:((i:Int)+1).toNat=i+1:=by omega
 have hne:((i:Int)==(i:Int)+1)=false:=by simp;omega
 have hcm':cap<=9223372036854775807:=by unfold maxLen at hcm;omega
 have hn1:i+(n - (i+1))=n - 1:=by omega
 have hn2:((n - 1:Nat):Int)=(n:Int) - 1:=by omega
 clear hown hg htake hcs hb hl hcm h1;go_enter Tryz.func81,Tryz.ntmps81;go_wp2_with fail
 go_region_law (refine nX jU rfl (.tmp 22) (.tmp 25) rfl i (i+1) (n - 1) (some A) (n - (i+1)) (cap - (i+1)) (by exact World.ownsRow.drew HO.o) δ δ H1.o (by simp [Act.eval,Act.put]) (by simp [Act.eval,Act.put]) hn1.symm rfl hA2.o ?_;intro w1 uI SA)
 have Kq:=η uI;have U_:=η SA;clear uI SA HO hA hA2 hn1;have hlt1:n - 1<cap:=by omega
 have hn3:(n:Int) - 1<=(n:Int):=by omega
 have hn4:((n:Int) - 1).toNat=n - 1:=by omega
 have ZZ:n - (n - 1)=1:=by omega
 obtain⟨w2,hcl,ql,HG2⟩:=rD jU 0 Kq.o (n - 1) 1 (cap - (n - 1)) (some ⟨g,(n - 1)*1,none⟩) δ (fun _=>rfl) (Nat.le_refl _);have CS:=η hcl;have Iy:=η ql;have FD:=η HG2;clear hcl ql HG2;go_wp2_with fail
 rw [show(Builtin.clear_ _ _ #[Value.slice (some (⟨g,n - 1,none⟩:Addr)) 1 _]).run _ _=_ from by simpa using CS.o];go_wp2;go_ret;refine⟨rfl,?_,grownBy_trans (ak ((Grow.refl w).drew) _) (grownBy_trans U_.o FD.o)⟩;have h:=Iy.o;rw [List.take_of_length_le (by rw [Kq.o.1];exact Nat.le_refl _)] at h;exact h
def mM (w:World) (row:Option Nat):CM:=fun a=>if some a.block=row then none else w.cell? a
theorem yt (w:World) (row:Option Nat):Sub (mM w row) w.cell?:=fun a v h=>by
 unfold mM at h;split at h
 ·cases h
 ·exact h
theorem sH {w w':World} {row:Option Nat} (h:w.grownBy w' row):Sub (mM w row) (mM w' row):=fun a v e=>by
 unfold mM at e ⊢;split at e
 ·cases e
 ·rename_i hne
  rw [if_neg hne,World.cell?_of_block (h.block a.block (World.block_lt_of_cell? w a e) hne)];exact e
theorem Dk {w w':World} (h:Grow w w') {row:Option Nat} (hr:∀k,row=some k->w.heap.size<=k):Sub w.cell? (mM w' row):=fun a v e=>by
 have hl:=World.block_lt_of_cell? w a e;unfold mM;rw [if_neg (fun e'=>by have:=hr _ e'.symm;omega)];exact h.sub _ _ e
def rE {α:Type} (T:Ty α) (w:World) (base e:Nat) (v:Value) (l:List α):Prop:=
 ∃css:List (List Value),w.ownsRow base e T.size v l.length css.flatten/\css.length=l.length/\∀(i:Nat) (cs:List Value) (x:α),css[i]? =some cs->l[i]? =some x->T.R (mM w v.ownBlock) cs x
theorem rE.nil {α:Type} (T:Ty α) (w:World) (base e:Nat):rE T w base e (ς none 0 0) []:=⟨[],World.ownsRow_nil _ _ _ _,rfl,fun i cs x h=>by simp at h⟩
theorem rE.kept {α:Type} {T:Ty α} {w w':World} {base e:Nat} {v:Value} {l:List α} {row:Option Nat} (h:rE T w base e v l) (hg:w.grownBy w' row) (hne:v.ownBlock=none∨v.ownBlock≠row) (hs':Sub (mM w v.ownBlock) (mM w' v.ownBlock)):rE T w' base e v l:=by
 obtain⟨css,h1,h2,h3⟩:=h;exact⟨css,h1.kept hg hne,h2,fun i cs x a b=>T.mono hs' (h3 i cs x a b)⟩
theorem rE.grow {α:Type} {T:Ty α} {w w':World} {base e:Nat} {v:Value} {l:List α} (h:rE T w base e v l) (hg:Grow w w'):rE T w' base e v l:=by
 obtain⟨css,h1,h2,h3⟩:=h;refine⟨css,h1.kept (ak hg none) (by cases v.ownBlock<;>simp),h2,fun i cs x a b=>T.mono (sH (ak hg _)) (h3 i cs x a b)⟩
theorem jM {α:Type} {T:Ty α} {c:CM} {css:List (List Value)} {l:List α} (h2:css.length=l.length) (h3:∀(i:Nat) (cs:List Value) (x:α),css[i]? =some cs->l[i]? =some x->T.R c cs x):∀cs∈css,cs.length=T.size:=by
 intro cs hcs;obtain⟨i,hi,rfl⟩:=List.mem_iff_getElem.1 hcs;exact T.len (h3 i css[i] l[i] σ σ)
theorem iT {size:Nat} (h0:0<size):∀(css:List (List Value)),(∀cs∈css,cs.length=size)->∀j,css.flatten[j]? =(css[j/size]?).bind fun cs=>cs[j % size]?:=by
 intro css;induction css with
 |nil=>intro _ j;simp
 |cons x l ih=>
  intro hf j;rw [List.flatten_cons];have hx:=hf x σ;by_cases hj:j<size
  ·rw [List.getElem?_append_left (by rw [hx];exact hj),Nat.div_eq_of_lt hj,Nat.mod_eq_of_lt hj];rfl
  ·rw [List.getElem?_append_right (by rw [hx];omega),hx,ih (fun cs h=>hf cs (by simp [h])),Nat.mod_eq_sub_mod (δ:size<=j),Nat.div_eq_sub_div h0 (δ:size<=j)]
   simp
theorem jV {size:Nat}:∀(css:List (List Value)),(∀cs∈css,cs.length=size)->css.flatten.length=css.length*size
 | [],_=>by simp
 |x::l,h=>by rw [List.flatten_cons,List.length_append,h x σ,jV l (fun cs hc=>h cs (by simp [hc])),List.length_cons,Nat.add_mul];omega
theorem jD {size:Nat}:∀(css:List (List Value)) (i:Nat),(∀cs∈css,cs.length=size)->css.flatten.take (i*size)=(css.take i).flatten
 | [],i,_=>by simp
 |x::l,0,_=>by simp
 |x::l,i+1,h=>by
  have hx:=h x σ;rw [List.flatten_cons,List.take_succ_cons,List.flatten_cons,Nat.add_mul,Nat.one_mul,Nat.add_comm,List.take_append,hx,List.take_of_length_le δ,<-jD l i (fun cs hc=>h cs (by simp [hc]))];congr 1;congr 1;omega
theorem lS {size:Nat}:∀(css:List (List Value)) (i:Nat),(∀cs∈css,cs.length=size)->css.flatten.drop (i*size)=(css.drop i).flatten
 | [],i,_=>by simp
 |x::l,0,_=>by simp
 |x::l,i+1,h=>by
  have hx:=h x σ;rw [List.flatten_cons,List.drop_succ_cons,Nat.add_mul,Nat.one_mul,Nat.add_comm,<-lS l i (fun cs hc=>h cs (by simp [hc])),List.drop_append,hx,List.drop_of_length_le δ,List.nil_append];congr 1;omega
theorem rE.sl {α:Type} {T:Ty α} (h0:0<T.size) {w:World} {base e:Nat} {v:Value} {l:List α} (h:rE T w base e v l):Sl T w.cell? v l:=by
 obtain⟨css,⟨hl,hs⟩,h2,h3⟩:=h;have hcl:=jM h2 h3;rcases hs with⟨rfl,hn⟩|⟨g,cap,cur,rfl,hg,hrow,hnc,hcm,hcs,htake⟩
 ·have:l=[]:=List.eq_nil_of_length_eq_zero hn
  subst this;exact⟨none,0,rfl,Nat.le_refl _,Nat.zero_le _,fun _=>rfl,fun i x e=>by simp at e⟩
 ·refine⟨some ⟨g,0,none⟩,cap,rfl,hnc,hcm,σ,fun i x e=>?_⟩
  have hi:i<l.length:=(List.getElem?_eq_some_iff.1 e).1;have hc:css[i]? =some css[i]:=List.getElem?_eq_getElem δ;refine⟨g,0,css[i],rfl,T.mono (yt _ _) (h3 i _ x hc e),fun j u hu=>?_⟩;have hj:j<T.size:=by rw [<-hcl css[i] (List.getElem_mem _)];exact(List.getElem?_eq_some_iff.1 hu).1
  have hx:css.flatten[i*T.size+j]? =some u:=by
   rw [iT h0 css hcl,Nat.mul_comm,Nat.mul_add_div h0,Nat.div_eq_of_lt hj,Nat.add_zero,hc,Nat.mul_add_mod,Nat.mod_eq_of_lt hj];exact hu
  rw [<-htake,List.getElem?_take] at hx;split at hx
  ·simp only [World.cell?,hrow];simpa using hx
  ·cases hx
theorem rE.snoc {α:Type} {T:Ty α} {w w':World} {base e:Nat} {v v':Value} {l:List α} {css:List (List Value)} {cs:List Value} {x:α} (h2:css.length=l.length) (h3:∀(i:Nat) (cs:List Value) (x:α),css[i]? =some cs->l[i]? =some x->T.R (mM w v.ownBlock) cs x)
  (ho:w'.ownsRow base e T.size v' (l.length+1) (css.flatten++cs)) (hs:Sub (mM w v.ownBlock) (mM w' v'.ownBlock)) (hR:T.R (mM w' v'.ownBlock) cs x):rE T w' base e v' (l++ [x]):=by
 refine⟨css++ [cs],by simpa using ho,by simp [h2],fun i cs' x' a b=>?_⟩;by_cases hi:i<l.length
 ·rw [List.getElem?_append_left δ] at a
  rw [List.getElem?_append_left hi] at b;exact T.mono hs (h3 i _ _ a b)
 ·have:i=l.length:=by
   have:=(List.getElem?_eq_some_iff.1 b).1;simp at this;omega
  subst this;rw [<-h2] at a;simp at a b;subst a;subst b;exact hR
theorem rE.of_flat {α:Type} {T:Ty α} {f:α->List Value} {w:World} {base e:Nat} {v:Value} {l:List α} (h:w.ownsRow base e T.size v l.length (l.flatMap f)) (hR:∀c,∀x∈l,T.R c (f x) x):rE T w base e v l:=
 ⟨l.map f,by rw [<-List.flatMap_def];exact h,σ,fun i cs x a b=>by
  rw [List.getElem?_map,b] at a;obtain rfl:=Option.some.inj a;exact hR _ x (List.mem_of_getElem? b)⟩
theorem Kr {w:World} {base:Nat} {e:TypeId} {size g n cap:Nat} {css:List (List Value)} {cs:List Value} {i:Nat} (hcl:∀cs∈css,cs.length=size) (h:w.ownsRow base e size (ς (some ⟨g,0,none⟩) n cap) n css.flatten) (hi:i<css.length) (hcs:cs.length=size):
  (w.setCells g (i*size) cs).ownsRow base e size (ς (some ⟨g,0,none⟩) n cap) n (css.set i cs).flatten/\w.grownBy (w.setCells g (i*size) cs) (some g):=by
 have hle:(i+1)*size<=css.length*size:=Nat.mul_le_mul_right _ δ;have hle':i*size+size<=css.length*size:=by rw [Nat.add_mul] at hle;omega
 obtain⟨h1,h2⟩:=wK cs (i*size) w css.flatten h (by rw [jV css hcl,hcs];exact hle');refine⟨?_,h2⟩;rw [hcs,jD css i hcl,show i*size+size=(i+1)*size by rw [Nat.add_mul];omega,lS css (i+1) hcl] at h1;rw [List.set_eq_take_append_cons_drop,if_pos hi];simpa using h1
def aI {α:Type} (T:Ty α) (c:CM) (w:World) (base e:Nat) (v:Value) (l:List α):Prop:=
 ∃css:List (List Value),w.ownsRow base e T.size v l.length css.flatten/\css.length=l.length/\∀(i:Nat) (cs:List Value) (x:α),css[i]? =some cs->l[i]? =some x->T.R c cs x
theorem aI.nil {α:Type} (T:Ty α) (c:CM) (w:World) (base e:Nat):aI T c w base e (ς none 0 0) []:=⟨[],World.ownsRow_nil _ _ _ _,rfl,fun i cs x h=>by simp at h⟩
theorem aI.kept {α:Type} {T:Ty α} {c:CM} {w w':World} {base e:Nat} {v:Value} {l:List α} {row:Option Nat} (h:aI T c w base e v l) (hg:w.grownBy w' row) (hne:v.ownBlock=none∨v.ownBlock≠row):aI T c w' base e v l:=by
 obtain⟨css,h1,h2,h3⟩:=h;exact⟨css,h1.kept hg hne,h2,h3⟩
theorem aI.grow {α:Type} {T:Ty α} {c:CM} {w w':World} {base e:Nat} {v:Value} {l:List α} (h:aI T c w base e v l) (hg:Grow w w'):aI T c w' base e v l:=
 h.kept (ak hg none) (by cases v.ownBlock<;>simp)
theorem aI.mono {α:Type} {T:Ty α} {c c':CM} {w:World} {base e:Nat} {v:Value} {l:List α} (hs:Sub c c') (h:aI T c w base e v l):aI T c' w base e v l:=by
 obtain⟨css,h1,h2,h3⟩:=h;exact⟨css,h1,h2,fun i cs x a b=>T.mono hs (h3 i cs x a b)⟩
theorem aI.lt {α:Type} {T:Ty α} {c:CM} {w:World} {base e:Nat} {v:Value} {l:List α} (h:aI T c w base e v l):∀k,v.ownBlock=some k->base<=k/\k<w.heap.size:=by
 obtain⟨css,h1,_⟩:=h;exact h1.lt
theorem aI.form {α:Type} {T:Ty α} {c:CM} {w:World} {base e:Nat} {v:Value} {l:List α} (h:aI T c w base e v l):∃a cap,v=ς a l.length cap:=by
 obtain⟨css,⟨_,⟨rfl,h0⟩|⟨g,cap,cur,rfl,_⟩⟩,_⟩:=h
 ·rw [h0];exact⟨_,_,rfl⟩
 ·exact⟨_,_,rfl⟩
theorem aY {w:World} {base:Nat} {e:TypeId} {size n:Nat} {v:Value} {xs:List Value} (h:w.ownsRow base e size v n xs):∃a cap,v=ς a n cap:=by
 obtain⟨_,⟨rfl,rfl⟩|⟨g,cap,cur,rfl,_⟩⟩:=h
 ·exact⟨_,_,rfl⟩
 ·exact⟨_,_,rfl⟩
theorem aI.sl {α:Type} {T:Ty α} {c:CM} (h0:0<T.size) {w:World} {base e:Nat} {v:Value} {l:List α} (hs:Sub c w.cell?) (h:aI T c w base e v l):Sl T w.cell? v l:=by
 obtain⟨css,⟨hl,hs'⟩,h2,h3⟩:=h;have hcl:=jM h2 h3;rcases hs' with⟨rfl,hn⟩|⟨g,cap,cur,rfl,hg,hrow,hnc,hcm,hcs,htake⟩
 ·have:l=[]:=List.eq_nil_of_length_eq_zero hn
  subst this;exact⟨none,0,rfl,Nat.le_refl _,Nat.zero_le _,fun _=>rfl,fun i x e=>by simp at e⟩
 ·refine⟨some ⟨g,0,none⟩,cap,rfl,hnc,hcm,σ,fun i x e=>?_⟩
  have hi:i<l.length:=(List.getElem?_eq_some_iff.1 e).1;have hc:css[i]? =some css[i]:=List.getElem?_eq_getElem δ;refine⟨g,0,css[i],rfl,T.mono hs (h3 i _ x hc e),fun j u hu=>?_⟩;have hj:j<T.size:=by rw [<-hcl css[i] (List.getElem_mem _)];exact(List.getElem?_eq_some_iff.1 hu).1
  have hx:css.flatten[i*T.size+j]? =some u:=by
   rw [iT h0 css hcl,Nat.mul_comm,Nat.mul_add_div h0,Nat.div_eq_of_lt hj,Nat.add_zero,hc,Nat.mul_add_mod,Nat.mod_eq_of_lt hj];exact hu
  rw [<-htake,List.getElem?_take] at hx;split at hx
  ·simp only [World.cell?,hrow];simpa using hx
  ·cases hx
theorem aI.snoc {α:Type} {T:Ty α} {c:CM} {w':World} {base e:Nat} {v':Value} {l:List α} {css:List (List Value)} {cs:List Value} {x:α} (h2:css.length=l.length) (h3:∀(i:Nat) (cs:List Value) (x:α),css[i]? =some cs->l[i]? =some x->T.R c cs x)
  (ho:w'.ownsRow base e T.size v' (l.length+1) (css.flatten++cs)) (hR:T.R c cs x):aI T c w' base e v' (l++ [x]):=by
 refine⟨css++ [cs],by simpa using ho,by simp [h2],fun i cs' x' a b=>?_⟩;by_cases hi:i<l.length
 ·rw [List.getElem?_append_left δ] at a
  rw [List.getElem?_append_left hi] at b;exact h3 i _ _ a b
 ·have:i=l.length:=by
   have:=(List.getElem?_eq_some_iff.1 b).1;simp at this;omega
  subst this;rw [<-h2] at a;simp at a b;subst a;subst b;exact hR
theorem Qu {P:Program} {t e:TypeId} {size bytes:Nat} (hE:EI P t e size bytes) {α:Type} {T:Ty α} (hT:T.size=size) {c:CM} {W w0:World} {cs:Array Value} {ops:Array Oper} {rest:List Oper} {o:Oper} {a:Act} {Q:Exit->Act->World->Prop} (hgd:o.guard=none) (s x:Operand)
  (ho:o.op=.call { callee:=.builtin .append,args:=#[s,x],argTypes:=#[t,t] }) (hG:Grow W w0) {base:Nat} (hB:W.heap.size<=base) (hB':base<=w0.heap.size)
  {v:Value} {l:List α} {y:α} (hs:a.eval s=v) (hown:aI T c w0 base e v l) (hR:T.R c cs.toList y)
  {g:Nat} (hx:a.eval x=ς (some ⟨g,0,none⟩) 1 1) (hg:g=w0.heap.size) (h1:∀u∈cs.toList,u.oneCell'=true)
  (hbytes:(l.length+1)*bytes<=140737488355328) (hb0:0<bytes)
  (h:∀g c' w',aI T c w' base e (ς (some ⟨g,0,none⟩) (l.length+1) c') (l++ [y])->Grow W w'->(w0.alloc (.cells cs e)).grownBy w' v.ownBlock->(v.ownBlock=some g∨g=w0.heap.size+1)->wpList P ops Q rest (a.put o.dst (ς (some ⟨g,0,none⟩) (l.length+1) c')) w'):wpList P ops Q (o::rest) a (w0.alloc (.cells cs e)):=by
 subst hg;obtain⟨css,h4,h5,h6⟩:=hown;obtain⟨i,z,hi,hz,k2,k3,k4,k5,_⟩:=hE.hi;subst hT;have h2:l.length+1<=(l.length+1)*bytes:=Nat.le_mul_of_pos_right _ hb0;refine wpList_append_lies _ hgd s x t ho base e i z T.size bytes hE.ht hi hz k2 k3 k4 k5 v l.length css.flatten hs (h4.alloc _) _ 1 1 cs.toList hx (by rw [T.len hR,Nat.one_mul]) (mJ w0 cs e) h1 ε (by unfold maxLen;omega) hbytes (by simp;omega) (w0.heap.size+1) σ fun g c' w' a1 a2 a3 _=>?_;exact h g c' w' (aI.snoc h5 h6 a1 hR) ((hG.alloc _).grown a2 fun k hk=>Nat.le_trans hB (h4.lt k hk).1) a2 a3
theorem aI.get {α:Type} {T:Ty α} {c:CM} {w:World} {base e:Nat} {a:Option Addr} {cap:Nat} {l:List α} (h0:0<T.size) (h:aI T c w base e (ς a l.length cap) l) (i:Nat) (hi:i<l.length):∃g cs,a=some ⟨g,0,none⟩/\T.R c cs l[i]/\At w.cell? g (i*T.size) cs:=by
 obtain⟨css,h1,h2,h3⟩:=h;have hcl:=jM h2 h3;have hc:css[i]? =some css[i]:=List.getElem?_eq_getElem δ;have hR:=h3 i _ l[i] hc (List.getElem?_eq_getElem hi);obtain⟨hl,⟨_,hn⟩|⟨g,cap',cur,he,hg,hrow,hnc,hcm,hcs,htake⟩⟩:=id h1
 ·omega
 ·simp only [Value.slice.injEq,true_and] at he
  obtain⟨rfl,rfl⟩:=he;refine⟨g,css[i],rfl,hR,fun j u hu=>?_⟩;have hj:j<T.size:=by rw [<-T.len hR];exact(List.getElem?_eq_some_iff.1 hu).1
  have:=h1.cells (g:=g) rfl (i*T.size+j) u (by
   rw [iT h0 css hcl,Nat.mul_comm,Nat.mul_add_div h0,Nat.div_eq_of_lt hj,Nat.add_zero,hc,Nat.mul_add_mod,Nat.mod_eq_of_lt hj];exact hu)
  rw [Addr.add_lit,Nat.zero_add] at this;exact this
theorem SB {w:World} {base b':Nat} {e:TypeId} {size n:Nat} {v:Value} {xs:List Value} (hb:b'<=base) (h:w.ownsRow base e size v n xs):w.ownsRow b' e size v n xs:=by
 obtain⟨h1,h2⟩:=h;refine⟨h1,?_⟩;rcases h2 with h2|⟨g,cap,cur,hv,hg,r⟩
 ·exact .inl h2
 ·exact .inr ⟨g,cap,cur,hv,Nat.le_trans hb hg,r⟩
theorem aI.base {α:Type} {T:Ty α} {c:CM} {w:World} {base b' e:Nat} {v:Value} {l:List α} (h:aI T c w base e v l) (hb:b'<=base):aI T c w b' e v l:=by
 obtain⟨css,h1,h2,h3⟩:=h;exact⟨css,SB hb h1,h2,h3⟩
structure Va (w w':World) (base:Nat) (e:TypeId) (size:Nat) (v:Value) (n:Nat) (a':Option Addr) (c':Nat) (xs:List Value):Prop where
 own:w'.ownsRow base e size (ς a' n c') n xs
 grown:w.grownBy w' v.ownBlock
 blk:(Value.slice a' n c').ownBlock=v.ownBlock∨∃g,(Value.slice a' n c').ownBlock=some g/\w.heap.size<=g
theorem Bf {P:Program} {t e:TypeId} {size bytes:Nat} (hE:EI P t e size bytes) {w:World} (ty:TypeId) {base:Nat} {v:Value} {n:Nat} {xs:List Value} (hown:w.ownsRow base e size v n xs)
  (ao:Option Addr) (m c:Nat) (news:List Value) (hnone:ao=none->m=0/\c=0) (hl:news.length=m*size) (hnews:∀ad,ao=some ad->∀j u,news[j]? =some u->w.cell? (ad.add j)=some u) (h1:∀u∈news,u.oneCell'=true)
  (h63:n+m<=maxLen) (hbytes:(n+m)*bytes<=140737488355328) (hbase:base<=w.heap.size):
  ∃a' c' w',(Builtin.append_ #[t,t] ty #[v,ς ao m c]).run P w=.ok (ς a' (n+m) c') w'/\Va w w' base e size v (n+m) a' c' (xs++news):=by
 obtain⟨i,z,hi,hz,k2,k3,k4,k5,_⟩:=hE.hi;cases ao with
 |none=>
  obtain⟨rfl,rfl⟩:=hnone rfl;have hn:news=[]:=List.eq_nil_of_length_eq_zero (by simpa using hl);subst hn;obtain⟨a',c',rfl⟩:=aY hown;exact⟨a',c',w,run_append_owned_none (P:=P) w base t ty e i size hE.ht hi _ n xs hown,by simpa using hown,⟨rfl,rfl,rfl,Nat.le_refl _,fun _ _ _=>rfl⟩,.inl rfl⟩
 |some ad=>
  obtain⟨v',w',hr,h2,h3,_,h5⟩:=run_append_own_at (P:=P) w base t ty e i z size bytes hE.ht hi hz k2 k3 k4 k5 v n xs hown ad m c news hl (hnews ad rfl) h1 h63 hbytes hbase;obtain⟨a',c',rfl⟩:=aY h2;refine⟨a',c',w',hr,h2,h3,?_⟩;rcases h5 with h5|h5
  ·exact .inl h5
  ·exact .inr ⟨_,h5,Nat.le_refl _⟩
theorem oW {P:Program} {t e:TypeId} {size bytes:Nat} (hE:EI P t e size bytes) {w:World} {o:Oper} {a:Act} {K:Act->World->Prop} {Q:Exit->Act->World->Prop} (s x:Operand) (ho:o.op=.call { callee:=.builtin .append,args:=#[s,x],argTypes:=#[t,t] })
  {base:Nat} {v:Value} {n:Nat} {xs:List Value} (hs:a.eval s=v) (hown:w.ownsRow base e size v n xs)
  (ao:Option Addr) (m c:Nat) (news:List Value) (hx:a.eval x=ς ao m c) (hnone:ao=none->m=0/\c=0) (hl:news.length=m*size) (hnews:∀ad,ao=some ad->∀j u,news[j]? =some u->w.cell? (ad.add j)=some u) (h1:∀u∈news,u.oneCell'=true)
  (h63:n+m<=maxLen) (hbytes:(n+m)*bytes<=140737488355328) (hbase:base<=w.heap.size)
  (h:∀a' c' w',Va w w' base e size v (n+m) a' c' (xs++news)->K (a.put o.dst (ς a' (n+m) c')) w'):o.wp P a w K Q:=by
 obtain⟨a',c',w',hr,h2⟩:=Bf hE o.type hown ao m c news hnone hl hnews h1 h63 hbytes hbase;unfold Oper.wp execOp;simp only [ho,resolve,invoke,builtin,Sem.run_bind,Sem.run_pure,Result.andThen_ok,List.map_toArray,List.map_cons,List.map_nil,hs,hx,hr];exact h a' c' w' h2
theorem Dl {P:Program} {t e:TypeId} {size bytes:Nat} (hE:EI P t e size bytes) {w:World} {ops:Array Oper} {rest:List Oper} {o:Oper} {a:Act} {Q:Exit->Act->World->Prop} (hgd:o.guard=none) (s x:Operand) (ho:o.op=.call { callee:=.builtin .append,args:=#[s,x],argTypes:=#[t,t] })
  {base:Nat} {v:Value} {n:Nat} {xs:List Value} (hs:a.eval s=v) (hown:w.ownsRow base e size v n xs)
  (ao:Option Addr) (m c:Nat) (news:List Value) (hx:a.eval x=ς ao m c) (hnone:ao=none->m=0/\c=0) (hl:news.length=m*size) (hnews:∀ad,ao=some ad->∀j u,news[j]? =some u->w.cell? (ad.add j)=some u) (h1:∀u∈news,u.oneCell'=true)
  (h63:n+m<=maxLen) (hbytes:(n+m)*bytes<=140737488355328) (hbase:base<=w.heap.size)
  (h:∀a' c' w',Va w w' base e size v (n+m) a' c' (xs++news)->wpList P ops Q rest (a.put o.dst (ς a' (n+m) c')) w'):wpList P ops Q (o::rest) a w:=
 wpList_plain hgd fun _ hK=>oW hE s x ho hs hown ao m c news hx hnone hl hnews h1 h63 hbytes hbase fun a' c' w' h2=>hK _ _ (h a' c' w' h2)
theorem kF {P:Program} {t e:TypeId} {size bytes:Nat} (hE:EI P t e size bytes) {w:World} {ops:Array Oper} {o:Oper} {a:Act} {K:Act->World->Prop} {Q:Exit->Act->World->Prop} {E:Prop} (hgd:o.guard=none) (s x:Operand) (ho:o.op=.call { callee:=.builtin .append,args:=#[s,x],argTypes:=#[t,t] })
  {base:Nat} {v:Value} {n:Nat} {xs:List Value} (hs:a.eval s=v) (hown:w.ownsRow base e size v n xs)
  (ao:Option Addr) (m c:Nat) (news:List Value) (hx:a.eval x=ς ao m c) (hnone:ao=none->m=0/\c=0) (hl:news.length=m*size) (hnews:∀ad,ao=some ad->∀j u,news[j]? =some u->w.cell? (ad.add j)=some u) (h1:∀u∈news,u.oneCell'=true)
  (h63:n+m<=maxLen) (hbytes:(n+m)*bytes<=140737488355328) (hbase:base<=w.heap.size)
  (h:∀a' c' w',Va w w' base e size v (n+m) a' c' (xs++news)->K (a.put o.dst (ς a' (n+m) c')) w'):if Region.wanted o (yielded ops a.tmps)=true then Oper.wp P o a w K Q else E:=by
 rw [if_pos (by simp [Region.wanted,hgd])];exact oW hE s x ho hs hown ao m c news hx hnone hl hnews h1 h63 hbytes hbase h
theorem Iz {w:World} {base:Nat} {e:TypeId} {size n c:Nat} {ao:Option Addr} {xs:List Value} (h:w.ownsRow base e size (ς ao n c) n xs):(ao=none->n=0/\c=0)/\∀ad,ao=some ad->∀j u,xs[j]? =some u->w.cell? (ad.add j)=some u:=by
 obtain⟨hl,⟨he,hn⟩|⟨g,cap,cur,he,hg,_⟩⟩:=id h
 ·simp only [Value.slice.injEq] at he
  obtain⟨rfl,rfl,rfl⟩:=he;exact⟨fun _=>⟨rfl,rfl⟩,fun _ h=>by cases h⟩
 ·simp only [Value.slice.injEq,true_and] at he
  obtain⟨rfl,rfl⟩:=he;refine⟨σ,?_⟩;rintro ad hd j u hu;obtain rfl:=Option.some.inj hd;exact h.cells (g:=g) rfl j u hu
def zF {α:Type} (T:Ty α):Prop:=∀c cs x,T.R c cs x->∀u∈cs,u.oneCell'=true
theorem iU {α:Type} {T:Ty α} {c:CM} {v:Value} {l:List α} (h:Sl T c v l):v.oneCell'=true:=by
 obtain⟨a,cap,rfl,-⟩:=h;rfl
theorem jW:zF Ty.int:=by
 rintro c cs x ⟨rfl,-⟩ u hu;simp only [List.mem_cons,List.not_mem_nil,or_false] at hu;subst hu;rfl
theorem eY:zF Ty.rc:=by
 rintro c cs x ⟨v,rfl,-,-,h⟩ u hu;simp only [List.mem_cons,List.not_mem_nil,or_false] at hu;rcases hu with rfl|rfl|rfl
 ·rfl
 ·rfl
 ·exact iU h
theorem IB:zF Ty.rd:=by
 rintro c cs x ⟨v,rfl,-,h⟩ u hu;simp only [List.mem_cons,List.not_mem_nil,or_false] at hu;rcases hu with rfl|rfl
 ·rfl
 ·exact iU h
theorem fZ:zF Ty.opn:=by
 rintro c cs x ⟨v,v',rfl,-,h,h'⟩ u hu;simp only [List.mem_cons,List.not_mem_nil,or_false] at hu;rcases hu with rfl|rfl|rfl|rfl
 ·rfl
 ·exact iU h
 ·rfl
 ·exact iU h'
theorem kU:zF Ty.ms:=by
 rintro c cs x ⟨v,rfl,-,-,-,h⟩ u hu;simp only [List.mem_cons,List.not_mem_nil,or_false] at hu;rcases hu with rfl|rfl|rfl|rfl
 ·rfl
 ·rfl
 ·rfl
 ·exact iU h
theorem IC:zF Ty.hs:=by
 rintro c cs x ⟨v,v',v'',rfl,h,-,-,-,-,h',h''⟩ u hu;simp only [List.mem_cons,List.not_mem_nil,or_false] at hu;rcases hu with rfl|rfl|rfl|rfl|rfl|rfl|rfl
 ·exact iU h
 ·rfl
 ·rfl
 ·rfl
 ·rfl
 ·exact iU h'
 ·exact iU h''
theorem iZ {α:Type} (T:Ty α):zF (Ty.sl T):=by
 rintro c cs x ⟨v,rfl,h⟩ u hu;simp only [List.mem_cons,List.not_mem_nil,or_false] at hu;subst hu;exact iU h
def Src {α:Type} (T:Ty α) (c:CM) (w:World) (v:Value) (l:List α):Prop:=
 ∃(ao:Option Addr) (cap:Nat) (css:List (List Value)),v=ς ao l.length cap/\(ao=none->l.length=0/\cap=0)/\l.length<=maxLen/\css.length=l.length/\
  (∀(i:Nat) (cs:List Value) (x:α),css[i]? =some cs->l[i]? =some x->T.R c cs x)/\∀ad,ao=some ad->∀j u,css.flatten[j]? =some u->w.cell? (ad.add j)=some u
theorem Src.iK {α:Type} {T:Ty α} (h0:0<T.size) {c:CM} {w:World} (hc:Sub c w.cell?) {v:Value} {l:List α} (h:Sl T c v l):Src T c w v l:=by
 obtain⟨a,cap,rfl,h1,h2,h3,hel⟩:=h;have hex:∀n,n<=l.length->∃css:List (List Value),css.length=n/\∀(i:Nat) (cs:List Value) (x:α),css[i]? =some cs->l[i]? =some x->T.R c cs x/\∀ad,a=some ad->At c ad.block (ad.off+i*T.size) cs/\ad=⟨ad.block,ad.off,none⟩:=by
  intro n;induction n with
  |zero=>intro _;exact⟨[],rfl,fun i cs x h=>by simp at h⟩
  |succ n ih=>
   intro hn;obtain⟨css,hl,hi⟩:=ih δ;obtain⟨b,o,cs,ha,hR,hA⟩:=hel n l[n] (List.getElem?_eq_getElem δ);refine⟨css++ [cs],by simp [hl],fun i cs' x e e'=>?_⟩;by_cases hlt:i<css.length
   ·rw [List.getElem?_append_left hlt] at e;exact hi i cs' x e e'
   ·have hb:=(List.getElem?_eq_some_iff.1 e).1
    simp at hb;obtain rfl:i=css.length:=by omega
    simp at e;subst e;rw [hl,List.getElem?_eq_getElem δ] at e';obtain rfl:=Option.some.inj e';refine⟨hR,fun ad h=>?_⟩;rw [ha] at h;obtain rfl:=Option.some.inj h;exact⟨by rw [hl];exact hA,rfl⟩
 obtain⟨css,hl,hi⟩:=hex l.length (Nat.le_refl _);refine⟨a,cap,css,rfl,fun h=>⟨by have:=h3 h;omega,h3 h⟩,δ,hl,fun i cs x e e'=>(hi i cs x e e').1,fun ad had j u hu=>?_⟩;have hcl:=jM (c:=c) hl (fun i cs x e e'=>(hi i cs x e e').1);rw [iT h0 css hcl] at hu;cases hx:css[j/T.size]? with
 |none=>rw [hx] at hu;cases hu
 |some cs=>
  rw [hx] at hu;have hlt:=(List.getElem?_eq_some_iff.1 hx).1;obtain⟨hA,hd⟩:=(hi _ cs _ hx (List.getElem?_eq_getElem δ)).2 ad had;have:=hA _ u hu;rw [Nat.add_assoc,Nat.mul_comm,Nat.div_add_mod] at this;rw [hd,Addr.add_lit];exact hc _ _ this
theorem Src.mono {α:Type} {T:Ty α} {c c':CM} {w w':World} {v:Value} {l:List α} (h:Src T c w v l) (hc:Sub c c') (hs:Sub w.cell? w'.cell?):Src T c' w' v l:=by
 obtain⟨ao,cap,css,h1,h2,h2',h3,h4,h5⟩:=h;exact⟨ao,cap,css,h1,h2,h2',h3,fun i cs x e e'=>T.mono hc (h4 i cs x e e'),fun ad had j u hu=>hs _ _ (h5 ad had j u hu)⟩
theorem Src.grow {α:Type} {T:Ty α} {c:CM} {w w':World} {v:Value} {l:List α} (h:Src T c w v l) (hg:Grow w w'):Src T c w' v l:=h.mono (Sub.refl _) hg.sub
theorem Src.kept {α:Type} {T:Ty α} {c:CM} {w w':World} {g n cap:Nat} {l:List α} {row:Option Nat} (h:Src T c w (ς (some ⟨g,0,none⟩) n cap) l) (hg:w.grownBy w' row) (hne:some g≠row):Src T c w' (ς (some ⟨g,0,none⟩) n cap) l:=by
 obtain⟨ao,cap',css,h1,h2,h2',h3,h4,h5⟩:=h;refine⟨ao,cap',css,h1,h2,h2',h3,h4,fun ad had j u hu=>?_⟩;have e:=h5 ad had j u hu;simp only [Value.slice.injEq] at h1;obtain⟨h1,-,-⟩:=h1;rw [had] at h1;obtain rfl:=Option.some.inj h1;have hl:=World.block_lt_of_cell? w _ e;rw [World.cell?_of_block (w:=w) (hg.block _ hl (by rw [Addr.add_lit];exact hne))];exact e
theorem Src.bQ {α:Type} {T:Ty α} {c:CM} {cs:Array Value} {x:α} (hR:T.R c cs.toList x) (w:World) (t:TypeId) {g:Nat} (hg:g=w.heap.size):Src T c (w.alloc (.cells cs t)) (ς (some ⟨g,0,none⟩) 1 1) [x]:=by
 subst hg;refine⟨_,1,[cs.toList],rfl,σ,(by show 1<=maxLen;decide),rfl,fun i cs' y e e'=>?_,fun ad had j u hu=>?_⟩
 ·have hi:=(List.getElem?_eq_some_iff.1 e).1
  obtain rfl:i=0:=by simpa using hi
  simp at e e';subst e;subst e';exact hR
 ·obtain rfl:=Option.some.inj had
  exact mJ w cs t j u (by simpa using hu)
theorem aI.jw {α:Type} (T:Ty α) (c:CM) (w:World) (B:Nat) (e:TypeId) (hB:B<=w.heap.size) {g:Nat} (hg:g=w.heap.size):aI T c (w.alloc (.cells #[] e)) B e (ς (some ⟨g,0,none⟩) 0 0) []:=by
 subst hg;exact⟨[],World.ownsRow_made w #[] 0 hB (Nat.zero_le _) σ,rfl,fun i cs x h=>by simp at h⟩
theorem Vb {P:Program} {t e:TypeId} {size bytes:Nat} (hE:EI P t e size bytes) {α:Type} {T:Ty α} (hT:T.size=size) (h1:zF T) {c:CM} {w:World} (ty:TypeId) {base:Nat} {v vs:Value} {l m:List α} (hown:aI T c w base e v l) (hsrc:Src T c w vs m)
  (hb0:0<bytes) (hbytes:(l.length+m.length)*bytes<=140737488355328) (hbase:base<=w.heap.size):
  ∃a' c' w',(Builtin.append_ #[t,t] ty #[v,vs]).run P w=.ok (ς a' (l.length+m.length) c') w'/\aI T c w' base e (ς a' (l.length+m.length) c') (l++m)/\w.grownBy w' v.ownBlock/\
   ((Value.slice a' (l.length+m.length) c').ownBlock=v.ownBlock∨∃g,(Value.slice a' (l.length+m.length) c').ownBlock=some g/\w.heap.size<=g):=by
 obtain⟨css,k1,k2,k3⟩:=hown;obtain⟨ao,cap,jT,rfl,s2,s2',s3,s4,s5⟩:=hsrc;subst hT;have hcl:=jM s3 s4;have hle:l.length+m.length<=(l.length+m.length)*bytes:=Nat.le_mul_of_pos_right _ hb0;obtain⟨a',c',w',hr,hA⟩:=Bf hE ty k1 ao m.length cap jT.flatten s2 (by rw [jV jT hcl,s3]) s5 (by
   intro u hu;obtain⟨cs,hcs,huc⟩:=List.mem_flatten.1 hu;obtain⟨i,hi,rfl⟩:=List.mem_iff_getElem.1 hcs;exact h1 _ _ _ (s4 i jT[i] m[i] σ σ) u huc) (by unfold maxLen;omega) hbytes hbase
 refine⟨a',c',w',hr,⟨css++jT,?_,by simp [k2,s3],fun i cs x e e'=>?_⟩,hA.grown,hA.blk⟩
 ·have:=hA.own
  rw [<-List.flatten_append] at this;simpa using this
 ·by_cases hi:i<l.length
  ·rw [List.getElem?_append_left δ] at e
   rw [List.getElem?_append_left hi] at e';exact k3 i _ _ e e'
  ·rw [List.getElem?_append_right δ] at e
   rw [List.getElem?_append_right δ] at e';rw [k2] at e;exact s4 _ _ _ e e'
theorem dD {P:Program} {t e:TypeId} {size bytes:Nat} (hE:EI P t e size bytes) {α:Type} {T:Ty α} (hT:T.size=size) (h1:zF T) (hb0:0<bytes) {c:CM} {w:World} {o:Oper} {a:Act} {K:Act->World->Prop} {Q:Exit->Act->World->Prop} (s x:Operand) (ho:o.op=.call { callee:=.builtin .append,args:=#[s,x],argTypes:=#[t,t] })
  {base:Nat} {v vs:Value} {l m:List α} (hs:a.eval s=v) (hown:aI T c w base e v l) (hx:a.eval x=vs) (hsrc:Src T c w vs m)
  (hbytes:(l.length+m.length)*bytes<=140737488355328) (hbase:base<=w.heap.size)
  (h:∀a' c' w',aI T c w' base e (ς a' (l.length+m.length) c') (l++m)->w.grownBy w' v.ownBlock->((Value.slice a' (l.length+m.length) c').ownBlock=v.ownBlock∨∃g,(Value.slice a' (l.length+m.length) c').ownBlock=some g/\w.heap.size<=g)->K (a.put o.dst (ς a' (l.length+m.length) c')) w'):o.wp P a w K Q:=by
 obtain⟨a',c',w',hr,h2,h3,h4⟩:=Vb hE hT h1 o.type hown hsrc hb0 hbytes hbase;unfold Oper.wp execOp;simp only [ho,resolve,invoke,builtin,Sem.run_bind,Sem.run_pure,Result.andThen_ok,List.map_toArray,List.map_cons,List.map_nil,hs,hx,hr];exact h a' c' w' h2 h3 h4
theorem aZ {P:Program} {t e:TypeId} {size bytes:Nat} (hE:EI P t e size bytes) {α:Type} {T:Ty α} (hT:T.size=size) (h1:zF T) (hb0:0<bytes) {c:CM} {w:World} {ops:Array Oper} {rest:List Oper} {o:Oper} {a:Act} {Q:Exit->Act->World->Prop} (hgd:o.guard=none) (s x:Operand) (ho:o.op=.call { callee:=.builtin .append,args:=#[s,x],argTypes:=#[t,t] })
  {base:Nat} {v vs:Value} {l m:List α} (hs:a.eval s=v) (hown:aI T c w base e v l) (hx:a.eval x=vs) (hsrc:Src T c w vs m)
  (hbytes:(l.length+m.length)*bytes<=140737488355328) (hbase:base<=w.heap.size)
  (h:∀a' c' w',aI T c w' base e (ς a' (l.length+m.length) c') (l++m)->w.grownBy w' v.ownBlock->((Value.slice a' (l.length+m.length) c').ownBlock=v.ownBlock∨∃g,(Value.slice a' (l.length+m.length) c').ownBlock=some g/\w.heap.size<=g)->wpList P ops Q rest (a.put o.dst (ς a' (l.length+m.length) c')) w'):wpList P ops Q (o::rest) a w:=
 wpList_plain hgd fun _ hK=>dD hE hT h1 hb0 s x ho hs hown hx hsrc hbytes hbase fun a' c' w' h2 h3 h4=>hK _ _ (h a' c' w' h2 h3 h4)
theorem oO {P:Program} {t e:TypeId} {size bytes:Nat} (hE:EI P t e size bytes) {α:Type} {T:Ty α} (hT:T.size=size) (h1:zF T) (hb0:0<bytes) {c:CM} {w:World} {ops:Array Oper} {o:Oper} {a:Act} {K:Act->World->Prop} {Q:Exit->Act->World->Prop} {E:Prop} (hgd:o.guard=none) (s x:Operand) (ho:o.op=.call { callee:=.builtin .append,args:=#[s,x],argTypes:=#[t,t] })
  {base:Nat} {v vs:Value} {l m:List α} (hs:a.eval s=v) (hown:aI T c w base e v l) (hx:a.eval x=vs) (hsrc:Src T c w vs m)
  (hbytes:(l.length+m.length)*bytes<=140737488355328) (hbase:base<=w.heap.size)
  (h:∀a' c' w',aI T c w' base e (ς a' (l.length+m.length) c') (l++m)->w.grownBy w' v.ownBlock->((Value.slice a' (l.length+m.length) c').ownBlock=v.ownBlock∨∃g,(Value.slice a' (l.length+m.length) c').ownBlock=some g/\w.heap.size<=g)->K (a.put o.dst (ς a' (l.length+m.length) c')) w'):if Region.wanted o (yielded ops a.tmps)=true then Oper.wp P o a w K Q else E:=by
 rw [if_pos (by simp [Region.wanted,hgd])];exact dD hE hT h1 hb0 s x ho hs hown hx hsrc hbytes hbase h
theorem d_ {g n c B:Nat} (h:B<=g):∀k,(Value.slice (some ⟨g,0,none⟩) n c).ownBlock=some k->B<=k:=by
 intro k hk;obtain rfl:g=k:=by simpa [Value.ownBlock] using hk
 exact h
theorem Sl.nil {α:Type} (T:Ty α) (c:CM):Sl T c (ς none 0 0) []:=⟨none,0,rfl,Nat.le_refl _,Nat.zero_le _,fun _=>rfl,fun i x e=>by simp at e⟩
theorem bn {w0 w w':World} {v:Value} (hG:Grow w0 w) (hg:w.grownBy w' v.ownBlock) (hv:∀k,v.ownBlock=some k->w0.heap.size<=k):Grow w0 w':=hG.grown hg hv
theorem dW {B m:Nat} {v:Value} {a':Option Addr} {n c':Nat} (hB:B<=m) (hb:(Value.slice a' n c').ownBlock=v.ownBlock∨∃g,(Value.slice a' n c').ownBlock=some g/\m<=g) (hv:∀k,v.ownBlock=some k->B<=k):∀k,(Value.slice a' n c').ownBlock=some k->B<=k:=by
 intro k hk;rcases hb with hb|⟨g,hb,hg⟩
 ·exact hv k (hb▸hk)
 ·rw [hb] at hk
  obtain rfl:=Option.some.inj hk;exact Nat.le_trans hB hg
def jy (S:Int->Int):List Pt->Int
 | []=>0
 |p::l=>if wrap64 (S p.k+p.n)<0 then 11 else if 1048576<wrap64 (S p.k+p.n) then 4 else jy S l
def S4 (s0 s1 s2 s3:Int) (k:Int):Int:=if k=0 then s0 else if k=1 then s1 else if k=2 then s2 else s3
def dw (l:List Pt):Prop:=∀p∈l,0<=p.k/\p.k<4
theorem IE (s0 s1 s2 s3 k:Int) (h0:0<=k) (h1:k<4):(#[ι s0,ι s1,ι s2,ι s3]:Array Value)[k.toNat]? =some (ι (S4 s0 s1 s2 s3 k)):=by
 have:k=0∨k=1∨k=2∨k=3:=by omega
 rcases this with rfl|rfl|rfl|rfl<;>rfl
theorem Vd {v:Value} {l:List Pt} {s0 s1 s2 s3:Int} (w:World) (hv:m_ w.cell? v l) (hk:dw l):
  Calls Tryz.prog 107 #[.agg #[ι s0,ι s1,ι s2,ι s3],v] w fun e w'=>e=.returned (ι (jy (S4 s0 s1 s2 s3) l))/\Grow w w':=by
 obtain⟨a,cap,rfl,h1,h2,-,hel⟩:=hv;unfold maxLen at h2;go_enter Tryz.func107,Tryz.ntmps107;go_wp2;go_loopw [4,9] (fun _ i wr=>∃k:Nat,k<=l.length/\i=ι k/\Grow (w.alloc (.cells #[ι s0,ι s1,ι s2,ι s3] 47)) wr/\jy (S4 s0 s1 s2 s3) l=jy (S4 s0 s1 s2 s3) (l.drop k)) (fun _ i _=>l.length - (intOf i).toNat)
 case atStart=>exact⟨0,δ,rfl,Grow.refl _,rfl⟩
 case round=>
  obtain⟨k,hk',rfl,hb,hE⟩:=hrel;have hbw:=((Grow.refl w).alloc _).trans hb;by_cases hlt:k<l.length
  ·obtain⟨b,o,rfl,c0,c1,c2,-,-,-⟩:=m_.at_ hel k hlt
   replace c0:=hbw.sub _ _ c0;replace c1:=hbw.sub _ _ c1;replace c2:=hbw.sub _ _ c2;obtain⟨hk0,hk1⟩:=hk l[k] σ;have cs:wr.cell? ⟨w.heap.size,l[k].k.toNat,none⟩=some (ι (S4 s0 s1 s2 s3 l[k].k)):=hb.sub _ _ (by
    rw [World.cell?_alloc_new];exact IE s0 s1 s2 s3 _ hk0 hk1)
   have hsz:w.heap.size<wr:=by have:=hb.size;simp at this;omega
   rw [List.drop_eq_getElem_cons hlt,jy] at hE;clear hel hk;generalize l[k].h=ph at*;generalize l[k].k=pk at*;generalize l[k].n=pn at*;generalize S4 s0 s1 s2 s3 pk=spk at*;have HE:=η hE;clear hE;go_wp2_with (go_quiet (fail))
   ·go_ret
    exact⟨bC (by rw [HE.o,if_pos ‹_›]),gY⟩
   ·go_ret
    rename_i t1 _ t2
    exact⟨bC (by rw [HE.o,if_neg δ,if_pos t2]),gY⟩
   ·rename_i t1 _ t2
    go_roundw
    case rel=>exact⟨k+1,δ,by go_num,gY,by rw [HE.o,if_neg δ,if_neg δ]⟩
    case measure=>simp [intOf];omega
  ·go_wp2
   go_ret;refine⟨?_,hbw⟩;rw [hE,List.drop_of_length_le δ];rfl
def jF (l:List Pt) (n:Int):List Pt:=l.filter fun p=>p.h==n
theorem Ve {v:Value} {l:List Pt} {n:Int} (w:World) (hv:m_ w.cell? v l) (hm:l.length*24<=140737488355328):
  Calls Tryz.prog 20 #[v,ι n] w fun e w'=>∃v',e=.returned v'/\w'.ownsRow w.heap.size 111 3 v' (jF l n).length (sF (jF l n))/\Grow w w':=by
 obtain⟨a,cap,rfl,h1,h2,-,hel⟩:=hv;unfold maxLen at h2;go_enter Tryz.func20,Tryz.ntmps20;go_wp2;go_loopw [5,10] (fun v i wr=>∃k:Nat,k<=l.length/\i=ι k/\Grow w wr/\wr.ownsRow w.heap.size 111 3 v (jF (l.take k) n).length (sF (jF (l.take k) n))) (fun _ i _=>l.length - (intOf i).toNat)
 case atStart=>exact⟨0,δ,rfl,Grow.refl _,World.ownsRow_nil _ _ _ _⟩
 case round=>
  obtain⟨k,hk',rfl,hb,hown⟩:=hrel;by_cases hlt:k<l.length
  ·obtain⟨b,o,rfl,c0,c1,c2,-,-,-⟩:=m_.at_ hel k hlt
   replace c0:=hb.sub _ _ c0;replace c1:=hb.sub _ _ c1;replace c2:=hb.sub _ _ c2;have hd:jF (l.take (k+1)) n=jF (l.take k) n++if l[k].h==n then [l[k]] else []:=by
    rw [List.take_succ_eq_append_getElem hlt,jF,List.filter_append];by_cases h:l[k].h==n<;>simp [h,jF]
   have hle:(jF (l.take k) n).length<=k:=Nat.le_trans (List.length_filter_le _ _) (List.length_take_le _ _);clear hel;generalize hp:l[k]=p at*;obtain⟨ph,pk,pn⟩:=p;clear hp;simp only at c0 c1 c2 hd;have HD:=η hd;clear hd;generalize jF (l.take k) n=acc at*;have hsz:=hb.size;cases ht:(ph==n)
   ·go_wp2_with (go_quiet (fail))
    go_roundw
    case rel=>exact⟨k+1,δ,by go_num,gY,by rw [HD.o,ht];simpa using hown.alloc _⟩
    case measure=>simp [intOf];omega
   ·go_wp2_with (at_builtin;refine app1 Di rfl _ _ rfl (hb.alloc _) rfl (hown.alloc _) rfl σ rfl (by simp [Value.oneCell']) δ ε ?_;intro v' w' hown' hb' _)
    go_roundw
    case rel=>exact⟨k+1,δ,by go_num,hb',by rw [HD.o,ht];simpa [Iw,Pt.cells] using hown'⟩
    case measure=>simp [intOf];omega
  ·have hk2:k=l.length:=by omega
   rw [List.take_of_length_le δ] at hown;clear hel;go_wp2;go_ret;exact⟨_,rfl,hown,hb⟩
def Sm.get (s:Sm) (k:Int):Int:=S4 s.a s.b s.c s.d k
def Sm.put (s:Sm) (k x:Int):Sm:=if k=0 then { s with a:=x } else if k=1 then { s with b:=x } else if k=2 then { s with c:=x } else { s with d:=x }
def Sm.add (s:Sm) (k n:Int):Sm:=s.put k (wrap64 (s.get k+n))
def nJ (s:Sm) (l:List Pt):Sm:=l.foldl (fun s p=>s.add p.k p.n) s
theorem Sm.SC (s:Sm) (k x:Int) (h0:0<=k) (h1:k<4):(#[ι s.a,ι s.b,ι s.c,ι s.d]:Array Value).setIfInBounds k.toNat (ι x)=#[ι (s.put k x).a,ι (s.put k x).b,ι (s.put k x).c,ι (s.put k x).d]:=by
 have:k=0∨k=1∨k=2∨k=3:=by omega
 rcases this with rfl|rfl|rfl|rfl<;>rfl
theorem Sm.Kt {w:World} {B:Nat} {s:Sm} {t:TypeId} (h:w.heap[B]? =some (.cells #[ι s.a,ι s.b,ι s.c,ι s.d] t (0,0))) (k:Int) (h0:0<=k) (h1:k<4):w.cell? ⟨B,k.toNat,none⟩=some (ι (s.get k)):=by
 simp only [World.cell?,h];exact IE _ _ _ _ _ h0 h1
theorem Sm.dA {w:World} {B:Nat} {s:Sm} {t:TypeId} (h:w.heap[B]? =some (.cells #[ι s.a,ι s.b,ι s.c,ι s.d] t (0,0))) (o:Nat):w.frozen? ⟨B,o,none⟩=false:=by
 simp [World.frozen?,h]
theorem Sm.Qv {w:World} {B:Nat} {s:Sm} {t:TypeId} (h:w.heap[B]? =some (.cells #[ι s.a,ι s.b,ι s.c,ι s.d] t (0,0))) (k x:Int) (h0:0<=k) (h1:k<4):(w.setCell ⟨B,k.toNat,none⟩ (ι x)).heap[B]? =some (.cells #[ι (s.put k x).a,ι (s.put k x).b,ι (s.put k x).c,ι (s.put k x).d] t (0,0)):=by
 simp only [World.setCell,Array.getElem?_modify,h];simp [<-Sm.SC s k x h0 h1]
theorem aB {w:World} {B:Nat} {o:Obj} (h:w.heap[B]? =some o) (o':Obj):(w.alloc o').heap[B]? =some o:=by
 exact(Below.heap_alloc w o' B (γ h)).trans h
theorem Yw {v:Value} {l:List Pt} {s:Sm} (w:World) (hv:m_ w.cell? v l) (hk:dw l):
  Calls Tryz.prog 74 #[.agg #[ι s.a,ι s.b,ι s.c,ι s.d],v] w fun e w'=>e=.returned (.agg #[ι (nJ s l).a,ι (nJ s l).b,ι (nJ s l).c,ι (nJ s l).d])/\Grow w w':=by
 obtain⟨a,cap,rfl,h1,h2,-,hel⟩:=hv;unfold maxLen at h2;go_enter Tryz.func74,Tryz.ntmps74;go_wp2;go_loopw [9] (fun i wr=>∃(k:Nat) (s':Sm),k<=l.length/\i=ι k/\Grow w wr/\nJ s' (l.drop k)=nJ s l/\wr.heap[w.heap.size]? =some (.cells #[ι s'.a,ι s'.b,ι s'.c,ι s'.d] 47 (0,0))/\wr.heap[w.heap.size+1]? =some (.cells #[ι 0,ι 0,ι 0,ι 0] 47 (0,0))) (fun i _=>l.length - (intOf i).toNat)
 case atStart=>exact⟨0,s,δ,rfl,gY,rfl,aB (heap_alloc_new w _) _,by simpa using heap_alloc_new (w.alloc _) _⟩
 case round=>
  obtain⟨k,s',hk',rfl,hb,hE,hrow,hrow2⟩:=hrel;have HE:=η hE;clear hE;by_cases hlt:k<l.length
  ·obtain⟨b,o,rfl,c0,c1,c2,-,-,-⟩:=m_.at_ hel k hlt
   replace c0:=hb.sub _ _ c0;replace c1:=hb.sub _ _ c1;replace c2:=hb.sub _ _ c2;obtain⟨hk0,hk1⟩:=hk l[k] σ;have HR:=η hrow;have HR2:=η hrow2;have cs:=Sm.Kt hrow _ hk0 hk1;have cf:=Sm.dA hrow l[k].k.toNat;have hsz:w.heap.size<wr:=(γ hrow);have HD:=η (List.drop_eq_getElem_cons hlt);clear hel hk hrow hrow2;generalize hp:l[k]=p at*;obtain⟨ph,pk,pn⟩:=p;clear hp;simp only at c0 c1 c2 hk0 hk1 cs cf;go_wp2;go_region
   go_wp2;go_roundw
   case rel=>exact⟨k+1,s'.add pk pn,δ,by go_num,gY,by rw [<-HE.o,HD.o];rfl,aB (Sm.Qv HR.o _ _ hk0 hk1) _,aB ((Below.heap_setCell _ _ _ _ σ).trans HR2.o) _⟩
   case measure=>simp [intOf];omega
  ·have e0:wr.cell? ⟨w.heap.size,0,none⟩=some (ι s'.a):=by simp [World.cell?,hrow]
   have e1:wr.cell? ⟨w.heap.size,1,none⟩=some (ι s'.b):=by simp [World.cell?,hrow]
   have e2:wr.cell? ⟨w.heap.size,2,none⟩=some (ι s'.c):=by simp [World.cell?,hrow]
   have e3:wr.cell? ⟨w.heap.size,3,none⟩=some (ι s'.d):=by simp [World.cell?,hrow]
   have z0:wr.cell? ⟨w.heap.size+1,0,none⟩=some (ι 0):=by simp [World.cell?,hrow2]
   have z1:wr.cell? ⟨w.heap.size+1,1,none⟩=some (ι 0):=by simp [World.cell?,hrow2]
   have z2:wr.cell? ⟨w.heap.size+1,2,none⟩=some (ι 0):=by simp [World.cell?,hrow2]
   have z3:wr.cell? ⟨w.heap.size+1,3,none⟩=some (ι 0):=by simp [World.cell?,hrow2]
   have zf:∀o,wr.frozen? ⟨w.heap.size+1,o,none⟩=false:=by simp [World.frozen?,hrow2]
   have hs:s'=nJ s l:=by rw [<-HE.o,List.drop_of_length_le δ];rfl
   have HS:=η hs;clear hrow hrow2 hel hk HE hs;go_wp2;refine bodyPost_ret (v:=.agg #[ι s'.a,ι s'.b,ι s'.c,ι s'.d]) (by simp [results,Tryz.results74,go_sem,z0,z1,z2,z3]) rfl ?_;refine⟨by rw [HS.o],?_⟩;refine Grow.setCell (Grow.setCell (Grow.setCell (Grow.setCell hb ?_ _) ?_ _) ?_ _) ?_ _<;>simp
theorem SE {v:Value} {l:List Pt} {s0 s1 s2 s3:Int} (w:World) (hv:m_ w.cell? v l) (hk:dw l):
  Calls Tryz.prog 136 #[.agg #[ι s0,ι s1,ι s2,ι s3],v] w fun e w'=>e=.returned (ι (jy (S4 s0 s1 s2 s3) l))/\Grow w w':=by
 obtain⟨a,cap,rfl,h1,h2,-,hel⟩:=hv;unfold maxLen at h2;go_enter Tryz.func136,Tryz.ntmps136;go_wp2;go_loopw [4,10] (fun _ i wr=>∃k:Nat,k<=l.length/\i=ι k/\Grow (w.alloc (.cells #[ι s0,ι s1,ι s2,ι s3] 47)) wr/\jy (S4 s0 s1 s2 s3) l=jy (S4 s0 s1 s2 s3) (l.drop k)) (fun _ i _=>l.length - (intOf i).toNat)
 case atStart=>exact⟨0,δ,rfl,Grow.refl _,rfl⟩
 case round=>
  obtain⟨k,hk',rfl,hb,hE⟩:=hrel;have hbw:=((Grow.refl w).alloc _).trans hb;by_cases hlt:k<l.length
  ·obtain⟨b,o,rfl,c0,c1,c2,-,-,-⟩:=m_.at_ hel k hlt
   replace c0:=hbw.sub _ _ c0;replace c1:=hbw.sub _ _ c1;replace c2:=hbw.sub _ _ c2;obtain⟨hk0,hk1⟩:=hk l[k] σ;have cs:wr.cell? ⟨w.heap.size,l[k].k.toNat,none⟩=some (ι (S4 s0 s1 s2 s3 l[k].k)):=hb.sub _ _ (by
    rw [World.cell?_alloc_new];exact IE s0 s1 s2 s3 _ hk0 hk1)
   have hsz:w.heap.size<wr:=by have:=hb.size;simp at this;omega
   rw [List.drop_eq_getElem_cons hlt,jy] at hE;clear hel hk;generalize l[k].h=ph at*;generalize l[k].k=pk at*;generalize l[k].n=pn at*;generalize S4 s0 s1 s2 s3 pk=spk at*;have HE:=η hE;clear hE;go_wp2;go_region
   all_goals go_wp2
   ·go_ret
    exact⟨bC (by rw [HE.o,if_pos ‹_›]),gY⟩
   ·go_ret
    rename_i t1 _ t2
    exact⟨bC (by rw [HE.o,if_neg δ,if_pos t2]),gY⟩
   ·rename_i t1 _ t2
    go_roundw
    case rel=>exact⟨k+1,δ,by go_num,gY,by rw [HE.o,if_neg δ,if_neg δ]⟩
    case measure=>simp [intOf];omega
  ·go_wp2
   go_ret;refine⟨?_,hbw⟩;rw [hE,List.drop_of_length_le δ];rfl
def wX (s:Sm):Bool:=decide (0<=s.a/\s.a<=1048576/\0<=s.b/\s.b<=1048576/\0<=s.c/\s.c<=1048576/\0<=s.d/\s.d<=1048576)
theorem Oe (s:Sm):wX s=true↔∀k:Nat,k<4->0<=s.get k/\s.get k<=1048576:=by
 unfold wX Sm.get S4;simp only [decide_eq_true_eq];constructor
 ·rintro⟨a,b,c,d,e,f,g,h⟩ k hk
  have:k=0∨k=1∨k=2∨k=3:=by omega
  rcases this with rfl|rfl|rfl|rfl<;>simp<;>omega
 ·intro h
  have h0:=h 0 δ;have h1:=h 1 δ;have h2:=h 2 δ;have h3:=h 3 δ;simp at h0 h1 h2 h3;omega
theorem Vf:Tryz.prog.eqGuardType Tryz.prog.depth 111=false:=by kernel_rfl
theorem cT (p q:Pt) (w:World):(binOp .eql 111 (.agg #[ι p.h,ι p.k,ι p.n]) (.agg #[ι q.h,ι q.k,ι q.n])).run Tryz.prog w=.ok (.bool (decide (p=q))) w:=by
 have u3:=Tryz.underlying3;have a3:=Tryz.isAgg3;have z3:=Tryz.sizeOf3;have hS:Tryz.prog.underlying 111=some (.struct (Tryz.prog.fieldsOf 111)):=by kernel_rfl
 have hp:Tryz.prog.stoodInHeld 111=false:=by kernel_rfl
 rw [run_eql_struct,show(10000:Nat)=9999+1 from rfl,run_equalIn_agg w 9999 111 _ _ hS hp];simp only [Program.fieldsOf,Tryz.underlying111];obtain⟨a,b,c⟩:=p;obtain⟨a',b',c'⟩:=q;go_simp;by_cases h1:a=a'<;>by_cases h2:b=b'<;>by_cases h3:c=c'<;>simp [h1,h2,h3]
theorem cU (p q:Pt) (w:World):(binOp .neq 111 (.agg #[ι p.h,ι p.k,ι p.n]) (.agg #[ι q.h,ι q.k,ι q.n])).run Tryz.prog w=.ok (.bool (!decide (p=q))) w:=by
 have h:=cT p q w;rw [run_eql_struct] at h;rw [run_neq_struct];cases hr:(Op.equalIn 10000 111 (.agg #[ι p.h,ι p.k,ι p.n]) (.agg #[ι q.h,ι q.k,ι q.n])).run Tryz.prog w with
 |ok b w'=>rw [hr] at h;simp only [Result.andThen_ok,Result.ok.injEq,Value.bool.injEq] at h ⊢;exact⟨by rw [h.1],h.2⟩
 |halt x w'=>rw [hr] at h;simp [Result.andThen] at h
theorem qR {v v':Value} {l l':List Pt} (w:World) (hv:m_ w.cell? v l) (hv':m_ w.cell? v' l'):
  Calls Tryz.prog 62 #[v,v'] w fun e w'=>e=.returned (.bool (decide (l=l')))/\Grow w w':=by
 obtain⟨a,cap,rfl,h1,h2,-,hel⟩:=hv;obtain⟨a',cap',rfl,h1',h2',-,jX⟩:=hv';unfold maxLen at h2 h2';by_cases hlen:l.length=l'.length
 ·have hb:((l.length:Int) !=l'.length)=false:=by simp [hlen]
  have HL:=η hlen;clear hlen;go_enter Tryz.func62,Tryz.ntmps62;go_wp2;go_loopw [4,5,13] (fun _ _ i wr=>∃k:Nat,k<=l.length/\i=ι k/\Grow w wr/\∀j,j<k->l[j]? =l'[j]?) (fun _ _ i _=>l.length - (intOf i).toNat)
  case atStart=>exact⟨0,δ,rfl,gY,fun j h=>δ⟩
  case round=>
   obtain⟨k,hk',rfl,hb,hE⟩:=hrel;have HE:=η hE;clear hE;by_cases hlt:k<l.length
   ·have hlt':k<l'.length:=by have:=HL.o;omega
    obtain⟨b,o,rfl,c0,c1,c2,-,-,-⟩:=m_.at_ hel k hlt;obtain⟨b',o',rfl,c0',c1',c2',-,-,-⟩:=m_.at_ jX k hlt';replace c0:=hb.sub _ _ c0;replace c1:=hb.sub _ _ c1;replace c2:=hb.sub _ _ c2;replace c0':=hb.sub _ _ c0';replace c1':=hb.sub _ _ c1';replace c2':=hb.sub _ _ c2';clear hel jX;generalize hp:l[k]=p at*;generalize hp':l'[k]=p' at*;have HP:=η hp;have HP':=η hp';clear hp hp';have hg:=Vf;have HN:∀w,(binOp .neq 111 (.agg #[ι p.h,ι p.k,ι p.n]) (.agg #[ι p'.h,ι p'.k,ι p'.n])).run Tryz.prog w=.ok (.bool (!decide (p=p'))) w:=fun w=>cU p p' w;by_cases hpp:p=p'
    ·simp only [hpp,decide_true,Bool.not_true] at HN
     have HQ:=η hpp;subst hpp;go_wp2_with (go_quiet (fail))
     go_roundw
     case rel=>exact⟨k+1,δ,by go_num,gY,fun j hj=>by
      by_cases h:j=k
      ·subst h;rw [List.getElem?_eq_getElem hlt,List.getElem?_eq_getElem hlt',HP.o,HP'.o]
      ·exact HE.o j δ⟩
     case measure=>simp [intOf];omega
    ·simp only [hpp,decide_false,Bool.not_false] at HN
     have HQ:=η hpp;clear hpp;go_wp2_with (go_quiet (fail))
     go_ret;exact⟨bK (by
      rw [eq_comm,decide_eq_false_iff_not];rintro rfl;exact HQ.o (by rw [<-HP.o,<-HP'.o])),gY⟩
   ·clear hel jX
    go_wp2;go_ret;refine⟨bK ?_,hb⟩;rw [eq_comm,decide_eq_true_eq];apply List.ext_getElem?;intro j;by_cases h:j<k
    ·exact HE.o j h
    ·rw [List.getElem?_eq_none δ,List.getElem?_eq_none (τ HL.o)]
 ·have hb:((l.length:Int) !=l'.length)=true:=by simp;omega
  have hE:decide (l=l')=false:=by rw [decide_eq_false_iff_not];rintro rfl;exact hlen rfl
  have HE:=η hE;clear hlen hE hel jX;go_enter Tryz.func62,Tryz.ntmps62;go_wp2;go_ret;exact⟨bK HE.o.symm,gY⟩
def jO (x:Int) (l:List Pt) (k:Int):Int:=l.foldl (fun x p=>if p.k=k then wrap64 (x+p.n) else x) x
theorem Sm.get_put (s:Sm) {j k:Int} (x:Int) (h0:0<=j) (h1:j<4) (g0:0<=k) (g1:k<4):(s.put k x).get j=if j=k then x else s.get j:=by
 have a:j=0∨j=1∨j=2∨j=3:=by omega
 have b:k=0∨k=1∨k=2∨k=3:=by omega
 rcases a with rfl|rfl|rfl|rfl<;>rcases b with rfl|rfl|rfl|rfl<;>rfl
theorem Sm.ext_get {s t:Sm} (h:∀j:Int,0<=j->j<4->s.get j=t.get j):s=t:=by
 obtain⟨a,b,c,d⟩:=s;obtain⟨a',b',c',d'⟩:=t;have h0:=h 0 δ δ;have h1:=h 1 δ δ;have h2:=h 2 δ δ;have h3:=h 3 δ δ;simp [Sm.get,S4] at h0 h1 h2 h3;simp [h0,h1,h2,h3]
theorem IG:∀(l:List Pt) (s:Sm),dw l->∀j:Int,0<=j->j<4->(nJ s l).get j=jO (s.get j) l j
 | [],s,_,j,_,_=>rfl
 |p::l,s,hk,j,h0,h1=>by
  have hp:=hk p σ;show(nJ (s.add p.k p.n) l).get j=jO (if p.k=j then wrap64 (s.get j+p.n) else s.get j) l j;rw [IG l _ (fun q hq=>hk q (by simp [hq])) j h0 h1,Sm.add,Sm.get_put s _ h0 h1 hp.1 hp.2];by_cases h:j=p.k
  ·simp [h]
  ·have:¬p.k=j:=fun e=>h e.symm
   simp [h,this]
theorem Sm.Yx (s:Sm) {k:Int} (h0:0<=k) (h1:k<4):s.put k (s.get k)=s:=
 Sm.ext_get fun j a b=>by
  rw [Sm.get_put s _ a b h0 h1];split
  ·subst j;rfl
  ·rfl
theorem Sm.Yy (s:Sm) {k:Int} (x y:Int) (h0:0<=k) (h1:k<4):(s.put k x).put k y=s.put k y:=
 Sm.ext_get fun j a b=>by
  rw [Sm.get_put _ _ a b h0 h1,Sm.get_put _ _ a b h0 h1,Sm.get_put _ _ a b h0 h1];split<;>rfl
theorem cV {v:Value} {l:List Pt} {s:Sm} (w:World) (hv:m_ w.cell? v l) (hk:dw l):
  Calls Tryz.prog 21 #[.agg #[ι s.a,ι s.b,ι s.c,ι s.d],v] w fun e w'=>e=.returned (.agg #[ι (nJ s l).a,ι (nJ s l).b,ι (nJ s l).c,ι (nJ s l).d])/\Grow w w':=by
 obtain⟨a,cap,rfl,h1,h2,-,hel⟩:=hv;unfold maxLen at h2;have Z0:=η (IG l s hk);clear hk;go_enter Tryz.func21,Tryz.ntmps21;go_wp2;go_loopw [5,7,8,12,13] (fun _ _ i _ _ wr=>∃(k:Nat) (s':Sm),k<=4/\i=ι k/\Grow w wr/\(∀j:Nat,j<4->s'.get j=if j<k then jO (s.get j) l j else s.get j)/\wr.heap[w.heap.size]? =some (.cells #[ι s'.a,ι s'.b,ι s'.c,ι s'.d] 47 (0,0))/\wr.heap[w.heap.size+1]? =some (.cells #[ι 0,ι 0,ι 0,ι 0] 47 (0,0))) (fun _ _ i _ _ _=>4 - (intOf i).toNat)
 case atStart=>exact⟨0,s,δ,rfl,gY,fun j _=>σ,aB (heap_alloc_new w _) _,by simpa using heap_alloc_new (w.alloc _) _⟩
 case round=>
  obtain⟨k,s',hk',rfl,hb,hE,hrow,hrow2⟩:=hrel;have HE:=η hE;clear hE;by_cases hlt:k<4
  ·have HR:=η hrow
   have HR2:=η hrow2;clear hrow hrow2;go_wp2;rw [show decide ((k:Int)<4)=true by simp;omega];go_loopw [7,13] (fun _ i wx=>∃(m:Nat) (s2:Sm),m<=l.length/\i=ι m/\Grow w wx/\s2=s'.put k (jO (s'.get k) (l.take m) k)/\wx.heap[w.heap.size]? =some (.cells #[ι s2.a,ι s2.b,ι s2.c,ι s2.d] 47 (0,0))/\wx.heap[w.heap.size+1]? =some (.cells #[ι 0,ι 0,ι 0,ι 0] 47 (0,0))) (fun _ i _=>l.length - (intOf i).toNat)
   case atStart=>exact⟨0,s',δ,rfl,gY,(Sm.Yx s' δ δ).symm,HR.o,HR2.o⟩
   case round=>
    obtain⟨m,s2,hm',rfl,hbx,hs2,hrow,hrow2⟩:=hrel;have HS2:=η hs2;clear hs2;by_cases hlm:m<l.length
    ·obtain⟨b,o,rfl,c0,c1,c2,-,-,-⟩:=m_.at_ hel m hlm
     replace c0:=hbx.sub _ _ c0;replace c1:=hbx.sub _ _ c1;replace c2:=hbx.sub _ _ c2;have HR:=η hrow;have HR2:=η hrow2;have cs:=Sm.Kt hrow k δ δ;have cf:=Sm.dA hrow k;have hsz:w.heap.size<wr:=(γ hrow);have hstep:jO (s'.get k) (l.take (m+1)) k=if l[m].k=k then wrap64 (jO (s'.get k) (l.take m) k+l[m].n) else jO (s'.get k) (l.take m) k:=by
      rw [List.take_succ_eq_append_getElem hlm,jO,List.foldl_append];rfl
     have HST:=η hstep;have hg2:s2.get k=jO (s'.get k) (l.take m) k:=by rw [HS2.o,Sm.get_put _ _ δ δ δ δ,if_pos rfl]
     have HG2:=η hg2;clear hel hrow hrow2 hstep hg2;simp only [Int.toNat_natCast] at cs;generalize hp:l[m]=p at*;obtain⟨ph,pk,pn⟩:=p;clear hp;simp only at c0 c1 c2;generalize hx:s2.get k=x at*;have HX:=η hx;clear hx;by_cases hkk:pk=(k:Int)
     ·have tk:(pk==(k:Int))=true:=by simpa using hkk
      have HK:=η hkk;clear hkk;go_wp2;go_region
      go_wp2;go_roundw
      case rel=>
       refine⟨m+1,s2.put k (wrap64 (x+pn)),δ,by go_num,gY,?_,aB (Sm.Qv (k:=(k:Int)) HR.o _ δ δ) _,aB ((Below.heap_setCell _ _ _ _ σ).trans HR2.o) _⟩;have h:=HST.o;rw [if_pos HK.o] at h;rw [h,<-HG2.o,HS2.o,Sm.Yy _ _ _ δ δ]
      case measure=>simp [intOf];omega
     ·have tk:(pk==(k:Int))=false:=by simpa using hkk
      have HK:=η hkk;clear hkk;go_wp2;go_roundw
      case rel=>
       refine⟨m+1,s2,δ,by go_num,gY,?_,aB HR.o _,aB HR2.o _⟩;have h:=HST.o;rw [if_neg HK.o] at h;rw [h];exact HS2.o
      case measure=>simp [intOf];omega
    ·have hfin:s2=s'.put k (jO (s'.get k) l k):=by
      have:=HS2.o;rw [List.take_of_length_le δ] at this;exact this
     have HF:=η hfin;clear hfin hel;go_wp2;go_roundw
     case rel=>
      refine⟨k+1,s2,δ,by go_num,hbx,fun j hj=>?_,hrow,hrow2⟩;rw [HF.o,Sm.get_put _ _ δ δ δ δ];by_cases hjk:j=k
      ·subst hjk
       rw [if_pos rfl,if_pos δ,HE.o j hj,if_neg δ]
      ·rw [if_neg δ,HE.o j hj]
       by_cases h:j<k
       ·rw [if_pos h,if_pos δ]
       ·rw [if_neg h,if_neg δ]
     case measure=>simp [intOf];omega
  ·have e0:wr.cell? ⟨w.heap.size,0,none⟩=some (ι s'.a):=by simp [World.cell?,hrow]
   have e1:wr.cell? ⟨w.heap.size,1,none⟩=some (ι s'.b):=by simp [World.cell?,hrow]
   have e2:wr.cell? ⟨w.heap.size,2,none⟩=some (ι s'.c):=by simp [World.cell?,hrow]
   have e3:wr.cell? ⟨w.heap.size,3,none⟩=some (ι s'.d):=by simp [World.cell?,hrow]
   have z0:wr.cell? ⟨w.heap.size+1,0,none⟩=some (ι 0):=by simp [World.cell?,hrow2]
   have z1:wr.cell? ⟨w.heap.size+1,1,none⟩=some (ι 0):=by simp [World.cell?,hrow2]
   have z2:wr.cell? ⟨w.heap.size+1,2,none⟩=some (ι 0):=by simp [World.cell?,hrow2]
   have z3:wr.cell? ⟨w.heap.size+1,3,none⟩=some (ι 0):=by simp [World.cell?,hrow2]
   have zf:∀o,wr.frozen? ⟨w.heap.size+1,o,none⟩=false:=by simp [World.frozen?,hrow2]
   have hs:s'=nJ s l:=Sm.ext_get fun j a b=>by
    have:=HE.o j.toNat δ;rw [if_pos δ,show((j.toNat:Nat):Int)=j by omega] at this;rw [this,Z0.o j a b]
   have HS:=η hs;clear hrow hrow2 hel HE hs Z0;go_wp2;refine bodyPost_ret (v:=.agg #[ι s'.a,ι s'.b,ι s'.c,ι s'.d]) (by simp [results,Tryz.results21,go_sem,z0,z1,z2,z3]) rfl ?_;refine⟨by rw [HS.o],?_⟩;refine Grow.setCell (Grow.setCell (Grow.setCell (Grow.setCell hb ?_ _) ?_ _) ?_ _) ?_ _<;>simp
theorem ng (b j:Nat):((⟨b,0,none⟩:Addr).add j)=⟨b,j,none⟩:=by unfold Addr.add;split<;>simp_all
section
variable {P:Program} {ops:Array Oper} {Q:Exit->Act->World->Prop} {md:Region.Mode} {S:World->Prop} {c:Nat}
def oH (md:Region.Mode) (ops:Array Oper) (listed:Array Bool):Prop:=
 listed.size=ops.size/\∀(j:Nat) (o:Oper),ops[j]? =some o->listed.getD j true=true->∀e∈o.after,Region.binds md e=true->listed.getD e.on false=true
def waitsFor (md:Region.Mode) (ops:Array Oper):Nat->Nat->Nat->Bool
 |0,_,_=>false
 |f+1,i,c=>((ops[c]?).map fun o=>o.after.toList.any fun e=>Region.binds md e&&(e.on==i||waitsFor md ops f i e.on)).getD false
theorem Dn {f i:Nat} {listed:Array Bool} (hc:oH md ops listed) (hi:listed.getD i false=false):∀{c:Nat},waitsFor md ops f i c=true->c∉Region.ready md ops listed/\(c<ops.size->listed.getD c false=false):=by
 induction f with
 |zero=>intro c h;cases h
 |succ f ih=>
  intro c h;unfold waitsFor at h;cases ho:ops[c]? with
  |none=>rw [ho] at h;cases h
  |some o=>
   rw [ho] at h;simp only [Option.map_some,Option.getD_some,List.any_eq_true,Bool.and_eq_true,Bool.or_eq_true,beq_iff_eq] at h;obtain⟨e,he,hb,hor⟩:=h;have he':e∈o.after:=by simpa using he
   have hun:listed.getD e.on false=false:=by
    rcases hor with rfl|h2
    ·exact hi
    ·have h3:=ih h2
     by_cases hlt:e.on<ops.size
     ·exact h3.2 hlt
     ·simp [Array.getElem?_eq_none (xs:=listed) (i:=e.on) (by rw [hc.1];omega)]
   refine⟨fun hr=>?_,fun _=>?_⟩
   ·obtain⟨_,o',ho',hall⟩:=mem_ready.1 hr
    rw [ho] at ho';obtain rfl:=Option.some.inj ho';have:=hall e he' hb;rw [hun] at this;cases this
   ·by_cases ht:listed.getD c true=true
    ·have:=hc.2 c o ho ht e he' hb
     rw [hun] at this;cases this
    ·have hlt:=(γ ho)
     have hl:c<listed.size:=by rw [hc.1];exact hlt
     simp [hl] at ht ⊢;exact ht
theorem oH.set {listed:Array Bool} (h:oH md ops listed) {j:Nat} (hj:j∈Region.ready md ops listed):oH md ops (listed.setIfInBounds j true):=by
 refine⟨by simpa using h.1,fun k o ho hk e he hb=>?_⟩;obtain⟨_,oj,hoj,hall⟩:=mem_ready.1 hj;have keep:listed.getD e.on false=true->(listed.setIfInBounds j true).getD e.on false=true:=by
  intro hx;by_cases hje:j=e.on
  ·rw [hje]
   by_cases hl:e.on<listed.size
   ·simp [hl]
   ·simp [hl] at hx
  ·rw [getD_set_ne false hje];exact hx
 by_cases hjk:j=k
 ·subst hjk
  rw [hoj] at ho;obtain rfl:=Option.some.inj ho;exact keep (hall e he hb)
 ·rw [getD_set_ne true hjk] at hk
  exact keep (h.2 k o ho hk e he hb)
def jY (P:Program) (md:Region.Mode) (ops:Array Oper) (Q:Exit->Act->World->Prop) (S:World->Prop) (c:Nat):Nat->Array Bool->Act->World->Prop
 |0,listed,a,w=>Region.ready md ops listed=[]/\Q .normal a w
 |fuel+1,listed,a,w=>(Region.ready md ops listed=[]->Q .normal a w)/\∀i∈Region.ready md ops listed,wpOp P ops Q i (fun a' w'=>(i≠c->S w')/\jY P md ops Q S c fuel (listed.setIfInBounds i true) a' w') a w
theorem Gt:∀(fuel:Nat) (listed:Array Bool) (a:Act) (w:World),jY P md ops Q S c fuel listed a w->wpAny P md ops Q fuel listed a w
 |0,_,_,_,h=>h
 |_+1,_,_,_,h=>⟨h.1,fun i hi=>wpOp_mono (fun a' w' h'=>Gt _ _ a' w' h'.2) (h.2 i hi)⟩
theorem Bg {i f:Nat} {oi:Oper} {v:Value} (hi:ops[i]? =some oi) (hsel:∀(j:Nat) (o:Oper) cs b,ops[j]? =some o->o.op≠ .select cs b)
  (hQ:∀k a w,Q (.panic k) (a.put oi.dst v) w->Q (.panic k) a w) (hw:waitsFor md ops f i c=true):
  ∀(fuel:Nat) (listed:Array Bool) (a:Act) (w:World),oH md ops listed->
   (∀j oj,ops[j]? =some oj->j≠i->listed.getD j true=false->(∀e∈oj.after,Region.binds md e=true->e.on≠i)->oi.apart ops oj=true)->
   i∈Region.ready md ops listed->YieldsIf P ops S oi v a->S w->
   jY P md ops Q S c fuel (listed.setIfInBounds i true) (a.put oi.dst v) w->jY P md ops Q S c (fuel+1) listed a w:=by
 have hun:∀listed:Array Bool,i∈Region.ready md ops listed->listed.getD i false=false:=by
  intro listed hr;have h0:=(mem_ready.1 hr).1;by_cases hl:i<listed.size
  ·simp [hl] at h0 ⊢;exact h0
  ·simp [hl]
 intro fuel;induction fuel with
 |zero=>
  intro listed a w _ _ hr hy hS H;refine⟨fun h=>(by rw [h] at hr;cases hr),fun j hj=>?_⟩;by_cases hji:j=i
  ·subst hji;exact hy.wpOp hi hS ⟨fun _=>hS,H⟩
  ·have:=ready_mono hj hji
   rw [H.1] at this;cases this
 |succ fuel ih=>
  intro listed a w hcl hfree hr hy hS H;refine⟨fun h=>(by rw [h] at hr;cases hr),fun j hj=>?_⟩;by_cases hji:j=i
  ·subst hji;exact hy.wpOp hi hS ⟨fun _=>hS,H⟩
  ·have hjc:j≠c:=fun e=>(Dn hcl (hun _ hr) hw).1 (e▸hj)
   have h1:=H.2 j (ready_mono hj hji);obtain⟨hjun,oj,hoj,hall⟩:=mem_ready.1 hj;have hnot:∀e∈oj.after,Region.binds md e=true->e.on≠i:=fun e he hb heq=>by
    have h1:=hall e he hb;rw [heq,hun _ hr] at h1;cases h1
   have h2:=wpOp_putIf hoj (hfree j oj hoj hji hjun hnot) (fun cs b=>hsel i oi cs b hi) (fun cs b=>hsel j oj cs b hoj) hQ hy h1;refine wpOp_mono (fun a' w' h3=>⟨fun _=>h3.2.1 hjc,ih (listed.setIfInBounds j true) a' w' (hcl.set hj) (fun k ok hk hki qD hno=>?_) (ready_mono hr (Ne.symm hji)) h3.1 (h3.2.1 hjc) ?_⟩) h2
   ·refine hfree k ok hk hki ?_ hno
    by_cases hjk:j=k
    ·subst hjk;exact hjun
    ·rw [getD_set_ne true hjk] at qD;exact qD
   ·rw [Array.setIfInBounds_comm _ _ hji]
    exact h3.2.2
def Ku (md:Region.Mode) (ops:Array Oper) (listed:Array Bool):Bool:=
 listed.size==ops.size&&(List.range ops.size).all fun j=>((ops[j]?).map fun o=>!(listed.getD j true)||o.after.toList.all fun e=>!Region.binds md e||listed.getD e.on false).getD true
theorem II {listed:Array Bool} (h:Ku md ops listed=true):oH md ops listed:=by
 unfold Ku at h;simp only [Bool.and_eq_true,beq_iff_eq,List.all_eq_true,List.mem_range] at h;refine⟨h.1,fun j o ho hj e he hb=>?_⟩;have h2:=h.2 j (γ ho);rw [ho] at h2;simp only [Option.map_some,Option.getD_some,hj,Bool.not_true,Bool.false_or,List.all_eq_true,Bool.or_eq_true] at h2;rcases h2 e (by simpa using he) with h3|h3
 ·rw [hb] at h3;cases h3
 ·exact h3
theorem rF {i:Nat} (f:Nat) {oi:Oper} {v:Value} {fuel:Nat} {listed:Array Bool} {a:Act} {w:World} (hi:ops[i]? =some oi)
  (hs:Region.noSelect ops=true) (hf:Region.free md ops listed i=true) (hr:(Region.ready md ops listed).contains i=true) (hw:waitsFor md ops f i c=true) (hcl:Ku md ops listed=true)
  (hQ:∀k a w,Q (.panic k) (a.put oi.dst v) w->Q (.panic k) a w) (hS:S w) (hy:YieldsIf P ops S oi v a)
  (h:jY P md ops Q S c fuel (listed.setIfInBounds i true) (a.put oi.dst v) w):jY P md ops Q S c (fuel+1) listed a w:=
 Bg hi (Region.noSelect_spec hs) hQ hw fuel listed a w (II hcl) (Region.free_spec hi hf) (by simpa using hr) hy hS h
theorem aO {listed:Array Bool} {a:Act} {w:World} {fuel:Nat} (hr:Region.ready md ops listed=[]) (h:Q .normal a w):jY P md ops Q S c fuel listed a w:=by
 cases fuel with
 |zero=>exact⟨hr,h⟩
 |succ n=>exact⟨fun _=>h,by rw [hr];simp⟩
theorem eG {i:Nat} {o:Oper} {fuel:Nat} {listed:Array Bool} {a:Act} {w:World} (hr:Region.ready md ops listed=[i]) (hi:ops[i]? =some o)
  (h:∀K:Act->World->Prop,(∀a' w',(i≠c->S w')/\jY P md ops Q S c fuel (listed.setIfInBounds i true) a' w'->K a' w')->if Region.wanted o (yielded ops a.tmps)=true then Oper.wp P o a w K Q else K (a.put o.dst undef) w):
  jY P md ops Q S c (fuel+1) listed a w:=by
 refine⟨fun h0=>absurd (h0.symm.trans hr) σ,fun j hj=>?_⟩;rw [hr] at hj;obtain rfl:j=i:=by simpa using hj
 exact wpOp_step hi fun K hK=>h K hK
theorem yu {i j:Nat} {o o':Oper} {fuel:Nat} {listed:Array Bool} {a:Act} {w:World} (hr:Region.ready md ops listed=[i,j]) (hi:ops[i]? =some o) (hj:ops[j]? =some o')
  (h:∀K:Act->World->Prop,(∀a' w',(i≠c->S w')/\jY P md ops Q S c fuel (listed.setIfInBounds i true) a' w'->K a' w')->if Region.wanted o (yielded ops a.tmps)=true then Oper.wp P o a w K Q else K (a.put o.dst undef) w)
  (h':∀K:Act->World->Prop,(∀a' w',(j≠c->S w')/\jY P md ops Q S c fuel (listed.setIfInBounds j true) a' w'->K a' w')->if Region.wanted o' (yielded ops a.tmps)=true then Oper.wp P o' a w K Q else K (a.put o'.dst undef) w):
  jY P md ops Q S c (fuel+1) listed a w:=by
 refine⟨fun h0=>absurd (h0.symm.trans hr) σ,fun x hx=>?_⟩;rw [hr] at hx;have hx:x=i∨x=j:=by simpa using hx
 rcases hx with rfl|rfl
 ·exact wpOp_step hi fun K hK=>h K hK
 ·exact wpOp_step hj fun K hK=>h' K hK
def tk (P:Program) (md:Region.Mode) (ops:Array Oper) (Q:Exit->Act->World->Prop) (S:World->Prop) (c:Nat) (w:World):List Nat->Nat->Array Bool->Act->Prop
 | [],fuel,listed,a=>jY P md ops Q S c fuel listed a w
 |i::is,F,listed,a=>∃fuel oi v,F=fuel+1/\ops[i]? =some oi/\YieldsIf P ops S oi v a/\tk P md ops Q S c w is fuel (listed.setIfInBounds i true) (a.put oi.dst v)
theorem bO (i:Nat) {o:Oper} {fuel:Nat} {listed:Array Bool} {a:Act} {w:World} (hr:Region.ready md ops listed=[i]) (hi:ops[i]? =some o)
  (h:∀K:Act->World->Prop,Hid (∀a' w',(i≠c->S w')/\jY P md ops Q S c fuel (listed.setIfInBounds i true) a' w'->K a' w')->if Region.wanted o (yielded ops a.tmps)=true then Oper.wp P o a w K Q else K (a.put o.dst undef) w):
  jY P md ops Q S c (fuel+1) listed a w:=eG hr hi fun K hK=>h K (η hK)
theorem bP (i j:Nat) {o o':Oper} {fuel:Nat} {listed:Array Bool} {a:Act} {w:World} (hr:Region.ready md ops listed=[i,j]) (hi:ops[i]? =some o) (hj:ops[j]? =some o')
  (h:∀K:Act->World->Prop,Hid (∀a' w',(i≠c->S w')/\jY P md ops Q S c fuel (listed.setIfInBounds i true) a' w'->K a' w')->if Region.wanted o (yielded ops a.tmps)=true then Oper.wp P o a w K Q else K (a.put o.dst undef) w)
  (h':∀K:Act->World->Prop,Hid (∀a' w',(j≠c->S w')/\jY P md ops Q S c fuel (listed.setIfInBounds j true) a' w'->K a' w')->if Region.wanted o' (yielded ops a.tmps)=true then Oper.wp P o' a w K Q else K (a.put o'.dst undef) w):
  jY P md ops Q S c (fuel+1) listed a w:=yu hr hi hj (fun K hK=>h K (η hK)) fun K hK=>h' K (η hK)
theorem bf (S:World->Prop) (c:Nat) {id:Nat} {a:Act} {w:World} (hm:P.follows .mixedOrders=true) (h:jY P .any ops Q S c ops.size (Array.replicate ops.size false) a w.drew):(Code.region id ops true).wp P Q a w:=
 wp_region_any hm (Gt _ _ _ _ h)
end
section
variable {P:Program} {ops:Array Oper} {Q:Exit->Act->World->Prop} {md:Region.Mode} {S:World->Prop} {c:Nat}
def ZX (P:Program) (md:Region.Mode) (ops:Array Oper) (Q:Exit->Act->World->Prop) (S:World->Prop) (c:Nat) (w:World):List Nat->Nat->Array Bool->Act->Prop
 | [],fuel,listed,a=>jY P md ops Q S c fuel listed a w
 |i::is,F,listed,a=>∃fuel oi v,F=fuel+1/\ops[i]? =some oi/\YieldsIf P ops S oi v a/\ZX P md ops Q S c w is fuel (listed.setIfInBounds i true) (a.put oi.dst v)
def Yz (md:Region.Mode) (ops:Array Oper) (c f:Nat):List Nat->Array Bool->Bool
 | [],_=>true
 |i::is,listed=>Region.free md ops listed i&&((Region.ready md ops listed).contains i&&(waitsFor md ops f i c&&Yz md ops c f is (listed.setIfInBounds i true)))
theorem Vg {w:World} (hsel:∀(j:Nat) (o:Oper) cs b,ops[j]? =some o->o.op≠ .select cs b) (hQ:∀k d v a w,Q (.panic k) (a.put (some d) v) w->Q (.panic k) a w) (hS:S w) (f:Nat):∀(is:List Nat) (fuel:Nat) (listed:Array Bool) (a:Act),oH md ops listed->Yz md ops c f is listed=true->ZX P md ops Q S c w is fuel listed a->jY P md ops Q S c fuel listed a w
 | [],_,_,_,_,_,h=>h
 |i::is,_,listed,a,hd,hb,h=>by
  obtain⟨fuel,oi,v,rfl,hi,hy,h⟩:=h;simp only [Yz,Bool.and_eq_true] at hb;obtain⟨b1,b2,b3,b4⟩:=hb;have hr:i∈Region.ready md ops listed:=by simpa using b2
  exact Bg hi hsel (fun k a w h=>by
   cases hd:oi.dst with
   |none=>rw [hd] at h;exact h
   |some d=>rw [hd] at h;exact hQ k d _ a w h) b3 fuel listed a w hd (Region.free_spec hi b1) hr hy hS (Vg hsel hQ hS f is fuel _ _ (hd.set hr) b4 h)
theorem ni (is:List Nat) (f:Nat) {fuel:Nat} {listed:Array Bool} {a:Act} {w:World} (h5:(Region.noSelect ops&&(Ku md ops listed&&Yz md ops c f is listed))=true) (hQ:∀k d v a w,Q (.panic k) (a.put (some d) v) w->Q (.panic k) a w) (hS:S w)
  (h:ZX P md ops Q S c w is fuel listed a):jY P md ops Q S c fuel listed a w:=by
 simp only [Bool.and_eq_true] at h5;exact Vg (Region.noSelect_spec h5.1) hQ hS f is fuel listed a (II h5.2.1) h5.2.2 h
theorem tNm {i:Nat} {is:List Nat} {fuel:Nat} {listed:Array Bool} {a:Act} {w:World} {oi:Oper} {v:Value} (hi:ops[i]? =some oi) (hw:Region.wanted oi (yielded ops a.tmps)=true) (hy:∀w,S w->(execOp a.eval oi).run P w=.ok (.value v) w)
  (h:ZX P md ops Q S c w is fuel (listed.setIfInBounds i true) (a.put oi.dst v)):ZX P md ops Q S c w (i::is) (fuel+1) listed a:=⟨fuel,oi,v,rfl,hi,.inl ⟨hw,hy⟩,h⟩
theorem gQ {i:Nat} {is:List Nat} {fuel:Nat} {listed:Array Bool} {a:Act} {w:World} {oi:Oper} {v:Value} (h:ZX P md ops Q S c w is fuel (listed.setIfInBounds i true) (a.put oi.dst v)) (hi:ops[i]? =some oi:=by rfl) (hw:Region.wanted oi (yielded ops a.tmps)=true:=by rfl) (hy:∀w,S w->(execOp a.eval oi).run P w=.ok (.value v) w:=by(intro w' hSw;(try dsimp only at hSw);repeat (with_reducible (have hq:=And.left hSw;replace hSw:=And.right hSw));go_simp<;>with_reducible rfl)):ZX P md ops Q S c w (i::is) (fuel+1) listed a:=tNm hi hw hy h
theorem ny {fuel:Nat} {listed:Array Bool} {a:Act} {w:World} (h:jY P md ops Q S c fuel listed a w):ZX P md ops Q S c w [] fuel listed a:=h
end
def ov (c:CM) (W w:World):CM:=fun a=>if a.block<W.heap.size then c a else w.cell? a
theorem dM {c:CM} {W w:World} (h:Sub c W.cell?):Sub c (ov c W w):=fun a v e=>by
 unfold ov;rw [if_pos (World.block_lt_of_cell? W a (h a v e))];exact e
theorem bH {c:CM} {W w:World} {a:Addr} (h:W.heap.size<=a.block):ov c W w a=w.cell? a:=by
 unfold ov;rw [if_neg δ]
theorem sJ {c:CM} {W w:World} (h:Sub c W.cell?) (hg:Grow W w):Sub (ov c W w) w.cell?:=fun a v e=>by
 unfold ov at e;split at e
 ·exact hg.sub _ _ (h _ _ e)
 ·exact e
theorem sK {c c':CM} {W w w':World} (h:Sub c c') (hg:Grow w w'):Sub (ov c W w) (ov c' W w'):=fun a v e=>by
 unfold ov at e ⊢;split at e
 ·exact(if_pos ‹_›).trans (h _ _ e)
 ·rw [if_neg ‹_›];exact hg.sub _ _ e
def wo (B:Nat) (c:CM):CM:=fun a=>if a.block=B then none else c a
theorem oZ (B:Nat) (c:CM):Sub (wo B c) c:=fun a v e=>by
 unfold wo at e;split at e
 ·cases e
 ·exact e
theorem Qw {B:Nat} {c c':CM} (h:Sub c c'):Sub (wo B c) (wo B c'):=fun a v e=>by
 unfold wo at e ⊢;split at e
 ·cases e
 ·rw [if_neg ‹_›];exact h _ _ e
theorem qS {B:Nat} {c:CM} {W:World} (h:Sub c W.cell?) (hB:W.heap.size<=B):Sub c (wo B c):=fun a v e=>by
 have hl:=World.block_lt_of_cell? W a (h a v e);unfold wo;rw [if_neg δ];exact e
theorem ZY {c c':CM} {w W w1 w':World} (hW:Grow w W) (h:Sub c' (ov c w W)) (h1:∀a v,W.heap.size<=a.block->w1.cell? a=some v->w'.cell? a=some v) (h2:∀a v,w.heap.size<=a.block->a.block<W.heap.size->c' a=some v->w'.cell? a=some v):Sub (ov c' W w1) (ov c w w'):=fun a v e=>by
 unfold ov at e;split at e
 ·have e2:=h _ _ e
  unfold ov at e2 ⊢;split at e2
  ·rw [if_pos ‹_›];exact e2
  ·rw [if_neg ‹_›];exact h2 a v δ ‹_› e
 ·have:=hW.size
  unfold ov;rw [if_neg δ];exact h1 a v δ e
theorem Og {c:CM} {w W w1 w':World} {B:Nat} (hW:Grow w W) (h1:Grow W w1) (hB:B<W.heap.size) (hs:∀a:Addr,a.block≠B->w'.cell? a=w1.cell? a):Sub (ov (wo B (ov c w W)) W w1) (ov c w w'):=
 ZY hW (oZ _ _) (fun a v hl e=>by rw [hs a δ];exact e) fun a v hl hl2 e=>by
  have hne:a.block≠B:=by
   intro hb;unfold wo at e;rw [if_pos hb] at e;cases e
  have e2:=oZ _ _ a v e;rw [bH hl] at e2;rw [hs a hne];exact h1.sub _ _ e2
theorem vK {c:CM} {w W:World} {B:Nat} {a:Addr} (h:w.heap.size<=a.block) (hB:a.block≠B):wo B (ov c w W) a=W.cell? a:=by
 unfold wo;rw [if_neg hB,bH h]
theorem uJ {c:CM} {w W:World} {B:Nat} (hc:Sub c w.cell?) (hB:w.heap.size<=B):Sub c (wo B (ov c w W)):=(qS hc hB).trans (Qw (dM hc))
theorem mO {c:CM} {w W:World} {B:Nat} (hc:Sub c w.cell?) (hg:Grow w W):Sub (wo B (ov c w W)) W.cell?:=(oZ _ _).trans (sJ hc hg)
theorem dN {w:World} {p a:Addr} {u:Value} (h:a.block≠p.block):(w.setCell p u).cell? a=w.cell? a:=
 World.cell?_of_block (by simp only [World.setCell,Array.getElem?_modify];rw [if_neg (fun e=>h e.symm)])
theorem aI.slc {α:Type} {T:Ty α} {c d:CM} (h0:0<T.size) {w:World} {base e:Nat} {v:Value} {l:List α} (h:aI T c w base e v l) (hs:Sub c d) (hd:∀a:Addr,base<=a.block->d a=w.cell? a):Sl T d v l:=by
 obtain⟨css,⟨hl,hs'⟩,h2,h3⟩:=h;have hcl:=jM h2 h3;rcases hs' with⟨rfl,hn⟩|⟨g,cap,cur,rfl,hg,hrow,hnc,hcm,hcs,htake⟩
 ·have:l=[]:=List.eq_nil_of_length_eq_zero hn
  subst this;exact⟨none,0,rfl,Nat.le_refl _,Nat.zero_le _,fun _=>rfl,fun i x e=>by simp at e⟩
 ·refine⟨some ⟨g,0,none⟩,cap,rfl,hnc,hcm,σ,fun i x e=>?_⟩
  have hi:i<l.length:=(List.getElem?_eq_some_iff.1 e).1;have hc:css[i]? =some css[i]:=List.getElem?_eq_getElem δ;refine⟨g,0,css[i],rfl,T.mono hs (h3 i _ x hc e),fun j u hu=>?_⟩;have hj:j<T.size:=by rw [<-hcl css[i] (List.getElem_mem _)];exact(List.getElem?_eq_some_iff.1 hu).1
  have hx:css.flatten[i*T.size+j]? =some u:=by
   rw [iT h0 css hcl,Nat.mul_comm,Nat.mul_add_div h0,Nat.div_eq_of_lt hj,Nat.add_zero,hc,Nat.mul_add_mod,Nat.mod_eq_of_lt hj];exact hu
  rw [<-htake,List.getElem?_take] at hx;rw [hd _ hg];split at hx
  ·simp only [World.cell?,hrow];simpa using hx
  ·cases hx
theorem aI.of_flat {α:Type} {T:Ty α} {f:α->List Value} {c:CM} {w:World} {base e:Nat} {v:Value} {l:List α} (h:w.ownsRow base e T.size v l.length (l.flatMap f)) (hR:∀x∈l,T.R c (f x) x):aI T c w base e v l:=
 ⟨l.map f,by rw [<-List.flatMap_def];exact h,σ,fun i cs x a b=>by
  rw [List.getElem?_map,b] at a;obtain rfl:=Option.some.inj a;exact hR x (List.mem_of_getElem? b)⟩
theorem aI.ints {c:CM} {w:World} {base e:Nat} {v:Value} {l:List Int} (h:w.ownsRow base e 1 v l.length (l.flatMap dB)) (hok:∀x∈l,I64 x):aI Ty.int c w base e v l:=
 aI.of_flat (T:=Ty.int) (f:=dB) h fun x hx=>⟨rfl,hok x hx⟩
theorem aI.pts {c:CM} {w:World} {base e:Nat} {v:Value} {l:List Pt} (h:w.ownsRow base e 3 v l.length (sF l)) (hok:wH l):aI Ty.pt c w base e v l:=
 aI.of_flat (T:=Ty.pt) (f:=Pt.cells) h fun x hx=>⟨rfl,hok x hx⟩
def gJ (r:Rc) (st:List Rd×Bool×Sm×List Int) (x:Rd):List Rd×Bool×Sm×List Int:=
 if x.deed=r.deed/\st.2.1=false then
  if r.kind=2 then(st.1,true,nJ st.2.2.1 x.parts,st.2.2.2++ [r.deed]) else if r.kind=3 then(st.1,true,st.2.2.1,st.2.2.2) else(st.1++ [x],true,st.2.2.1,st.2.2.2)
 else(st.1++ [x],st.2.1,st.2.2.1,st.2.2.2)
def dH (h:Hs) (r:Rc):Hs:=
 let st:=h.ready.foldl (gJ r) ([],false,h.sums,h.done)
 { log:=h.log,sums:=st.2.2.1,ready:=if r.kind=1/\st.2.1=false then st.1++ [⟨r.deed,r.parts⟩] else st.1,done:=st.2.2.2 }
def gu (l:List Rc):Hs:=l.foldl dH ⟨l,⟨0,0,0,0⟩,[],[]⟩
def IJ (s:Sm):Prop:=I64 s.a/\I64 s.b/\I64 s.c/\I64 s.d
theorem fP:I64 0:=by unfold I64;decide
theorem Qx (x:Int):I64 (wrap64 x):=wrap64_wf x
theorem IJ.put {s:Sm} (h:IJ s) (k:Int) {x:Int} (hx:I64 x):IJ (s.put k x):=by
 unfold Sm.put;obtain⟨a,b,c,d⟩:=h;split
 ·exact⟨hx,b,c,d⟩
 ·split
  ·exact⟨a,hx,c,d⟩
  ·split
   ·exact⟨a,b,hx,d⟩
   ·exact⟨a,b,c,hx⟩
theorem IJ.nJ {s:Sm} (h:IJ s) (l:List Pt):IJ (nJ s l):=by
 induction l generalizing s with
 |nil=>exact h
 |cons p l ih=>exact ih (h.put p.k (Qx _))
theorem jw (w:World) (B:Nat) (e:TypeId) (hB:B<=w.heap.size):(w.alloc (.cells #[] e)).ownsRow B e 1 (ς (some ⟨w.heap.size,0,none⟩) 0 0) 0 []:=World.ownsRow_made w #[] 0 hB (Nat.zero_le _) rfl
structure Vh (c:CM) (w:World) (wr:World) (vl:Value) (vr vd:Value) (h:Hs):Prop where
 row:wr.heap[w.heap.size+1]? =some (.cells #[vl,ι h.sums.a,ι h.sums.b,ι h.sums.c,ι h.sums.d,vr,vd] 50 (0,0))
 res:wr.heap[w.heap.size]? =some (.cells #[(),ι 0,ι 0,ι 0,ι 0,(),()] 50 (0,0))
 ready:aI Ty.rd c wr (w.heap.size+2) 53 vr h.ready
 done:wr.ownsRow (w.heap.size+2) 3 1 vd h.done.length (h.done.flatMap dB)
 grow:Grow w wr
 size:w.heap.size+2<=wr.heap.size
structure DB (h:Hs) (n:Nat):Prop where
 ready:h.ready.length<=n
 done:h.done.length<=n
 keys:∀x∈h.ready,dw x.parts
 sums:IJ h.sums
 ints:∀x∈h.done,I64 x
theorem Vh.later {c:CM} {w wr w':World} {vl vr vd:Value} {h:Hs} {row:Option Nat} (hb:Vh c w wr vl vr vd h) (hg:wr.grownBy w' row) (h1:∀k,row=some k->w.heap.size+2<=k) (h2:vr.ownBlock=none∨vr.ownBlock≠row) (h3:vd.ownBlock=none∨vd.ownBlock≠row):Vh c w w' vl vr vd h where
 row:=by rw [hg.block _ (τ hb.size) (fun e=>by have:=h1 _ e.symm;omega)];exact hb.row
 res:=by rw [hg.block _ (τ hb.size) (fun e=>by have:=h1 _ e.symm;omega)];exact hb.res
 ready:=hb.ready.kept hg h2
 done:=hb.done.kept hg h3
 grow:=hb.grow.grown hg (fun k hk=>by have:=h1 k hk;omega)
 size:=Nat.le_trans hb.size hg.size
theorem Kv {w:World} {B:Nat} {a b c d e f g:Value} {t:TypeId} (h:w.heap[B]? =some (.cells #[a,b,c,d,e,f,g] t (0,0))) (u:Value):(w.setCell ⟨B,5,none⟩ u).heap[B]? =some (.cells #[a,b,c,d,e,u,g] t (0,0)):=by
 simp only [World.setCell,Array.getElem?_modify,h];simp
structure Vj (c:CM) (w wo wx:World) (vl vr:Value) (rcs:List Value) (r:Rc) (h:Hs) (k m:Nat) (s6:Value) (st:List Rd×Bool×Sm×List Int) (vd:Value):Prop where
 fold:(h.ready.take m).foldl (gJ r) ([],false,h.sums,h.done)=st
 own:aI Ty.rd c wx (wo.heap.size+1) 53 s6 st.1
 box:Vh c w wx vl vr vd { h with sums:=st.2.2.1,done:=st.2.2.2 }
 len:st.1.length<=m
 Dp:st.2.2.2.length<=k+(if st.2.1 then 1 else 0)
 keys:∀x∈st.1,dw x.parts
 sums:IJ st.2.2.1
 ints:∀x∈st.2.2.2,I64 x
 FH:At wx.cell? wo.heap.size 0 rcs
 size:wo.heap.size+1<=wx.heap.size
 wL:w.heap.size+2<=wo.heap.size
 vr:∀k,vr.ownBlock=some k->k<wo.heap.size
 uo:s6.ownBlock=none∨s6.ownBlock≠vd.ownBlock
theorem Vj.app {c:CM} {w wo wx w':World} {vl vr:Value} {rcs:List Value} {r:Rc} {h:Hs} {k m:Nat} {s6:Value} {st:List Rd×Bool×Sm×List Int} {vd:Value} {x:Rd} {b:Bool} {o1 o2:Obj} {g c':Nat}
  (H:Vj c w wo wx vl vr rcs r h k m s6 st vd) (hx:h.ready[m]? =some x) (hkx:dw x.parts) (hst:gJ r st x=(st.1++ [x],b,st.2.2)) (hb:st.2.1=true->b=true)
  (ho:aI Ty.rd c w' (wo.heap.size+1) 53 (ς (some ⟨g,0,none⟩) (st.1.length+1) c') (st.1++ [x])) (hg:((wx.alloc o1).alloc o2).grownBy w' s6.ownBlock) (hl:s6.ownBlock=some g∨g=wx.heap.size+1+1):
  Vj c w wo w' vl vr rcs r h k (m+1) (ς (some ⟨g,0,none⟩) (st.1.length+1) c') (st.1++ [x],b,st.2.2) vd:=by
 have hg':wx.grownBy w' s6.ownBlock:=grownBy_trans (ak (((Grow.refl wx).alloc o1).alloc o2) _) hg;have hlt:=H.own.lt;exact {
  fold:=by
   have hm:=(List.getElem?_eq_some_iff.1 hx);obtain⟨hm1,hm2⟩:=hm;rw [List.take_succ_eq_append_getElem hm1,List.foldl_append,H.fold,hm2];simpa using hst
  own:=ho
  box:=H.box.later hg' (fun k hk=>by have:=(hlt k hk).1;have:=H.wL;omega) (by
   cases e:vr.ownBlock with
   |none=>exact .inl rfl
   |some q=>right;intro e';have:=H.vr q e;have:=(hlt q e'.symm).1;omega) (by
   rcases H.uo with d|d
   ·cases e:vd.ownBlock with
    |none=>exact .inl rfl
    |some q=>right;rw [d];simp
   ·right;exact fun e=>d e.symm)
  len:=by have:=H.len;simp;omega
  Dp:=by
   have:=H.Dp;simp only;cases hs:st.2.1 with
   |true=>rw [hb hs];rw [hs] at this;exact this
   |false=>rw [hs] at this;simp at this;omega
  keys:=fun y hy=>by
   simp only [List.mem_append,List.mem_singleton] at hy;rcases hy with hy|rfl
   ·exact H.keys y hy
   ·exact hkx
  sums:=H.sums
  ints:=H.ints
  FH:=fun j u hu=>by
   have e:=H.FH j u hu;have hl:=World.block_lt_of_cell? wx _ e;simp only at hl;rw [World.cell?_of_block (w:=wx) (hg'.block _ hl (fun e'=>by have:=(hlt _ e'.symm).1;simp only at this;omega))];exact e
  size:=Nat.le_trans H.size hg'.size
  wL:=H.wL
  vr:=H.vr
  uo:=by
   right;rcases hl with hl|hl
   ·rcases H.uo with d|d
    ·rw [d] at hl;cases hl
    ·rw [hl] at d;exact d
   ·intro e'
    have:=(H.box.done.lt g e'.symm).2;omega }
theorem Vj.skip {c:CM} {w wo wx:World} {vl vr:Value} {rcs:List Value} {r:Rc} {h:Hs} {k m:Nat} {s6:Value} {st:List Rd×Bool×Sm×List Int} {vd:Value} {x:Rd} {o1:Obj}
  (H:Vj c w wo wx vl vr rcs r h k m s6 st vd) (hx:h.ready[m]? =some x) (hst:gJ r st x=(st.1,true,st.2.2)):Vj c w wo (wx.alloc o1) vl vr rcs r h k (m+1) s6 (st.1,true,st.2.2) vd:=by
 have hg:=(Grow.refl wx).alloc o1;have hg':=ak hg none;exact {
  fold:=by
   obtain⟨hm1,hm2⟩:=List.getElem?_eq_some_iff.1 hx;rw [List.take_succ_eq_append_getElem hm1,List.foldl_append,H.fold,hm2];simpa using hst
  own:=H.own.grow hg
  box:=H.box.later hg' σ (by cases vr.ownBlock<;>simp) (by cases vd.ownBlock<;>simp)
  len:=by have:=H.len;simp;omega
  Dp:=by
   have:=H.Dp;simp only;cases hs:st.2.1<;>rw [hs] at this<;>simp at this ⊢ <;>omega
  keys:=H.keys
  sums:=H.sums
  ints:=H.ints
  FH:=H.FH.mono hg.sub
  size:=by have:=H.size;simp;omega
  wL:=H.wL
  vr:=H.vr
  uo:=H.uo }
theorem Vj.did {c:CM} {w wo wx w':World} {vl vr:Value} {rcs:List Value} {r:Rc} {h:Hs} {k m:Nat} {s6:Value} {st:List Rd×Bool×Sm×List Int} {vd zI:Value} {x:Rd} {sm:Sm}
  (H:Vj c w wo wx vl vr rcs r h k m s6 st vd) (hx:h.ready[m]? =some x) (hst:gJ r st x=(st.1,true,sm,st.2.2.2++ [r.deed])) (hf:st.2.1=false) (hsm:IJ sm) (hd:I64 r.deed)
  (hg:wx.grownBy w' (some (w.heap.size+1))) (hrow:w'.heap[w.heap.size+1]? =some (.cells #[vl,ι sm.a,ι sm.b,ι sm.c,ι sm.d,vr,zI] 50 (0,0)))
  (hdn:w'.ownsRow (w.heap.size+2) 3 1 zI (st.2.2.2++ [r.deed]).length ((st.2.2.2++ [r.deed]).flatMap dB)) (hnew:∀q,zI.ownBlock=some q->wx.heap.size<=q):
  Vj c w wo w' vl vr rcs r h k (m+1) s6 (st.1,true,sm,st.2.2.2++ [r.deed]) zI:=by
 have hB:=H.box.size;have hos:=H.wL;exact {
  fold:=by
   obtain⟨hm1,hm2⟩:=List.getElem?_eq_some_iff.1 hx;rw [List.take_succ_eq_append_getElem hm1,List.foldl_append,H.fold,hm2];simpa using hst
  own:=H.own.kept hg (by
   cases e:s6.ownBlock with
   |none=>exact .inl rfl
   |some q=>right;intro e';have:=(H.own.lt q e).1;simp at e';omega)
  box:={
   row:=hrow
   res:=by rw [hg.block _ δ σ];exact H.box.res
   ready:=H.box.ready.kept hg (by
    cases e:vr.ownBlock with
    |none=>exact .inl rfl
    |some q=>right;intro e';have:=(H.box.ready.lt q e).1;simp at e';omega)
   done:=hdn
   grow:=H.box.grow.grown hg (fun k hk=>by simp at hk;omega)
   size:=Nat.le_trans hB hg.size }
  len:=by have:=H.len;simp;omega
  Dp:=by have:=H.Dp;rw [hf] at this;simp at this ⊢;omega
  keys:=H.keys
  sums:=hsm
  ints:=fun y hy=>by
   simp only [List.mem_append,List.mem_singleton] at hy;rcases hy with hy|rfl
   ·exact H.ints y hy
   ·exact hd
  FH:=fun j u hu=>by
   have e:=H.FH j u hu;have hl:=World.block_lt_of_cell? wx _ e;simp only at hl;rw [World.cell?_of_block (w:=wx) (hg.block _ hl (fun e'=>by simp at e';omega))];exact e
  size:=Nat.le_trans H.size hg.size
  wL:=H.wL
  vr:=H.vr
  uo:=by
   cases e:s6.ownBlock with
   |none=>exact .inl rfl
   |some q=>
    right;intro e';have:=hnew q e'.symm;have:=(H.own.lt q e).2;omega }
theorem uK {c:CM} {v:Value} {l:List Rc} (w:World) (hc:Sub c w.cell?) (hv:UD c v l) (hk:∀r∈l,dw r.parts) (hm:l.length*40<=140737488355328):
  Calls Tryz.prog 129 #[v] w fun e w'=>∃v',e=.returned v'/\Of Ty.hs (ov c w w') v' (gu l)/\Grow w w':=by
 have hv0:=hv;have HC:=η hc;clear hc;obtain⟨al,cl,rfl,h1,h2,-,hel⟩:=hv;unfold maxLen at h2;have HV:=η hv0;have HM:=η hm;have HKS:=η hk;clear hv0 hm hk;go_enter Tryz.func129,Tryz.ntmps129;go_wp2;go_loopw [14] (fun i wr=>∃(k:Nat) (h:Hs) (vr vd:Value),k<=l.length/\i=ι k/\(l.take k).foldl dH ⟨l,⟨0,0,0,0⟩,[],[]⟩=h/\Vh c w wr (ς al l.length cl) vr vd h/\DB h k) (fun i _=>l.length - (intOf i).toNat)
 case atStart=>
  refine⟨0,_,(),(),δ,rfl,rfl,⟨by simpa using heap_alloc_new (w.alloc _) _,aB (heap_alloc_new w _) _,aI.nil _ _ _ _ _,World.ownsRow_nil _ _ _ _,gY,σ⟩,⟨σ,σ,σ,⟨fP,fP,fP,fP⟩,σ⟩⟩
 case round=>
  obtain⟨k,h,vr,vd,hk',rfl,hH,hB,hO⟩:=hrel;by_cases hlt:k<l.length
  ·obtain⟨b,o,vp,rfl,c0,c1,c2,i1,i2,hP⟩:=UD.at_ hel k hlt
   obtain⟨ap,cp,rfl,-⟩:=id hP;replace c0:=hB.grow.sub _ _ (HC.o _ _ c0);replace c1:=hB.grow.sub _ _ (HC.o _ _ c1);replace c2:=hB.grow.sub _ _ (HC.o _ _ c2);obtain⟨ar,cr,rfl⟩:=hB.ready.form;obtain⟨ad,cd,rfl⟩:=aY hB.done;have hR:=hB.ready.sl ε (HC.o.trans hB.grow.sub);obtain⟨IK,IL,he,hr1,hr2,-,hrel⟩:=hR;obtain⟨rfl,rfl⟩:ar=IK/\cr=IL:=by simpa using he
   unfold maxLen at hr2;have e5:wr.cell? ⟨w.heap.size+1,5,none⟩=some (ς ar h.ready.length cr):=by simp [World.cell?,hB.row]
   have hsz:w.heap.size+1<wr:=(γ hB.row);have hstep:(l.take (k+1)).foldl dH ⟨l,⟨0,0,0,0⟩,[],[]⟩=dH h l[k]:=by
    rw [List.take_succ_eq_append_getElem hlt,List.foldl_append,hH];rfl
   have HST:=η hstep;have HB:=η hB;have HO:=η hO;have HP:=η hP;have HI1:=η i1;have HI2:=η i2;have qT:=η (HKS.o l[k] (List.getElem_mem _));clear hel hH hB hO he hstep hP i1 i2;generalize l[k]=r at*;obtain⟨wo,rfl⟩:∃wo:World,wo=wr:=⟨_,rfl⟩;go_wp2;go_loopw [6,7,21] (fun s6 s7 i wx=>∃(m:Nat) (st:List Rd×Bool×Sm×List Int) (zI:Value),m<=h.ready.length/\i=ι m/\s7=.bool st.2.1/\
    Vj c w wo wx (ς (some ⟨b,o,none⟩) l.length cl) (ς ar h.ready.length cr) [ι r.kind,ι r.deed,ς ap r.parts.length cp] r h k m s6 st zI) (fun _ _ i _=>h.ready.length - (intOf i).toNat)
   case atStart=>
    have hg:=(Grow.refl wo).alloc (.cells #[ι r.kind,ι r.deed,ς ap r.parts.length cp] 79);refine⟨0,([],false,h.sums,h.done),ς ad h.done.length cd,δ,rfl,rfl,?_⟩;exact {
     fold:=rfl
     own:=aI.nil _ _ _ _ _
     box:=HB.o.later (ak hg none) σ (by cases (Value.slice ar h.ready.length cr).ownBlock<;>simp) (by cases (Value.slice ad h.done.length cd).ownBlock<;>simp)
     len:=by simp
     Dp:=by simpa using HO.o.done
     keys:=by simp
     sums:=HO.o.sums
     ints:=HO.o.ints
     FH:=fun j u hu=>by rw [Nat.zero_add,World.cell?_alloc_new];simpa using hu
     size:=by simp
     wL:=HB.o.size
     vr:=fun q hq=>(HB.o.ready.lt q hq).2
     uo:=.inl rfl }
   case round=>
    obtain⟨m,st,zI,hm',rfl,rfl,hX⟩:=hrel;have f0:=hX.FH 0 _ rfl;have f1:=hX.FH 1 _ rfl;have f2:=hX.FH 2 _ rfl;simp only [Nat.add_zero,Nat.zero_add] at f0 f1 f2;have hxs:=hX.size;have hos:=hX.wL;obtain⟨a6,c6,rfl⟩:=hX.own.form;have hwz:w.heap.size+1<wr:=by omega
    have hwl:wo.heap.size<wr:=by omega
    by_cases hlm:m<h.ready.length
    ·obtain⟨g,cs,hag,G0,hAx⟩:=aI.get ε hX.box.ready m hlm
     obtain⟨vq,rfl,Kw,hQ⟩:=id G0;obtain⟨aq,cq,rfl,-⟩:=id hQ;have d0:=hAx 0 _ rfl;have d1:=hAx 1 _ rfl;simp only [Nat.add_zero,Ty.rd] at d0 d1;subst hag;have HX:=η hX;have DG:=η G0;have Oh:Hid (∀u∈(#[ι h.ready[m].deed,.slice aq h.ready[m].parts.length cq]:Array Value).toList,u.oneCell'=true):=by
      intro u hu;simp at hu;rcases hu with rfl|rfl<;>rfl
     have HLEN:Hid ((st.1.length+1)*32<=140737488355328):=by
      have h1:=hX.len;have h3:=HO.o.ready;have h4:=HM.o;show(st.1.length+1)*32<=140737488355328;omega
     have DM:Hid (w.heap.size<=wo.heap.size+1):=by show w.heap.size<=wo.heap.size+1;omega
     have Vk:Hid (wo.heap.size+1<=(wr.alloc (.cells #[ι h.ready[m].deed,.slice aq h.ready[m].parts.length cq] 53)).heap.size):=by show _<=_;simp;omega
     have hxm:h.ready[m]? =some h.ready[m]:=List.getElem?_eq_getElem hlm;have Z9:=η hxm;have DO:=η (HO.o.keys h.ready[m] (List.getElem_mem _));clear hX hAx G0 Kw hQ hxm;generalize h.ready[m]=x at*;obtain⟨rest,was,sm,dn⟩:=st;by_cases tk:x.deed=r.deed
     ·have tk':(x.deed !=r.deed)=false:=by simp [tk]
      have HT:=η tk;clear tk;cases was
      ·by_cases t2:r.kind=2
       ·have t2':(r.kind==2)=true:=by simp [t2]
        have hst:gJ r (rest,false,sm,dn) x=(rest,true,nJ sm x.parts,dn++ [r.deed]):=by simp [gJ,HT.o,t2]
        have wY:=η hst;have hq:Sl Ty.pt c (ς aq x.parts.length cq) x.parts:=by
         obtain⟨v',he,_,hq⟩:=DG.o;simp only [List.cons.injEq,and_true,true_and] at he;rw [he];exact hq
        have hdo:=fun(W:World) (hW:Grow wr W)=>cV (s:=sm) W (hq.mono (HC.o.trans (HX.o.box.grow.trans hW).sub)) DO.o;have nW:=η hdo;have hrow:=HX.o.box.row;simp only at hrow;obtain⟨ay,cy,hvd⟩:=aY HX.o.box.done;simp only at hvd;rw [hvd] at hrow;have e1:wr.cell? ⟨w.heap.size+1,1,none⟩=some (ι sm.a):=by simp [World.cell?,hrow]
        have e2:wr.cell? ⟨w.heap.size+1,2,none⟩=some (ι sm.b):=by simp [World.cell?,hrow]
        have e3:wr.cell? ⟨w.heap.size+1,3,none⟩=some (ι sm.c):=by simp [World.cell?,hrow]
        have e4:wr.cell? ⟨w.heap.size+1,4,none⟩=some (ι sm.d):=by simp [World.cell?,hrow]
        have e6:wr.cell? ⟨w.heap.size+1,6,none⟩=some (ς ay dn.length cy):=by simp [World.cell?,hrow]
        have yw:=η hrow;have HVD:=η hvd;clear t2 hst hq hdo hrow hvd;go_wp2_with fail
        refine(nW.o _ ((Grow.refl _).alloc _)).mono ?_;rintro e w1 ⟨rfl,hb1⟩;have hbw:=((Grow.refl wr).alloc _).trans hb1;have k1:=hbw.sub _ _ e1;have k2:=hbw.sub _ _ e2;have k3:=hbw.sub _ _ e3;have k4:=hbw.sub _ _ e4;have k6:=hbw.sub _ _ e6;have k7:=hbw.sub _ _ f1;have kf:∀o,w1.frozen? ⟨w.heap.size+1,o,none⟩=false:=fun o=>by
         rw [hbw.frozen (p:=⟨w.heap.size+1,o,none⟩) hwz];simp [World.frozen?,yw.o]
        have kz:w.heap.size+1<w1:=by have:=hbw.size;omega
        have kz2:wo.heap.size<w1:=by have:=hbw.size;omega
        have X_:=η hbw;clear hb1 hbw e1 e2 e3 e4 e6 f0 f1 f2 d0 d1;go_wp2_with fail
        generalize hW2:(((w1.setCell ⟨w.heap.size+1,1,none⟩ (ι (nJ sm x.parts).a)).setCell ⟨w.heap.size+1,2,none⟩ (ι (nJ sm x.parts).b)).setCell ⟨w.heap.size+1,3,none⟩ (ι (nJ sm x.parts).c)).setCell ⟨w.heap.size+1,4,none⟩ (ι (nJ sm x.parts).d)=w2;have SG:w1.grownBy w2 (some (w.heap.size+1)):=by
         rw [<-hW2];exact grownBy_trans (grownBy_setCell w1 ⟨w.heap.size+1,1,none⟩ _) (grownBy_trans (grownBy_setCell _ ⟨w.heap.size+1,2,none⟩ _) (grownBy_trans (grownBy_setCell _ ⟨w.heap.size+1,3,none⟩ _) (grownBy_setCell _ ⟨w.heap.size+1,4,none⟩ _)))
        have hrow2:w2.heap[w.heap.size+1]? =some (.cells #[ς (some ⟨b,o,none⟩) l.length cl,ι (nJ sm x.parts).a,ι (nJ sm x.parts).b,ι (nJ sm x.parts).c,ι (nJ sm x.parts).d,ς (some ⟨g,0,none⟩) h.ready.length cr,ς ay dn.length cy] 50 (0,0)):=by
         have h1:w1.heap[w.heap.size+1]? =some (.cells #[ς (some ⟨b,o,none⟩) l.length cl,ι sm.a,ι sm.b,ι sm.c,ι sm.d,ς (some ⟨g,0,none⟩) h.ready.length cr,ς ay dn.length cy] 50 (0,0)):=(X_.o.block _ hwz).trans yw.o;rw [<-hW2];simp only [World.setCell,Array.getElem?_modify,h1];simp
        have m6:w2.cell? ⟨w.heap.size+1,6,none⟩=some (ς ay dn.length cy):=by simp [World.cell?,hrow2]
        have m7:w2.cell? ⟨wo.heap.size,1,none⟩=some (ι r.deed):=(World.cell?_of_block (SG.block _ kz2 (by simp;omega))).trans k7;have mf:∀o,w2.frozen? ⟨w.heap.size+1,o,none⟩=false:=by simp [World.frozen?,hrow2]
        have mz:w.heap.size+1<w2:=by have:=SG.size;omega
        have mz2:wo.heap.size<w2:=by have:=SG.size;omega
        have q_:w2.ownsRow (w.heap.size+2) 3 1 (ς ay dn.length cy) dn.length (dn.flatMap dB):=by
         have h1:=HX.o.box.done;simp only at h1;rw [HVD.o] at h1;exact(h1.kept (ak X_.o none) (by cases (Value.slice ay dn.length cy).ownBlock<;>simp)).kept SG (by
          cases e:(Value.slice ay dn.length cy).ownBlock with
          |none=>exact .inl rfl
          |some q=>right;intro e';have:=(h1.lt q e).1;simp at e';omega)
        have HW2:=η hW2;have rA:=η SG;have rB:=η hrow2;have SH:=η q_;clear hW2 SG hrow2 q_ k1 k2 k3 k4 k6 k7 kf kz kz2;have Z_:Hid ((dn.length+1)*8<=140737488355328):=by
         have h1:=HX.o.Dp;have h4:=HM.o;show(dn.length+1)*8<=140737488355328;simp at h1;omega
        have H0:=η (jw w2 (w.heap.size+2) 3 δ);have UE:=η (Iz SH.o);have IQ:Hid ((dn.flatMap dB).length=dn.length*1):=nI (f:=dB) (size:=1) (fun _=>rfl) dn;have UF:=η (rC x9 dn);have cW:Hid (0+dn.length<=maxLen):=by show _<=_;have:=Z_.o;unfold maxLen;omega
        have Oi:Hid ((0+dn.length)*8<=140737488355328):=by show _<=_;have:=Z_.o;omega
        have HU:Hid (∀W,Grow w2 W->(W.alloc (.cells #[] 3)).ownsRow (w.heap.size+2) 3 1 (ς (some ⟨W.heap.size,0,none⟩) 0 0) 0 []):=fun W hG=>jw W _ _ (τ hG.size);have HS:Hid (∀W,Grow w2 W->W.cell? ⟨w.heap.size+1,6,none⟩=some (ς ay dn.length cy)/\W.cell? ⟨wo.heap.size,1,none⟩=some (ι r.deed)):=fun W hG=>⟨hG.sub _ _ m6,hG.sub _ _ m7⟩;have zJ:Hid (∀W,Grow w2 W->∀ad,ay=some ad->∀j u,(dn.flatMap dB)[j]? =some u->W.cell? (ad.add j)=some u):=fun W hG ad e j u hu=>hG.sub _ _ (UE.o.2 ad e j u hu);have SI:Hid (∀W W' v n a1 c1 xs,Grow w2 W->Va W W' (w.heap.size+2) 3 1 v n a1 c1 xs->(∀q',v.ownBlock=some q'->w2.heap.size<=q')->Grow w2 W'/\∀q',(Value.slice a1 n c1).ownBlock=some q'->w2.heap.size<=q'):=by
         intro W W' v n a1 c1 xs hG hA hq;refine⟨hG.grown hA.grown hq,fun q' hq'=>?_⟩;rcases hA.blk with hb|⟨g',hb,hg'⟩
         ·rw [hb] at hq';exact hq _ hq'
         ·rw [hb] at hq';obtain rfl:=Option.some.inj hq';exact Nat.le_trans hG.size hg'
        have cX:Hid (∀(W:World) (a2:Option Addr) (c2:Nat),Grow w2 W->W.ownsRow (w.heap.size+2) 3 1 (ς a2 (dn.length+1) c2) (dn.length+1) (dn.flatMap dB++ [ι r.deed])->(∀q,(Value.slice a2 (dn.length+1) c2).ownBlock=some q->w2.heap.size<=q)->
          Vj c w wo (W.setCell ⟨w.heap.size+1,6,none⟩ (ς a2 (dn.length+1) c2)) (ς (some ⟨b,o,none⟩) l.length cl) (ς (some ⟨g,0,none⟩) h.ready.length cr) [ι r.kind,ι r.deed,ς ap r.parts.length cp] r h k (m+1) (ς a6 rest.length c6) (rest,true,nJ sm x.parts,dn++ [r.deed]) (ς a2 (dn.length+1) c2)):=by
         intro W a2 c2 hG hO hq;refine HX.o.did Z9.o wY.o rfl (HX.o.sums.nJ _) HI2.o (grownBy_trans (ak X_.o _) (grownBy_trans rA.o (grownBy_trans (ak hG _) (grownBy_setCell W _ _)))) ?_ ?_ ?_
         ·have h1:=(hG.block _ mz).trans rB.o
          simp only [World.setCell,Array.getElem?_modify,h1];simp
         ·have h1:=hO.kept (grownBy_setCell W ⟨w.heap.size+1,6,none⟩ (ς a2 (dn.length+1) c2)) (by
           cases e:(Value.slice a2 (dn.length+1) c2).ownBlock with
           |none=>exact .inl rfl
           |some q=>right;intro e';have:=hq q e;simp at e';omega)
          simpa [dB] using h1
         ·intro q hq'
          have h1:=hq q hq';have h2:=X_.o.size;have h3:=rA.o.size;omega
        refine bf (fun w'=>w'.cell? ⟨w.heap.size+1,6,none⟩=some (ς ay dn.length cy)/\w'.cell? ⟨wo.heap.size,1,none⟩=some (ι r.deed)) 9 κ ?_;refine ni [1,2,4,5] 4 κ (fun _ _ _ _ _ h=>h) (HS.o _ ((Grow.refl w2).drew)) ?_;repeat (refine gQ ?_;try simp only [Act.put,uh])
        refine ny ?_;refine yu (i:=0) (j:=6) κ rfl rfl (fun K iE=>?_) (fun K iE=>?_)<;>(have HK:=η iE;clear iE)
        ·go_simp
         refine HK.o _ _ ⟨fun _=>HS.o _ (by repeat first|assumption|exact Grow.refl _|refine Grow.alloc ?_ _|refine Grow.drew ?_),?_⟩;clear HK K;try simp only [Act.put,uh,uj,um]
         refine yu (i:=3) (j:=6) κ rfl rfl (fun K iE=>?_) (fun K iE=>?_)<;>(have HK:=η iE;clear iE)
         ·have hown1:=HU.o w2.drew ((Grow.refl w2).drew)
          refine kF iM rfl (.tmp 51) (.tmp 53) rfl rfl (base:=w.heap.size+2) (v:=ς (some ⟨w2.heap.size,0,none⟩) 0 0) hown1 ay dn.length cy (dn.flatMap dB) rfl UE.o.1 IQ.o (zJ.o _ (by repeat first|assumption|exact Grow.refl _|refine Grow.alloc ?_ _|refine Grow.drew ?_)) UF.o cW.o Oi.o (by simp;omega) ?_;intro a1 c1 w3 hA1;obtain⟨G3,B3⟩:=SI.o _ w3 _ _ a1 c1 _ (by repeat first|assumption|exact Grow.refl _|refine Grow.alloc ?_ _|refine Grow.drew ?_) hA1 (by intro q hq;simp [Value.ownBlock] at hq;omega);simp only [Nat.zero_add,List.nil_append] at hA1 B3 ⊢;refine HK.o _ _ ⟨fun _=>HS.o _ (by repeat first|assumption|exact Grow.refl _|refine Grow.alloc ?_ _|refine Grow.drew ?_),?_⟩;clear HK K;try simp only [Act.put,uh]
          refine eG (i:=6) κ rfl (fun K iE=>?_);have HK:=η iE;clear iE;go_simp;refine HK.o _ _ ⟨fun _=>HS.o _ (by repeat first|assumption|exact Grow.refl _|refine Grow.alloc ?_ _|refine Grow.drew ?_),?_⟩;clear HK K;try simp only [Act.put,uh,uj,um]
          refine eG (i:=7) κ rfl (fun K iE=>?_);have HK:=η iE;clear iE;refine kF iM rfl (.tmp 54) (.tmp 57) rfl rfl (base:=w.heap.size+2) (hA1.own.alloc _) (some ⟨w3.heap.size,0,none⟩) 1 1 [ι r.deed] rfl σ rfl (by rintro ad ⟨rfl⟩;exact mJ w3 #[ι r.deed] _) (x9 r.deed) (by have:=Z_.o;unfold maxLen;omega) Z_.o (by have:=G3.size;simp;omega) ?_;intro a2 c2 w4 hA2;obtain⟨G4,B4⟩:=SI.o _ w4 _ _ a2 c2 _ (by repeat first|assumption|exact Grow.refl _|refine Grow.alloc ?_ _|refine Grow.drew ?_) hA2 B3;have n4:=G4.sub _ _ m6;have n5:∀o,w4.frozen? ⟨w.heap.size+1,o,none⟩=false:=fun o=>(G4.frozen (p:=⟨w.heap.size+1,o,none⟩) mz).trans (mf o);refine HK.o _ _ ⟨fun _=>HS.o _ (by repeat first|assumption|exact Grow.refl _|refine Grow.alloc ?_ _|refine Grow.drew ?_),?_⟩;clear HK K;try simp only [Act.put,uh]
          refine eG (i:=8) κ rfl (fun K iE=>?_);have HK:=η iE;clear iE;go_simp;refine HK.o _ _ ⟨fun _=>HS.o _ (by repeat first|assumption|exact Grow.refl _|refine Grow.alloc ?_ _|refine Grow.drew ?_),?_⟩;clear HK K;try simp only [Act.put,uh,uj,um]
          refine eG (i:=9) κ rfl (fun K iE=>?_);have HK:=η iE;clear iE;go_simp;refine HK.o _ _ ⟨fun h=>absurd rfl h,?_⟩;clear HK K;try simp only [Act.put,uh,uj,um]
          refine aO κ ?_;have HF:=η (cX.o w4 a2 c2 G4 hA2.own B4);clear hA1 hA2 G3 G4 B3 B4 n4 n5 m6 m7 mf;go_wp2_with fail
          go_roundw
          case rel=>exact⟨m+1,_,_,δ,by go_num,rfl,HF.o⟩
          case measure=>simp [intOf];omega
         ·go_simp
          refine HK.o _ _ ⟨fun _=>HS.o _ (by repeat first|assumption|exact Grow.refl _|refine Grow.alloc ?_ _|refine Grow.drew ?_),?_⟩;clear HK K;try simp only [Act.put,uh,uj,um]
          have hn1:∀j u,([ι r.deed]:List Value)[j]? =some u->((w2.drew.alloc (.cells #[] 3)).alloc (.cells #[ι r.deed] 3)).cell? ⟨w2.heap.size+1,j,none⟩=some u:=fun j u hu=>by have h:=mJ (w2.drew.alloc (.cells #[] 3)) #[ι r.deed] 3 j u hu;rw [ng] at h;simpa using h
          refine eG (i:=3) κ rfl (fun K iE=>?_);have HK:=η iE;clear iE;have hown1:=(HU.o w2.drew ((Grow.refl w2).drew)).alloc (.cells #[ι r.deed] 3);refine kF iM rfl (.tmp 51) (.tmp 53) rfl rfl (base:=w.heap.size+2) (v:=ς (some ⟨w2.heap.size,0,none⟩) 0 0) hown1 ay dn.length cy (dn.flatMap dB) rfl UE.o.1 IQ.o (zJ.o _ (by repeat first|assumption|exact Grow.refl _|refine Grow.alloc ?_ _|refine Grow.drew ?_)) UF.o cW.o Oi.o (by simp;omega) ?_;intro a1 c1 w3 hA1;obtain⟨G3,B3⟩:=SI.o _ w3 _ _ a1 c1 _ (by repeat first|assumption|exact Grow.refl _|refine Grow.alloc ?_ _|refine Grow.drew ?_) hA1 (by intro q hq;simp [Value.ownBlock] at hq;omega);simp only [Nat.zero_add,List.nil_append] at hA1 B3 ⊢;refine HK.o _ _ ⟨fun _=>HS.o _ (by repeat first|assumption|exact Grow.refl _|refine Grow.alloc ?_ _|refine Grow.drew ?_),?_⟩;clear HK K;try simp only [Act.put,uh]
          refine eG (i:=7) κ rfl (fun K iE=>?_);have HK:=η iE;clear iE;refine kF iM rfl (.tmp 54) (.tmp 57) rfl rfl (base:=w.heap.size+2) (hA1.own) (some ⟨w2.heap.size+1,0,none⟩) 1 1 [ι r.deed] rfl σ rfl (by rintro ad ⟨rfl⟩ j u hu;rw [ng];exact(World.cell?_of_block (hA1.grown.block _ (by simp<;>omega) (by simp [Value.ownBlock]))).trans (hn1 j u hu)) (x9 r.deed) (by have:=Z_.o;unfold maxLen;omega) Z_.o (by have:=G3.size;simp;omega) ?_;intro a2 c2 w4 hA2;obtain⟨G4,B4⟩:=SI.o _ w4 _ _ a2 c2 _ (by repeat first|assumption|exact Grow.refl _|refine Grow.alloc ?_ _|refine Grow.drew ?_) hA2 B3;have n4:=G4.sub _ _ m6;have n5:∀o,w4.frozen? ⟨w.heap.size+1,o,none⟩=false:=fun o=>(G4.frozen (p:=⟨w.heap.size+1,o,none⟩) mz).trans (mf o);refine HK.o _ _ ⟨fun _=>HS.o _ (by repeat first|assumption|exact Grow.refl _|refine Grow.alloc ?_ _|refine Grow.drew ?_),?_⟩;clear HK K;try simp only [Act.put]
          refine eG (i:=8) κ rfl (fun K iE=>?_);have HK:=η iE;clear iE;go_simp;refine HK.o _ _ ⟨fun _=>HS.o _ (by repeat first|assumption|exact Grow.refl _|refine Grow.alloc ?_ _|refine Grow.drew ?_),?_⟩;clear HK K;try simp only [Act.put,uh,uj,um]
          refine eG (i:=9) κ rfl (fun K iE=>?_);have HK:=η iE;clear iE;go_simp;refine HK.o _ _ ⟨fun h=>absurd rfl h,?_⟩;clear HK K;try simp only [Act.put,uh,uj,um]
          refine aO κ ?_;have HF:=η (cX.o w4 a2 c2 G4 hA2.own B4);clear hA1 hA2 G3 G4 B3 B4 n4 n5 m6 m7 mf;go_wp2_with fail
          go_roundw
          case rel=>exact⟨m+1,_,_,δ,by go_num,rfl,HF.o⟩
          case measure=>simp [intOf];omega
        ·go_simp
         refine HK.o _ _ ⟨fun _=>HS.o _ (by repeat first|assumption|exact Grow.refl _|refine Grow.alloc ?_ _|refine Grow.drew ?_),?_⟩;clear HK K;try simp only [Act.put,uh,uj,um]
         have hn1:∀j u,([ι r.deed]:List Value)[j]? =some u->((w2.drew.alloc (.cells #[ι r.deed] 3)).alloc (.cells #[] 3)).cell? ⟨w2.heap.size,j,none⟩=some u:=fun j u hu=>by have h:=mJ w2.drew #[ι r.deed] 3 j u hu;rw [ng] at h;exact((Grow.refl (w2.drew.alloc (.cells #[ι r.deed] 3))).alloc (.cells #[] 3)).sub _ _ h
         refine eG (i:=0) κ rfl (fun K iE=>?_);have HK:=η iE;clear iE;go_simp;refine HK.o _ _ ⟨fun _=>HS.o _ (by repeat first|assumption|exact Grow.refl _|refine Grow.alloc ?_ _|refine Grow.drew ?_),?_⟩;clear HK K;try simp only [Act.put,uh,uj,um]
         refine eG (i:=3) κ rfl (fun K iE=>?_);have HK:=η iE;clear iE;have hown1:=HU.o (w2.drew.alloc (.cells #[ι r.deed] 3)) (((Grow.refl w2).drew).alloc _);replace hown1:((w2.drew.alloc (.cells #[ι r.deed] 3)).alloc (.cells #[] 3)).ownsRow (w.heap.size+2) 3 1 (ς (some ⟨w2.heap.size+1,0,none⟩) 0 0) 0 []:=by simpa using hown1
         refine kF iM rfl (.tmp 51) (.tmp 53) rfl rfl (base:=w.heap.size+2) (v:=ς (some ⟨w2.heap.size+1,0,none⟩) 0 0) hown1 ay dn.length cy (dn.flatMap dB) rfl UE.o.1 IQ.o (zJ.o _ (by repeat first|assumption|exact Grow.refl _|refine Grow.alloc ?_ _|refine Grow.drew ?_)) UF.o cW.o Oi.o (by simp;omega) ?_;intro a1 c1 w3 hA1;obtain⟨G3,B3⟩:=SI.o _ w3 _ _ a1 c1 _ (by repeat first|assumption|exact Grow.refl _|refine Grow.alloc ?_ _|refine Grow.drew ?_) hA1 (by intro q hq;simp [Value.ownBlock] at hq;omega);simp only [Nat.zero_add,List.nil_append] at hA1 B3 ⊢;refine HK.o _ _ ⟨fun _=>HS.o _ (by repeat first|assumption|exact Grow.refl _|refine Grow.alloc ?_ _|refine Grow.drew ?_),?_⟩;clear HK K;try simp only [Act.put,uh]
         refine eG (i:=7) κ rfl (fun K iE=>?_);have HK:=η iE;clear iE;refine kF iM rfl (.tmp 54) (.tmp 57) rfl rfl (base:=w.heap.size+2) (hA1.own) (some ⟨w2.heap.size,0,none⟩) 1 1 [ι r.deed] rfl σ rfl (by rintro ad ⟨rfl⟩ j u hu;rw [ng];exact(World.cell?_of_block (hA1.grown.block _ (by simp<;>omega) (by simp [Value.ownBlock]))).trans (hn1 j u hu)) (x9 r.deed) (by have:=Z_.o;unfold maxLen;omega) Z_.o (by have:=G3.size;simp;omega) ?_;intro a2 c2 w4 hA2;obtain⟨G4,B4⟩:=SI.o _ w4 _ _ a2 c2 _ (by repeat first|assumption|exact Grow.refl _|refine Grow.alloc ?_ _|refine Grow.drew ?_) hA2 B3;have n4:=G4.sub _ _ m6;have n5:∀o,w4.frozen? ⟨w.heap.size+1,o,none⟩=false:=fun o=>(G4.frozen (p:=⟨w.heap.size+1,o,none⟩) mz).trans (mf o);refine HK.o _ _ ⟨fun _=>HS.o _ (by repeat first|assumption|exact Grow.refl _|refine Grow.alloc ?_ _|refine Grow.drew ?_),?_⟩;clear HK K;try simp only [Act.put]
         refine eG (i:=8) κ rfl (fun K iE=>?_);have HK:=η iE;clear iE;go_simp;refine HK.o _ _ ⟨fun _=>HS.o _ (by repeat first|assumption|exact Grow.refl _|refine Grow.alloc ?_ _|refine Grow.drew ?_),?_⟩;clear HK K;try simp only [Act.put,uh,uj,um]
         refine eG (i:=9) κ rfl (fun K iE=>?_);have HK:=η iE;clear iE;go_simp;refine HK.o _ _ ⟨fun h=>absurd rfl h,?_⟩;clear HK K;try simp only [Act.put,uh,uj,um]
         refine aO κ ?_;have HF:=η (cX.o w4 a2 c2 G4 hA2.own B4);clear hA1 hA2 G3 G4 B3 B4 n4 n5 m6 m7 mf;go_wp2_with fail
         go_roundw
         case rel=>exact⟨m+1,_,_,δ,by go_num,rfl,HF.o⟩
         case measure=>simp [intOf];omega
       ·by_cases t3:r.kind=3
        ·have t2':(r.kind==2)=false:=by simp [t2]
         have t3':(r.kind==3)=true:=by simp [t3]
         have hst:gJ r (rest,false,sm,dn) x=(rest,true,sm,dn):=by simp [gJ,HT.o,t3]
         have wY:=η hst;clear t2 t3 hst;go_wp2_with fail
         go_roundw
         case rel=>exact⟨m+1,_,_,δ,by go_num,rfl,HX.o.skip Z9.o wY.o⟩
         case measure=>simp [intOf];omega
        ·have t2':(r.kind==2)=false:=by simp [t2]
         have t3':(r.kind==3)=false:=by simp [t3]
         have hst:gJ r (rest,false,sm,dn) x=(rest++ [x],true,sm,dn):=by simp [gJ,HT.o,t2,t3]
         have wY:=η hst;clear t2 t3 hst;go_wp2_with (at_builtin;refine Qu Dj (T:=Ty.rd) rfl (c:=c) (W:=w) rfl _ _ rfl (HX.o.box.grow.alloc _) (base:=wo.heap.size+1) DM.o Vk.o rfl (HX.o.own.grow ((Grow.refl _).alloc _)) DG.o rfl σ Oh.o HLEN.o ε ?_;intro g1 c' w1 Vl Ya zK Dq;have uI:=η Vl;have FI:=η zK;have n7:=η Dq;clear Vl Ya zK Dq)
         go_roundw
         case rel=>exact⟨m+1,_,_,δ,by go_num,rfl,HX.o.app Z9.o DO.o wY.o σ uI.o FI.o (n7.o.imp id fun h=>by simpa using h)⟩
         case measure=>simp [intOf];omega
      ·have hst:gJ r (rest,true,sm,dn) x=(rest++ [x],true,sm,dn):=by simp [gJ]
       have wY:=η hst;clear hst;go_wp2_with (at_builtin;refine Qu Dj (T:=Ty.rd) rfl (c:=c) (W:=w) rfl _ _ rfl (HX.o.box.grow.alloc _) (base:=wo.heap.size+1) DM.o Vk.o rfl (HX.o.own.grow ((Grow.refl _).alloc _)) DG.o rfl σ Oh.o HLEN.o ε ?_;intro g1 c' w1 Vl Ya zK Dq;have uI:=η Vl;have FI:=η zK;have n7:=η Dq;clear Vl Ya zK Dq)
       go_roundw
       case rel=>exact⟨m+1,_,_,δ,by go_num,rfl,HX.o.app Z9.o DO.o wY.o σ uI.o FI.o (n7.o.imp id fun h=>by simpa using h)⟩
       case measure=>simp [intOf];omega
     ·have tk':(x.deed !=r.deed)=true:=by simp [tk]
      have hst:gJ r (rest,was,sm,dn) x=(rest++ [x],was,sm,dn):=by simp [gJ,tk]
      have wY:=η hst;clear tk hst;go_wp2_with (at_builtin;refine Qu Dj (T:=Ty.rd) rfl (c:=c) (W:=w) rfl _ _ rfl (HX.o.box.grow.alloc _) (base:=wo.heap.size+1) DM.o Vk.o rfl (HX.o.own.grow ((Grow.refl _).alloc _)) DG.o rfl σ Oh.o HLEN.o ε ?_;intro g1 c' w1 Vl Ya zK Dq;have uI:=η Vl;have FI:=η zK;have n7:=η Dq;clear Vl Ya zK Dq)
      go_roundw
      case rel=>exact⟨m+1,_,_,δ,by go_num,rfl,HX.o.app Z9.o DO.o wY.o σ uI.o FI.o (n7.o.imp id fun h=>by simpa using h)⟩
      case measure=>simp [intOf];omega
    ·obtain rfl:m=h.ready.length:=by omega
     have hfold:=hX.fold;rw [List.take_of_length_le (Nat.le_refl _)] at hfold;have xW:=η hfold;have HX:=η hX;have hrow:=hX.box.row;have e5':wr.cell? ⟨w.heap.size+1,5,none⟩=some (ς ar h.ready.length cr):=by simp [World.cell?,hrow]
     have zf:∀o,wr.frozen? ⟨w.heap.size+1,o,none⟩=false:=by simp [World.frozen?,hrow]
     obtain⟨rest,was,sm,dn⟩:=st;have Qy:=Kv hrow (ς a6 rest.length c6);have uq:=η Qy;have Ky:=grownBy_setCell wr ⟨w.heap.size+1,5,none⟩ (ς a6 rest.length c6);have NQ:=η Ky;have hown2:=(hX.own.base (show w.heap.size+2<=wo.heap.size+1 by omega)).kept Ky (by
      cases e:(Value.slice a6 rest.length c6).ownBlock with
      |none=>exact .inl rfl
      |some q=>right;intro e';have:=(hX.own.lt q e).1;simp at e';omega)
     have Vm:=η hown2;have Vo:=hX.box.done.kept Ky (by
      cases e:zI.ownBlock with
      |none=>exact .inl rfl
      |some q=>right;intro e';have:=(hX.box.done.lt q e).1;simp at e';omega)
     have SH:=η Vo;have rI:=hX.box.grow.grown Ky (fun q hq=>by simp at hq;omega);have cY:=η rI;clear hX hfold hrow Qy Ky hown2 Vo rI hrel;by_cases t1:r.kind=1
     ·have t1':(r.kind==1)=true:=by simp [t1]
      have HT1:=η t1;clear t1;cases was
      ·have hrs:dH h r={ log:=h.log,sums:=sm,ready:=rest++ [⟨r.deed,r.parts⟩],done:=dn }:=by rw [dH,xW.o];simp [HT1.o]
       have rK:=η hrs;have Oh:Hid (∀u∈(#[ι r.deed,ς ap r.parts.length cp]:Array Value).toList,u.oneCell'=true):=by
        intro u hu;simp at hu;rcases hu with rfl|rfl<;>rfl
       have HLEN:Hid ((rest.length+1)*32<=140737488355328):=by
        have h1:=HX.o.len;have h3:=HO.o.ready;have h4:=HM.o;show(rest.length+1)*32<=140737488355328;simp only at h1;omega
       have HRR:Hid (Ty.rd.R c [ι r.deed,ς ap r.parts.length cp] ⟨r.deed,r.parts⟩):=η ⟨_,rfl,HI2.o,HP.o⟩;have Vk:Hid (w.heap.size+2<=(wr.setCell ⟨w.heap.size+1,5,none⟩ (ς a6 rest.length c6)).heap.size):=by show _<=_;simp;omega
       have H4:Hid (w.heap.size<=w.heap.size+2):=by show _<=_;omega
       have og:Hid (∀q,(Value.slice a6 rest.length c6).ownBlock=some q->q≠w.heap.size+1):=by
        intro q hq e';have:=(HX.o.own.lt q hq).1;omega
       clear hrs;go_wp2_with (at_builtin;refine Qu Dj (T:=Ty.rd) rfl (c:=c) (W:=w) rfl _ _ rfl cY.o (base:=w.heap.size+2) H4.o Vk.o rfl Vm.o HRR.o rfl σ Oh.o HLEN.o ε ?_;intro g1 c' w1 Vl Ya zK Dq;have q5:=(aB uq.o (.cells #[ι r.deed,ς ap r.parts.length cp] 53));have q6:w1.cell? ⟨w.heap.size+1,5,none⟩=some (ς a6 rest.length c6):=(World.cell?_of_block (zK.block _ (γ q5) (fun e'=>og.o _ e'.symm rfl))).trans (by simp [World.cell?,q5]);have q7:∀o,w1.frozen? ⟨w.heap.size+1,o,none⟩=false:=fun o=>(World.frozen?_of_block (zK.block _ (γ q5) (fun e'=>og.o _ e'.symm rfl))).trans (by simp [World.frozen?,q5]);clear q5;have uI:=η Vl;have SA:=η Ya;have FI:=η zK;have n7:=η Dq;clear Vl Ya zK Dq)
       have q8:w1.heap[w.heap.size+1]? =some (.cells #[ς (some ⟨b,o,none⟩) l.length cl,ι sm.a,ι sm.b,ι sm.c,ι sm.d,ς a6 rest.length c6,zI] 50 (0,0)):=by
        rw [FI.o.block _ (by simp;omega) (fun e'=>og.o _ e'.symm rfl)];exact aB uq.o _
       have q9:w1.heap[w.heap.size]? =some (.cells #[(),ι 0,ι 0,ι 0,ι 0,(),()] 50 (0,0)):=by
        rw [FI.o.block _ (by simp;omega) (fun e'=>by have:=(HX.o.own.lt _ e'.symm).1;omega)];exact aB ((NQ.o.block _ δ σ).trans HX.o.box.res) _
       have hsg:=grownBy_setCell w1 ⟨w.heap.size+1,5,none⟩ (ς (some ⟨g1,0,none⟩) (rest.length+1) c');have hdn:=((SH.o.alloc (.cells #[ι r.deed,ς ap r.parts.length cp] 53)).kept FI.o (by
        rcases HX.o.uo with d|d
        ·cases e:zI.ownBlock with
         |none=>exact .inl rfl
         |some q=>right;intro e';have e2:=e'.trans (show(Value.slice a6 rest.length c6).ownBlock=none from d);cases e2
        ·right;exact fun e=>d e.symm)).kept hsg (by
        cases e:zI.ownBlock with
        |none=>exact .inl rfl
        |some q=>right;intro e';have:=(SH.o.lt q e).1;simp at e';omega)
       go_roundw
       case rel=>
        refine⟨k+1,{ log:=h.log,sums:=sm,ready:=rest++ [⟨r.deed,r.parts⟩],done:=dn },ς (some ⟨g1,0,none⟩) (rest.length+1) c',zI,δ,by go_num,by rw [HST.o,rK.o],⟨Kv q8 _,?_,?_,hdn,SA.o.grown hsg (fun q hq=>by simp at hq;omega),?_⟩,⟨?_,?_,?_,HX.o.sums,HX.o.ints⟩⟩
        ·rw [hsg.block _ (γ q9) σ];exact q9
        ·exact uI.o.kept hsg (by right;intro e';have:=(uI.o.lt g1 rfl).1;simp [Value.ownBlock] at e';omega)
        ·have:=FI.o.size;simp at this ⊢;omega
        ·have:=HX.o.len;have:=HO.o.ready;simp at*;omega
        ·have:=HX.o.Dp;simp at*;omega
        ·intro y hy
         simp only [List.mem_append,List.mem_singleton] at hy;rcases hy with hy|rfl
         ·exact HX.o.keys y hy
         ·exact qT.o
       case measure=>simp [intOf];omega
      ·have hrs:dH h r={ log:=h.log,sums:=sm,ready:=rest,done:=dn }:=by rw [dH,xW.o];simp
       have rK:=η hrs;clear hrs;go_wp2_with fail
       go_roundw
       case rel=>
        refine⟨k+1,{ log:=h.log,sums:=sm,ready:=rest,done:=dn },ς a6 rest.length c6,zI,δ,by go_num,by rw [HST.o,rK.o],⟨uq.o,?_,Vm.o,SH.o,cY.o,Nat.le_trans HX.o.box.size NQ.o.size⟩,⟨?_,?_,HX.o.keys,HX.o.sums,HX.o.ints⟩⟩
        ·rw [NQ.o.block _ δ σ];exact HX.o.box.res
        ·have:=HX.o.len;have:=HO.o.ready;simp only at*;omega
        ·have:=HX.o.Dp;simp only at*;split at this<;>omega
       case measure=>simp [intOf];omega
     ·have t1':(r.kind==1)=false:=by simp [t1]
      have hrs:dH h r={ log:=h.log,sums:=sm,ready:=rest,done:=dn }:=by rw [dH,xW.o];simp [t1]
      have rK:=η hrs;clear t1 hrs;go_wp2_with fail
      go_roundw
      case rel=>
       refine⟨k+1,{ log:=h.log,sums:=sm,ready:=rest,done:=dn },ς a6 rest.length c6,zI,δ,by go_num,by rw [HST.o,rK.o],⟨uq.o,?_,Vm.o,SH.o,cY.o,Nat.le_trans HX.o.box.size NQ.o.size⟩,⟨?_,?_,HX.o.keys,HX.o.sums,HX.o.ints⟩⟩
       ·rw [NQ.o.block _ δ σ];exact HX.o.box.res
       ·have:=HX.o.len;have:=HO.o.ready;simp only at*;omega
       ·have:=HX.o.Dp;simp only at*;split at this<;>omega
      case measure=>simp [intOf];omega
  ·obtain⟨ar,cr,rfl⟩:=hB.ready.form
   obtain⟨ad,cd,rfl⟩:=aY hB.done;have e0:wr.cell? ⟨w.heap.size+1,0,none⟩=some (ς al l.length cl):=by simp [World.cell?,hB.row]
   have e1:wr.cell? ⟨w.heap.size+1,1,none⟩=some (ι h.sums.a):=by simp [World.cell?,hB.row]
   have e2:wr.cell? ⟨w.heap.size+1,2,none⟩=some (ι h.sums.b):=by simp [World.cell?,hB.row]
   have e3:wr.cell? ⟨w.heap.size+1,3,none⟩=some (ι h.sums.c):=by simp [World.cell?,hB.row]
   have e4:wr.cell? ⟨w.heap.size+1,4,none⟩=some (ι h.sums.d):=by simp [World.cell?,hB.row]
   have e5:wr.cell? ⟨w.heap.size+1,5,none⟩=some (ς ar h.ready.length cr):=by simp [World.cell?,hB.row]
   have e6:wr.cell? ⟨w.heap.size+1,6,none⟩=some (ς ad h.done.length cd):=by simp [World.cell?,hB.row]
   have z0:wr.cell? ⟨w.heap.size,0,none⟩=some (ς none 0 0):=by simp [World.cell?,hB.res]
   have z1:wr.cell? ⟨w.heap.size,1,none⟩=some (ι 0):=by simp [World.cell?,hB.res]
   have z2:wr.cell? ⟨w.heap.size,2,none⟩=some (ι 0):=by simp [World.cell?,hB.res]
   have z3:wr.cell? ⟨w.heap.size,3,none⟩=some (ι 0):=by simp [World.cell?,hB.res]
   have z4:wr.cell? ⟨w.heap.size,4,none⟩=some (ι 0):=by simp [World.cell?,hB.res]
   have z5:wr.cell? ⟨w.heap.size,5,none⟩=some (ς none 0 0):=by simp [World.cell?,hB.res]
   have z6:wr.cell? ⟨w.heap.size,6,none⟩=some (ς none 0 0):=by simp [World.cell?,hB.res]
   have zf:∀o,wr.frozen? ⟨w.heap.size,o,none⟩=false:=by simp [World.frozen?,hB.res]
   have hfin:gu l=h:=by rw [List.take_of_length_le δ] at hH;exact hH
   have nY:(gu l).log=l:=by
    unfold gu;have:∀(rs:List Rc) (h0:Hs),(rs.foldl dH h0).log=h0.log:=by
     intro rs;induction rs with
     |nil=>intro h0;rfl
     |cons r rs ih=>intro h0;rw [List.foldl_cons,ih];rfl
    rw [this]
   have HF:=η hfin;have IU:=η nY;have HB:=η hB;have HO:=η hO;clear hel hH hB hO hfin nY;go_wp2;refine bodyPost_ret (v:=.agg #[ς al l.length cl,ι h.sums.a,ι h.sums.b,ι h.sums.c,ι h.sums.d,ς ar h.ready.length cr,ς ad h.done.length cd]) (by simp [results,Tryz.results129,go_sem,z0,z1,z2,z3,z4,z5,z6]) rfl ?_;have hset:=fun(a:World) (o:Nat) (u:Value)=>grownBy_setCell a ⟨w.heap.size,o,none⟩ u;have hg:=grownBy_trans (hset wr 0 (ς al l.length cl)) (grownBy_trans (hset _ 1 (ι h.sums.a)) (grownBy_trans (hset _ 2 (ι h.sums.b)) (grownBy_trans (hset _ 3 (ι h.sums.c)) (grownBy_trans (hset _ 4 (ι h.sums.d)) (grownBy_trans (hset _ 5 (ς ar h.ready.length cr)) (hset _ 6 (ς ad h.done.length cd)))))));have hGr:=HB.o.grow.grown hg (fun k hk=>by simp at hk;omega);have UG:h.log=l:=by rw [<-HF.o];exact IU.o
   rw [HF.o];refine⟨_,rfl,⟨[ς al l.length cl,ι h.sums.a,ι h.sums.b,ι h.sums.c,ι h.sums.d,ς ar h.ready.length cr,ς ad h.done.length cd],rfl,_,_,_,rfl,?_,?_,?_,?_,?_,?_,?_⟩,hGr⟩
   ·rw [UG];exact HV.o.mono (dM HC.o)
   ·exact HO.o.sums.1
   ·exact HO.o.sums.2.1
   ·exact HO.o.sums.2.2.1
   ·exact HO.o.sums.2.2.2
   ·exact(HB.o.ready.kept hg (by
     right;intro e;have:=(HB.o.ready.lt _ e).1;simp only at this;omega)).slc ε (dM HC.o) fun a ha=>bH δ
   ·exact(aI.ints (c:=c) (HB.o.done.kept hg (by
     right;intro e;have:=(HB.o.done.lt _ e).1;simp only at this;omega)) HO.o.ints).slc ε (dM HC.o) fun a ha=>bH δ
end Go.Proofs.YtocnmkefmgmkbaaGreat
namespace Go.Proofs.YtocnmkefmgmkbaaGreat
open Go.RowKit Go.Instr
def lD {κ:Type} (enc:κ->Value) (w:World) (m:Nat) (kv:List (κ×Value)):Prop:=
 ∃(es:List MapEntry) (clock:Nat),w.heap[m]? =some (.map es.toArray clock)/\es.map (fun e=>(e.key,e.val))=kv.map fun p=>(enc p.1,p.2)
structure Bh {κ:Type} [DecidableEq κ] (P:Program) (K:TypeId) (enc:κ->Value):Prop where
 chk:∀(b:Bool) (k:κ) (w:World),(checkKey b 10000 K (enc k)).run P w=.ok () w
 find:∀(k:κ) (kv:List (κ×Value)) (es:List MapEntry) (w:World),es.map (fun e=>(e.key,e.val))=kv.map (fun p=>(enc p.1,p.2))->
  (findKey K (enc k) es).run P w=.ok ((kv.findIdx? (fun p=>p.1==k)).bind fun i=>(kv[i]?).map fun p=>(i,p.2)) w
 same:∀k,sameBits 10000 (enc k) (enc k)=true
def IV {κ:Type} [DecidableEq κ] (kv:List (κ×Value)) (k:κ):Option Value:=(kv.find? (fun p=>p.1==k)).map (·.2)
def Kz {κ:Type} [DecidableEq κ] (kv:List (κ×Value)) (k:κ) (v:Value):List (κ×Value):=match kv.findIdx? (fun p=>p.1==k) with|some i=>kv.set i (k,v)|none=>kv++ [(k,v)]
theorem Vp {κ:Type} [DecidableEq κ] (kv:List (κ×Value)) (k:κ):((kv.findIdx? (fun p=>p.1==k)).bind fun i=>(kv[i]?).map fun p=>(i,p.2)).map (·.2)=IV kv k:=by
 unfold IV;cases h:kv.findIdx? (fun p=>p.1==k) with
 |none=>
  rw [List.findIdx?_eq_none_iff] at h;have:kv.find? (fun p=>p.1==k)=none:=by
   rw [List.find?_eq_none];intro x hx;simpa using h x hx
  rw [this];rfl
 |some i=>
  have hf:=List.find?_eq_some_iff_getElem (xs:=kv) (p:=fun p:κ×Value=>p.1==k) (b:=kv[i]'(by rw [List.findIdx?_eq_some_iff_getElem] at h;exact h.1));have h':=h;rw [List.findIdx?_eq_some_iff_getElem] at h;obtain⟨hi,hp,hb⟩:=h;rw [hf.2 ⟨hp,i,hi,rfl,fun j hj=>by simpa using hb j hj⟩];simp [List.getElem?_eq_getElem hi]
theorem Oj {κ:Type} [DecidableEq κ] {P:Program} {t K E:TypeId} {enc:κ->Value} (hK:Bh P K enc) (ht:P.underlying t=some (.map K E)) {z:Value} (hz:∀w,(zeroValue E).run P w=.ok z w) {w:World} {m:Nat} {kv:List (κ×Value)} (h:lD enc w m kv) (k:κ):
  (lookup t (.map (some m)) (enc k) false).run P w=.ok ((IV kv k).getD z) w:=by
 obtain⟨es,clock,hb,he⟩:=h;have hf:=hK.find k kv es w he;rw [<-Vp];have hc:=fun b=>hK.chk b k w;cases h:(kv.findIdx? (fun p=>p.1==k)).bind fun i=>(kv[i]?).map fun p=>(i,p.2) with
 |none=>
  rw [h] at hf;simp [Instr.lookup,run_underlying ht,MapKept.run_getObj_map hb,hc,hf,hz,Result.andThen]
 |some q=>
  rw [h] at hf;simp [Instr.lookup,run_underlying ht,MapKept.run_getObj_map hb,hc,hf,Result.andThen]
theorem Qz {κ:Type} [DecidableEq κ] {P:Program} {t K E:TypeId} {enc:κ->Value} (hK:Bh P K enc) (ht:P.underlying t=some (.map K E)) {w:World} {m:Nat} {kv:List (κ×Value)} (h:lD enc w m kv) (k:κ) (v:Value):
  ∃w',(mapUpdate t (.map (some m)) (enc k) v).run P w=.ok () w'/\lD enc w' m (Kz kv k v)/\w.grownBy w' (some m):=by
 obtain⟨es,clock,hb,he⟩:=h;have hf:=hK.find k kv es w he;have hc:=fun b=>hK.chk b k w;have hlt:m<w.heap.size:=(γ hb);have hlen:es.length=kv.length:=by have:=congrArg List.length he;simpa using this
 have hgr:∀o:Obj,w.grownBy { w with heap:=w.heap.setIfInBounds m o } (some m):=fun o=>
  ⟨rfl,rfl,rfl,σ,fun k hk hne=>by simp only [Array.getElem?_setIfInBounds];rw [if_neg (fun e=>hne (by rw [e]))]⟩
 have hset:∀(o:Obj),(setObj m o).run P w=.ok () { w with heap:=w.heap.setIfInBounds m o }:=fun o=>by simp [setObj,Sem.run,hb]
 cases h:kv.findIdx? (fun p=>p.1==k) with
 |none=>
  rw [h] at hf;refine⟨_,by simp [Instr.mapUpdate,run_underlying ht,MapKept.run_getObj_map hb,hc,hf,hset,Result.andThen];rfl,?_,hgr _⟩;refine⟨es++ [{ key:=enc k,val:=v,born:=clock }],clock+1,by simp [hlt],?_⟩;rw [Kz,h];simp [he]
 |some i=>
  rw [h] at hf;rw [List.findIdx?_eq_some_iff_getElem] at h;obtain⟨hi,hp,hbf⟩:=h;have hek:(es[i]' δ).key=enc k:=by
   have:=congrArg (fun l=>l[i]?) he;simp only [List.getElem?_map,List.getElem?_eq_getElem hi,List.getElem?_eq_getElem (show i<es.length by omega),Option.map_some,Option.some.injEq,Prod.mk.injEq] at this;rw [this.1];congr 1;simpa using hp
  have hkeep:(keyThatStays (((es.toArray[i]?).map (·.key)).getD (enc k)) (enc k)).run P w=.ok (enc k) w:=by
   have:((es.toArray[i]?).map (·.key)).getD (enc k)=enc k:=by simp [List.getElem?_eq_getElem (show i<es.length by omega),hek]
   rw [this];simp [keyThatStays,hK.same]
  simp only [Option.bind_some,List.getElem?_eq_getElem hi,Option.map_some] at hf;refine⟨_,by simp only [Instr.mapUpdate,Sem.run_bind,run_underlying ht,Result.andThen_ok,MapKept.run_getObj_map hb,hc,hf,hkeep,hset];rfl,?_,hgr _⟩;refine⟨es.modify i fun e=>{ e with key:=enc k,val:=v },clock,by simp [hlt],?_⟩;have hm:Kz kv k v=kv.set i (k,v):=by
   have:kv.findIdx? (fun p=>p.1==k)=some i:=by rw [List.findIdx?_eq_some_iff_getElem];exact⟨hi,hp,hbf⟩
   rw [Kz,this]
  rw [hm,List.map_set,<-he];apply List.ext_getElem?;intro j;simp only [List.getElem?_map,List.getElem?_modify,List.getElem?_set,List.length_map];by_cases hij:i=j
  ·subst hij
   simp [show i<es.length by omega]
  ·simp [hij]
theorem QB {κ:Type} [DecidableEq κ] {P:Program} {K:TypeId} {enc:κ->Value} (heq:∀(k k':κ) (w:World),(Op.equal K (enc k) (enc k')).run P w=.ok (decide (k=k')) w) (k:κ):∀(kv:List (κ×Value)) (es:List MapEntry) (n:Nat) (w:World),es.map (fun e=>(e.key,e.val))=kv.map (fun p=>(enc p.1,p.2))->
  (findAsking K (enc k) es n).run P w=.ok ((kv.findIdx? (fun p=>p.1==k)).bind fun i=>(kv[i]?).map fun p=>(n+i,p.2)) w
 | [],[],n,w,_=>by simp [findAsking]
 | [],_::_,n,w,h=>by simp at h
 |_::_,[],n,w,h=>by simp at h
 |p::kv,e::es,n,w,h=>by
  simp only [List.map_cons,List.cons.injEq,Prod.mk.injEq] at h;obtain⟨⟨hk,hv⟩,h⟩:=h;have ih:=QB heq k kv es (n+1) w h;simp only [findAsking,Sem.run_bind,hk,heq,Result.andThen_ok,Sem.run_ite,ih,Sem.run_pure,List.findIdx?_cons];by_cases hp:p.1=k
  ·simp [hp,hv]
  ·have:¬k=p.1:=fun e=>hp e.symm
   simp only [this,decide_false,Bool.false_eq_true,if_false,beq_eq_false_iff_ne.2 hp];congr 1;cases kv.findIdx? (fun p=>p.1==k) with
   |none=>rfl
   |some i=>simp [Nat.add_assoc,Nat.add_comm 1 i]
def uM (n:Int):Value:=ι n
theorem zL:Bh (κ:=Int) Tryz.prog 3 uM where
 chk:=fun b k w=>by cases b<;>kernel_rfl
 find:=by
  intro k kv es w h;have hf:∀(kv:List (Int×Value)) (es:List MapEntry) (n:Nat),es.map (fun e=>(e.key,e.val))=kv.map (fun p=>(uM p.1,p.2))->findNow (.int .i64) (uM k) es n=some ((kv.findIdx? (fun p=>p.1==k)).bind fun i=>(kv[i]?).map fun p=>(n+i,p.2)):=by
   intro kv;induction kv with
   |nil=>intro es n h;cases es with
    |nil=>simp [findNow]
    |cons _ _=>simp at h
   |cons p kv ih=>
    intro es n h;cases es with
    |nil=>simp at h
    |cons e es=>
     simp only [List.map_cons,List.cons.injEq,Prod.mk.injEq] at h;obtain⟨⟨hk,hv⟩,h⟩:=h;simp only [findNow,hk,uM,sameNow,if_true,List.findIdx?_cons];by_cases hp:p.1=k
     ·simp [hp,hv]
     ·have:¬k=p.1:=fun e=>hp e.symm
      simp only [beq_eq_false_iff_ne.2 this,beq_eq_false_iff_ne.2 hp];have:=ih es (n+1) h;simp only [uM] at this;rw [this];simp only [Bool.false_eq_true,if_false,Option.some.injEq];cases kv.findIdx? (fun p=>p.1==k) with
      |none=>rfl
      |some i=>simp [Nat.add_assoc,Nat.add_comm 1 i]
  have:=hf kv es 0 h;simp only [Nat.zero_add] at this;simp only [findKey,Sem.run_bind,run_underlying Tryz.underlying3,Result.andThen_ok,this,Sem.run_pure]
 same:=fun k=>by simp [uM,sameBits]
def oI (p:Int×Int):Value:=.agg #[ι p.1,ι p.2]
theorem IW:Bh (κ:=Int×Int) Tryz.prog 129 oI where
 chk:=fun b k w=>by cases b<;>kernel_rfl
 find:=by
  intro k kv es w h;have heq:∀(k k':Int×Int) (w:World),(Op.equal 129 (oI k) (oI k')).run Tryz.prog w=.ok (decide (k=k')) w:=by
   intro k k' w;obtain⟨a,b⟩:=k;obtain⟨a',b'⟩:=k';obtain⟨i,hi,-⟩:=Go.info_parts (show(Tryz.prog.info? 3).map (fun i=>(i.zero,i.size,i.bytes))=some (some (ι 0),1,8) by kernel_rfl);have u3:=Tryz.underlying3;have a3:=Tryz.isAgg3;have z3:=Tryz.sizeOf3;have hc:Tryz.prog.cellsOf 3=1:=by kernel_rfl
   unfold Op.equal Op.maxDepth;rw [oI,oI,show(10000:Nat)=9999+1 from rfl,run_equalIn_array w 9999 _ _ Tryz.underlying129 hi,hc,show List.range 2=[0,1] from rfl];clear hi;simp only [Op.eqItems];go_simp;by_cases h1:a=a'<;>by_cases h2:b=b'<;>simp [h1,h2]
  have:=QB heq k kv es 0 w h;simp only [Nat.zero_add] at this;cases es with
  |nil=>
   simp only [findKey,Sem.run_bind,run_underlying Tryz.underlying129,Result.andThen_ok,findNow,Sem.run_pure];cases kv with
   |nil=>rfl
   |cons _ _=>simp at h
  |cons e es=>
   have hn:findNow (.array 2 3) (oI k) (e::es) 0=none:=by simp [findNow,sameNow]
   simp only [findKey,Sem.run_bind,run_underlying Tryz.underlying129,Result.andThen_ok,hn,this]
 same:=fun k=>by simp [oI,sameBits]
theorem zN {κ:Type} [DecidableEq κ] {P:Program} {t K E:TypeId} {enc:κ->Value} (hK:Bh P K enc) (ht:P.underlying t=some (.map K E)) {z:Value} (hz:∀w,(zeroValue E).run P w=.ok z w) {w:World} {ops:Array Oper} {rest:List Oper} {o:Oper} {a:Act} {Q:Exit->Act->World->Prop} (hg:o.guard=none) (mo x:Operand) (hop:o.op=Op.lookup t mo x false)
  {m:Nat} {kv:List (κ×Value)} (h:lD enc w m kv) (k:κ) (hm:a.eval mo=.map (some m)) (hx:a.eval x=enc k) (hC:wpList P ops Q rest (a.put o.dst ((IV kv k).getD z)) w):wpList P ops Q (o::rest) a w:=by
 refine wpList_plain hg fun K' hK'=>?_;have hrun:=Oj hK ht hz h k;unfold Oper.wp;simp [execOp,hop,hm,hx,hrun,Result.andThen];exact hK' _ _ hC
theorem c_ {κ:Type} [DecidableEq κ] {P:Program} {t K E:TypeId} {enc:κ->Value} (hK:Bh P K enc) (ht:P.underlying t=some (.map K E)) {w:World} {ops:Array Oper} {rest:List Oper} {o:Oper} {a:Act} {Q:Exit->Act->World->Prop} (hg:o.guard=none) (mo x y:Operand) (hop:o.op=Op.mapUpdate t mo x y)
  {m:Nat} {kv:List (κ×Value)} (h:lD enc w m kv) (k:κ) (v:Value) (hm:a.eval mo=.map (some m)) (hx:a.eval x=enc k) (hy:a.eval y=v) (hC:∀w',lD enc w' m (Kz kv k v)->w.grownBy w' (some m)->wpList P ops Q rest (a.put o.dst undef) w'):wpList P ops Q (o::rest) a w:=by
 refine wpList_plain hg fun K' hK'=>?_;obtain⟨w',hrun,h1,h2⟩:=Qz hK ht h k v;unfold Oper.wp;simp [execOp,hop,hm,hx,hy,hrun,Result.andThen];exact hK' _ _ (hC w' h1 h2)
theorem lD.new {κ:Type} {enc:κ->Value} (w:World):lD enc (w.alloc (.map #[] 0)) w.heap.size []:=⟨[],0,heap_alloc_new w _,rfl⟩
theorem lD.grown {κ:Type} {enc:κ->Value} {w w':World} {m:Nat} {kv:List (κ×Value)} {row:Option Nat} (h:lD enc w m kv) (hg:w.grownBy w' row) (hne:row≠some m):lD enc w' m kv:=by
 obtain⟨es,c,hb,he⟩:=h;exact⟨es,c,by rw [hg.block m (γ hb) (fun e=>hne e.symm)];exact hb,he⟩
theorem lD.lt {κ:Type} {enc:κ->Value} {w:World} {m:Nat} {kv:List (κ×Value)} (h:lD enc w m kv):m<w.heap.size:=by
 obtain⟨es,c,hb,he⟩:=h;exact(γ hb)
def tV {κ:Type} (ks:List κ):List (κ×Value):=ks.map fun k=>(k,.bool true)
theorem KA {κ:Type} [DecidableEq κ] (ks:List κ) (k:κ):(IV (tV ks) k).getD (.bool false)=.bool (decide (k∈ks)):=by
 unfold IV tV;induction ks with
 |nil=>simp
 |cons x ks ih=>
  simp only [List.map_cons,List.find?_cons];by_cases h:x=k
  ·simp [h]
  ·have h':¬k=x:=fun e=>h e.symm
   simp only [beq_eq_false_iff_ne.2 h,List.mem_cons,h',false_or];exact ih
theorem YA {κ:Type} [DecidableEq κ] {ks:List κ} {k:κ} (h:k∈ks):(IV (tV ks) k).getD (.bool false)=.bool true:=by rw [KA];simp [h]
theorem Vr {κ:Type} [DecidableEq κ] {ks:List κ} {k:κ} (h:¬k∈ks):(IV (tV ks) k).getD (.bool false)=.bool false:=by rw [KA];simp [h]
theorem Vt {κ:Type} [DecidableEq κ] (ks:List κ) (k:κ):∃ks',Kz (tV ks) k (.bool true)=tV ks'/\∀x,x∈ks'↔x∈ks∨x=k:=by
 unfold Kz;cases h:(tV ks).findIdx? (fun p=>p.1==k) with
 |none=>exact⟨ks++ [k],by simp [tV],σ⟩
 |some i=>
  rw [List.findIdx?_eq_some_iff_getElem] at h;obtain⟨hi,hp,_⟩:=h;have hi':i<ks.length:=by simpa [tV] using hi
  have hk:ks[i]=k:=by simpa [tV] using hp
  refine⟨ks,?_,fun x=>⟨Or.inl,fun h=>h.elim id fun h=>by rw [h,<-hk];exact List.getElem_mem _⟩⟩;apply List.ext_getElem?;intro j;rw [List.getElem?_set];by_cases hij:i=j
  ·subst hij;simp [tV,hi',hk]
  ·simp [hij]
end Go.Proofs.YtocnmkefmgmkbaaGreat
namespace Go.Proofs.YtocnmkefmgmkbaaGreat
open Go.RowKit
def Gu (p:Pt) (h:Int):Bool:=decide (p.h<0∨h<=p.h∨p.k<0∨3<p.k∨1048576<p.n∨p.n< -1048576)
def gU (h:Int):List (Int×Int)->List Pt->Int
 |_,[]=>0
 |had,p::l=>if Gu p h=true then 3 else if(p.h,p.k)∈had then 4 else gU h ((p.h,p.k)::had) l
def bD (l:List Pt) (h:Int):Int:=if l.length=0∨4<l.length then 5 else gU h [] l
theorem qU (h:Int):∀(l:List Pt) (a b:List (Int×Int)),(∀x,x∈a↔x∈b)->gU h a l=gU h b l
 | [],_,_,_=>rfl
 |p::l,a,b,hab=>by
  simp only [gU,hab];rw [qU h l ((p.h,p.k)::a) ((p.h,p.k)::b) (fun x=>by simp [hab])]
theorem YB (p:Pt) (h:Int):(p.h<0)∨(0<=p.h/\h<=p.h)∨(0<=p.h/\p.h<h/\p.k<0)∨(0<=p.h/\p.h<h/\0<=p.k/\3<p.k)∨(0<=p.h/\p.h<h/\0<=p.k/\p.k<=3/\1048576<p.n)∨(0<=p.h/\p.h<h/\0<=p.k/\p.k<=3/\p.n<=1048576/\p.n< -1048576)∨(0<=p.h/\p.h<h/\0<=p.k/\p.k<=3/\p.n<=1048576/\-1048576<=p.n):=by omega
theorem o7 {v:Value} {l:List Pt} {h:Int} (w:World) (hv:m_ w.cell? v l):
  Calls Tryz.prog 49 #[v,ι h] w fun e w'=>e=.returned (ι (bD l h))/\Grow w w':=by
 obtain⟨a,cap,rfl,h1,h2,-,hel⟩:=hv;unfold maxLen at h2;have hzb:∀w,(zeroValue 4).run Tryz.prog w=.ok (.bool false) w:=fun w=>by kernel_rfl
 by_cases hl0:l.length=0
 ·have hE:bD l h=5:=by simp [bD,hl0]
  have HE:=η hE;have t0:((l.length:Int)==0)=true:=by simp [hl0]
  clear hel hE hl0 hzb;go_enter Tryz.func49,Tryz.ntmps49;go_wp2;go_ret;exact⟨bC HE.o.symm,Grow.refl _⟩
 have t0:((l.length:Int)==0)=false:=by rw [beq_eq_false_iff_ne];omega
 by_cases hl4:4<l.length
 ·have hE:bD l h=5:=by rw [bD,if_pos (.inr hl4)]
  have HE:=η hE;clear hel hE hl0 hzb;go_enter Tryz.func49,Tryz.ntmps49;go_wp2;go_ret;exact⟨bC HE.o.symm,Grow.refl _⟩
 have hE:bD l h=gU h [] l:=by rw [bD,if_neg δ]
 have HE:=η hE;clear hE hl0;have hmm:=@run_makeMap Tryz.prog;go_enter Tryz.func49,Tryz.ntmps49;go_wp2;go_loopw [4,19] (fun _ i wr=>∃(k:Nat) (ks:List (Int×Int)),k<=l.length/\i=ι k/\Grow w wr/\lD oI wr w.heap.size (tV ks)/\bD l h=gU h ks (l.drop k)) (fun _ i _=>l.length - (intOf i).toNat)
 case atStart=>exact⟨0,[],δ,rfl,gY,lD.new w,HE.o⟩
 case round=>
  obtain⟨k,ks,hk',rfl,hb,hmap,hE⟩:=hrel;have HM:=η hmap;by_cases hlt:k<l.length
  ·obtain⟨b,o,rfl,c0,c1,c2,-,-,-⟩:=m_.at_ hel k hlt
   replace c0:=hb.sub _ _ c0;replace c1:=hb.sub _ _ c1;replace c2:=hb.sub _ _ c2;rw [List.drop_eq_getElem_cons hlt,gU] at hE;have hw:=YB l[k] h;have hbad:∀b,decide (l[k].h<0∨h<=l[k].h∨l[k].k<0∨3<l[k].k∨1048576<l[k].n∨l[k].n< -1048576)=b->Gu l[k] h=b:=fun b hb=>hb;have HB:=η hbad;have HE2:=η hE;clear hel hE hmap hbad HE;generalize hp:l[k]=p at*;obtain⟨ph,pk,pn⟩:=p;clear hp;simp only at hw c0 c1 c2;rcases hw with hw|⟨w1,hw⟩|⟨w1,w2,hw⟩|⟨w1,w2,w3,hw⟩|⟨w1,w2,w3,w4,hw⟩|⟨w1,w2,w3,w4,w5,hw⟩|⟨w1,w2,w3,w4,w5,hw⟩
   iterate 6 (· (go_wp2;go_ret;exact⟨bC (by rw [HE2.o,if_pos (HB.o true (by simp only [decide_eq_true_eq];omega))]),gY⟩))
   have hnb:=HB.o false (by simp only [decide_eq_false_iff_not];omega);have dC:=HE2.o;rw [if_neg (by rw [hnb];exact Bool.false_ne_true)] at dC;have IX:=η dC;clear dC hnb HB HE2;by_cases hin:(ph,pk)∈ks
   ·have HI:=η hin
    have HG:=η (YA hin);clear hin;go_wp2_with (at_lookup;refine zN IW Tryz.underlying128 hzb rfl _ _ rfl (HM.o.grown (ak ((Grow.refl _).alloc _) none) σ) (ph,pk) rfl rfl ?_;rw [HG.o])
    go_ret;exact⟨bC (by rw [IX.o,if_pos HI.o]),gY⟩
   ·have HI:=η hin
    have HG:=η (Vr hin);clear hin;go_wp2_with (first|(at_lookup;refine zN IW Tryz.underlying128 hzb rfl _ _ rfl (HM.o.grown (ak ((Grow.refl _).alloc _) none) σ) (ph,pk) rfl rfl ?_;rw [HG.o])|(at_mapUpdate;refine c_ IW Tryz.underlying128 rfl _ _ _ rfl (HM.o.grown (ak ((Grow.refl _).alloc _) none) σ) (ph,pk) (.bool true) rfl rfl rfl ?_;intro w' hm' hg';have HM':=η hm';have Ya:=η hg';clear hm' hg'))
    obtain⟨ks',hks,hmem⟩:=Vt ks (ph,pk);have hm':=HM'.o;rw [hks] at hm';go_roundw
    case rel=>exact⟨k+1,ks',δ,by go_num,(hb.alloc _).grown Ya.o σ,hm',by rw [IX.o,if_neg HI.o];exact qU h _ _ _ fun x=>by rw [hmem,List.mem_cons,or_comm]⟩
    case measure=>simp [intOf];omega
  ·go_wp2
   go_ret;refine⟨bC ?_,hb⟩;rw [hE,List.drop_of_length_le δ];rfl
end Go.Proofs.YtocnmkefmgmkbaaGreat
namespace Go.Proofs.YtocnmkefmgmkbaaGreat
theorem Dt {h:Int}:∀{l:List Pt} {had:List (Int×Int)},gU h had l=0->(∀p∈l,Gu p h=false)/\(∀p∈l,(p.h,p.k)∉had)/\(l.map fun p=>(p.h,p.k)).Nodup
 | [],_,_=>by simp
 |p::l,had,e=>by
  unfold gU at e;split at e
  ·cases e
  ·rename_i hb
   split at e
   ·cases e
   ·rename_i hn
    obtain⟨h1,h2,h3⟩:=Dt e;refine⟨fun q hq=>?_,fun q hq=>?_,?_⟩
    ·rcases List.mem_cons.1 hq with rfl|hq
     ·simpa using hb
     ·exact h1 q hq
    ·rcases List.mem_cons.1 hq with rfl|hq
     ·exact hn
     ·exact fun hm=>h2 q hq (List.mem_cons_of_mem _ hm)
    ·rw [List.map_cons,List.nodup_cons]
     refine⟨fun hm=>?_,h3⟩;obtain⟨q,hq,he⟩:=List.mem_map.1 hm;exact h2 q hq (by rw [he];exact List.mem_cons_self)
theorem eP {l:List Pt} {h:Int} (e:bD l h=0):0<l.length/\l.length<=4/\(∀p∈l,0<=p.h/\p.h<h/\0<=p.k/\p.k<4/\p.n<=1048576/\-1048576<=p.n)/\(l.map fun p=>(p.h,p.k)).Nodup:=by
 unfold bD at e;split at e
 ·cases e
 ·rename_i hl
  obtain⟨h1,_,h3⟩:=Dt e;refine⟨δ,δ,fun p hp=>?_,h3⟩;have:=of_decide_eq_false (h1 p hp);omega
theorem sO {l:List Pt} {h:Int} (e:bD l h=0):dw l:=fun p hp=>by
 have:=(eP e).2.2.1 p hp;exact⟨this.2.2.1,this.2.2.2.1⟩
def kD (d:Int) (x:Rd):Bool:=x.deed==d
theorem IY (r:Rc):∀(l:List Rd) (a:List Rd) (s:Sm) (d:List Int),l.foldl (gJ r) (a,true,s,d)=(a++l,true,s,d)
 | [],a,s,d=>by simp
 |x::l,a,s,d=>by
  rw [List.foldl_cons,show gJ r (a,true,s,d) x=(a++ [x],true,s,d) by simp [gJ],IY r l];simp
theorem vM (r:Rc):∀(l:List Rd) (a:List Rd) (s:Sm) (d:List Int),l.foldl (gJ r) (a,false,s,d)=
  match l.find? (kD r.deed) with
  |none=>(a++l,false,s,d)
  |some x=>(a++(if r.kind=2∨r.kind=3 then l.eraseP (kD r.deed) else l),true,if r.kind=2 then nJ s x.parts else s,if r.kind=2 then d++ [r.deed] else d)
 | [],a,s,d=>by simp
 |x::l,a,s,d=>by
  rw [List.foldl_cons];by_cases h:x.deed=r.deed
  ·have hd:kD r.deed x=true:=by simp [kD,h]
   rw [List.find?_cons_of_pos hd,List.eraseP_cons_of_pos hd];by_cases h2:r.kind=2
   ·rw [show gJ r (a,false,s,d) x=(a,true,nJ s x.parts,d++ [r.deed]) by simp [gJ,h,h2],IY];simp [h2]
   ·by_cases h3:r.kind=3
    ·rw [show gJ r (a,false,s,d) x=(a,true,s,d) by simp [gJ,h,h3],IY];simp [h3]
    ·rw [show gJ r (a,false,s,d) x=(a++ [x],true,s,d) by simp [gJ,h,h2,h3],IY];simp [h2,h3]
  ·have hd:kD r.deed x=false:=by simp [kD,h]
   rw [show gJ r (a,false,s,d) x=(a++ [x],false,s,d) by simp [gJ,h],vM r l,List.find?_cons_of_neg (by simp [hd])];cases l.find? (kD r.deed) with
   |none=>simp
   |some y=>by_cases hk:r.kind=2∨r.kind=3<;>simp [hk,hd]
end Go.Proofs.YtocnmkefmgmkbaaGreat
namespace Go.Proofs.YtocnmkefmgmkbaaGreat
open Go.RowKit
def KC (r:Rc):Bool:=decide (0<=r.deed/\(r.parts≠ []->bD r.parts 3=0)/\(r.kind=1->r.parts≠ []))
def iV (key:Int) (r:Rd):Bool:=r.parts.any fun p=>p.k==key
def l7 (l:List Rd) (key:Int):Int:=match l.find? (iV key) with|some r=>r.deed|none=>-1
theorem KD {l:List Rd} {k:Nat} {key:Int} (hlt:k<l.length) (h:∀r∈l.take k,iV key r=false):(iV key l[k]=true->l7 l key=l[k].deed)/\(iV key l[k]=false->∀r∈l.take (k+1),iV key r=false):=by
 constructor
 ·intro hq
  have:l.find? (iV key)=some l[k]:=by
   rw [List.find?_eq_some_iff_getElem];exact⟨hq,k,hlt,rfl,fun j hj=>by simpa using h l[j] (by rw [List.mem_take_iff_getElem];exact⟨j,δ,rfl⟩)⟩
  rw [l7,this]
 ·intro hq r hr
  rw [List.take_succ_eq_append_getElem hlt] at hr;rcases List.mem_append.1 hr with h'|h'
  ·exact h r h'
  ·simp at h';subst h';exact hq
theorem KE {l:List Rd} {key:Int} (h:∀r∈l,iV key r=false):l7 l key= -1:=by
 have:l.find? (iV key)=none:=by rw [List.find?_eq_none];intro x hx;simp [h x hx]
 rw [l7,this]
theorem YC {v:Value} {h:Hs} {key:Int} (w:World) (hv:Of Ty.hs w.cell? v h):
  Calls Tryz.prog 128 #[v,ι key] w fun e w'=>e=.returned (ι (l7 h.ready key))/\Grow w w':=by
 obtain⟨cs,rfl,vl,vr,vd,rfl,hl,-,-,-,-,hr,hd⟩:=hv;obtain⟨al,cl,rfl,-⟩:=id hl;obtain⟨ad,cd,rfl,-⟩:=id hd;obtain⟨a,cap,rfl,h1,h2,-,hel⟩:=hr;unfold maxLen at h2;go_enter Tryz.func128,Tryz.ntmps128;go_wp2;go_loopw [4,6,8,12,18,19] (fun _ _ _ i _ _ wr=>∃k:Nat,k<=h.ready.length/\i=ι k/\Grow w wr/\∀r∈h.ready.take k,iV key r=false) (fun _ _ _ i _ _ _=>h.ready.length - (intOf i).toNat)
 case atStart=>exact⟨0,δ,rfl,gY,σ⟩
 case round=>
  obtain⟨k,hk',rfl,hb,hE⟩:=hrel;by_cases hlt:k<h.ready.length
  ·obtain⟨b,o,vp,rfl,c0,c1,-,hP⟩:=Yv.at_ hel k hlt
   obtain⟨ap,cp,rfl,hp1,hp2,hp0,Ol⟩:=id hP;replace c0:=hb.sub _ _ c0;replace c1:=hb.sub _ _ c1;obtain⟨s1,s2⟩:=KD hlt hE;have H1:=η s1;have H2:=η s2;have hcl:h.ready[k].parts.length<=9223372036854775807:=by unfold maxLen at hp2;omega
   clear hel hP hE s1 s2 hp1 hp2 hp0;generalize h.ready[k]=r at*;obtain⟨wo,rfl⟩:∃wo:World,wo=wr:=⟨_,rfl⟩;go_wp2;go_loopw [4,8,19] (fun _ _ i wx=>∃m:Nat,m<=r.parts.length/\i=ι m/\Grow (wo.alloc (.cells #[ι r.deed,ς ap r.parts.length cp] 53)) wx/\∀p∈r.parts.take m,(p.k==key)=false) (fun _ _ i _=>r.parts.length - (intOf i).toNat)
   case atStart=>exact⟨0,δ,rfl,Grow.refl _,σ⟩
   case round=>
    obtain⟨m,hm',rfl,hbx,hF⟩:=hrel;have HF:=η hF;clear hF;have hbw:=((hb.alloc (.cells #[ι r.deed,ς ap r.parts.length cp] 53)).trans hbx);by_cases hlm:m<r.parts.length
    ·obtain⟨b',o',rfl,d0,d1,d2,-,-,-⟩:=m_.at_ Ol m hlm
     replace d0:=hbw.sub _ _ d0;replace d1:=hbw.sub _ _ d1;replace d2:=hbw.sub _ _ d2;have e0:=hbx.sub ⟨wo.heap.size,0,none⟩ _ (World.cell?_alloc_new wo _ _ 0);simp at e0;have hyes:(r.parts[m].k==key)=true->iV key r=true:=fun h=>by rw [iV,List.any_eq_true];exact⟨_,List.getElem_mem _,h⟩
     have hno:(r.parts[m].k==key)=false->∀p∈r.parts.take (m+1),(p.k==key)=false:=by
      intro h p hp;rw [List.take_succ_eq_append_getElem hlm] at hp;rcases List.mem_append.1 hp with h'|h'
      ·exact HF.o p h'
      ·simp at h';subst h';exact h
     have HY:=η hyes;have HN:=η hno;have hsz:wo.heap.size<wr:=by have:=hbx.size;simp at this;omega
     clear Ol hyes hno HF;generalize r.parts[m]=q at*;cases tk:(q.k==key)
     ·have H3:=η (HN.o tk)
      clear HN HY;go_wp2;go_roundw
      case rel=>exact⟨m+1,δ,by go_num,gY,H3.o⟩
      case measure=>simp [intOf];omega
     ·have H3:=η (H1.o (HY.o tk))
      clear HN HY;go_wp2;go_ret;exact⟨bC H3.o.symm,gY⟩
    ·have hfin:iV key r=false:=by
      rw [iV,List.any_eq_false];intro p hp;have:=HF.o p (by rw [List.take_of_length_le δ];exact hp);simp [this]
     have H3:=η (H2.o hfin);clear Ol hfin HF;go_wp2;go_roundw
     case rel=>exact⟨k+1,δ,by go_num,hbw,H3.o⟩
     case measure=>simp [intOf];omega
  ·have hn:=KE (l:=h.ready) (key:=key) (by rw [List.take_of_length_le δ] at hE;exact hE)
   have HN:=η hn;clear hel hE hn;go_wp2;go_ret;exact⟨bC HN.o.symm,hb⟩
theorem YD (w:World) (B:Nat) (key:Int) (p:Pt) (hc:w.cell? ⟨B,0,none⟩=some (ι key)):
  Calls Tryz.prog 161 #[.agg #[ι p.h,ι p.k,ι p.n],.pointer (some ⟨B,0,none⟩)] w fun e w'=>e=.returned (.bool (p.k==key))/\Grow w w':=by
 have hB:=World.block_lt_of_cell? w _ hc;simp only at hB;go_enter Tryz.func161,Tryz.ntmps161;go_wp2;go_ret;exact⟨rfl,gY⟩
theorem SK (w:World) (B:Nat) (key:Int) (l:List Pt) (hc:w.cell? ⟨B,0,none⟩=some (ι key)):qF Tryz.prog Ty.pt lQ w 161 #[.pointer (some ⟨B,0,none⟩)] l (fun p=>p.k==key) where
 ent:=fun args w=>by kernel_rfl
 say:=by
  rintro wx cs p hg _ ⟨rfl,_⟩;exact YD wx B key p (hg.sub _ _ hc)
theorem SL {v:Value} {h:Hs} {key:Int} (w:World) (hv:Of Ty.hs w.cell? v h):
  Calls Tryz.prog 154 #[v,ι key] w fun e w'=>e=.returned (ι (l7 h.ready key))/\Grow w w':=by
 obtain⟨cs,rfl,vl,vr,vd,rfl,hl,-,-,-,-,hr,hd⟩:=hv;obtain⟨al,cl,rfl,-⟩:=id hl;obtain⟨ad,cd,rfl,-⟩:=id hd;obtain⟨a,cap,rfl,h1,h2,-,hel⟩:=hr;unfold maxLen at h2;go_enter Tryz.func154,Tryz.ntmps154;go_wp2;go_loopw [4,6,10] (fun _ _ i wr=>∃k:Nat,k<=h.ready.length/\i=ι k/\Grow w wr/\wr.cell? ⟨w.heap.size+1,0,none⟩=some (ι key)/\∀r∈h.ready.take k,iV key r=false) (fun _ _ i _=>h.ready.length - (intOf i).toNat)
 case atStart=>exact⟨0,δ,rfl,gY,σ,σ⟩
 case round=>
  obtain⟨k,hk',rfl,hb,hkey,hE⟩:=hrel;by_cases hlt:k<h.ready.length
  ·obtain⟨b,o,vp,rfl,c0,c1,-,hP⟩:=Yv.at_ hel k hlt
   obtain⟨ap,cp,rfl,hp1,hp2,hp0,Ol⟩:=id hP;replace c0:=hb.sub _ _ c0;replace c1:=hb.sub _ _ c1;obtain⟨s1,s2⟩:=KD hlt hE;have H1:=η s1;have H2:=η s2;have hcall:=fun(W:World) (hW:Grow wr W)=>nV W (Sl.mono (hb.trans hW).sub hP) (SK W (w.heap.size+1) key h.ready[k].parts (hW.sub _ _ hkey));have HC:=η hcall;have HK:=η hkey;have hq:h.ready[k].parts.any (fun p=>p.k==key)=iV key h.ready[k]:=rfl;rw [hq] at HC;clear hel hP hE s1 s2 hp1 hp2 hp0 Ol hcall hq hkey;generalize h.ready[k]=r at*;cases tk:iV key r
   ·rw [tk] at HC
    go_wp2_with (go_at_call 111;refine(HC.o _ ((Grow.refl _).alloc _)).mono ?_;rintro e w1 ⟨rfl,hb1⟩;have HB1:=η hb1;clear hb1)
    go_roundw
    case rel=>exact⟨k+1,δ,by go_num,(hb.alloc _).trans HB1.o,(((Grow.refl wr).alloc _).trans HB1.o).sub _ _ HK.o,H2.o tk⟩
    case measure=>simp [intOf];omega
   ·rw [tk] at HC
    go_wp2_with (go_at_call 111;refine(HC.o _ ((Grow.refl _).alloc _)).mono ?_;rintro e w1 ⟨rfl,hb1⟩;have e0:=hb1.sub ⟨wr.heap.size,0,none⟩ _ (World.cell?_alloc_new wr _ _ 0);simp at e0;have HB1:=η hb1;clear hb1)
    go_ret;exact⟨bC (H1.o tk).symm,(hb.alloc _).trans HB1.o⟩
  ·have hn:=KE (l:=h.ready) (key:=key) (by rw [List.take_of_length_le δ] at hE;exact hE)
   have HN:=η hn;clear hel hE hn hkey;go_wp2;go_ret;exact⟨bC HN.o.symm,hb⟩
theorem Vu (w:World) (B:Nat) (p:Pt) (h:Hs) (cs:List Value) (hR:Ty.hs.R w.cell? cs h) (hc:At w.cell? B 0 cs):
  Calls Tryz.prog 153 #[.agg #[ι p.h,ι p.k,ι p.n],.pointer (some ⟨B,0,none⟩)] w fun e w'=>e=.returned (.bool (decide (0<=l7 h.ready p.k)))/\Grow w w':=by
 have hO:Of Ty.hs w.cell? (.agg cs.toArray) h:=⟨cs,rfl,hR⟩;have hcall:=fun(W:World) (hW:Grow w W)=>SL (key:=p.k) W (hO.mono hW.sub);obtain⟨vl,vr,vd,rfl,hl,-,-,-,-,hr,hd⟩:=hR;obtain⟨al,cl,rfl,-⟩:=id hl;obtain⟨ad,cd,rfl,-⟩:=id hd;obtain⟨a,cap,rfl,h1,h2,-,hel⟩:=hr;have k0:=hc 0 _ rfl;have k1:=hc 1 _ rfl;have k2:=hc 2 _ rfl;have k3:=hc 3 _ rfl;have k4:=hc 4 _ rfl;have k5:=hc 5 _ rfl;have k6:=hc 6 _ rfl;have hB:=World.block_lt_of_cell? w _ k0;simp only [Nat.zero_add] at k0 k1 k2 k3 k4 k5 k6 hB;have HC:=η hcall;clear hcall hel hl hd hO hc h1 h2;go_enter Tryz.func153,Tryz.ntmps153;go_wp2_with (go_at_call 154;refine(HC.o _ ((Grow.refl _).alloc _)).mono ?_;rintro e w1 ⟨rfl,hb1⟩)
 go_ret;exact⟨rfl,((Grow.refl w).alloc _).trans hb1⟩
theorem Om (w:World) (B:Nat) (h:Hs) (cs:List Value) (hR:Ty.hs.R w.cell? cs h) (hc:At w.cell? B 0 cs) (l:List Pt):qF Tryz.prog Ty.pt lQ w 153 #[.pointer (some ⟨B,0,none⟩)] l (fun p=>decide (0<=l7 h.ready p.k)) where
 ent:=fun args w=>by kernel_rfl
 say:=by
  rintro wx cs' p hg _ ⟨rfl,_⟩;exact Vu wx B p h cs (Ty.hs.mono hg.sub hR) (hc.mono hg.sub)
def qG (l:List Rd) (ps:List Pt):Bool:=!ps.any fun p=>decide (0<=l7 l p.k)
theorem Oo {v v':Value} {h:Hs} {ps:List Pt} (w:World) (hv:Of Ty.hs w.cell? v h) (hv':m_ w.cell? v' ps):
  Calls Tryz.prog 135 #[v,v'] w fun e w'=>e=.returned (.bool (qG h.ready ps))/\Grow w w':=by
 obtain⟨cs,rfl,hR⟩:=hv;have hcall:=fun(W:World) (B:Nat) (hW:Grow w W) (hc:At W.cell? B 0 cs)=>nV W (hv'.mono hW.sub) (Om W B h cs (Ty.hs.mono hW.sub hR) hc ps);obtain⟨vl,vr,vd,rfl,hl,-,-,-,-,hr,hd⟩:=hR;obtain⟨al,cl,rfl,-⟩:=id hl;obtain⟨ad,cd,rfl,-⟩:=id hd;obtain⟨a,cap,rfl,h1,h2,-,hel⟩:=hr;have HC:=η (hcall (w.alloc (.cells #[ς al h.log.length cl,ι h.sums.a,ι h.sums.b,ι h.sums.c,ι h.sums.d,ς a h.ready.length cap,ς ad h.done.length cd] 50)) w.heap.size ((Grow.refl w).alloc _) (fun j u hu=>by rw [Nat.zero_add,World.cell?_alloc_new];simpa using hu));clear hcall hel hl hd h1 h2;have hv:=hv';obtain⟨ap,cp,rfl,hp1,hp2,hp0,Ol⟩:=hv';clear Ol hv hp0 hp1 hp2;have HF:Hid (qG h.ready ps=!ps.any fun p=>decide (0<=l7 h.ready p.k)):=η rfl;generalize (ps.any fun p=>decide (0<=l7 h.ready p.k))=r at*;go_enter Tryz.func135,Tryz.ntmps135;go_wp2_with (go_at_call 111;refine HC.o.mono ?_;rintro e w1 ⟨rfl,hb1⟩)
 go_ret;exact⟨bK HF.o.symm,((Grow.refl w).alloc _).trans hb1⟩
end Go.Proofs.YtocnmkefmgmkbaaGreat
namespace Go.Proofs.YtocnmkefmgmkbaaGreat
theorem Du {l:List Rd} {d:Int} {x:Rd} (h:l.find? (kD d)=some x):x.deed=d:=by
 have:=List.find?_some h;simpa [kD] using this
theorem o9 (h:Hs) (r:Rc):(dH h r).ready=(if(h.ready.find? (kD r.deed)).isSome=true then(if r.kind=2∨r.kind=3 then h.ready.eraseP (kD r.deed) else h.ready) else if r.kind=1 then h.ready++ [⟨r.deed,r.parts⟩] else h.ready):=by
 unfold dH;rw [vM];cases hf:h.ready.find? (kD r.deed) with
 |none=>simp
 |some x=>simp
structure Fine (l:List Rd):Prop where
 nodup:(l.map (·.deed)).Nodup
 pos:∀x∈l,0<=x.deed
theorem SN {h:Hs} (hf:Fine h.ready) {r:Rc} (hr:0<=r.deed):Fine (dH h r).ready:=by
 rw [o9];split
 ·split
  ·exact⟨hf.nodup.sublist ((List.eraseP_sublist).map _),fun x hx=>hf.pos x (List.eraseP_sublist.subset hx)⟩
  ·exact hf
 ·rename_i hn
  split
  ·refine⟨?_,fun x hx=>?_⟩
   ·rw [List.map_append,List.nodup_append]
    refine⟨hf.nodup,σ,fun a ha b hb e=>?_⟩;simp at hb;subst hb;obtain⟨x,hx,rfl⟩:=List.mem_map.1 ha;apply hn;rw [List.find?_isSome];exact⟨x,hx,by simp [kD,e]⟩
   ·simp only [List.mem_append,List.mem_singleton] at hx
    rcases hx with hx|rfl
    ·exact hf.pos x hx
    ·exact hr
  ·exact hf
theorem Dv:∀(l:List Rc) (h:Hs) (x:List Rc),(l.foldl dH { h with log:=x })={ (l.foldl dH h) with log:=x }
 | [],_,_=>rfl
 |r::l,h,x=>by
  rw [List.foldl_cons,List.foldl_cons,<-Dv l];rfl
theorem Oq (l:List Rc) (r:Rc):gu (l++ [r])={ (dH (gu l) r) with log:=l++ [r] }:=by
 unfold gu;rw [List.foldl_append];have:=Dv l ⟨l,⟨0,0,0,0⟩,[],[]⟩ (l++ [r]);simp only at this;rw [this];rfl
theorem KF (x:Rd) (l:List Rd) (key:Int):l7 (x::l) key=if iV key x=true then x.deed else l7 l key:=by
 unfold l7;by_cases h:iV key x=true
 ·rw [List.find?_cons_of_pos h,if_pos h]
 ·rw [List.find?_cons_of_neg h,if_neg h]
def bM (l:List Rd) (d:Int):Bool:=l.any (kD d)
def dU (h:Hs) (d:Int) (ps:List Pt):Int:=
 if d∈h.done then 10 else if bM h.ready d=true then 0 else if qG h.ready ps=false then 12 else jy h.sums.get ps
def dV (h:Hs) (r:Rc):Hs:=gu (h.log++ [r])
def kR (kind d me:Int):List Ms:=[⟨kind,d,me,[]⟩]
def bg (h:Hs) (m:Ms):Hs:=
 if m.kind=1 then(if dU h m.deed m.parts=0/\bM h.ready m.deed=false then dV h ⟨1,m.deed,m.parts⟩ else h)
 else if m.kind=4 then(if bM h.ready m.deed=true then dV h ⟨2,m.deed,[]⟩ else h)
 else if m.kind=5 then(if bM h.ready m.deed=true then dV h ⟨3,m.deed,[]⟩ else h)
 else h
def bG (h:Hs) (me:Int) (m:Ms):List Ms:=
 if m.kind=1 then(if dU h m.deed m.parts=10 then [] else if dU h m.deed m.parts=0 then kR 2 m.deed me else kR 3 m.deed me)
 else if m.kind=4 then(if m.deed∈(bg h m).done then kR 6 m.deed me else [])
 else []
def kX (h:Hs) (me:Int):List Ms:=h.ready.map fun r=>⟨7,r.deed,me,[]⟩
def aQ (m:Ms):Int:=
 if m.kind<1∨7<m.kind then 1 else if m.deed<0∨1343<m.deed∨m.house<0∨2<m.house then 3
 else if 1<m.kind then(if m.parts=[] then 0 else 5)
 else if bD m.parts 3=0 then(if m.parts.all (fun p=>p.h==m.house)=true then 0 else 3) else bD m.parts 3
def Made (h:Hs):Prop:=h=gu h.log
theorem Ot (l:List Rc):Made (gu l):=by
 unfold Made;have h:=Dv l ⟨l,⟨0,0,0,0⟩,[],[]⟩ l;have:(gu l).log=l:=by
  have e:∀(k:List Rc) (h:Hs),(k.foldl dH h).log=h.log:=by
   intro k;induction k with
   |nil=>intro h;rfl
   |cons r k ih=>intro h;rw [List.foldl_cons,ih];rfl
  exact e l _
 rw [this]
theorem vN (l:List Rc):(gu l).log=l:=by
 have e:∀(k:List Rc) (h:Hs),(k.foldl dH h).log=h.log:=by
  intro k;induction k with
  |nil=>intro h;rfl
  |cons r k ih=>intro h;rw [List.foldl_cons,ih];rfl
 exact e l _
theorem zQ {h:Hs} (hm:Made h) (r:Rc):dV h r={ (dH h r) with log:=h.log++ [r] }:=by
 unfold dV;rw [Oq,<-hm]
theorem sQ {h:Hs} (hm:Made h) (r:Rc):(dV h r).ready=(dH h r).ready:=by rw [zQ hm]
theorem SQ (h:Hs) (r:Rc):Made (dV h r):=Ot _
theorem Bj (l:List Rd) (d:Int):bM l d=(l.find? (kD d)).isSome:=by
 unfold bM;rw [Bool.eq_iff_iff,List.any_eq_true,List.find?_isSome]
end Go.Proofs.YtocnmkefmgmkbaaGreat
namespace Go.Proofs.YtocnmkefmgmkbaaGreat
open Go.RowKit
theorem Vw (l:List Rd) (ps:List Pt):qG l ps=ps.all fun p=>decide (l7 l p.k<0):=by
 unfold qG;induction ps with
 |nil=>rfl
 |cons p ps ih=>
  rw [List.any_cons,List.all_cons,<-ih,Bool.not_or];congr 1;by_cases h:0<=l7 l p.k
  ·simp [h,Int.not_lt.2 h]
  ·simp [h,Int.not_le.1 h]
theorem zT {α:Type} {T:Ty α} {c:CM} {B n:Nat} {cs:List Value} {x:α} (hR:T.R c cs x) (hA:At c B 0 cs) (hn:1<=n) (hm:n<=maxLen):Sl T c (ς (some ⟨B,0,none⟩) 1 n) [x]:=
 ⟨_,n,rfl,hn,hm,σ,fun i y hy=>by
  have hi:=(List.getElem?_eq_some_iff.1 hy).1;obtain rfl:i=0:=by simpa using hi
  obtain rfl:x=y:=by simpa using hy
  exact⟨B,0,cs,rfl,hR,by simpa using hA⟩⟩
theorem at_new (w:World) (c:Array Value) (t:TypeId):At (w.alloc (.cells c t)).cell? w.heap.size 0 c.toList:=fun j u hu=>by
 rw [Nat.zero_add,World.cell?_alloc_new];simpa using hu
theorem Of.dF {c:CM} {v:Value} {h:Hs} (hv:Of Ty.hs c v h):∃al cl ar cr ad cd,v=.agg #[ς al h.log.length cl,ι h.sums.a,ι h.sums.b,ι h.sums.c,ι h.sums.d,ς ar h.ready.length cr,ς ad h.done.length cd]:=by
 obtain⟨cs,rfl,hR⟩:=hv;obtain⟨vl,vr,vd,rfl,hl,-,-,-,-,hr,hd⟩:=hR;obtain⟨ah,ch,rfl,-⟩:=id hl;obtain⟨ad,cd,rfl,-⟩:=id hd;obtain⟨ar,cr,rfl,-⟩:=id hr;exact⟨_,_,_,_,_,_,rfl⟩
theorem YE {l:List Int} {k:Nat} {n:Int} (hlt:k<l.length) (h:∀x∈l.take k,x≠n) (hne:l[k]≠n):∀x∈l.take (k+1),x≠n:=by
 intro x hx;rw [List.take_succ_eq_append_getElem hlt] at hx;rcases List.mem_append.1 hx with h'|h'
 ·exact h x h'
 ·simp at h';subst h';exact hne
theorem kQ {v:Value} {l:List Int} {n:Int} (w:World) (hv:Ints w.cell? v l):
  Calls Tryz.prog 68 #[v,ι n] w fun e w'=>e=.returned (.bool (decide (n∈l)))/\Grow w w':=by
 obtain⟨a,cap,rfl,h1,h2,-,hel⟩:=hv;unfold maxLen at h2;go_enter Tryz.func68,Tryz.ntmps68;go_wp2;go_loopw [6,9] (fun _ i wr=>∃k:Nat,k<=l.length/\i=ι k/\Grow w wr/\∀x∈l.take k,x≠n) (fun _ i _=>l.length - (intOf i).toNat)
 case atStart=>exact⟨0,δ,rfl,gY,σ⟩
 case round=>
  obtain⟨k,hk',rfl,hb,hE⟩:=hrel;have HE:=η hE;clear hE;by_cases hlt:k<l.length
  ·obtain⟨b,o,rfl,c0,-⟩:=Bd hel k hlt
   replace c0:=hb.sub _ _ c0;have H1:Hid (l[k]=n->n∈l):=fun h=>h▸List.getElem_mem _;have H2:Hid (l[k]≠n->∀x∈l.take (k+1),x≠n):=fun h=>YE hlt HE.o h;clear hel;generalize l[k]=x at*;cases ht:(x==n)
   ·have H3:=η (H2.o (by simpa using ht))
    clear H1 H2;go_wp2;go_roundw
    case rel=>exact⟨k+1,δ,by go_num,gY,H3.o⟩
    case measure=>simp [intOf];omega
   ·have H3:=η (H1.o (by simpa using ht))
    clear H1 H2;go_wp2;go_ret;exact⟨bK (by simp [H3.o]),gY⟩
  ·clear hel
   go_wp2;go_ret;refine⟨bK ?_,hb⟩;have h:=HE.o;rw [List.take_of_length_le δ] at h;symm;rw [decide_eq_false_iff_not];exact fun hm=>h n hm rfl
theorem jf {v:Value} {h:Hs} {d:Int} (w:World) (hv:Of Ty.hs w.cell? v h):
  Calls Tryz.prog 97 #[v,ι d] w fun e w'=>e=.returned (.bool (bM h.ready d))/\Grow w w':=by
 obtain⟨cs,rfl,vl,vr,vd,rfl,hl,-,-,-,-,hr,hd⟩:=hv;obtain⟨al,cl,rfl,-⟩:=id hl;obtain⟨ad,cd,rfl,-⟩:=id hd;obtain⟨a,cap,rfl,h1,h2,-,hel⟩:=hr;unfold maxLen at h2;go_enter Tryz.func97,Tryz.ntmps97;go_wp2;go_loopw [6,10] (fun _ i wr=>∃k:Nat,k<=h.ready.length/\i=ι k/\Grow w wr/\∀r∈h.ready.take k,kD d r=false) (fun _ i _=>h.ready.length - (intOf i).toNat)
 case atStart=>exact⟨0,δ,rfl,gY,σ⟩
 case round=>
  obtain⟨k,hk',rfl,hb,hE⟩:=hrel;have HE:=η hE;clear hE;by_cases hlt:k<h.ready.length
  ·obtain⟨b,o,vp,rfl,c0,c1,-,hP⟩:=Yv.at_ hel k hlt
   obtain⟨ap,cp,rfl,-⟩:=id hP;replace c0:=hb.sub _ _ c0;replace c1:=hb.sub _ _ c1;have H1:Hid (kD d h.ready[k]=true->bM h.ready d=true):=fun h2=>List.any_eq_true.2 ⟨_,List.getElem_mem _,h2⟩;have H2:Hid (kD d h.ready[k]=false->∀r∈h.ready.take (k+1),kD d r=false):=fun h2 r hr=>by
    rw [List.take_succ_eq_append_getElem hlt] at hr;rcases List.mem_append.1 hr with h'|h'
    ·exact HE.o r h'
    ·simp at h';subst h';exact h2
   clear hel hP;generalize h.ready[k]=r at*;cases ht:(r.deed==d)
   ·have H3:=η (H2.o ht)
    clear H1 H2;go_wp2;go_roundw
    case rel=>exact⟨k+1,δ,by go_num,gY,H3.o⟩
    case measure=>simp [intOf];omega
   ·have H3:=η (H1.o ht)
    clear H1 H2;go_wp2;go_ret;exact⟨bK H3.o.symm,gY⟩
  ·clear hel
   go_wp2;go_ret;refine⟨bK ?_,hb⟩;have h3:=HE.o;rw [List.take_of_length_le δ] at h3;symm;rw [bM,List.any_eq_false];intro x hx;rw [h3 x hx];simp
theorem Of.QC {c:CM} {v:Value} {r:Rc} (hv:Of Ty.rc c v r):∃ap cp,v=.agg #[ι r.kind,ι r.deed,ς ap r.parts.length cp]:=by
 obtain⟨cs,rfl,vp,rfl,-,-,hp⟩:=hv;obtain⟨ap,cp,rfl,-⟩:=id hp;exact⟨_,_,rfl⟩
theorem Of.cells {α:Type} {T:Ty α} {c:CM} {cs:Array Value} {x:α} (h:Of T c (.agg cs) x):T.R c cs.toList x:=by
 obtain⟨cs',he,hR⟩:=h;simp only [Value.agg.injEq] at he;subst he;exact hR
theorem Of.iw {c:CM} {al ar ad:Option Addr} {nl cl nr cr nd cd:Nat} {sa sb sc sd:Value} {h:Hs} (hv:Of Ty.hs c (.agg #[ς al nl cl,sa,sb,sc,sd,ς ar nr cr,ς ad nd cd]) h):Sl Ty.rc c (ς al nl cl) h.log/\Sl Ty.rd c (ς ar nr cr) h.ready/\Sl Ty.int c (ς ad nd cd) h.done:=by
 obtain⟨vl,vr,vd,he,hl,-,-,-,-,hr,hd⟩:=hv.cells;simp at he;obtain⟨rfl,-,-,-,-,rfl,rfl⟩:=he;exact⟨hl,hr,hd⟩
theorem Dw {c:CM} {v vr:Value} {h:Hs} {r:Rc} (w:World) (hc:Sub c w.cell?) (hv:Of Ty.hs c v h) (hr:Of Ty.rc c vr r) (hk:∀x∈h.log,dw x.parts) (hkr:dw r.parts) (hm:(h.log.length+1)*40<=140737488355328):
  Calls Tryz.prog 98 #[v,vr] w fun e w'=>∃v',e=.returned v'/\Of Ty.hs (ov c w w') v' (dV h r)/\Grow w w':=by
 obtain⟨al,cl,ar,cr,ad,cd,rfl⟩:=hv.dF;obtain⟨ap,cp,rfl⟩:=hr.QC;have hll:=(Of.iw hv).1;have HR:=η hr.cells;have Oh:Hid (aI Ty.rc c w w.heap.size 79 (ς none 0 0) []):=η (aI.nil _ _ _ _ _);have zJ:=η (fun(W:World) (hW:Grow w W)=>(Src.iK (T:=Ty.rc) ε hc hll).grow hW);have HM:=η hm;have NR:=η hk;have qT:=η hkr;have HC:=η hc;clear hv hr hll hm hk hkr hc Oh;generalize hne:dV h r=x;have og:Hid (gu (h.log++ [r])=x):=hne;clear hne;go_enter Tryz.func98,Tryz.ntmps98;go_wp2_with fail
 have hGW:Grow w (((w.alloc (.cells #[ς al h.log.length cl,ι h.sums.a,ι h.sums.b,ι h.sums.c,ι h.sums.d,ς ar h.ready.length cr,ς ad h.done.length cd] 50)).alloc (.cells #[ι r.kind,ι r.deed,ς ap r.parts.length cp] 79)).alloc (.cells #[(),ι 0,ι 0,ι 0,ι 0,(),()] 50)):=(((Grow.refl w).alloc _).alloc _).alloc _;have hS:(((w.alloc (.cells #[ς al h.log.length cl,ι h.sums.a,ι h.sums.b,ι h.sums.c,ι h.sums.d,ς ar h.ready.length cr,ς ad h.done.length cd] 50)).alloc (.cells #[ι r.kind,ι r.deed,ς ap r.parts.length cp] 79)).alloc (.cells #[(),ι 0,ι 0,ι 0,ι 0,(),()] 50)).cell? ⟨w.heap.size,0,none⟩=some (ς al h.log.length cl)/\(((w.alloc (.cells #[ς al h.log.length cl,ι h.sums.a,ι h.sums.b,ι h.sums.c,ι h.sums.d,ς ar h.ready.length cr,ς ad h.done.length cd] 50)).alloc (.cells #[ι r.kind,ι r.deed,ς ap r.parts.length cp] 79)).alloc (.cells #[(),ι 0,ι 0,ι 0,ι 0,(),()] 50)).cell? ⟨w.heap.size+1,0,none⟩=some (ι r.kind)/\(((w.alloc (.cells #[ς al h.log.length cl,ι h.sums.a,ι h.sums.b,ι h.sums.c,ι h.sums.d,ς ar h.ready.length cr,ς ad h.done.length cd] 50)).alloc (.cells #[ι r.kind,ι r.deed,ς ap r.parts.length cp] 79)).alloc (.cells #[(),ι 0,ι 0,ι 0,ι 0,(),()] 50)).cell? ⟨w.heap.size+1,1,none⟩=some (ι r.deed)/\(((w.alloc (.cells #[ς al h.log.length cl,ι h.sums.a,ι h.sums.b,ι h.sums.c,ι h.sums.d,ς ar h.ready.length cr,ς ad h.done.length cd] 50)).alloc (.cells #[ι r.kind,ι r.deed,ς ap r.parts.length cp] 79)).alloc (.cells #[(),ι 0,ι 0,ι 0,ι 0,(),()] 50)).cell? ⟨w.heap.size+1,2,none⟩=some (ς ap r.parts.length cp):=by refine⟨?_,?_,?_,?_⟩<;>go_simp
 have hZ:(((w.alloc (.cells #[ς al h.log.length cl,ι h.sums.a,ι h.sums.b,ι h.sums.c,ι h.sums.d,ς ar h.ready.length cr,ς ad h.done.length cd] 50)).alloc (.cells #[ι r.kind,ι r.deed,ς ap r.parts.length cp] 79)).alloc (.cells #[(),ι 0,ι 0,ι 0,ι 0,(),()] 50)).cell? ⟨w.heap.size+1+1,0,none⟩=some (ς none 0 0)/\(((w.alloc (.cells #[ς al h.log.length cl,ι h.sums.a,ι h.sums.b,ι h.sums.c,ι h.sums.d,ς ar h.ready.length cr,ς ad h.done.length cd] 50)).alloc (.cells #[ι r.kind,ι r.deed,ς ap r.parts.length cp] 79)).alloc (.cells #[(),ι 0,ι 0,ι 0,ι 0,(),()] 50)).cell? ⟨w.heap.size+1+1,1,none⟩=some (ι 0)/\(((w.alloc (.cells #[ς al h.log.length cl,ι h.sums.a,ι h.sums.b,ι h.sums.c,ι h.sums.d,ς ar h.ready.length cr,ς ad h.done.length cd] 50)).alloc (.cells #[ι r.kind,ι r.deed,ς ap r.parts.length cp] 79)).alloc (.cells #[(),ι 0,ι 0,ι 0,ι 0,(),()] 50)).cell? ⟨w.heap.size+1+1,2,none⟩=some (ι 0)/\(((w.alloc (.cells #[ς al h.log.length cl,ι h.sums.a,ι h.sums.b,ι h.sums.c,ι h.sums.d,ς ar h.ready.length cr,ς ad h.done.length cd] 50)).alloc (.cells #[ι r.kind,ι r.deed,ς ap r.parts.length cp] 79)).alloc (.cells #[(),ι 0,ι 0,ι 0,ι 0,(),()] 50)).cell? ⟨w.heap.size+1+1,3,none⟩=some (ι 0)/\(((w.alloc (.cells #[ς al h.log.length cl,ι h.sums.a,ι h.sums.b,ι h.sums.c,ι h.sums.d,ς ar h.ready.length cr,ς ad h.done.length cd] 50)).alloc (.cells #[ι r.kind,ι r.deed,ς ap r.parts.length cp] 79)).alloc (.cells #[(),ι 0,ι 0,ι 0,ι 0,(),()] 50)).cell? ⟨w.heap.size+1+1,4,none⟩=some (ι 0)/\(((w.alloc (.cells #[ς al h.log.length cl,ι h.sums.a,ι h.sums.b,ι h.sums.c,ι h.sums.d,ς ar h.ready.length cr,ς ad h.done.length cd] 50)).alloc (.cells #[ι r.kind,ι r.deed,ς ap r.parts.length cp] 79)).alloc (.cells #[(),ι 0,ι 0,ι 0,ι 0,(),()] 50)).cell? ⟨w.heap.size+1+1,5,none⟩=some (ς none 0 0)/\(((w.alloc (.cells #[ς al h.log.length cl,ι h.sums.a,ι h.sums.b,ι h.sums.c,ι h.sums.d,ς ar h.ready.length cr,ς ad h.done.length cd] 50)).alloc (.cells #[ι r.kind,ι r.deed,ς ap r.parts.length cp] 79)).alloc (.cells #[(),ι 0,ι 0,ι 0,ι 0,(),()] 50)).cell? ⟨w.heap.size+1+1,6,none⟩=some (ς none 0 0):=by refine⟨?_,?_,?_,?_,?_,?_,?_⟩<;>go_simp
 have hZF:∀o,(((w.alloc (.cells #[ς al h.log.length cl,ι h.sums.a,ι h.sums.b,ι h.sums.c,ι h.sums.d,ς ar h.ready.length cr,ς ad h.done.length cd] 50)).alloc (.cells #[ι r.kind,ι r.deed,ς ap r.parts.length cp] 79)).alloc (.cells #[(),ι 0,ι 0,ι 0,ι 0,(),()] 50)).frozen? ⟨w.heap.size+1+1,o,none⟩=false:=by intro o;go_simp
 have hsz:w.heap.size+1+1<(((w.alloc (.cells #[ς al h.log.length cl,ι h.sums.a,ι h.sums.b,ι h.sums.c,ι h.sums.d,ς ar h.ready.length cr,ς ad h.done.length cd] 50)).alloc (.cells #[ι r.kind,ι r.deed,ς ap r.parts.length cp] 79)).alloc (.cells #[(),ι 0,ι 0,ι 0,ι 0,(),()] 50)).heap.size:=by simp
 generalize hW3:(((w.alloc (.cells #[ς al h.log.length cl,ι h.sums.a,ι h.sums.b,ι h.sums.c,ι h.sums.d,ς ar h.ready.length cr,ς ad h.done.length cd] 50)).alloc (.cells #[ι r.kind,ι r.deed,ς ap r.parts.length cp] 79)).alloc (.cells #[(),ι 0,ι 0,ι 0,ι 0,(),()] 50))=w3 at*;have HW3:=η hW3;have vY:=η hGW;have HS:Hid (∀W,Grow w3 W->W.cell? ⟨w.heap.size,0,none⟩=some (ς al h.log.length cl)/\W.cell? ⟨w.heap.size+1,0,none⟩=some (ι r.kind)/\W.cell? ⟨w.heap.size+1,1,none⟩=some (ι r.deed)/\W.cell? ⟨w.heap.size+1,2,none⟩=some (ς ap r.parts.length cp)):=fun W hW=>⟨hW.sub _ _ hS.1,hW.sub _ _ hS.2.1,hW.sub _ _ hS.2.2.1,hW.sub _ _ hS.2.2.2⟩;have oA:Hid (∀W,w3.grownBy W (some (w.heap.size+1+1))->W.cell? ⟨w.heap.size,0,none⟩=some (ς al h.log.length cl)/\W.cell? ⟨w.heap.size+1,0,none⟩=some (ι r.kind)/\W.cell? ⟨w.heap.size+1,1,none⟩=some (ι r.deed)/\W.cell? ⟨w.heap.size+1,2,none⟩=some (ς ap r.parts.length cp)):=fun W hW=>by
  have k:∀(b o:Nat) (u:Value),b<w.heap.size+1+1->w3.cell? ⟨b,o,none⟩=some u->W.cell? ⟨b,o,none⟩=some u:=fun b o u hb e=>by
   rw [World.cell?_of_block (w:=w3) (hW.block b (World.block_lt_of_cell? w3 _ e) (by simp;omega))];exact e
  exact⟨k _ _ _ δ hS.1,k _ _ _ δ hS.2.1,k _ _ _ δ hS.2.2.1,k _ _ _ δ hS.2.2.2⟩
 have uq:=η (fun(W:World) (hW:Grow w3 W)=>zJ.o W (vY.o.trans hW));have HL:Hid (h.log.length+1<=3518437208883):=by show _<=_;have:=HM.o;omega
 have HZ:Hid (∀W,Grow w3 W->W.cell? ⟨w.heap.size+1+1,0,none⟩=some (ς none 0 0)/\W.cell? ⟨w.heap.size+1+1,1,none⟩=some (ι 0)/\W.cell? ⟨w.heap.size+1+1,2,none⟩=some (ι 0)/\W.cell? ⟨w.heap.size+1+1,3,none⟩=some (ι 0)/\W.cell? ⟨w.heap.size+1+1,4,none⟩=some (ι 0)/\W.cell? ⟨w.heap.size+1+1,5,none⟩=some (ς none 0 0)/\W.cell? ⟨w.heap.size+1+1,6,none⟩=some (ς none 0 0)/\∀o,W.frozen? ⟨w.heap.size+1+1,o,none⟩=false):=fun W hW=>⟨hW.sub _ _ hZ.1,hW.sub _ _ hZ.2.1,hW.sub _ _ hZ.2.2.1,hW.sub _ _ hZ.2.2.2.1,hW.sub _ _ hZ.2.2.2.2.1,hW.sub _ _ hZ.2.2.2.2.2.1,hW.sub _ _ hZ.2.2.2.2.2.2,fun o=>by rw [hW.frozen (p:=⟨w.heap.size+1+1,o,none⟩) hsz];exact hZF o⟩;clear hW3 hGW hS hZ hZF;refine bf (fun w'=>w'.cell? ⟨w.heap.size,0,none⟩=some (ς al h.log.length cl)/\w'.cell? ⟨w.heap.size+1,0,none⟩=some (ι r.kind)/\w'.cell? ⟨w.heap.size+1,1,none⟩=some (ι r.deed)/\w'.cell? ⟨w.heap.size+1,2,none⟩=some (ς ap r.parts.length cp)) 8 κ ?_;obtain⟨wd,hWd⟩:∃x:World,x=w3.drew:=⟨_,rfl⟩;rw [<-hWd];have GD:Grow w3 wd:=by rw [hWd];exact(Grow.refl _).drew
 have zD:w3.heap.size=wd.heap.size:=by rw [hWd];rfl
 have ZD:=η zD;clear hWd zD;refine ni [1,2,4] 8 κ (fun _ _ _ _ _ h=>h) (HS.o _ GD) ?_;repeat (refine gQ ?_;try simp only [Act.put,uh])
 refine ny ?_;refine yu (i:=0) (j:=5) κ rfl rfl (fun K iE=>?_) (fun K iE=>?_)
 ·have HK:=η iE
  clear iE;go_simp;refine HK.o _ _ ⟨fun _=>HS.o _ (GD.alloc _),?_⟩;clear HK K;try simp only [Act.put,uh,uj,um]
  refine yu (i:=3) (j:=5) κ rfl rfl (fun K iE=>?_) (fun K iE=>?_)
  ·have HK:=η iE
   clear iE;refine oO (v:=ς (some ⟨wd.heap.size,0,none⟩) 0 0) jv rfl eY ε rfl (.tmp 5) (.tmp 7) rfl rfl ((aI.jw Ty.rc c _ w3.heap.size _ (φ ZD.o) σ)) rfl (uq.o _ (GD.alloc _)) (by have:=HL.o;simp;omega) (GD.alloc _).size ?_;intro a3 c3 q3 ho3 hg3 hb3;try simp only [iO,List.nil_append] at ho3
   try simp only [iO] at hb3
   try simp only [iO]
   have G3:=bn (w0:=w3) (GD.alloc _) hg3 (d_ (φ ZD.o));have B3:=η (dW (B:=w3.heap.size) (GD.alloc _).size hb3 (d_ (φ ZD.o)));have nC:=η ho3;have oq:=η hg3;clear ho3 hg3 hb3;refine HK.o _ _ ⟨fun _=>HS.o _ G3,?_⟩;clear HK K;try simp only [Act.put,uh]
   refine eG (i:=5) κ rfl (fun K iE=>?_);have HK:=η iE;clear iE;go_simp;refine HK.o _ _ ⟨fun _=>HS.o _ (G3.alloc _),?_⟩;clear HK K;try simp only [Act.put,uh,uj,um]
   refine eG (i:=6) κ rfl (fun K iE=>?_);have HK:=η iE;clear iE;refine oO (v:=ς a3 (h.log.length) c3) jv rfl eY ε rfl (.tmp 8) (.tmp 10) rfl rfl ((nC.o).grow ((Grow.refl _).alloc _)) rfl ((Src.bQ (T:=Ty.rc) (c:=c) (cs:=#[ι r.kind,ι r.deed,ς ap r.parts.length cp]) HR.o _ _ σ)) (by have:=HL.o;simp;omega) (G3.alloc _).size ?_;intro a6 c6 q6 tX zU hb6;try simp only [iO] at tX
   try simp only [iO] at hb6
   try simp only [iO]
   have G6:=bn (w0:=w3) (G3.alloc _) zU B3.o;have B6:=η (dW (B:=w3.heap.size) (G3.alloc _).size hb6 B3.o);have Bl:=η tX;have QD:=η zU;clear tX zU hb6;refine HK.o _ _ ⟨fun _=>HS.o _ G6,?_⟩;clear HK K;try simp only [Act.put,uh]
   refine eG (i:=7) κ rfl (fun K iE=>?_);have HK:=η iE;clear iE;go_simp;go_at_call 129
   refine(uK (c:=wo (w.heap.size+1+1) (ov c w q6)) (l:=h.log++ [r]) q6 (mO HC.o (vY.o.trans G6)) (Bl.o.slc ε (uJ HC.o δ) fun a ha=>vK δ δ) (by intro x hx;rcases List.mem_append.1 hx with hx|hx;exact NR.o x hx;simp at hx;subst hx;exact qT.o) (by have:=HL.o;simp;omega)).mono ?_;rw [og.o];rintro e q7 ⟨vx,rfl,hX,hb7⟩;obtain⟨eU,eX,kG,kH,o_,pq,rfl⟩:=hX.dF;have HX:=η hX;have G7:=G6.trans hb7;have wZ:=η hb7;obtain⟨p0,p1,p2,p3,p4,p5,p6,pf⟩:=HZ.o _ G7;have z7:w.heap.size+1+1<q7:=by have:=G7.size;omega
   clear hX hb7;refine HK.o _ _ ⟨fun _=>HS.o _ G7,?_⟩;clear HK K;try simp only [Act.put,uh,uj,um]
   refine eG (i:=8) κ rfl (fun K iE=>?_);have HK:=η iE;clear iE;go_simp;refine HK.o _ _ ⟨fun h=>absurd rfl h,?_⟩;clear HK K;try simp only [Act.put,uh,uj,um]
   refine aO κ ?_;go_wp2;refine bodyPost_ret (v:=.agg #[ς eU x.log.length eX,ι x.sums.a,ι x.sums.b,ι x.sums.c,ι x.sums.d,ς kG x.ready.length kH,ς o_ x.done.length pq]) (by simp [results,Tryz.results98,go_sem,p0,p1,p2,p3,p4,p5,p6]) rfl ?_;refine⟨_,rfl,?_,?_⟩
   ·refine HX.o.mono (Og (B:=w.heap.size+1+1) (vY.o.trans G6) wZ.o (τ G6.size) fun a ha=>?_)
    rw [dN ha,dN ha,dN ha,dN ha,dN ha,dN ha,dN ha]
   ·(repeat (with_reducible refine Grow.setCell ?_ (by first|(simp;done)|(simp;omega)|omega) _))
    exact vY.o.trans G7
  ·have HK:=η iE
   clear iE;go_simp;refine HK.o _ _ ⟨fun _=>HS.o _ ((GD.alloc _).alloc _),?_⟩;clear HK K;try simp only [Act.put,uh,uj,um]
   refine eG (i:=3) κ rfl (fun K iE=>?_);have HK:=η iE;clear iE;refine oO (v:=ς (some ⟨wd.heap.size,0,none⟩) 0 0) jv rfl eY ε rfl (.tmp 5) (.tmp 7) rfl rfl (((aI.jw Ty.rc c _ w3.heap.size _ (φ ZD.o) σ)).grow ((Grow.refl _).alloc _)) rfl (uq.o _ ((GD.alloc _).alloc _)) (by have:=HL.o;simp;omega) ((GD.alloc _).alloc _).size ?_;intro a3 c3 q3 ho3 hg3 hb3;try simp only [iO,List.nil_append] at ho3
   try simp only [iO] at hb3
   try simp only [iO]
   have G3:=bn (w0:=w3) ((GD.alloc _).alloc _) hg3 (d_ (φ ZD.o));have B3:=η (dW (B:=w3.heap.size) ((GD.alloc _).alloc _).size hb3 (d_ (φ ZD.o)));have nC:=η ho3;have oq:=η hg3;clear ho3 hg3 hb3;refine HK.o _ _ ⟨fun _=>HS.o _ G3,?_⟩;clear HK K;try simp only [Act.put,uh]
   refine eG (i:=6) κ rfl (fun K iE=>?_);have HK:=η iE;clear iE;refine oO (v:=ς a3 (h.log.length) c3) jv rfl eY ε rfl (.tmp 8) (.tmp 10) rfl rfl (nC.o) rfl (((Src.bQ (T:=Ty.rc) (c:=c) (cs:=#[ι r.kind,ι r.deed,ς ap r.parts.length cp]) HR.o _ _ σ)).kept oq.o (by simp [Value.ownBlock])) (by have:=HL.o;simp;omega) G3.size ?_;intro a6 c6 q6 tX zU hb6;try simp only [iO] at tX
   try simp only [iO] at hb6
   try simp only [iO]
   have G6:=bn (w0:=w3) G3 zU B3.o;have B6:=η (dW (B:=w3.heap.size) G3.size hb6 B3.o);have Bl:=η tX;have QD:=η zU;clear tX zU hb6;refine HK.o _ _ ⟨fun _=>HS.o _ G6,?_⟩;clear HK K;try simp only [Act.put]
   refine eG (i:=7) κ rfl (fun K iE=>?_);have HK:=η iE;clear iE;go_simp;go_at_call 129
   refine(uK (c:=wo (w.heap.size+1+1) (ov c w q6)) (l:=h.log++ [r]) q6 (mO HC.o (vY.o.trans G6)) (Bl.o.slc ε (uJ HC.o δ) fun a ha=>vK δ δ) (by intro x hx;rcases List.mem_append.1 hx with hx|hx;exact NR.o x hx;simp at hx;subst hx;exact qT.o) (by have:=HL.o;simp;omega)).mono ?_;rw [og.o];rintro e q7 ⟨vx,rfl,hX,hb7⟩;obtain⟨eU,eX,kG,kH,o_,pq,rfl⟩:=hX.dF;have HX:=η hX;have G7:=G6.trans hb7;have wZ:=η hb7;obtain⟨p0,p1,p2,p3,p4,p5,p6,pf⟩:=HZ.o _ G7;have z7:w.heap.size+1+1<q7:=by have:=G7.size;omega
   clear hX hb7;refine HK.o _ _ ⟨fun _=>HS.o _ G7,?_⟩;clear HK K;try simp only [Act.put,uh,uj,um]
   refine eG (i:=8) κ rfl (fun K iE=>?_);have HK:=η iE;clear iE;go_simp;refine HK.o _ _ ⟨fun h=>absurd rfl h,?_⟩;clear HK K;try simp only [Act.put,uh,uj,um]
   refine aO κ ?_;go_wp2;refine bodyPost_ret (v:=.agg #[ς eU x.log.length eX,ι x.sums.a,ι x.sums.b,ι x.sums.c,ι x.sums.d,ς kG x.ready.length kH,ς o_ x.done.length pq]) (by simp [results,Tryz.results98,go_sem,p0,p1,p2,p3,p4,p5,p6]) rfl ?_;refine⟨_,rfl,?_,?_⟩
   ·refine HX.o.mono (Og (B:=w.heap.size+1+1) (vY.o.trans G6) wZ.o (τ G6.size) fun a ha=>?_)
    rw [dN ha,dN ha,dN ha,dN ha,dN ha,dN ha,dN ha]
   ·(repeat (with_reducible refine Grow.setCell ?_ (by first|(simp;done)|(simp;omega)|omega) _))
    exact vY.o.trans G7
 ·have HK:=η iE
  clear iE;go_simp;refine HK.o _ _ ⟨fun _=>HS.o _ (GD.alloc _),?_⟩;clear HK K;try simp only [Act.put,uh,uj,um]
  refine eG (i:=0) κ rfl (fun K iE=>?_);have HK:=η iE;clear iE;go_simp;refine HK.o _ _ ⟨fun _=>HS.o _ ((GD.alloc _).alloc _),?_⟩;clear HK K;try simp only [Act.put,uh,uj,um]
  refine eG (i:=3) κ rfl (fun K iE=>?_);have HK:=η iE;clear iE;refine oO (v:=ς (some ⟨wd.heap.size+1,0,none⟩) 0 0) jv rfl eY ε rfl (.tmp 5) (.tmp 7) rfl rfl ((aI.jw Ty.rc c _ w3.heap.size _ (φ ZD.o) σ)) rfl (uq.o _ ((GD.alloc _).alloc _)) (by have:=HL.o;simp;omega) ((GD.alloc _).alloc _).size ?_;intro a3 c3 q3 ho3 hg3 hb3;try simp only [iO,List.nil_append] at ho3
  try simp only [iO] at hb3
  try simp only [iO]
  have G3:=bn (w0:=w3) ((GD.alloc _).alloc _) hg3 (d_ (φ ZD.o));have B3:=η (dW (B:=w3.heap.size) ((GD.alloc _).alloc _).size hb3 (d_ (φ ZD.o)));have nC:=η ho3;have oq:=η hg3;clear ho3 hg3 hb3;refine HK.o _ _ ⟨fun _=>HS.o _ G3,?_⟩;clear HK K;try simp only [Act.put,uh]
  refine eG (i:=6) κ rfl (fun K iE=>?_);have HK:=η iE;clear iE;refine oO (v:=ς a3 (h.log.length) c3) jv rfl eY ε rfl (.tmp 8) (.tmp 10) rfl rfl (nC.o) rfl ((((Src.bQ (T:=Ty.rc) (c:=c) (cs:=#[ι r.kind,ι r.deed,ς ap r.parts.length cp]) HR.o _ _ σ)).grow ((Grow.refl _).alloc _)).kept oq.o (by simp [Value.ownBlock])) (by have:=HL.o;simp;omega) G3.size ?_;intro a6 c6 q6 tX zU hb6;try simp only [iO] at tX
  try simp only [iO] at hb6
  try simp only [iO]
  have G6:=bn (w0:=w3) G3 zU B3.o;have B6:=η (dW (B:=w3.heap.size) G3.size hb6 B3.o);have Bl:=η tX;have QD:=η zU;clear tX zU hb6;refine HK.o _ _ ⟨fun _=>HS.o _ G6,?_⟩;clear HK K;try simp only [Act.put]
  refine eG (i:=7) κ rfl (fun K iE=>?_);have HK:=η iE;clear iE;go_simp;go_at_call 129
  refine(uK (c:=wo (w.heap.size+1+1) (ov c w q6)) (l:=h.log++ [r]) q6 (mO HC.o (vY.o.trans G6)) (Bl.o.slc ε (uJ HC.o δ) fun a ha=>vK δ δ) (by intro x hx;rcases List.mem_append.1 hx with hx|hx;exact NR.o x hx;simp at hx;subst hx;exact qT.o) (by have:=HL.o;simp;omega)).mono ?_;rw [og.o];rintro e q7 ⟨vx,rfl,hX,hb7⟩;obtain⟨eU,eX,kG,kH,o_,pq,rfl⟩:=hX.dF;have HX:=η hX;have G7:=G6.trans hb7;have wZ:=η hb7;obtain⟨p0,p1,p2,p3,p4,p5,p6,pf⟩:=HZ.o _ G7;have z7:w.heap.size+1+1<q7:=by have:=G7.size;omega
  clear hX hb7;refine HK.o _ _ ⟨fun _=>HS.o _ G7,?_⟩;clear HK K;try simp only [Act.put,uh,uj,um]
  refine eG (i:=8) κ rfl (fun K iE=>?_);have HK:=η iE;clear iE;go_simp;refine HK.o _ _ ⟨fun h=>absurd rfl h,?_⟩;clear HK K;try simp only [Act.put,uh,uj,um]
  refine aO κ ?_;go_wp2;refine bodyPost_ret (v:=.agg #[ς eU x.log.length eX,ι x.sums.a,ι x.sums.b,ι x.sums.c,ι x.sums.d,ς kG x.ready.length kH,ς o_ x.done.length pq]) (by simp [results,Tryz.results98,go_sem,p0,p1,p2,p3,p4,p5,p6]) rfl ?_;refine⟨_,rfl,?_,?_⟩
  ·refine HX.o.mono (Og (B:=w.heap.size+1+1) (vY.o.trans G6) wZ.o (τ G6.size) fun a ha=>?_)
   rw [dN ha,dN ha,dN ha,dN ha,dN ha,dN ha,dN ha]
  ·(repeat (with_reducible refine Grow.setCell ?_ (by first|(simp;done)|(simp;omega)|omega) _))
   exact vY.o.trans G7
theorem Of.fQ {c:CM} {v:Value} {m:Ms} (hv:Of Ty.ms c v m):∃ap cp,v=.agg #[ι m.kind,ι m.deed,ι m.house,ς ap m.parts.length cp]:=by
 obtain⟨cs,rfl,vp,rfl,-,-,-,hp⟩:=hv;obtain⟨ap,cp,rfl,-⟩:=id hp;exact⟨_,_,rfl⟩
theorem Of.iG {c:CM} {a b d:Value} {ap:Option Addr} {n cp:Nat} {m:Ms} (hv:Of Ty.ms c (.agg #[a,b,d,ς ap n cp]) m):Sl Ty.pt c (ς ap n cp) m.parts/\I64 m.kind/\I64 m.deed/\I64 m.house:=by
 obtain⟨cs,he,vp,rfl,h1,h2,h3,hp⟩:=hv;simp at he;obtain⟨-,-,-,rfl⟩:=he;exact⟨hp,h1,h2,h3⟩
theorem KG {ps:List Pt} {h:Int} {k:Nat} (hlt:k<ps.length) (hE:∀p∈ps.take k,(p.h==h)=true):
  ((ps[k].h==h)=true->∀p∈ps.take (k+1),(p.h==h)=true)/\((ps[k].h==h)=false->ps.all (fun p=>p.h==h)=false):=by
 constructor
 ·intro e p hp
  rw [List.take_succ_eq_append_getElem hlt] at hp;rcases List.mem_append.1 hp with h'|h'
  ·exact hE p h'
  ·simp at h';subst h';exact e
 ·intro e
  rw [List.all_eq_false];exact⟨_,List.getElem_mem hlt,by simp [e]⟩
theorem SS {v:Value} {m:Ms} (w:World) (hv:Of Ty.ms w.cell? v m):
  Calls Tryz.prog 95 #[v] w fun e w'=>e=.returned (ι (aQ m))/\Grow w w':=by
 obtain⟨ap,cp,rfl⟩:=hv.fQ;obtain⟨hp,-⟩:=hv.iG;have HW:=η (fun(W:World) (hW:Grow w W)=>o7 (h:=3) W (hp.mono hW.sub));have KH:=η hp;clear hv hp;by_cases h1:m.kind<1
 ·have HE:Hid (aQ m=1):=by show aQ m=1;unfold aQ;rw [if_pos (.inl h1)]
  go_enter Tryz.func95,Tryz.ntmps95;go_wp2;go_ret;exact⟨bC HE.o.symm,gY⟩
 by_cases h2:7<m.kind
 ·have HE:Hid (aQ m=1):=by show aQ m=1;unfold aQ;rw [if_pos (.inr h2)]
  go_enter Tryz.func95,Tryz.ntmps95;go_wp2;go_ret;exact⟨bC HE.o.symm,gY⟩
 by_cases h3:m.deed<0
 ·have HE:Hid (aQ m=3):=by show aQ m=3;unfold aQ;rw [if_neg δ,if_pos (.inl h3)]
  go_enter Tryz.func95,Tryz.ntmps95;go_wp2;go_ret;exact⟨bC HE.o.symm,gY⟩
 by_cases h4:1343<m.deed
 ·have HE:Hid (aQ m=3):=by show aQ m=3;unfold aQ;rw [if_neg δ,if_pos δ]
  go_enter Tryz.func95,Tryz.ntmps95;go_wp2;go_ret;exact⟨bC HE.o.symm,gY⟩
 by_cases h5:m.house<0
 ·have HE:Hid (aQ m=3):=by show aQ m=3;unfold aQ;rw [if_neg δ,if_pos δ]
  go_enter Tryz.func95,Tryz.ntmps95;go_wp2;go_ret;exact⟨bC HE.o.symm,gY⟩
 by_cases h6:2<m.house
 ·have HE:Hid (aQ m=3):=by show aQ m=3;unfold aQ;rw [if_neg δ,if_pos δ]
  go_enter Tryz.func95,Tryz.ntmps95;go_wp2;go_ret;exact⟨bC HE.o.symm,gY⟩
 by_cases h7:1<m.kind
 ·by_cases h8:m.parts=[]
  ·have HE:Hid (aQ m=0):=by show aQ m=0;unfold aQ;rw [if_neg δ,if_neg δ,if_pos h7,if_pos h8]
   have hl:m.parts.length=0:=by rw [h8];rfl
   clear h8;generalize m.parts.length=n at*;subst hl;go_enter Tryz.func95,Tryz.ntmps95;go_wp2;go_ret;exact⟨bC HE.o.symm,gY⟩
  ·have HE:Hid (aQ m=5):=by show aQ m=5;unfold aQ;rw [if_neg δ,if_neg δ,if_pos h7,if_neg h8]
   have hl:0<m.parts.length:=List.length_pos_iff.2 h8;have hb:((m.parts.length:Int) !=0)=true:=by rw [bne_iff_ne];omega
   clear h8;go_enter Tryz.func95,Tryz.ntmps95;go_wp2;go_ret;exact⟨bC HE.o.symm,gY⟩
 have HB:Hid (aQ m=if bD m.parts 3=0 then(if m.parts.all (fun p=>p.h==m.house)=true then 0 else 3) else bD m.parts 3):=by
  show aQ m=_;unfold aQ;rw [if_neg δ,if_neg δ,if_neg h7]
 by_cases h8:bD m.parts 3=0
 ·have hb:(bD m.parts 3 !=0)=false:=by simp [h8]
  have HE:Hid (aQ m=(if m.parts.all (fun p=>p.h==m.house)=true then 0 else 3)):=by show aQ m=_;rw [HB.o,if_pos h8]
  clear h8;generalize bD m.parts 3=we at*;have hp:=KH.o;obtain⟨SV,cp',he,hp1,hp2,-,hel⟩:=hp;obtain⟨rfl,rfl⟩:ap=SV/\cp=cp':=by simpa using he
  unfold maxLen at hp2;clear he;go_enter Tryz.func95,Tryz.ntmps95;go_wp2_with fail
  refine(HW.o _ ((Grow.refl _).alloc _)).mono ?_;rintro e w1 ⟨rfl,dI⟩;(obtain⟨KI,NS⟩:=fJ dI;have w_:w.heap.size<w1:=(ω dI.size);have tY:=η dI;clear dI)
  go_wp2;go_loopw [5,48] (fun _ i wr=>∃k:Nat,k<=m.parts.length/\i=ι k/\Grow w1 wr/\∀p∈m.parts.take k,(p.h==m.house)=true) (fun _ i _=>m.parts.length - (intOf i).toNat)
  case atStart=>exact⟨0,δ,rfl,Grow.refl _,σ⟩
  case round=>
   obtain⟨k,hk',rfl,hb,hE⟩:=hrel;have hbw:=((Grow.refl w).alloc (.cells #[ι m.kind,ι m.deed,ι m.house,ς ap m.parts.length cp] 85)).trans (tY.o.trans hb);have x2:=hb.sub ⟨w.heap.size,2,none⟩ (ι m.house) (by rw [KI _ _ σ,World.cell?_alloc_new];rfl);have xz:w.heap.size<wr:=by have:=hbw.size;have:=hb.size;omega
   by_cases hlt:k<m.parts.length
   ·obtain⟨b,o,rfl,c0,c1,c2,-,-,-⟩:=m_.at_ hel k hlt
    replace c0:=hbw.sub _ _ c0;replace c1:=hbw.sub _ _ c1;replace c2:=hbw.sub _ _ c2;obtain⟨s1,s2⟩:=KG hlt hE;have S1:=η s1;have S2:=η s2;clear hel hE s1 s2;generalize m.parts[k]=p at*;cases ht:(p.h==m.house)
    ·have hne:(p.h !=m.house)=true:=by simp [bne,ht]
     have S3:=η (S2.o ht);clear S1 S2;go_wp2;go_ret;refine⟨bC ?_,hbw.trans Ce⟩;rw [HE.o,S3.o];rfl
    ·have hne:(p.h !=m.house)=false:=by simp [bne,ht]
     have S3:=η (S1.o ht);clear S1 S2;go_wp2;go_roundw
     case rel=>exact⟨k+1,δ,by go_num,gY,S3.o⟩
     case measure=>simp [intOf];omega
   ·have HF:=η hE
    clear hel hE;go_wp2;go_ret;refine⟨bC ?_,hbw⟩;have h9:=HF.o;rw [List.take_of_length_le δ] at h9;rw [HE.o,if_pos (List.all_eq_true.2 h9)]
 ·have hb:(bD m.parts 3 !=0)=true:=by simp [h8]
  have HE:Hid (aQ m=bD m.parts 3):=by show aQ m=_;rw [HB.o,if_neg h8]
  clear h8;generalize bD m.parts 3=we at*;go_enter Tryz.func95,Tryz.ntmps95;go_wp2_with fail
  refine(HW.o _ ((Grow.refl _).alloc _)).mono ?_;rintro e w1 ⟨rfl,dI⟩;(obtain⟨KI,NS⟩:=fJ dI;have w_:w.heap.size<w1:=(ω dI.size);have tY:=η dI;clear dI)
  go_wp2;go_ret;exact⟨bC HE.o.symm,((Grow.refl w).alloc _).trans tY.o⟩
theorem KJ {l:List Rd} {ps:List Pt} {p:Pt} (hp:p∈ps) (h:0<=l7 l p.k):qG l ps=false:=by
 unfold qG;rw [Bool.not_eq_false',List.any_eq_true];exact⟨p,hp,by simpa using h⟩
theorem SX {l:List Rd} {ps:List Pt} (h:∀p∈ps,l7 l p.k<0):qG l ps=true:=by
 unfold qG;rw [Bool.not_eq_true',List.any_eq_false];intro p hp;have:=h p hp;simp;omega
theorem kS {v vp:Value} {h:Hs} {d:Int} {ps:List Pt} (w:World) (hv:Of Ty.hs w.cell? v h) (hp:m_ w.cell? vp ps) (hk:dw ps):
  Calls Tryz.prog 96 #[v,ι d,vp] w fun e w'=>e=.returned (ι (dU h d ps))/\Grow w w':=by
 have HO:=η hv;obtain⟨al,cl,ar,cr,ad,cd,rfl⟩:=hv.dF;have sS:=η (fun(W:World) (hW:Grow w W)=>kQ (n:=d) W ((Of.iw HO.o).2.2.mono hW.sub));have vZ:=η (fun(W:World) (hW:Grow w W)=>jf (d:=d) W (HO.o.mono hW.sub));have HWH:=η (fun(W:World) (key:Int) (hW:Grow w W)=>YC (key:=key) W (HO.o.mono hW.sub));have H5:=η (fun(W:World) (hW:Grow w W)=>Vd (s0:=h.sums.a) (s1:=h.sums.b) (s2:=h.sums.c) (s3:=h.sums.d) W (hp.mono hW.sub) hk);have HP:=η hp;obtain⟨ap,cp,rfl,hp1,hp2,-,hel⟩:=hp;unfold maxLen at hp2;clear hv hk;by_cases hd:d∈h.done
 ·have HE:Hid (dU h d ps=10):=by show dU h d ps=10;unfold dU;rw [if_pos hd]
  have HD:=η (decide_eq_true hd);clear hd;go_enter Tryz.func96,Tryz.ntmps96;go_wp2_with fail
  refine(sS.o _ ((Grow.refl _).alloc _)).mono ?_;rw [HD.o];rintro e w1 ⟨rfl,dI⟩;(obtain⟨KI,NS⟩:=fJ dI;have w_:w.heap.size<w1:=(ω dI.size);have tY:=η dI;clear dI)
  go_wp2;go_ret;exact⟨bC HE.o.symm,((Grow.refl w).alloc _).trans tY.o⟩
 have HD:=η (decide_eq_false hd);by_cases hr:bM h.ready d=true
 ·have HE:Hid (dU h d ps=0):=by show dU h d ps=0;unfold dU;rw [if_neg hd,if_pos hr]
  have HR:=η hr;clear hd hr;go_enter Tryz.func96,Tryz.ntmps96;go_wp2_with fail
  refine(sS.o _ ((Grow.refl _).alloc _)).mono ?_;rw [HD.o];rintro e w1 ⟨rfl,dI⟩;(obtain⟨KI,NS⟩:=fJ dI;have w_:w.heap.size<w1:=(ω dI.size);have tY:=η dI;clear dI)
  go_wp2_with fail
  refine(vZ.o _ (((Grow.refl w).alloc _).trans tY.o)).mono ?_;rw [HR.o];rintro e w2 ⟨rfl,hbw2⟩;(obtain⟨aD,aE⟩:=fJ hbw2;have SY:w.heap.size<w2:=(ω hbw2.size);have KL:=η hbw2;clear hbw2)
  go_wp2;go_ret;exact⟨bC HE.o.symm,(((Grow.refl w).alloc _).trans tY.o).trans KL.o⟩
 have HE:Hid (dU h d ps=if qG h.ready ps=false then 12 else jy h.sums.get ps):=by show dU h d ps=_;unfold dU;rw [if_neg hd,if_neg hr]
 have HR:Hid (bM h.ready d=false):=by show bM h.ready d=false;simpa using hr
 clear hd hr;go_enter Tryz.func96,Tryz.ntmps96;go_wp2_with fail
 refine(sS.o _ ((Grow.refl _).alloc _)).mono ?_;rw [HD.o];rintro e w1 ⟨rfl,dI⟩;(obtain⟨KI,NS⟩:=fJ dI;have w_:w.heap.size<w1:=(ω dI.size);have tY:=η dI;clear dI)
 go_wp2_with fail
 refine(vZ.o _ (((Grow.refl w).alloc _).trans tY.o)).mono ?_;rw [HR.o];rintro e w2 ⟨rfl,hbw2⟩;have HG:=η (tY.o.trans hbw2);clear hbw2 KI NS w_;go_wp2;go_loopw [8,18] (fun _ i wr=>∃k:Nat,k<=ps.length/\i=ι k/\Grow w2 wr/\∀p∈ps.take k,l7 h.ready p.k<0) (fun _ i _=>ps.length - (intOf i).toNat)
 case atStart=>exact⟨0,δ,rfl,Grow.refl _,σ⟩
 case round=>
  obtain⟨k,hk',rfl,hb,hE⟩:=hrel;have hg:=HG.o.trans hb;have hbw:=((Grow.refl w).alloc (.cells #[ς al h.log.length cl,ι h.sums.a,ι h.sums.b,ι h.sums.c,ι h.sums.d,ς ar h.ready.length cr,ς ad h.done.length cd] 50)).trans hg;obtain⟨cr1,fr1⟩:=fJ hg;have xz:w.heap.size<wr:=by have:=hg.size;simp at this;omega
  by_cases hlt:k<ps.length
  ·obtain⟨b,o,rfl,c0,c1,c2,-,-,-⟩:=m_.at_ hel k hlt
   replace c0:=hbw.sub _ _ c0;replace c1:=hbw.sub _ _ c1;replace c2:=hbw.sub _ _ c2;have H1:Hid (0<=l7 h.ready ps[k].k->qG h.ready ps=false):=fun h2=>KJ (List.getElem_mem hlt) h2;have H2:Hid (l7 h.ready ps[k].k<0->∀p∈ps.take (k+1),l7 h.ready p.k<0):=fun h2 p hp=>by
    rw [List.take_succ_eq_append_getElem hlt] at hp;rcases List.mem_append.1 hp with h'|h'
    ·exact hE p h'
    ·simp at h';subst h';exact h2
   have X_:=η hbw;have HG2:=η hg;have HB:=η hb;clear hel hE hbw hg hb;generalize ps[k]=p at*;go_wp2_with fail
   refine(HWH.o _ p.k (X_.o.alloc _)).mono ?_;rintro e w3 ⟨rfl,hb3⟩;have HB3:=η (((Grow.refl wr).alloc _).trans hb3);clear hb3;by_cases hw:0<=l7 h.ready p.k
   ·have H3:=η (H1.o hw)
    clear H1 H2;generalize l7 h.ready p.k=wk at*;go_wp2;go_ret;refine⟨bC ?_,X_.o.trans HB3.o⟩;rw [HE.o,if_pos H3.o]
   ·have H3:=η (H2.o δ)
    clear H1 H2;generalize l7 h.ready p.k=wk at*;go_wp2;go_roundw
    case rel=>exact⟨k+1,δ,by go_num,HB.o.trans HB3.o,H3.o⟩
    case measure=>simp [intOf];omega
  ·have HF:=η hE
   have X_:=η hbw;clear hel hE hbw hb hg;go_wp2_with fail
   refine(H5.o _ X_.o).mono ?_;rintro e w3 ⟨rfl,hb3⟩;have HB3:=η hb3;clear hb3;go_wp2;go_ret;refine⟨bC ?_,X_.o.trans HB3.o⟩;have h9:=HF.o;rw [List.take_of_length_le δ] at h9;rw [HE.o,if_neg (by rw [SX h9];simp)];rfl
def wk (B k:Nat) (c:CM):CM:=fun a=>if B<=a.block/\a.block<B+k then none else c a
theorem IZ (B k:Nat) (c:CM):Sub (wk B k c) c:=fun a v e=>by
 unfold wk at e;split at e
 ·cases e
 ·exact e
theorem Dx {c:CM} {w W:World} (hc:Sub c w.cell?) (k:Nat):Sub c (wk w.heap.size k (ov c w W)):=fun a v e=>by
 have hl:=World.block_lt_of_cell? w a (hc a v e);unfold wk;rw [if_neg δ];exact dM hc a v e
theorem QE {c:CM} {w W:World} (hc:Sub c w.cell?) (hg:Grow w W) (k:Nat):Sub (wk w.heap.size k (ov c w W)) W.cell?:=(IZ _ _ _).trans (sJ hc hg)
theorem dE {c:CM} {w W:World} {k:Nat} {a:Addr} (h:w.heap.size+k<=a.block):wk w.heap.size k (ov c w W) a=W.cell? a:=by
 unfold wk;rw [if_neg δ,bH δ]
theorem yx {c:CM} {w W w1 w':World} {k:Nat} (hW:Grow w W) (h1:Grow W w1) (hk:w.heap.size+k<=W.heap.size) (hs:∀a v,w.heap.size+k<=a.block->w1.cell? a=some v->w'.cell? a=some v):Sub (ov (wk w.heap.size k (ov c w W)) W w1) (ov c w w'):=
 ZY hW (IZ _ _ _) (fun a v hl e=>hs a v δ e) fun a v hl hl2 e=>by
  have hne:w.heap.size+k<=a.block:=by
   apply Classical.byContradiction;intro hb;unfold wk at e;rw [if_pos ⟨hl,δ⟩] at e;cases e
  have e2:=IZ _ _ _ a v e;rw [bH hl] at e2;exact hs a v hne (h1.sub _ _ e2)
theorem Gv {c:CM} {w W:World} {q:Nat} {cs:List Value} (h:At W.cell? q 0 cs) (hq:w.heap.size<=q):At (ov c w W) q 0 cs:=fun j v e=>by
 rw [bH (by exact hq)];exact h j v e
theorem YF (w:World) (B:Nat) (u0 u1 u2 u3 u4 u5 u6:Value):w.grownBy (((((((w.setCell ⟨B,0,none⟩ u0).setCell ⟨B,1,none⟩ u1).setCell ⟨B,2,none⟩ u2).setCell ⟨B,3,none⟩ u3).setCell ⟨B,4,none⟩ u4).setCell ⟨B,5,none⟩ u5).setCell ⟨B,6,none⟩ u6) (some B):=
 grownBy_trans (grownBy_setCell w ⟨B,0,none⟩ u0) (grownBy_trans (grownBy_setCell _ ⟨B,1,none⟩ u1) (grownBy_trans (grownBy_setCell _ ⟨B,2,none⟩ u2) (grownBy_trans (grownBy_setCell _ ⟨B,3,none⟩ u3) (grownBy_trans (grownBy_setCell _ ⟨B,4,none⟩ u4) (grownBy_trans (grownBy_setCell _ ⟨B,5,none⟩ u5) (grownBy_setCell _ ⟨B,6,none⟩ u6))))))
theorem dh {w w':World} {B:Nat} (h:w.grownBy w' (some B)) {a:Addr} (hl:a.block<w.heap.size) (hb:a.block≠B):w'.cell? a=w.cell? a:=
 World.cell?_of_block (h.block a.block hl (fun e=>hb (Option.some.inj e)))
theorem aT {w:World} {B:Nat} {a b c d e f g:Value} {t:TypeId} (h:w.heap[B]? =some (.cells #[a,b,c,d,e,f,g] t (0,0))):
  w.cell? ⟨B,0,none⟩=some a/\w.cell? ⟨B,1,none⟩=some b/\w.cell? ⟨B,2,none⟩=some c/\w.cell? ⟨B,3,none⟩=some d/\w.cell? ⟨B,4,none⟩=some e/\w.cell? ⟨B,5,none⟩=some f/\w.cell? ⟨B,6,none⟩=some g:=by
 refine⟨?_,?_,?_,?_,?_,?_,?_⟩<;>simp [World.cell?,h]
theorem cells4 {w:World} {B:Nat} {a b c d:Value} {t:TypeId} (h:w.heap[B]? =some (.cells #[a,b,c,d] t (0,0))):
  w.cell? ⟨B,0,none⟩=some a/\w.cell? ⟨B,1,none⟩=some b/\w.cell? ⟨B,2,none⟩=some c/\w.cell? ⟨B,3,none⟩=some d:=by
 refine⟨?_,?_,?_,?_⟩<;>simp [World.cell?,h]
theorem dL:(Tryz.prog.info? 50).map (·.size)=some 7:=by kernel_rfl
theorem dA {w:World} {B:Nat} {cs:Array Value} {t:TypeId} (h:w.heap[B]? =some (.cells cs t (0,0))) (o:Nat):w.frozen? ⟨B,o,none⟩=false:=by simp [World.frozen?,h]
theorem aH {w w':World} {B:Nat} {o:Obj} {row:Option Nat} (h:w.heap[B]? =some o) (hg:w.grownBy w' row) (hne:some B≠row):w'.heap[B]? =some o:=by
 rw [hg.block B (γ h) hne];exact h
theorem aj {w w':World} {B:Nat} {o:Obj} (h:w.heap[B]? =some o) (hg:Grow w w'):w'.heap[B]? =some o:=by
 rw [hg.block B (γ h)];exact h
theorem aF (w:World) (o:Obj):(w.alloc o).heap[w.heap.size]? =some o:=heap_alloc_new w o
theorem aC {o:Oper} {y:Nat->Option Bool} {X E:Prop} {inst:Decidable (Region.wanted o y=true)} (hgd:o.guard=none) (h:X):@ite Prop (Region.wanted o y=true) inst X E:=by
 rw [if_pos (by simp [Region.wanted,hgd])];exact h
theorem wp_store_row {P:Program} {ty:TypeId} {w:World} {o:Oper} {a:Act} {K:Act->World->Prop} {Q:Exit->Act->World->Prop} (d s:Operand) (ho:o.op=.store ty d s)
  {g:Nat} {t:TypeId} {old cells:Array Value} (hd:a.eval d=.pointer (some ⟨g,0,none⟩)) (hs:a.eval s=.agg cells) (hrow:w.heap[g]? =some (.cells old t (0,0)))
  (hi:(P.info? ty).map (·.size)=some cells.size) (hos:old.size=cells.size) (h1:cells.toList.all (·.oneCell')=true)
  (h:∀w',w'.heap[g]? =some (.cells cells t (0,0))->w.grownBy w' (some g)->K (a.put o.dst undef) w'):o.wp P a w K Q:=by
 have hr:=run_storeVar_row (P:=P) w g t ty old cells hrow hi hos (by rw [<-Array.all_toList];exact h1);unfold Oper.wp execOp;simp only [ho,hd,hs,Instr.storeAt,Instr.sureAddr,Sem.run_bind,Sem.run_pure,Result.andThen_ok,hr];exact h _ (setRow_heap w g old cells t _ hrow) ⟨rfl,rfl,rfl,by simp [World.setRow],fun k hk hne=>by
  simp only [World.setRow];rw [Array.getElem?_modify];rw [if_neg (fun e=>hne (by rw [e]))]⟩
theorem wpList_store_row {P:Program} {ty:TypeId} {ops:Array Oper} {rest:List Oper} {w:World} {o:Oper} {a:Act} {Q:Exit->Act->World->Prop} (hgd:o.guard=none) (d s:Operand) (ho:o.op=.store ty d s)
  {g:Nat} {t:TypeId} {old cells:Array Value} (hd:a.eval d=.pointer (some ⟨g,0,none⟩)) (hs:a.eval s=.agg cells) (hrow:w.heap[g]? =some (.cells old t (0,0)))
  (hi:(P.info? ty).map (·.size)=some cells.size) (hos:old.size=cells.size) (h1:cells.toList.all (·.oneCell')=true)
  (h:∀w',w'.heap[g]? =some (.cells cells t (0,0))->w.grownBy w' (some g)->wpList P ops Q rest (a.put o.dst undef) w'):wpList P ops Q (o::rest) a w:=
 wpList_plain hgd fun _ hK=>wp_store_row d s ho hd hs hrow hi hos h1 fun w' a b=>hK _ _ (h w' a b)
theorem Dy {κ:Type} [DecidableEq κ] {P:Program} {t K E:TypeId} {enc:κ->Value} (hK:Bh P K enc) (ht:P.underlying t=some (.map K E)) {z:Value} (hz:∀w,(zeroValue E).run P w=.ok z w) {w:World} {ops:Array Oper} {rest:List Oper} {o:Oper} {a:Act} {Q:Exit->Act->World->Prop} (hg:o.guard=none) (mo x:Operand) (hop:o.op=Op.lookup t mo x false)
  {m:Nat} {kv:List (κ×Value)} (h:lD enc w m kv) (k:κ) (v:Value) (hv:(IV kv k).getD z=v) (hm:a.eval mo=.map (some m)) (hx:a.eval x=enc k) (hC:wpList P ops Q rest (a.put o.dst v) w):wpList P ops Q (o::rest) a w:=by
 subst hv;exact zN hK ht hz hg mo x hop h k hm hx hC
theorem vO {κ:Type} [DecidableEq κ] {P:Program} {t K E:TypeId} {enc:κ->Value} (hK:Bh P K enc) (ht:P.underlying t=some (.map K E)) {w:World} {ops:Array Oper} {rest:List Oper} {o:Oper} {a:Act} {Q:Exit->Act->World->Prop} (hg:o.guard=none) (mo x y:Operand) (hop:o.op=Op.insert t mo x y)
  {m:Nat} {kv:List (κ×Value)} (h:lD enc w m kv) (k:κ) (v:Value) (hm:a.eval mo=.map (some m)) (hx:a.eval x=enc k) (hy:a.eval y=v) (hC:∀w',lD enc w' m (Kz kv k v)->w.grownBy w' (some m)->wpList P ops Q rest (a.put o.dst undef) w'):wpList P ops Q (o::rest) a w:=by
 refine wpList_plain hg fun K' hK'=>?_;obtain⟨w',hrun,h1,h2⟩:=Qz hK ht h k v;unfold Oper.wp;simp [execOp,hop,hm,hx,hy,hrun,Result.andThen];exact hK' _ _ (hC w' h1 h2)
theorem pz {v:Value} {l:List Pt} (w:World) (hv:Sl Ty.pt w.cell? v l) (hm:l.length*24<=140737488355328):
  Calls Tryz.prog 73 #[v] w fun e w'=>∃v',e=.returned v'/\w'.ownsRow w.heap.size 111 3 v' l.length (l.flatMap Pt.cells)/\Grow w w':=by
 obtain⟨a,cap,rfl,h1,h2,h0,hel⟩:=hv;have hnil:=fun w:World=>Go.Lib.run_eql_slice_nil (P:=Tryz.prog) w 23 111 a l.length cap 0 0 Di.ht;cases a with
 |none=>
  obtain rfl:=h0 rfl;have hl:l=[]:=by
   cases l with
   |nil=>rfl
   |cons x l=>obtain⟨_,_,_,h,_⟩:=hel 0 x rfl;cases h
  subst hl;have hnil':=fun w:World=>Go.Lib.run_eql_slice_nil (P:=Tryz.prog) w 23 111 none 0 0 0 0 Di.ht;simp only [Option.isNone_none] at hnil';clear hel h0 hm h1 h2 hnil;show Calls _ _ #[()] _ _;go_enter Tryz.func73,Tryz.ntmps73;go_wp2;go_ret;exact⟨_,rfl,World.ownsRow_nil _ _ _ _,gY⟩
 |some ad=>
  have hc:=wW (f:=Pt.cells) (size:=3) ε (fun _=>rfl) (c:=w.cell?) (a:=some ad) (l:=l) (fun i x e=>by
   obtain⟨b,o,cs,ha,⟨rfl,-⟩,hA⟩:=hel i x e;exact⟨b,o,ha,hA⟩) ad rfl
  have hlen:(l.flatMap Pt.cells).length=l.length*3:=nI (f:=Pt.cells) (size:=3) (fun _=>rfl) l;have h1c:∀u∈l.flatMap Pt.cells,u.oneCell'=true:=rC Oa l;simp only [Option.isNone_some] at hnil;have HC:=η hc;have HM:=η hm;clear hel hc hm h2;go_enter Tryz.func73,Tryz.ntmps73;go_wp2_with (at_builtin;go_loud (refine CQ (W:=w) Di rfl _ _ rfl ((Grow.refl w).alloc _) rfl (World.ownsRow_made w #[] 0 (Nat.le_refl _) (Nat.zero_le _) rfl) ad l.length cap (l.flatMap Pt.cells) rfl hlen ?_ ?_ ?_ ?_ ?_))
  ·intro j u hu;exact((Grow.refl w).alloc _).sub _ _ (HC.o j u hu)
  ·exact h1c
  ·have:=HM.o;unfold maxLen;omega
  ·have:=HM.o;omega
  ·intro v' w' hown hG _
   go_wp2;go_ret;exact⟨_,rfl,by simpa using hown,hG⟩
theorem S9 {v:Value} {l:List Int} (w:World) (hv:Sl Ty.int w.cell? v l) (hm:l.length*8<=140737488355328):
  Calls Tryz.prog 101 #[v] w fun e w'=>∃v',e=.returned v'/\w'.ownsRow w.heap.size 3 1 v' l.length (l.flatMap dB)/\Grow w w':=by
 obtain⟨a,cap,rfl,h1,h2,h0,hel⟩:=hv;have hnil:=fun w:World=>Go.Lib.run_eql_slice_nil (P:=Tryz.prog) w 48 3 a l.length cap 0 0 iM.ht;cases a with
 |none=>
  obtain rfl:=h0 rfl;have hl:l=[]:=by
   cases l with
   |nil=>rfl
   |cons x l=>obtain⟨_,_,_,h,_⟩:=hel 0 x rfl;cases h
  subst hl;have hnil':=fun w:World=>Go.Lib.run_eql_slice_nil (P:=Tryz.prog) w 48 3 none 0 0 0 0 iM.ht;simp only [Option.isNone_none] at hnil';clear hel h0 hm h1 h2 hnil;show Calls _ _ #[()] _ _;go_enter Tryz.func101,Tryz.ntmps101;go_wp2;go_ret;exact⟨_,rfl,World.ownsRow_nil _ _ _ _,gY⟩
 |some ad=>
  have hc:=wW (f:=dB) (size:=1) ε (fun _=>rfl) (c:=w.cell?) (a:=some ad) (l:=l) (fun i x e=>by
   obtain⟨b,o,cs,ha,⟨rfl,-⟩,hA⟩:=hel i x e;exact⟨b,o,ha,hA⟩) ad rfl
  have hlen:(l.flatMap dB).length=l.length*1:=nI (f:=dB) (size:=1) (fun _=>rfl) l;have h1c:∀u∈l.flatMap dB,u.oneCell'=true:=rC x9 l;simp only [Option.isNone_some] at hnil;have HC:=η hc;have HM:=η hm;clear hel hc hm h2;go_enter Tryz.func101,Tryz.ntmps101;go_wp2_with (at_builtin;go_loud (refine CQ (W:=w) iM rfl _ _ rfl ((Grow.refl w).alloc _) rfl (World.ownsRow_made w #[] 0 (Nat.le_refl _) (Nat.zero_le _) rfl) ad l.length cap (l.flatMap dB) rfl hlen ?_ ?_ ?_ ?_ ?_))
  ·intro j u hu;exact((Grow.refl w).alloc _).sub _ _ (HC.o j u hu)
  ·exact h1c
  ·have:=HM.o;unfold maxLen;omega
  ·have:=HM.o;omega
  ·intro v' w' hown hG _
   go_wp2;go_ret;exact⟨_,rfl,by simpa using hown,hG⟩
theorem Dz {v:Value} {l:List UInt8} (w:World) (hv:Sl Ty.byte w.cell? v l) (hm:l.length*1<=140737488355328):
  Calls Tryz.prog 82 #[v] w fun e w'=>∃v',e=.returned v'/\w'.ownsRow w.heap.size 5 1 v' l.length (l.flatMap fA)/\Grow w w':=by
 obtain⟨a,cap,rfl,h1,h2,h0,hel⟩:=hv;have hnil:=fun w:World=>Go.Lib.run_eql_slice_nil (P:=Tryz.prog) w 97 5 a l.length cap 0 0 yc.ht;cases a with
 |none=>
  obtain rfl:=h0 rfl;have hl:l=[]:=by
   cases l with
   |nil=>rfl
   |cons x l=>obtain⟨_,_,_,h,_⟩:=hel 0 x rfl;cases h
  subst hl;have hnil':=fun w:World=>Go.Lib.run_eql_slice_nil (P:=Tryz.prog) w 97 5 none 0 0 0 0 yc.ht;simp only [Option.isNone_none] at hnil';clear hel h0 hm h1 h2 hnil;show Calls _ _ #[()] _ _;go_enter Tryz.func82,Tryz.ntmps82;go_wp2;go_ret;exact⟨_,rfl,World.ownsRow_nil _ _ _ _,gY⟩
 |some ad=>
  have hc:=wW (f:=fA) (size:=1) ε (fun _=>rfl) (c:=w.cell?) (a:=some ad) (l:=l) (fun i x e=>by
   obtain⟨b,o,cs,ha,rfl,hA⟩:=hel i x e;exact⟨b,o,ha,hA⟩) ad rfl
  have hlen:(l.flatMap fA).length=l.length*1:=nI (f:=fA) (size:=1) (fun _=>rfl) l;have h1c:∀u∈l.flatMap fA,u.oneCell'=true:=rC one_byte l;simp only [Option.isNone_some] at hnil;have HC:=η hc;have HM:=η hm;clear hel hc hm h2;go_enter Tryz.func82,Tryz.ntmps82;go_wp2_with (at_builtin;go_loud (refine CQ (W:=w) yc rfl _ _ rfl ((Grow.refl w).alloc _) rfl (World.ownsRow_made w #[] 0 (Nat.le_refl _) (Nat.zero_le _) rfl) ad l.length cap (l.flatMap fA) rfl hlen ?_ ?_ ?_ ?_ ?_))
  ·intro j u hu;exact((Grow.refl w).alloc _).sub _ _ (HC.o j u hu)
  ·exact h1c
  ·have:=HM.o;unfold maxLen;omega
  ·have:=HM.o;omega
  ·intro v' w' hown hG _
   go_wp2;go_ret;exact⟨_,rfl,by simpa using hown,hG⟩
end Go.Proofs.YtocnmkefmgmkbaaGreat
