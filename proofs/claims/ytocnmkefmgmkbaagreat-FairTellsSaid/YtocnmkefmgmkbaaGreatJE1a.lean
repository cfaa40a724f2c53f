/- Parts of proofs, joined: Base, Types, Ty, Idx, Del, Own, App, Aux1, P1, P2, P3, P4, P6, Reg, RegM, Ov, H1, Map, P5, W1, W2, L1, L2, L3, W3, S1, K1, A6, N1, N2, N3, N4, N5, Clone, M1. No condition beside those that each theorem names. -/
import Derived.WalkKit
import Derived.WalkSpells
import Derived.WalkLawsBesides
import Derived.BigQuiet
import Derived.StillTailTactics
import Derived.Deep.RegionWith
import Derived.Deep.RegionLaw
import Derived.Lib.Hide
import Derived.Test.YtocnmkefmgmkbaaGreatRows
import Derived.Shelf.SlicesQ.IndexFunc
import Derived.Lib.SliceRun
import Derived.Deep.AppendLies
import Derived.Deep.RegionHeld3
import Derived.ChangeKeysEq
set_option maxRecDepth 100000
set_option maxHeartbeats 40000000
namespace Go.Proofs.YtocnmkefmgmkbaaGreat
theorem lzA {α : Type _} {xs : List α} {i : Nat} (h : i < xs.toArray.size) : xs.toArray[i] = xs[i]'(by simpa using h) := List.getElem_toArray h
theorem lzB {α : Type _} {a : α} {ys : List α} {i : Nat} (h : i + 1 < (a :: ys).length) : (a :: ys)[i + 1] = ys[i]'(Nat.lt_of_succ_lt_succ h) := List.getElem_cons_succ ..
theorem lzC {α : Type _} {a : α} {ys : List α} (h : 0 < (a :: ys).length) : (a :: ys)[0] = a := rfl
theorem Ae {α : Type _} (l : List α) (i : Nat) (a : α) : l.toArray.setIfInBounds i a = (l.set i a).toArray := List.setIfInBounds_toArray ..
theorem Af {α : Type _} {x a : α} {xs : List α} : (x :: xs).set 0 a = a :: xs := rfl
theorem Ag {α : Type _} {x a : α} {xs : List α} {n : Nat} : (x :: xs).set (n + 1) a = x :: xs.set n a := rfl
theorem I {p : Prop} (h : p) : Go.RowKit.Hid p := Lib.hid h
theorem γ {α : Type _} {xs : Array α} {i : Nat} {a : α} (h : xs[i]? = some a) : i < xs.size := (Array.getElem?_eq_some_iff.1 h).1
theorem _root_.Go.RowKit.Hid.o {p : Prop} (h : Go.RowKit.Hid p) : p := h.out
theorem je {a w : World} (h : Go.RowKit.Below a.heap.size a w := by repeat (first | with_reducible assumption | with_reducible exact aG _ | with_reducible apply aK.drewN | with_reducible apply aK.drew | with_reducible apply aK.alloc | (refine aK.setCell ?_ (by simp; done) _))) : Go.RowKit.Below a.heap.size a w := h
theorem Aw {a w : World} (h : Go.RowKit.Below a.heap.size a w := by repeat (first | with_reducible assumption | with_reducible exact aG _ | with_reducible apply aK.drewN | with_reducible apply aK.drew | with_reducible apply aK.alloc | (refine aK.trans ?_ (by with_reducible assumption)))) : Go.RowKit.Below a.heap.size a w := h
theorem V {p : Prop} (h : p := by omega) : p := h
theorem κ {p : Prop} (h : p := by kernel_rfl) : p := h
theorem ρ {p : Prop} (h : p := by rfl) : p := h
theorem ε {p : Prop} (h : p := by decide) : p := h
theorem σ {p : Prop} (h : p := by simp) : p := h
theorem lzP {a : Go.Act} {d : Nat} {v : Go.Value} : a.put (some d) v = { a with tmps := a.tmps.setIfInBounds d v } := rfl
theorem lzQ {a : Go.Act} {v : Go.Value} : a.put none v = a := rfl
theorem dD : type_of% (And.intro @lzA.{0} (And.intro @lzB.{0} @lzC.{0})) := And.intro @lzA.{0} (And.intro @lzB.{0} @lzC.{0})
theorem bT : type_of% (And.intro @lzP (And.intro @lzQ (And.intro dD (And.intro @Ae.{0} (And.intro @Af.{0} @Ag.{0}))))) := And.intro @lzP (And.intro @lzQ (And.intro dD (And.intro @Ae.{0} (And.intro @Af.{0} @Ag.{0}))))
inductive Vq where | q
def J := Vq.q
inductive Vs where | q
def U := Vs.q
instance : CoeFun Vq (fun _ => Int → Go.Value) := ⟨fun _ => .int .i64⟩
instance : CoeFun Vs (fun _ => Option Go.Addr → Nat → Nat → Go.Value) := ⟨fun _ => .slice⟩
instance : Coe Unit Go.Value := ⟨fun _ => .slice none 0 0⟩
theorem ψ {α β : Type} {A B K : α → β → Prop} (h : Go.RowKit.Hid (∀ a w, A a w ∧ B a w → K a w)) {a : α} {w : β} (x : A a w) (y : B a w) : K a w := Go.RowKit.Hid.out h a w ⟨x, y⟩
theorem χ {α : Type _} (a : α) : ∃ y, y = a := ⟨a, rfl⟩
instance : Coe Go.World Nat := ⟨fun w => w.heap.size⟩
theorem τ {q p : Prop} (h : q) (k : q → p := by intro _; omega) : p := k h
theorem ω {q p : Prop} (h : q) (k : q → p := by intro this; (try simp at this); omega) : p := k h
theorem φ {q p : Prop} (h : q) (k : q → p := by intro this; (try simp); omega) : p := k h
theorem lu : type_of% (And.intro (@List.length_nil.{0}) (And.intro (@List.length_cons.{0}) Nat.zero_add)) := And.intro (@List.length_nil.{0}) (And.intro (@List.length_cons.{0}) Nat.zero_add)
theorem iP {a b : Nat} (h : a ≠ b := by omega) : some a ≠ some b := fun e => h (Option.some.inj e)
theorem bI : type_of% @Option.some.inj.{0} := @Option.some.inj.{0}
theorem eH : type_of% @Go.World.block_lt_of_cell? := @Go.World.block_lt_of_cell?
theorem dM : type_of% @List.getElem?_eq_getElem.{0} := @List.getElem?_eq_getElem.{0}
theorem eG : type_of% @List.take_of_length_le.{0} := @List.take_of_length_le.{0}
theorem dw : type_of% @Go.bodyPost_ret := @Go.bodyPost_ret
theorem aV.{u} : type_of% @if_neg.{u} := @if_neg.{u}
theorem bC.{u} : type_of% @if_pos.{u} := @if_pos.{u}
end Go.Proofs.YtocnmkefmgmkbaaGreat
namespace Go.Proofs.YtocnmkefmgmkbaaGreat
open Go.RowKit
abbrev CM:=Addr->Option Value
def Sub (c c':CM):Prop:=∀a v,c a=some v->c' a=some v
theorem Sub.refl (c:CM):Sub c c:=fun _ _ h=>h
theorem Sub.trans {a b c:CM} (h:Sub a b) (k:Sub b c):Sub a c:=fun x v e=>k x v (h x v e)
theorem Sub.below {w w':World} (h:Below w.heap.size w w'):Sub w.cell? w'.cell?:=fun a v e=>by
 rw [h.cell (eH w a e)];exact e
abbrev aK (w w':World):Prop:=Below w.heap.size w w'
theorem aG (w:World):aK w w:=Below.refl _ _
theorem aK.trans {a b c:World} (h:aK a b) (k:aK b c):aK a c:=Below.trans h (k.mono h.size)
theorem aK.alloc {a w:World} (h:aK a w) (o:Obj):aK a (w.alloc o):=Below.alloc h h.size o
theorem aK.drew {a w:World} (h:aK a w):aK a w.drew:=Below.drew h
theorem aK.drewN {a w:World} (h:aK a w) (n:Nat):aK a (w.drewN n):=below_drewN h n
theorem aK.setCell {a w:World} (h:aK a w) {p:Addr} (hp:a.heap.size<=p.block) (u:Value):aK a (w.setCell p u):=Below.setCell h hp u
theorem aK.grown {a w w':World} {row:Option Nat} (h:aK a w) (hg:w.grownBy w' row) (hr:∀k,row=some k->a.heap.size<=k):aK a w':=Below.grown h hg h.size hr
theorem aK.sub {w w':World} (h:aK w w'):Sub w.cell? w'.cell?:=Sub.below h
theorem gu {W w1:World} (hb:aK W w1):(∀b o,b<W.heap.size->w1.cell? ⟨b,o,none⟩=W.cell? ⟨b,o,none⟩)/\(∀b o,b<W.heap.size->w1.frozen? ⟨b,o,none⟩=W.frozen? ⟨b,o,none⟩):=
 ⟨fun b o h=>hb.cell (p:=⟨b,o,none⟩) h,fun b o h=>hb.frozen (p:=⟨b,o,none⟩) h⟩
theorem dQ {k:IntKind} {a b:Int} (h:a=b):Ending.returned (.int k a)=.returned (.int k b):=by rw [h]
theorem dA {a b:Bool} (h:a=b):Ending.returned (.bool a)=.returned (.bool b):=by rw [h]
def At (c:CM) (b o:Nat) (xs:List Value):Prop:=∀j v,xs[j]? =some v->c ⟨b,o+j,none⟩=some v
theorem At.mono {c c':CM} {b o:Nat} {xs:List Value} (h:Sub c c') (k:At c b o xs):At c' b o xs:=fun j v e=>h _ _ (k j v e)
structure Ty (α:Type) where
 size:Nat
 R:CM->List Value->α->Prop
 len:∀{c cs x},R c cs x->cs.length=size
 mono:∀{c c' cs x},Sub c c'->R c cs x->R c' cs x
def Sl {α:Type} (T:Ty α) (c:CM) (v:Value) (l:List α):Prop:=
 ∃a cap,v=U a l.length cap/\l.length<=cap/\cap<=maxLen/\(a=none->cap=0)/\
  ∀i x,l[i]? =some x->∃b o cs,a=some ⟨b,o,none⟩/\T.R c cs x/\At c b (o+i*T.size) cs
theorem Sl.mono {α:Type} {T:Ty α} {c c':CM} {v:Value} {l:List α} (h:Sub c c') (k:Sl T c v l):Sl T c' v l:=by
 obtain⟨a,cap,hv,N,Y,h0,h3⟩:=k;refine⟨a,cap,hv,N,Y,h0,fun i x e=>?_⟩;obtain⟨b,o,cs,ha,hR,hA⟩:=h3 i x e;exact⟨b,o,cs,ha,T.mono h hR,hA.mono h⟩
def Ty.sl {α:Type} (T:Ty α):Ty (List α) where
 size:=1
 R:=fun c cs l=>∃v,cs=[v]/\Sl T c v l
 len:=by rintro c cs x ⟨v,rfl,_⟩;rfl
 mono:=by rintro c c' cs x h ⟨v,rfl,k⟩;exact⟨v,rfl,k.mono h⟩
def I64 (n:Int):Prop:=(Lit.int .i64 n).wf=true
def Ty.int:Ty Int where
 size:=1
 R:=fun _ cs n=>cs=[J n]/\I64 n
 len:=by rintro c cs x ⟨rfl,_⟩;rfl
 mono:=by rintro c c' cs x _ h;exact h
structure Pt where
 h:Int
 k:Int
 n:Int
 deriving DecidableEq
def Pt.cells (p:Pt):List Value:=[J p.h,J p.k,J p.n]
def Ty.pt:Ty Pt where
 size:=3
 R:=fun _ cs p=>cs=p.cells/\I64 p.h/\I64 p.k/\I64 p.n
 len:=by rintro c cs x ⟨rfl,_⟩;rfl
 mono:=by rintro c c' cs x _ h;exact h
abbrev pX:=Sl Ty.pt
theorem Kw {α:Type} {f:α->List Value} {size:Nat} (h0:0<size) (hf:∀x,(f x).length=size):∀(l:List α) (j:Nat),(l.flatMap f)[j]? =(l[j/size]?).bind fun x=>(f x)[j % size]?:=by
 intro l;induction l with
 |nil=>intro j;simp
 |cons x l ih=>
  intro j;rw [List.flatMap_cons];by_cases hj:j<size
  ·rw [List.getElem?_append_left (by rw [hf];exact hj),Nat.div_eq_of_lt hj,Nat.mod_eq_of_lt hj];rfl
  ·rw [List.getElem?_append_right (by rw [hf];omega),hf,ih,Nat.mod_eq_sub_mod (V:size<=j),Nat.div_eq_sub_div h0 (V:size<=j)]
   simp
theorem DZ {α:Type} {f:α->List Value} {size:Nat} (h0:0<size) (hf:∀x,(f x).length=size) {c:CM} {a:Option Addr} {l:List α}
  (h:∀i x,l[i]? =some x->∃b o,a=some ⟨b,o,none⟩/\At c b (o+i*size) (f x)):∀ad,a=some ad->∀j u,(l.flatMap f)[j]? =some u->c (ad.add j)=some u:=by
 rintro ad rfl j u hu;rw [Kw h0 hf] at hu;cases Z:l[j/size]? with
 |none=>rw [Z] at hu;cases hu
 |some x=>
  rw [Z] at hu;obtain⟨b,o,ha,hA⟩:=h _ x Z;obtain rfl:=bI ha;have:=hA _ u hu;rw [Nat.add_assoc,Nat.mul_comm,Nat.div_add_mod] at this;rw [Addr.add_lit];exact this
theorem Gy {α:Type} {T:Ty α} {f:α->List Value} (h0:0<T.size) (hf:∀x,(f x).length=T.size) {w:World} {base:Nat} {e:TypeId} {v:Value} {l:List α} (h:w.ownsRow base e T.size v l.length (l.flatMap f)) (hR:∀x∈l,T.R w.cell? (f x) x):Sl T w.cell? v l:=by
 obtain⟨hl,⟨rfl,hn⟩|⟨g,cap,cur,rfl,hg,hrow,hnc,hcm,hcs,htake⟩⟩:=h
 ·have:l=[]:=List.eq_nil_of_length_eq_zero hn
  subst this;exact⟨none,0,rfl,Nat.le_refl _,Nat.zero_le _,fun _=>rfl,fun i x e=>by simp at e⟩
 ·refine⟨some ⟨g,0,none⟩,cap,rfl,hnc,hcm,σ,fun i x e=>⟨g,0,f x,rfl,hR x (List.mem_of_getElem? e),fun j u hu=>?_⟩⟩
  have hi:i<l.length:=(List.getElem?_eq_some_iff.1 e).1;have hj:j<T.size:=by rw [<-hf x];exact(List.getElem?_eq_some_iff.1 hu).1
  have Z:(l.flatMap f)[i*T.size+j]? =some u:=by
   rw [Kw h0 hf,Nat.mul_comm,Nat.mul_add_div h0,Nat.div_eq_of_lt hj,Nat.add_zero,e,Nat.mul_add_mod,Nat.mod_eq_of_lt hj];exact hu
  rw [<-htake,List.getElem?_take] at Z;split at Z
  ·simp only [World.cell?,hrow];simpa using Z
  ·cases Z
theorem pX.at_ {c:CM} {a:Option Addr} {l:List Pt} (h:∀i x,l[i]? =some x->∃b o cs,a=some ⟨b,o,none⟩/\Ty.pt.R c cs x/\At c b (o+i*Ty.pt.size) cs) (k:Nat) (hk:k<l.length):
  ∃b o,a=some ⟨b,o,none⟩/\c ⟨b,o+k*3,none⟩=some (J l[k].h)/\c ⟨b,o+k*3+1,none⟩=some (J l[k].k)/\c ⟨b,o+k*3+2,none⟩=some (J l[k].n)/\I64 l[k].h/\I64 l[k].k/\I64 l[k].n:=by
 obtain⟨b,o,cs,ha,⟨rfl,N,Y,h3⟩,hA⟩:=h k l[k] (by simp [hk]);exact⟨b,o,ha,hA 0 _ rfl,hA 1 _ rfl,hA 2 _ rfl,N,Y,h3⟩
def yY (l:List Pt):List Value:=l.flatMap Pt.cells
theorem Ql (l:List Pt) (p:Pt):yY (l++ [p])=yY l++p.cells:=by simp [yY]
def AY (l:List Pt):Prop:=∀p∈l,I64 p.h/\I64 p.k/\I64 p.n
theorem pX.ok {c:CM} {v:Value} {l:List Pt} (h:pX c v l):AY l:=by
 obtain⟨a,cap,rfl,N,Y,h0,hel⟩:=h;intro p hp;obtain⟨i,hi⟩:=List.mem_iff_getElem?.1 hp;obtain⟨b,o,cs,ha,⟨rfl,h⟩,hA⟩:=hel i p hi;exact h
theorem pX.yZ {w:World} {base:Nat} {e:TypeId} {v:Value} {l:List Pt} (h:w.ownsRow base e 3 v l.length (yY l)) (hok:AY l):pX w.cell? v l:=
 Gy (T:=Ty.pt) (f:=Pt.cells) ε (fun _=>rfl) h fun x Z=>⟨rfl,hok x Z⟩
def jf (b:UInt8):List Value:=[.int .u8 b.toNat]
def Ty.byte:Ty UInt8 where
 size:=1
 R:=fun _ cs b=>cs=jf b
 len:=by rintro c cs x rfl;rfl
 mono:=by rintro c c' cs x _ h;exact h
abbrev Ya:=Sl Ty.byte
def eX (n:Int):List Value:=[J n]
abbrev Ints:=Sl Ty.int
theorem Ints.yZ {w:World} {base:Nat} {e:TypeId} {v:Value} {l:List Int} (h:w.ownsRow base e 1 v l.length (l.flatMap eX)) (hok:∀x∈l,I64 x):Ints w.cell? v l:=
 Gy (T:=Ty.int) (f:=eX) ε (fun _=>rfl) h fun x Z=>⟨rfl,hok x Z⟩
theorem Ya.yZ {w:World} {base:Nat} {e:TypeId} {v:Value} {l:List UInt8} (h:w.ownsRow base e 1 v l.length (l.flatMap jf)):Ya w.cell? v l:=
 Gy (T:=Ty.byte) (f:=jf) ε (fun _=>rfl) h fun x Z=>rfl
theorem qG {α:Type} {f:α->List Value} {size:Nat} (hf:∀x,(f x).length=size):∀l:List α,(l.flatMap f).length=l.length*size
 | []=>by simp
 |x::l=>by rw [List.flatMap_cons,List.length_append,hf,qG hf l,List.length_cons,Nat.add_mul];omega
theorem yx {α:Type} {f:α->List Value} (hf:∀x,∀u∈f x,u.oneCell'=true) (l:List α):∀u∈l.flatMap f,u.oneCell'=true:=by
 intro u hu;obtain⟨x,_,Z⟩:=List.mem_flatMap.1 hu;exact hf x u Z
theorem Wn (x:Pt):∀u∈x.cells,u.oneCell'=true:=by
 intro u hu;simp only [Pt.cells,List.mem_cons,List.not_mem_nil,or_false] at hu;rcases hu with rfl|rfl|rfl<;>rfl
theorem EO (x:Int):∀u∈eX x,u.oneCell'=true:=by
 intro u hu;simp only [eX,List.mem_cons,List.not_mem_nil,or_false] at hu;subst hu;rfl
theorem one_byte (x:UInt8):∀u∈jf x,u.oneCell'=true:=by
 intro u hu;simp only [jf,List.mem_cons,List.not_mem_nil,or_false] at hu;subst hu;rfl
structure Sm where
 a:Int
 b:Int
 c:Int
 d:Int
 deriving DecidableEq
def Sm.cells (s:Sm):List Value:=[J s.a,J s.b,J s.c,J s.d]
def Ty.sm:Ty Sm where
 size:=4
 R:=fun _ cs s=>cs=s.cells/\I64 s.a/\I64 s.b/\I64 s.c/\I64 s.d
 len:=by rintro c cs x ⟨rfl,_⟩;rfl
 mono:=by rintro c c' cs x _ h;exact h
abbrev Ty.pts:=Ty.sl Ty.pt
structure Rc where
 aX:Int
 aJ:Int
 aH:List Pt
 deriving DecidableEq
def Ty.rc:Ty Rc where
 size:=3
 R:=fun c cs x=>∃fC:Value,cs=[J x.aX,J x.aJ,fC]/\I64 x.aX/\I64 x.aJ/\Sl Ty.pt c fC x.aH
 len:=by rintro c cs x ⟨fC,rfl,_⟩;rfl
 mono:=by rintro c c' cs x h ⟨fC,rfl,N,Y,h3⟩;exact⟨fC,rfl,N,Y,h3.mono h⟩
abbrev NT:=Sl Ty.rc
theorem NT.at_ {c:CM} {a:Option Addr} {l:List Rc} (h:∀i x,l[i]? =some x->∃b o cs,a=some ⟨b,o,none⟩/\Ty.rc.R c cs x/\At c b (o+i*Ty.rc.size) cs) (k:Nat) (hk:k<l.length):
  ∃b o fC,a=some ⟨b,o,none⟩/\c ⟨b,o+k*3,none⟩=some (J l[k].aX)/\c ⟨b,o+k*3+1,none⟩=some (J l[k].aJ)/\c ⟨b,o+k*3+2,none⟩=some fC/\I64 l[k].aX/\I64 l[k].aJ/\Sl Ty.pt c fC l[k].aH:=by
 obtain⟨b,o,cs,ha,⟨fC,rfl,hR⟩,hA⟩:=h k l[k] (by simp [hk]);exact⟨b,o,fC,ha,hA 0 _ rfl,hA 1 _ rfl,hA 2 _ rfl,hR⟩
structure Rd where
 aJ:Int
 aH:List Pt
 deriving DecidableEq
def Ty.rd:Ty Rd where
 size:=2
 R:=fun c cs x=>∃fC:Value,cs=[J x.aJ,fC]/\I64 x.aJ/\Sl Ty.pt c fC x.aH
 len:=by rintro c cs x ⟨fC,rfl,_⟩;rfl
 mono:=by rintro c c' cs x h ⟨fC,rfl,N,Y⟩;exact⟨fC,rfl,N,Y.mono h⟩
abbrev VU:=Sl Ty.rd
theorem VU.at_ {c:CM} {a:Option Addr} {l:List Rd} (h:∀i x,l[i]? =some x->∃b o cs,a=some ⟨b,o,none⟩/\Ty.rd.R c cs x/\At c b (o+i*Ty.rd.size) cs) (k:Nat) (hk:k<l.length):
  ∃b o fC,a=some ⟨b,o,none⟩/\c ⟨b,o+k*2,none⟩=some (J l[k].aJ)/\c ⟨b,o+k*2+1,none⟩=some fC/\I64 l[k].aJ/\Sl Ty.pt c fC l[k].aH:=by
 obtain⟨b,o,cs,ha,⟨fC,rfl,hR⟩,hA⟩:=h k l[k] (by simp [hk]);exact⟨b,o,fC,ha,hA 0 _ rfl,hA 1 _ rfl,hR⟩
structure Opn where
 aJ:Int
 aH:List Pt
 dec:Bool
 aZ:List Int
 deriving DecidableEq
def Ty.bG:Ty Opn where
 size:=4
 R:=fun c cs x=>∃fC xP:Value,cs=[J x.aJ,fC,.bool x.dec,xP]/\I64 x.aJ/\Sl Ty.pt c fC x.aH/\Sl Ty.int c xP x.aZ
 len:=by rintro c cs x ⟨fC,xP,rfl,_⟩;rfl
 mono:=by rintro c c' cs x h ⟨fC,xP,rfl,N,Y,h3⟩;exact⟨fC,xP,rfl,N,Y.mono h,h3.mono h⟩
abbrev EP:=Sl Ty.bG
theorem EP.at_ {c:CM} {a:Option Addr} {l:List Opn} (h:∀i x,l[i]? =some x->∃b o cs,a=some ⟨b,o,none⟩/\Ty.bG.R c cs x/\At c b (o+i*Ty.bG.size) cs) (k:Nat) (hk:k<l.length):
  ∃b o fC xP,a=some ⟨b,o,none⟩/\c ⟨b,o+k*4,none⟩=some (J l[k].aJ)/\c ⟨b,o+k*4+1,none⟩=some fC/\c ⟨b,o+k*4+2,none⟩=some (.bool l[k].dec)/\c ⟨b,o+k*4+3,none⟩=some xP/\I64 l[k].aJ/\Sl Ty.pt c fC l[k].aH/\Sl Ty.int c xP l[k].aZ:=by
 obtain⟨b,o,cs,ha,⟨fC,xP,rfl,hR⟩,hA⟩:=h k l[k] (by simp [hk]);exact⟨b,o,fC,xP,ha,hA 0 _ rfl,hA 1 _ rfl,hA 2 _ rfl,hA 3 _ rfl,hR⟩
structure Ms where
 aX:Int
 aJ:Int
 aU:Int
 aH:List Pt
 deriving DecidableEq
def Ty.ms:Ty Ms where
 size:=4
 R:=fun c cs x=>∃fC:Value,cs=[J x.aX,J x.aJ,J x.aU,fC]/\I64 x.aX/\I64 x.aJ/\I64 x.aU/\Sl Ty.pt c fC x.aH
 len:=by rintro c cs x ⟨fC,rfl,_⟩;rfl
 mono:=by rintro c c' cs x h ⟨fC,rfl,N,Y,h3,h4⟩;exact⟨fC,rfl,N,Y,h3,h4.mono h⟩
abbrev Mss:=Sl Ty.ms
theorem Mss.at_ {c:CM} {a:Option Addr} {l:List Ms} (h:∀i x,l[i]? =some x->∃b o cs,a=some ⟨b,o,none⟩/\Ty.ms.R c cs x/\At c b (o+i*Ty.ms.size) cs) (k:Nat) (hk:k<l.length):
  ∃b o fC,a=some ⟨b,o,none⟩/\c ⟨b,o+k*4,none⟩=some (J l[k].aX)/\c ⟨b,o+k*4+1,none⟩=some (J l[k].aJ)/\c ⟨b,o+k*4+2,none⟩=some (J l[k].aU)/\c ⟨b,o+k*4+3,none⟩=some fC/\I64 l[k].aX/\I64 l[k].aJ/\I64 l[k].aU/\Sl Ty.pt c fC l[k].aH:=by
 obtain⟨b,o,cs,ha,⟨fC,rfl,hR⟩,hA⟩:=h k l[k] (by simp [hk]);exact⟨b,o,fC,ha,hA 0 _ rfl,hA 1 _ rfl,hA 2 _ rfl,hA 3 _ rfl,hR⟩
structure St where
 aX:Int
 n:Int
 aH:List Pt
 deriving DecidableEq
def Ty.st:Ty St where
 size:=3
 R:=fun c cs x=>∃fC:Value,cs=[J x.aX,J x.n,fC]/\I64 x.aX/\I64 x.n/\Sl Ty.pt c fC x.aH
 len:=by rintro c cs x ⟨fC,rfl,_⟩;rfl
 mono:=by rintro c c' cs x h ⟨fC,rfl,N,Y,h3⟩;exact⟨fC,rfl,N,Y,h3.mono h⟩
abbrev Sts:=Sl Ty.st
theorem Sts.at_ {c:CM} {a:Option Addr} {l:List St} (h:∀i x,l[i]? =some x->∃b o cs,a=some ⟨b,o,none⟩/\Ty.st.R c cs x/\At c b (o+i*Ty.st.size) cs) (k:Nat) (hk:k<l.length):
  ∃b o fC,a=some ⟨b,o,none⟩/\c ⟨b,o+k*3,none⟩=some (J l[k].aX)/\c ⟨b,o+k*3+1,none⟩=some (J l[k].n)/\c ⟨b,o+k*3+2,none⟩=some fC/\I64 l[k].aX/\I64 l[k].n/\Sl Ty.pt c fC l[k].aH:=by
 obtain⟨b,o,cs,ha,⟨fC,rfl,hR⟩,hA⟩:=h k l[k] (by simp [hk]);exact⟨b,o,fC,ha,hA 0 _ rfl,hA 1 _ rfl,hA 2 _ rfl,hR⟩
structure Hs where
 bg:List Rc
 aP:Sm
 ready:List Rd
 done:List Int
 deriving DecidableEq
def Ty.hs:Ty Hs where
 size:=7
 R:=fun c cs x=>∃uO xQ Dv:Value,cs=[uO,J x.aP.a,J x.aP.b,J x.aP.c,J x.aP.d,xQ,Dv]/\Sl Ty.rc c uO x.bg/\I64 x.aP.a/\I64 x.aP.b/\I64 x.aP.c/\I64 x.aP.d/\Sl Ty.rd c xQ x.ready/\Sl Ty.int c Dv x.done
 len:=by rintro c cs x ⟨uO,xQ,Dv,rfl,_⟩;rfl
 mono:=by rintro c c' cs x h ⟨uO,xQ,Dv,rfl,N,Y,h3,h4,h5,h6,h7⟩;exact⟨uO,xQ,Dv,rfl,N.mono h,Y,h3,h4,h5,h6.mono h,h7.mono h⟩
abbrev VW:=Sl Ty.hs
theorem VW.at_ {c:CM} {a:Option Addr} {l:List Hs} (h:∀i x,l[i]? =some x->∃b o cs,a=some ⟨b,o,none⟩/\Ty.hs.R c cs x/\At c b (o+i*Ty.hs.size) cs) (k:Nat) (hk:k<l.length):
  ∃b o uO xQ Dv,a=some ⟨b,o,none⟩/\c ⟨b,o+k*7,none⟩=some uO/\c ⟨b,o+k*7+1,none⟩=some (J l[k].aP.a)/\c ⟨b,o+k*7+2,none⟩=some (J l[k].aP.b)/\c ⟨b,o+k*7+3,none⟩=some (J l[k].aP.c)/\c ⟨b,o+k*7+4,none⟩=some (J l[k].aP.d)/\c ⟨b,o+k*7+5,none⟩=some xQ/\c ⟨b,o+k*7+6,none⟩=some Dv/\Sl Ty.rc c uO l[k].bg/\I64 l[k].aP.a/\I64 l[k].aP.b/\I64 l[k].aP.c/\I64 l[k].aP.d/\Sl Ty.rd c xQ l[k].ready/\Sl Ty.int c Dv l[k].done:=by
 obtain⟨b,o,cs,ha,⟨uO,xQ,Dv,rfl,hR⟩,hA⟩:=h k l[k] (by simp [hk]);exact⟨b,o,uO,xQ,Dv,ha,hA 0 _ rfl,hA 1 _ rfl,hA 2 _ rfl,hA 3 _ rfl,hA 4 _ rfl,hA 5 _ rfl,hA 6 _ rfl,hR⟩
structure Hd where
 bg:List Rc
 aW:Int
 next:Int
 bG:List Opn
 deriving DecidableEq
def Ty.hd:Ty Hd where
 size:=4
 R:=fun c cs x=>∃uO Gz:Value,cs=[uO,J x.aW,J x.next,Gz]/\Sl Ty.rc c uO x.bg/\I64 x.aW/\I64 x.next/\Sl Ty.bG c Gz x.bG
 len:=by rintro c cs x ⟨uO,Gz,rfl,_⟩;rfl
 mono:=by rintro c c' cs x h ⟨uO,Gz,rfl,N,Y,h3,h4⟩;exact⟨uO,Gz,rfl,N.mono h,Y,h3,h4.mono h⟩
abbrev Hds:=Sl Ty.hd
theorem Hds.at_ {c:CM} {a:Option Addr} {l:List Hd} (h:∀i x,l[i]? =some x->∃b o cs,a=some ⟨b,o,none⟩/\Ty.hd.R c cs x/\At c b (o+i*Ty.hd.size) cs) (k:Nat) (hk:k<l.length):
  ∃b o uO Gz,a=some ⟨b,o,none⟩/\c ⟨b,o+k*4,none⟩=some uO/\c ⟨b,o+k*4+1,none⟩=some (J l[k].aW)/\c ⟨b,o+k*4+2,none⟩=some (J l[k].next)/\c ⟨b,o+k*4+3,none⟩=some Gz/\Sl Ty.rc c uO l[k].bg/\I64 l[k].aW/\I64 l[k].next/\Sl Ty.bG c Gz l[k].bG:=by
 obtain⟨b,o,cs,ha,⟨uO,Gz,rfl,hR⟩,hA⟩:=h k l[k] (by simp [hk]);exact⟨b,o,uO,Gz,ha,hA 0 _ rfl,hA 1 _ rfl,hA 2 _ rfl,hA 3 _ rfl,hR⟩
abbrev Ty.bts:=Ty.sl Ty.byte
structure Wd where
 aN:Hd
 aI:List Hs
 bM:List (List UInt8)
 deriving DecidableEq
def Of {α:Type} (T:Ty α) (c:CM) (v:Value) (x:α):Prop:=∃cs:List Value,v=.agg cs.toArray/\T.R c cs x
theorem Of.mono {α:Type} {T:Ty α} {c c':CM} {v:Value} {x:α} (h:Sub c c') (k:Of T c v x):Of T c' v x:=by
 obtain⟨cs,rfl,hR⟩:=k;exact⟨cs,rfl,T.mono h hR⟩
theorem xu {c:CM} {a:Option Addr} {l:List Int} (h:∀i x,l[i]? =some x->∃b o cs,a=some ⟨b,o,none⟩/\Ty.int.R c cs x/\At c b (o+i*Ty.int.size) cs) (k:Nat) (hk:k<l.length):
  ∃b o,a=some ⟨b,o,none⟩/\c ⟨b,o+k,none⟩=some (J l[k])/\I64 l[k]:=by
 obtain⟨b,o,cs,ha,⟨rfl,hR⟩,hA⟩:=h k l[k] (by simp [hk]);refine⟨b,o,ha,?_,hR⟩;have:=hA 0 _ rfl;simpa [Ty.int] using this
theorem byteAt {c:CM} {a:Option Addr} {l:List UInt8} (h:∀i x,l[i]? =some x->∃b o cs,a=some ⟨b,o,none⟩/\Ty.byte.R c cs x/\At c b (o+i*Ty.byte.size) cs) (k:Nat) (hk:k<l.length):
  ∃b o,a=some ⟨b,o,none⟩/\c ⟨b,o+k,none⟩=some (.int .u8 (l[k].toNat:Int)):=by
 obtain⟨b,o,cs,ha,rfl,hA⟩:=h k l[k] (by simp [hk]);refine⟨b,o,ha,?_⟩;have:=hA 0 _ rfl;simpa [Ty.byte] using this
structure EI (P:Program) (t e:TypeId) (size bytes:Nat):Prop where
 ht:P.underlying t=some (.slice e)
 hi:∃i z,P.info? e=some i/\i.zero=some z/\i.size=size/\i.bytes=bytes/\z.cells.size=size/\0<size/\∀u∈z.cells,u.oneCell'=true
theorem EI.mk' {P:Program} {t e:TypeId} {size bytes:Nat} {z:Value} (ht:P.underlying t=some (.slice e)) (h:(P.info? e).map (fun i=>(i.zero,i.size,i.bytes))=some (some z,size,bytes)) (hz:z.cells.size=size) (h0:0<size) (N:z.cells.toList.all (fun u=>u.oneCell')=true):EI P t e size bytes:=by
 obtain⟨i,hi,h1',Y,h3⟩:=info_parts h;exact⟨ht,i,z,hi,h1',Y,h3,hz,h0,fun u hu=>by simpa using List.all_eq_true.1 N u (by simpa using hu)⟩
theorem Ky:EI Tryz.prog 23 111 3 24:=EI.mk' (z:=.agg #[J 0,J 0,J 0]) κ κ rfl ε rfl
theorem jL:EI Tryz.prog 48 3 1 8:=EI.mk' (z:=J 0) κ κ rfl ε rfl
theorem ER:EI Tryz.prog 97 5 1 1:=EI.mk' (z:=.int .u8 0) κ κ rfl ε rfl
theorem mX:EI Tryz.prog 26 79 3 40:=EI.mk' (z:=.agg #[J 0,J 0,()]) κ κ rfl ε rfl
theorem AZ:EI Tryz.prog 45 53 2 32:=EI.mk' (z:=.agg #[J 0,()]) κ κ rfl ε rfl
theorem kF:EI Tryz.prog 27 58 4 64:=EI.mk' (z:=.agg #[J 0,(),.bool false,()]) κ κ rfl ε rfl
theorem Ah:EI Tryz.prog 90 85 4 48:=EI.mk' (z:=.agg #[J 0,J 0,J 0,()]) κ κ rfl ε rfl
theorem oq:EI Tryz.prog 31 97 1 24:=EI.mk' (z:=U none 0 0) κ κ rfl ε rfl
theorem Kz:EI Tryz.prog 38 34 1 8:=EI.mk' (z:=J 0) κ κ rfl ε rfl
theorem JX {P:Program} {t e:TypeId} {size bytes:Nat} (hE:EI P t e size bytes) {W w:World} {ops:Array Oper} {rest:List Oper} {o:Oper} {a:Act} {Q:Exit->Act->World->Prop} (hgd:o.guard=none) (s x:Operand)
  (ho:o.op=.call { callee:=.builtin .append,args:=#[s,x],argTypes:=#[t,t] }) (hG:aK W w)
  {v:Value} {n:Nat} {xs:List Value} (hs:a.eval s=v) (bU:w.ownsRow W.heap.size e size v n xs)
  (ad:Addr) (m c:Nat) (news:List Value) (Z:a.eval x=U (some ad) m c) (hl:news.length=m*size) (hnews:∀j u,news[j]? =some u->w.cell? (ad.add j)=some u) (N:∀u∈news,u.oneCell'=true)
  (BC:n+m<=maxLen) (hbytes:(n+m)*bytes<=140737488355328)
  (h:∀v' w',w'.ownsRow W.heap.size e size v' (n+m) (xs++news)->aK W w'->w.grownBy w' v.ownBlock->wpList P ops Q rest (a.put o.dst v') w'):wpList P ops Q (o::rest) a w:=by
 obtain⟨i,z,hi,hz,Y,h3,h4,h5,_⟩:=hE.hi;exact wpList_append_own w hgd s x t ho W.heap.size e i z size bytes hE.ht hi hz Y h3 h4 h5 v n xs hs bU ad m c news Z hl hnews N BC hbytes hG.size fun v' w' a b _=>
  h v' w' a (hG.grown b fun k hk=>(bU.lt k hk).1) b
theorem rP (w:World) (c:Array Value) (t:TypeId):∀j u,c.toList[j]? =some u->(w.alloc (.cells c t)).cell? ((⟨w,0,none⟩:Addr).add j)=some u:=by
 intro j u h;have e:((⟨w,0,none⟩:Addr).add j)=⟨w,j,none⟩:=by unfold Addr.add;split<;>simp_all
 rw [e,World.cell?_alloc_new];simpa using h
theorem app1 {P:Program} {t e:TypeId} {size bytes:Nat} (hE:EI P t e size bytes) {W w0:World} {c:Array Value} {ops:Array Oper} {rest:List Oper} {o:Oper} {a:Act} {Q:Exit->Act->World->Prop} (hgd:o.guard=none) (s x:Operand)
  (ho:o.op=.call { callee:=.builtin .append,args:=#[s,x],argTypes:=#[t,t] }) (hG:aK W w0)
  {v:Value} {n:Nat} {xs:List Value} (hs:a.eval s=v) (bU:w0.ownsRow W.heap.size e size v n xs)
  {g:Nat} (Z:a.eval x=U (some ⟨g,0,none⟩) 1 1) (hg:g=w0.heap.size) (hl:c.toList.length=size) (N:∀u∈c.toList,u.oneCell'=true)
  (hbytes:(n+1)*bytes<=140737488355328) (zi:0<bytes)
  (h:∀v' w',w'.ownsRow W.heap.size e size v' (n+1) (xs++c.toList)->aK W w'->(w0.alloc (.cells c e)).grownBy w' v.ownBlock->wpList P ops Q rest (a.put o.dst v') w'):wpList P ops Q (o::rest) a (w0.alloc (.cells c e)):=by
 subst hg;exact JX hE hgd s x ho (hG.alloc _) hs (bU.alloc _) _ 1 1 c.toList Z V (rP w0 c e) N (by
  have Y:n+1<=(n+1)*bytes:=Nat.le_mul_of_pos_right _ zi;unfold maxLen;omega) hbytes h
def idxOf {α:Type} (p:α->Bool) (l:List α):Int:=match l.findIdx? p with|some i=>i|none=>-1
theorem zk {α:Type} (p:α->Bool) (l:List α):decide (0<=idxOf p l)=l.any p:=by
 unfold idxOf;cases h:l.findIdx? p with
 |none=>
  rw [List.findIdx?_eq_none_iff] at h;symm;simp only [show decide ((0:Int)<= -1)=false from rfl];rw [List.any_eq_false];intro x Z;simp [h x Z]
 |some i=>
  rw [List.findIdx?_eq_some_iff_getElem] at h;obtain⟨hi,hp,_⟩:=h;simp only [show decide ((0:Int)<=(i:Int))=true by simp];symm;rw [List.any_eq_true];exact⟨l[i],List.getElem_mem _,hp⟩
structure xw {α:Type} (P:Program) (T:Ty α) (val:List Value->Value) (w:World) (F:FuncId) (caps:Array Value) (l:List α) (p:α->Bool):Prop where
 ent:∀args w,(callFunc F args).run P w=.ok (.enter F args) w
 say:∀(wx:World) (cs:List Value) (x:α),aK w wx->x∈l->T.R wx.cell? cs x->Calls P F (#[val cs]++caps) wx fun e w'=>e=.returned (.bool (p x))/\aK wx w'
def qH (cs:List Value):Value:=.agg cs.toArray
theorem xw.dL {α:Type} {P:Program} {T:Ty α} {val:List Value->Value} {w w':World} {F:FuncId} {caps:Array Value} {l:List α} {p:α->Bool} (h:xw P T val w F caps l p) (hg:aK w w'):xw P T val w' F caps l p:=
 ⟨h.ent,fun wx cs x hG=>h.say wx cs x (hg.trans hG)⟩
theorem ES {α:Type} {p:α->Bool} {l:List α} {k:Nat} (hlt:k<l.length) (hE:(l.take k).findIdx? p=none):
  (p l[k]=true->idxOf p l=(k:Int))/\(p l[k]=false->(l.take (k+1)).findIdx? p=none):=by
 constructor
 ·intro O
  have:l.findIdx? p=some k:=by
   rw [List.findIdx?_eq_some_iff_getElem];refine⟨hlt,O,fun j hj=>?_⟩;rw [List.findIdx?_eq_none_iff] at hE;have h:=hE l[j] (by rw [List.mem_take_iff_getElem];exact⟨j,V,rfl⟩);simpa using h
  rw [idxOf,this]
 ·intro O
  rw [List.take_succ_eq_append_getElem hlt,List.findIdx?_append,hE];simp [O]
theorem ET {v:Value} {l:List Pt} {F:FuncId} {caps:Array Value} {p:Pt->Bool} (w:World) (hv:Sl Ty.pt w.cell? v l) (hp:xw Tryz.prog Ty.pt qH w F caps l p):
  Calls Tryz.prog 133 #[v,.func (.func F) #[] caps] w fun e w'=>e=.returned (J (idxOf p l))/\aK w w':=by
 obtain⟨a,cap,rfl,N,Y,-,hel⟩:=hv;unfold maxLen at Y;go_enter Tryz.func133,Tryz.ntmps133;go_wp2;go_loopw [4,5,8] (fun _ _ i wr=>∃k:Nat,k<=l.length/\i=J k/\aK w wr/\(l.take k).findIdx? p=none) (fun _ _ i _=>l.length - (intOf i).toNat)
 case atStart=>exact⟨0,V,rfl,aG _,rfl⟩
 case round=>
  obtain⟨k,hk',rfl,hb,hE⟩:=hrel;have HE:=I hE;clear hE;by_cases hlt:k<l.length
  ·obtain⟨b,o,rfl,c0,c1,c2,hR⟩:=pX.at_ hel k hlt
   replace c0:=hb.sub _ _ c0;replace c1:=hb.sub _ _ c1;replace c2:=hb.sub _ _ c2;have HP:=I (hp.say wr l[k].cells l[k] hb (List.getElem_mem _) ⟨rfl,hR⟩);have eg:=hp.ent;obtain⟨Dw,Dx⟩:=ES hlt HE.o;clear HE hp hel hR;simp only [Pt.cells,qH] at HP;generalize l[k]=q at*;have H1:=I Dw;have H2:=I Dx;clear Dw Dx;cases O:p q
   ·rw [O] at HP
    go_wp2_with (go_at_fn F;refine HP.o.mono ?_;rintro e w' ⟨rfl,hb'⟩)
    go_roundw
    case rel=>exact⟨k+1,V,by go_num,hb.trans hb',H2.o O⟩
    case measure=>simp [intOf];omega
   ·rw [O] at HP
    go_wp2_with (go_at_fn F;refine HP.o.mono ?_;rintro e w' ⟨rfl,hb'⟩)
    go_ret;exact⟨dQ (H1.o O).symm,hb.trans hb'⟩
  ·clear hel hp
   go_wp2;go_ret;refine⟨dQ ?_,hb⟩;have h:=HE.o;rw [eG V] at h;rw [idxOf,h]
theorem uh {v:Value} {l:List Pt} {F:FuncId} {caps:Array Value} {p:Pt->Bool} (w:World) (hv:Sl Ty.pt w.cell? v l) (hp:xw Tryz.prog Ty.pt qH w F caps l p):
  Calls Tryz.prog 111 #[v,.func (.func F) #[] caps] w fun e w'=>e=.returned (.bool (l.any p))/\aK w w':=by
 have HI:=I (ET w hv hp);have HN:=I (zk p l);clear hv hp;generalize idxOf p l=i at*;go_enter Tryz.func111,Tryz.ntmps111;go_wp2_with (go_at_call 133;refine HI.o.mono ?_;rintro e w' ⟨rfl,hb'⟩)
 go_ret;exact⟨dA HN.o,hb'⟩
theorem EU {v:Value} {l:List Rd} {F:FuncId} {caps:Array Value} {p:Rd->Bool} (w:World) (hv:Sl Ty.rd w.cell? v l) (hp:xw Tryz.prog Ty.rd qH w F caps l p):
  Calls Tryz.prog 109 #[v,.func (.func F) #[] caps] w fun e w'=>e=.returned (J (idxOf p l))/\aK w w':=by
 obtain⟨a,cap,rfl,N,Y,-,hel⟩:=hv;unfold maxLen at Y;go_enter Tryz.func109,Tryz.ntmps109;go_wp2;go_loopw [4,5,8] (fun _ _ i wr=>∃k:Nat,k<=l.length/\i=J k/\aK w wr/\(l.take k).findIdx? p=none) (fun _ _ i _=>l.length - (intOf i).toNat)
 case atStart=>exact⟨0,V,rfl,aG _,rfl⟩
 case round=>
  obtain⟨k,hk',rfl,hb,hE⟩:=hrel;have HE:=I hE;clear hE;by_cases hlt:k<l.length
  ·obtain⟨b,o,v1,rfl,c0,c1,hR⟩:=VU.at_ hel k hlt
   replace c0:=hb.sub _ _ c0;replace c1:=hb.sub _ _ c1;have HP:=I (hp.say wr [J l[k].aJ,v1] l[k] hb (List.getElem_mem _) ⟨v1,rfl,hR.1,hR.2.mono hb.sub⟩);have eg:=hp.ent;obtain⟨Dw,Dx⟩:=ES hlt HE.o;clear HE hp hel hR;simp only [qH] at HP;generalize l[k]=q at*;have H1:=I Dw;have H2:=I Dx;clear Dw Dx;cases O:p q
   ·rw [O] at HP
    go_wp2_with (go_at_fn F;refine HP.o.mono ?_;rintro e w' ⟨rfl,hb'⟩)
    go_roundw
    case rel=>exact⟨k+1,V,by go_num,hb.trans hb',H2.o O⟩
    case measure=>simp [intOf];omega
   ·rw [O] at HP
    go_wp2_with (go_at_fn F;refine HP.o.mono ?_;rintro e w' ⟨rfl,hb'⟩)
    go_ret;exact⟨dQ (H1.o O).symm,hb.trans hb'⟩
  ·clear hel hp
   go_wp2;go_ret;refine⟨dQ ?_,hb⟩;have h:=HE.o;rw [eG V] at h;rw [idxOf,h]
theorem JH {v:Value} {l:List Rd} {F:FuncId} {caps:Array Value} {p:Rd->Bool} (w:World) (hv:Sl Ty.rd w.cell? v l) (hp:xw Tryz.prog Ty.rd qH w F caps l p):
  Calls Tryz.prog 137 #[v,.func (.func F) #[] caps] w fun e w'=>e=.returned (.bool (l.any p))/\aK w w':=by
 have HI:=I (EU w hv hp);have HN:=I (zk p l);clear hv hp;generalize idxOf p l=i at*;go_enter Tryz.func137,Tryz.ntmps137;go_wp2_with (go_at_call 109;refine HI.o.mono ?_;rintro e w' ⟨rfl,hb'⟩)
 go_ret;exact⟨dA HN.o,hb'⟩
theorem Dy {v:Value} {l:List Opn} {F:FuncId} {caps:Array Value} {p:Opn->Bool} (w:World) (hv:Sl Ty.bG w.cell? v l) (hp:xw Tryz.prog Ty.bG qH w F caps l p):
  Calls Tryz.prog 118 #[v,.func (.func F) #[] caps] w fun e w'=>e=.returned (J (idxOf p l))/\aK w w':=by
 obtain⟨a,cap,rfl,N,Y,-,hel⟩:=hv;unfold maxLen at Y;go_enter Tryz.func118,Tryz.ntmps118;go_wp2;go_loopw [4,5,8] (fun _ _ i wr=>∃k:Nat,k<=l.length/\i=J k/\aK w wr/\(l.take k).findIdx? p=none) (fun _ _ i _=>l.length - (intOf i).toNat)
 case atStart=>exact⟨0,V,rfl,aG _,rfl⟩
 case round=>
  obtain⟨k,hk',rfl,hb,hE⟩:=hrel;have HE:=I hE;clear hE;by_cases hlt:k<l.length
  ·obtain⟨b,o,v1,v2,rfl,c0,c1,c2,c3,hR⟩:=EP.at_ hel k hlt
   replace c0:=hb.sub _ _ c0;replace c1:=hb.sub _ _ c1;replace c2:=hb.sub _ _ c2;replace c3:=hb.sub _ _ c3;have HP:=I (hp.say wr [J l[k].aJ,v1,.bool l[k].dec,v2] l[k] hb (List.getElem_mem _) ⟨v1,v2,rfl,hR.1,hR.2.1.mono hb.sub,hR.2.2.mono hb.sub⟩);have eg:=hp.ent;obtain⟨Dw,Dx⟩:=ES hlt HE.o;clear HE hp hel hR;simp only [qH] at HP;generalize l[k]=q at*;have H1:=I Dw;have H2:=I Dx;clear Dw Dx;cases O:p q
   ·rw [O] at HP
    go_wp2_with (go_at_fn F;refine HP.o.mono ?_;rintro e w' ⟨rfl,hb'⟩)
    go_roundw
    case rel=>exact⟨k+1,V,by go_num,hb.trans hb',H2.o O⟩
    case measure=>simp [intOf];omega
   ·rw [O] at HP
    go_wp2_with (go_at_fn F;refine HP.o.mono ?_;rintro e w' ⟨rfl,hb'⟩)
    go_ret;exact⟨dQ (H1.o O).symm,hb.trans hb'⟩
  ·clear hel hp
   go_wp2;go_ret;refine⟨dQ ?_,hb⟩;have h:=HE.o;rw [eG V] at h;rw [idxOf,h]
theorem bD {a b c:World} {row:Option Nat} (h:a.grownBy b row) (k:b.grownBy c row):a.grownBy c row:=
 ⟨k.os.trans h.os,k.tape.trans h.tape,k.output.trans h.output,Nat.le_trans h.size k.size,fun i hi hne=>(k.block i (Nat.lt_of_lt_of_le hi h.size) hne).trans (h.block i hi hne)⟩
theorem aO {a b:World} (h:aK a b) (row:Option Nat):a.grownBy b row:=⟨h.os,h.tape,h.output,h.size,fun i hi _=>h.block i hi⟩
theorem dS (w:World) (a:Addr) (v:Value):w.grownBy (w.setCell a v) (some a.block):=
 ⟨rfl,rfl,rfl,σ,fun k _ hk=>Below.heap_setCell _ _ _ _ (fun e=>hk (by rw [e]))⟩
theorem GI {w:World} {base:Nat} {e:TypeId} {size g n cap m:Nat} {xs:List Value} (h:w.ownsRow base e size (U (some ⟨g,0,none⟩) n cap) n xs) (hm:m<=n):
  w.ownsRow base e size (U (some ⟨g,0,none⟩) m cap) m (xs.take (m*size)):=by
 obtain⟨hl,⟨h',_⟩|⟨g',cap',cur,h',hb,hg,hnc,hcm,hcs,htake⟩⟩:=h
 ·simp at h'
 ·simp only [Value.slice.injEq,Option.some.injEq,Addr.mk.injEq,and_true,true_and] at h'
  obtain⟨rfl,rfl⟩:=h';have hms:m*size<=n*size:=Nat.mul_le_mul_right _ hm;refine⟨by rw [List.length_take,hl];omega,.inr ⟨g,cap,cur,rfl,hb,hg,V,hcm,hcs,?_⟩⟩;rw [<-htake,List.take_take,Nat.min_eq_left hms]
theorem Dz {base:Nat} {e:TypeId} {size g n cap:Nat}:∀(vs:List Value) (o:Nat) (w:World) (xs:List Value),w.ownsRow base e size (U (some ⟨g,0,none⟩) n cap) n xs->o+vs.length<=xs.length->
  (w.setCells g o vs).ownsRow base e size (U (some ⟨g,0,none⟩) n cap) n (xs.take o++vs++xs.drop (o+vs.length))/\w.grownBy (w.setCells g o vs) (some g):=by
 intro vs;induction vs with
 |nil=>intro o w xs h _;simp only [List.append_nil,List.length_nil,Nat.add_zero,List.take_append_drop];exact⟨h,⟨rfl,rfl,rfl,Nat.le_refl _,fun _ _ _=>rfl⟩⟩
 |cons v vs ih=>
  intro o w xs h hl;obtain⟨N,Y⟩:=h.stored o v;simp only [List.length_cons] at hl;obtain⟨h3,h4⟩:=ih (o+1) _ _ N (by simp;omega);refine⟨?_,bD Y h4⟩;have:(xs.set o v).take (o+1)++vs++(xs.set o v).drop (o+1+vs.length)=xs.take o++v::vs++xs.drop (o+(vs.length+1)):=by
   have hs:(xs.take o++ [xs[o]]).set o v=xs.take o++ [v]:=by
    rw [List.set_append,aV (by simp;omega)];simp [Nat.min_eq_left (V:o<=xs.length)]
   rw [List.drop_set_of_lt V,List.take_set,List.take_succ_eq_append_getElem (V:o<xs.length),hs];simp [Nat.add_comm,Nat.add_left_comm]
  rw [this] at h3;exact h3
theorem yA {P:Program} {t e:TypeId} {size bytes:Nat} (hE:EI P t e size bytes) {w:World} (ty:TypeId)
  {base g n cap:Nat} {xs:List Value} (bU:w.ownsRow base e size (U (some ⟨g,0,none⟩) n cap) n xs) (i m c:Nat) (ao:Option Addr) (him:i+m<=cap) (hao:0<m->ao=some ⟨g,i*size,none⟩) (hin:i<=n):
  ∃w',(Builtin.clear_ #[t] ty #[U ao m c]).run P w=.ok (.tuple #[]) w'/\w'.ownsRow base e size (U (some ⟨g,0,none⟩) i cap) i (xs.take (i*size))/\w.grownBy w' (some g):=by
 obtain⟨ti,z,hi,hz,Y,h3,h4,h5,h6⟩:=hE.hi;have hv:∀w,(zeroValue e).run P w=.ok z w:=fun w=>by simp [zeroValue,typeInfo,hi,hz]
 rcases Nat.eq_zero_or_pos m with rfl|hm
 ·have hr:(Builtin.clear_ #[t] ty #[U ao 0 c]).run P w=.ok (.tuple #[]) w:=by
   cases ao<;>simp [Builtin.clear_,run_underlying hE.ht]
  exact⟨w,hr,GI bU hin,⟨rfl,rfl,rfl,Nat.le_refl _,fun _ _ _=>rfl⟩⟩
 ·obtain rfl:=hao hm
  obtain⟨hl,⟨h',_⟩|⟨g',cap',cur,h',hb,hg,hnc,hcm,hcs,htake⟩⟩:=bU
  ·simp at h'
  simp only [Value.slice.injEq,Option.some.injEq,Addr.mk.injEq,and_true,true_and] at h';obtain⟨rfl,rfl⟩:=h';have hlen:(Builtin.zeroCells z.cells m).toList.length=m*size:=by rw [Array.length_toList,size_zeroCells,h4]
  have hfit:i*size+m*size<=cap*size:=by rw [<-Nat.add_mul];exact Nat.mul_le_mul_right _ him
  have hone:∀u∈(Builtin.zeroCells z.cells m).toList,u.oneCell'=true:=by
   intro u hu;have hu':=Array.mem_toList_iff.1 hu;simp only [Builtin.zeroCells,Array.mem_map,Array.mem_range] at hu';obtain⟨j,hj,rfl⟩:=hu';have:j % z.cells.size<z.cells.size:=Nat.mod_lt _ V;rw [getElem!_pos z.cells _ this];exact h6 _ (Array.getElem_mem _)
  have hst:=run_storeCells_at P g (i*size) e (Builtin.zeroCells z.cells m).toList 0 cur w hg V hone;simp only [Nat.add_zero] at hst;obtain⟨m',rfl⟩:∃m',m=m'+1:=⟨m - 1,V⟩;have hr:(Builtin.clear_ #[t] ty #[U (some ⟨g,i*size,none⟩) (m'+1) c]).run P w=.ok (.tuple #[]) (w.setRow g (cur.toList.take (i*size)++(Builtin.zeroCells z.cells (m'+1)).toList++cur.toList.drop (i*size+(Builtin.zeroCells z.cells (m'+1)).toList.length)).toArray):=by
   simp [Builtin.clear_,run_underlying hE.ht,hv,hst]
  refine⟨_,hr,⟨?_,.inr ⟨g,cap,_,rfl,hb,setRow_heap w g cur _ e _ hg,V,hcm,?_,?_⟩⟩,⟨rfl,rfl,rfl,σ,fun k _ hk=>setRow_other w g k _ (fun e=>hk (by simp [e]))⟩⟩
  ·have hms:i*size<=n*size:=Nat.mul_le_mul_right _ hin
   rw [List.length_take,hl];omega
  ·simp only [List.size_toArray,List.length_append,List.length_take,List.length_drop,Array.length_toList,hlen];omega
  ·have hms:i*size<=n*size:=Nat.mul_le_mul_right _ hin
   rw [<-htake,List.take_take,Nat.min_eq_left hms];rw [List.append_assoc,List.take_append_of_le_length (by simp;omega),List.take_take,Nat.min_self]
theorem uj {P:Program} {t e:TypeId} {size bytes:Nat} (hE:EI P t e size bytes) {ops:Array Oper} {o:Oper} {a:Act} {w:World} {K:Act->World->Prop} {Q:Exit->Act->World->Prop} {E:Prop}
  (hgd:o.guard=none) (s x:Operand) (hop:o.op=Op.call { callee:=Callee.builtin Builtin.append,args:=#[s,x],argTypes:=#[t,t] })
  {base g n cap:Nat} (i j:Nat) (r:Nat) (ad:Option Addr) (m c:Nat) {xs:List Value} (bU:w.ownsRow base e size (U (some ⟨g,0,none⟩) n cap) n xs) (hij:i<=j) (hjn:j<=n) (N:∀u∈xs,u.oneCell'=true)
  (hs:a.eval s=U (some ⟨g,0,none⟩) i cap) (Z:a.eval x=U ad m c) (hr:r=i+(n - j)) (hm:m=n - j) (had:ad=some ⟨g,j*size,none⟩∨(∃b,ad=some b)/\n=j)
  (hK:∀w',w'.ownsRow base e size (U (some ⟨g,0,none⟩) r cap) r (xs.take (i*size)++xs.drop (j*size))->w.grownBy w' (some g)->K (a.put o.dst (U (some ⟨g,0,none⟩) r cap)) w'):
  if Region.wanted o (yielded ops a.tmps)=true then Oper.wp P o a w K Q else E:=by
 obtain⟨ti,z,hi,hz,Y,h3,h4,h5,h6⟩:=hE.hi;subst hm;subst hr;obtain⟨hl,⟨h',_⟩|⟨g',cap',cur,h',hb,hg,hnc,hcm,hcs,htake⟩⟩:=id bU
 ·simp at h'
 simp only [Value.slice.injEq,Option.some.injEq,Addr.mk.injEq,and_true,true_and] at h';obtain⟨rfl,rfl⟩:=h';have e1:n*size=j*size+(n - j)*size:=by rw [<-Nat.add_mul];congr 1;omega
 have e2:i*size<=j*size:=Nat.mul_le_mul_right _ hij;have hnl:(xs.drop (j*size)).length=(n - j)*size:=by rw [List.length_drop,hl];omega
 obtain⟨b,rfl⟩:∃b,ad=some b:=by rcases had with h|⟨h,_⟩;exact⟨_,h⟩;exact h
 have hnews:∀k u,(xs.drop (j*size))[k]? =some u->w.cell? (b.add k)=some u:=by
  intro k u hu;rcases had with h|⟨_,h⟩
  ·obtain rfl:=bI h
   rw [List.getElem?_drop] at hu;have:=bU.cells (g:=g) rfl _ u hu;rw [Addr.add_lit,Nat.zero_add] at this;rw [Addr.add_lit];exact this
  ·rw [List.drop_of_length_le (by rw [hl,h];exact Nat.le_refl _)] at hu;simp at hu
 obtain⟨so,sg⟩:=Dz (xs.drop (j*size)) (0+i*size) w xs bU (by rw [hnl,hl];omega);refine step_append_room hgd s x t hop e ti size hE.ht hi Y g 0 i cap hs b (n - j) c (xs.drop (j*size)) Z hnl hnews (fun u hu=>N u (List.mem_of_mem_drop hu)) V (fun k hk=>?_) (hK _ ?_ sg)
 ·rw [hnl] at hk
  refine⟨?_,bU.frozenAt _⟩;rw [Nat.zero_add,bU.cellAt _ V,dM (by rw [hl];omega)];rfl
 ·have h:=GI so (show i+(n - j)<=n by omega)
  rw [Nat.zero_add] at h;have e3:(i+(n - j))*size=(xs.take (i*size)++xs.drop (j*size)).length:=by
   rw [List.length_append,hnl,List.length_take,hl,Nat.add_mul];omega
  rw [e3,List.take_left] at h;rw [Nat.zero_add];exact h
theorem OX {w:World} {base g n cap i:Nat} {xs:List Value} (bU:w.ownsRow base 53 2 (U (some ⟨g,0,none⟩) n cap) n xs) (hi:i<n) (N:∀u∈xs,u.oneCell'=true):
  Calls Tryz.prog 75 #[U (some ⟨g,0,none⟩) n cap,J i,J ((i:Int)+1)] w fun e w'=>e=.returned (U (some ⟨g,0,none⟩) (n - 1) cap)/\w'.ownsRow base 53 2 (U (some ⟨g,0,none⟩) (n - 1) cap) (n - 1) (xs.take (i*2)++xs.drop ((i+1)*2))/\w.grownBy w' (some g):=by
 obtain⟨hl,⟨h',_⟩|⟨g',cap',cur,h',hb,hg,hnc,hcm,hcs,htake⟩⟩:=id bU
 ·simp at h'
 simp only [Value.slice.injEq,Option.some.injEq,Addr.mk.injEq,and_true,true_and] at h';obtain⟨rfl,rfl⟩:=h';have hA:∃A:Addr,(if cap=i+1 then some (⟨g,0,none⟩:Addr) else some ⟨g,(i+1)*2,none⟩)=some A/\Hid (some A=some (⟨g,(i+1)*2,none⟩:Addr)∨(∃b,some A=some b)/\n=i+1):=by
  by_cases h:cap=i+1
  ·exact⟨⟨g,0,none⟩,by simp [h],.inr ⟨⟨_,rfl⟩,V⟩⟩
  ·exact⟨_,by simp only [h,if_false],.inl rfl⟩
 obtain⟨A,hA,hA2⟩:=hA;have HO:=I bU;have H1:=I N;have hic:i<=cap:=by omega
 have hp0:(0:Int)<=(i:Int)+1:=by omega
 have hp1:(i:Int)+1<=(n:Int):=by omega
 have hp2:((i:Int)+1).toNat=i+1:=by omega
 have hne:((i:Int)==(i:Int)+1)=false:=by simp;omega
 have hcm':cap<=9223372036854775807:=by unfold maxLen at hcm;omega
 have SE:i+(n - (i+1))=n - 1:=by omega
 have hn2:((n - 1:Nat):Int)=(n:Int) - 1:=by omega
 clear bU hg htake hcs hb hl hcm N;go_enter Tryz.func75,Tryz.ntmps75;go_wp2_with fail
 go_region_law (refine uj AZ rfl (.tmp 22) (.tmp 25) rfl i (i+1) (n - 1) (some A) (n - (i+1)) (cap - (i+1)) (by exact World.ownsRow.drew HO.o) V V H1.o (by simp [Act.eval,Act.put]) (by simp [Act.eval,Act.put]) SE.symm rfl hA2.o ?_;intro w1 xA VX)
 have S_:=I xA;have gH:=I VX;clear xA VX HO hA hA2 SE;have hlt1:n - 1<cap:=by omega
 have DC:(n:Int) - 1<=(n:Int):=by omega
 have hn4:((n:Int) - 1).toNat=n - 1:=by omega
 have hn5:n - (n - 1)=1:=by omega
 obtain⟨w2,hcl,pI,yh⟩:=yA AZ 0 S_.o (n - 1) 1 (cap - (n - 1)) (some ⟨g,(n - 1)*2,none⟩) V (fun _=>rfl) (Nat.le_refl _);have Je:=I hcl;have Qm:=I pI;have Og:=I yh;clear hcl pI yh;go_wp2_with fail
 rw [Je.o];go_wp2;go_ret;refine⟨rfl,?_,bD (aO ((aG w).drew) _) (bD gH.o Og.o)⟩;have h:=Qm.o;rw [eG (by rw [S_.o.1];exact Nat.le_refl _)] at h;exact h
theorem Wp {w:World} {base g n cap i:Nat} {xs:List Value} (bU:w.ownsRow base 58 4 (U (some ⟨g,0,none⟩) n cap) n xs) (hi:i<n) (N:∀u∈xs,u.oneCell'=true):
  Calls Tryz.prog 121 #[U (some ⟨g,0,none⟩) n cap,J i,J ((i:Int)+1)] w fun e w'=>e=.returned (U (some ⟨g,0,none⟩) (n - 1) cap)/\w'.ownsRow base 58 4 (U (some ⟨g,0,none⟩) (n - 1) cap) (n - 1) (xs.take (i*4)++xs.drop ((i+1)*4))/\w.grownBy w' (some g):=by
 obtain⟨hl,⟨h',_⟩|⟨g',cap',cur,h',hb,hg,hnc,hcm,hcs,htake⟩⟩:=id bU
 ·simp at h'
 simp only [Value.slice.injEq,Option.some.injEq,Addr.mk.injEq,and_true,true_and] at h';obtain⟨rfl,rfl⟩:=h';have hA:∃A:Addr,(if cap=i+1 then some (⟨g,0,none⟩:Addr) else some ⟨g,(i+1)*4,none⟩)=some A/\Hid (some A=some (⟨g,(i+1)*4,none⟩:Addr)∨(∃b,some A=some b)/\n=i+1):=by
  by_cases h:cap=i+1
  ·exact⟨⟨g,0,none⟩,by simp [h],.inr ⟨⟨_,rfl⟩,V⟩⟩
  ·exact⟨_,by simp only [h,if_false],.inl rfl⟩
 obtain⟨A,hA,hA2⟩:=hA;have HO:=I bU;have H1:=I N;have hic:i<=cap:=by omega
 have hp0:(0:Int)<=(i:Int)+1:=by omega
 have hp1:(i:Int)+1<=(n:Int):=by omega
 have hp2:((i:Int)+1).toNat=i+1:=by omega
 have hne:((i:Int)==(i:Int)+1)=false:=by simp;omega
 have hcm':cap<=9223372036854775807:=by unfold maxLen at hcm;omega
 have SE:i+(n - (i+1))=n - 1:=by omega
 have hn2:((n - 1:Nat):Int)=(n:Int) - 1:=by omega
 clear bU hg htake hcs hb hl hcm N;go_enter Tryz.func121,Tryz.ntmps121;go_wp2_with fail
 go_region_law (refine uj kF rfl (.tmp 22) (.tmp 25) rfl i (i+1) (n - 1) (some A) (n - (i+1)) (cap - (i+1)) (by exact World.ownsRow.drew HO.o) V V H1.o (by simp [Act.eval,Act.put]) (by simp [Act.eval,Act.put]) SE.symm rfl hA2.o ?_;intro w1 xA VX)
 have S_:=I xA;have gH:=I VX;clear xA VX HO hA hA2 SE;have hlt1:n - 1<cap:=by omega
 have DC:(n:Int) - 1<=(n:Int):=by omega
 have hn4:((n:Int) - 1).toNat=n - 1:=by omega
 have hn5:n - (n - 1)=1:=by omega
 obtain⟨w2,hcl,pI,yh⟩:=yA kF 0 S_.o (n - 1) 1 (cap - (n - 1)) (some ⟨g,(n - 1)*4,none⟩) V (fun _=>rfl) (Nat.le_refl _);have Je:=I hcl;have Qm:=I pI;have Og:=I yh;clear hcl pI yh;go_wp2_with fail
 rw [Je.o];go_wp2;go_ret;refine⟨rfl,?_,bD (aO ((aG w).drew) _) (bD gH.o Og.o)⟩;have h:=Qm.o;rw [eG (by rw [S_.o.1];exact Nat.le_refl _)] at h;exact h
theorem Wq {w:World} {base g n cap i:Nat} {xs:List Value} (bU:w.ownsRow base 97 1 (U (some ⟨g,0,none⟩) n cap) n xs) (hi:i<n) (N:∀u∈xs,u.oneCell'=true):
  Calls Tryz.prog 81 #[U (some ⟨g,0,none⟩) n cap,J i,J ((i:Int)+1)] w fun e w'=>e=.returned (U (some ⟨g,0,none⟩) (n - 1) cap)/\w'.ownsRow base 97 1 (U (some ⟨g,0,none⟩) (n - 1) cap) (n - 1) (xs.take (i*1)++xs.drop ((i+1)*1))/\w.grownBy w' (some g):=by
 obtain⟨hl,⟨h',_⟩|⟨g',cap',cur,h',hb,hg,hnc,hcm,hcs,htake⟩⟩:=id bU
 ·simp at h'
 simp only [Value.slice.injEq,Option.some.injEq,Addr.mk.injEq,and_true,true_and] at h';obtain⟨rfl,rfl⟩:=h';have hA:∃A:Addr,(if cap=i+1 then some (⟨g,0,none⟩:Addr) else some ⟨g,(i+1)*1,none⟩)=some A/\Hid (some A=some (⟨g,(i+1)*1,none⟩:Addr)∨(∃b,some A=some b)/\n=i+1):=by
  by_cases h:cap=i+1
  ·exact⟨⟨g,0,none⟩,by simp [h],.inr ⟨⟨_,rfl⟩,V⟩⟩
  ·exact⟨_,by simp only [h,if_false],.inl rfl⟩
 obtain⟨A,hA,hA2⟩:=hA;have HO:=I bU;simp only [Nat.mul_one] at hA;have H1:=I N;have hic:i<=cap:=by omega
 have hp0:(0:Int)<=(i:Int)+1:=by omega
 have hp1:(i:Int)+1<=(n:Int):=by omega
 have hp2:((i:Int)+1).toNat=i+1:=by omega
 have hne:((i:Int)==(i:Int)+1)=false:=by simp;omega
 have hcm':cap<=9223372036854775807:=by unfold maxLen at hcm;omega
 have SE:i+(n - (i+1))=n - 1:=by omega
 have hn2:((n - 1:Nat):Int)=(n:Int) - 1:=by omega
 clear bU hg htake hcs hb hl hcm N;go_enter Tryz.func81,Tryz.ntmps81;go_wp2_with fail
 go_region_law (refine uj oq rfl (.tmp 22) (.tmp 25) rfl i (i+1) (n - 1) (some A) (n - (i+1)) (cap - (i+1)) (by exact World.ownsRow.drew HO.o) V V H1.o (by simp [Act.eval,Act.put]) (by simp [Act.eval,Act.put]) SE.symm rfl hA2.o ?_;intro w1 xA VX)
 have S_:=I xA;have gH:=I VX;clear xA VX HO hA hA2 SE;have hlt1:n - 1<cap:=by omega
 have DC:(n:Int) - 1<=(n:Int):=by omega
 have hn4:((n:Int) - 1).toNat=n - 1:=by omega
 have hn5:n - (n - 1)=1:=by omega
 obtain⟨w2,hcl,pI,yh⟩:=yA oq 0 S_.o (n - 1) 1 (cap - (n - 1)) (some ⟨g,(n - 1)*1,none⟩) V (fun _=>rfl) (Nat.le_refl _);have Je:=I hcl;have Qm:=I pI;have Og:=I yh;clear hcl pI yh;go_wp2_with fail
 rw [show(Builtin.clear_ _ _ #[Value.slice (some (⟨g,n - 1,none⟩:Addr)) 1 _]).run _ _=_ from by simpa using Je.o];go_wp2;go_ret;refine⟨rfl,?_,bD (aO ((aG w).drew) _) (bD gH.o Og.o)⟩;have h:=Qm.o;rw [eG (by rw [S_.o.1];exact Nat.le_refl _)] at h;exact h
def rQ (w:World) (row:Option Nat):CM:=fun a=>if some a.block=row then none else w.cell? a
theorem EW (w:World) (row:Option Nat):Sub (rQ w row) w.cell?:=fun a v h=>by
 unfold rQ at h;split at h
 ·cases h
 ·exact h
theorem zl {w w':World} {row:Option Nat} (h:w.grownBy w' row):Sub (rQ w row) (rQ w' row):=fun a v e=>by
 unfold rQ at e ⊢;split at e
 ·cases e
 ·rename_i hne
  rw [aV hne,World.cell?_of_block (h.block a.block (eH w a e) hne)];exact e
theorem KA {w w':World} (h:aK w w') {row:Option Nat} (hr:∀k,row=some k->w.heap.size<=k):Sub w.cell? (rQ w' row):=fun a v e=>by
 have hl:=eH w a e;unfold rQ;rw [aV (fun e'=>by have:=hr _ e'.symm;omega)];exact h.sub _ _ e
def yB {α:Type} (T:Ty α) (w:World) (base e:Nat) (v:Value) (l:List α):Prop:=
 ∃css:List (List Value),w.ownsRow base e T.size v l.length css.flatten/\css.length=l.length/\∀(i:Nat) (cs:List Value) (x:α),css[i]? =some cs->l[i]? =some x->T.R (rQ w v.ownBlock) cs x
theorem yB.nil {α:Type} (T:Ty α) (w:World) (base e:Nat):yB T w base e (U none 0 0) []:=⟨[],World.ownsRow_nil _ _ _ _,rfl,fun i cs x h=>by simp at h⟩
theorem yB.kept {α:Type} {T:Ty α} {w w':World} {base e:Nat} {v:Value} {l:List α} {row:Option Nat} (h:yB T w base e v l) (hg:w.grownBy w' row) (hne:v.ownBlock=none∨v.ownBlock≠row) (hs':Sub (rQ w v.ownBlock) (rQ w' v.ownBlock)):yB T w' base e v l:=by
 obtain⟨css,N,Y,h3⟩:=h;exact⟨css,N.kept hg hne,Y,fun i cs x a b=>T.mono hs' (h3 i cs x a b)⟩
theorem yB.grow {α:Type} {T:Ty α} {w w':World} {base e:Nat} {v:Value} {l:List α} (h:yB T w base e v l) (hg:aK w w'):yB T w' base e v l:=by
 obtain⟨css,N,Y,h3⟩:=h;refine⟨css,N.kept (aO hg none) (by cases v.ownBlock<;>simp),Y,fun i cs x a b=>T.mono (zl (aO hg _)) (h3 i cs x a b)⟩
theorem nN {α:Type} {T:Ty α} {c:CM} {css:List (List Value)} {l:List α} (Y:css.length=l.length) (h3:∀(i:Nat) (cs:List Value) (x:α),css[i]? =some cs->l[i]? =some x->T.R c cs x):∀cs∈css,cs.length=T.size:=by
 intro cs hcs;obtain⟨i,hi,rfl⟩:=List.mem_iff_getElem.1 hcs;exact T.len (h3 i css[i] l[i] σ σ)
theorem lI {size:Nat} (h0:0<size):∀(css:List (List Value)),(∀cs∈css,cs.length=size)->∀j,css.flatten[j]? =(css[j/size]?).bind fun cs=>cs[j % size]?:=by
 intro css;induction css with
 |nil=>intro _ j;simp
 |cons x l ih=>
  intro hf j;rw [List.flatten_cons];have Z:=hf x σ;by_cases hj:j<size
  ·rw [List.getElem?_append_left (by rw [Z];exact hj),Nat.div_eq_of_lt hj,Nat.mod_eq_of_lt hj];rfl
  ·rw [List.getElem?_append_right (by rw [Z];omega),Z,ih (fun cs h=>hf cs (by simp [h])),Nat.mod_eq_sub_mod (V:size<=j),Nat.div_eq_sub_div h0 (V:size<=j)]
   simp
theorem ou {size:Nat}:∀(css:List (List Value)),(∀cs∈css,cs.length=size)->css.flatten.length=css.length*size
 | [],_=>by simp
 |x::l,h=>by rw [List.flatten_cons,List.length_append,h x σ,ou l (fun cs hc=>h cs (by simp [hc])),List.length_cons,Nat.add_mul];omega
theorem ng {size:Nat}:∀(css:List (List Value)) (i:Nat),(∀cs∈css,cs.length=size)->css.flatten.take (i*size)=(css.take i).flatten
 | [],i,_=>by simp
 |x::l,0,_=>by simp
 |x::l,i+1,h=>by
  have Z:=h x σ;rw [List.flatten_cons,List.take_succ_cons,List.flatten_cons,Nat.add_mul,Nat.one_mul,Nat.add_comm,List.take_append,Z,eG V,<-ng l i (fun cs hc=>h cs (by simp [hc]))];congr 1;congr 1;omega
theorem qI {size:Nat}:∀(css:List (List Value)) (i:Nat),(∀cs∈css,cs.length=size)->css.flatten.drop (i*size)=(css.drop i).flatten
 | [],i,_=>by simp
 |x::l,0,_=>by simp
 |x::l,i+1,h=>by
  have Z:=h x σ;rw [List.flatten_cons,List.drop_succ_cons,Nat.add_mul,Nat.one_mul,Nat.add_comm,<-qI l i (fun cs hc=>h cs (by simp [hc])),List.drop_append,Z,List.drop_of_length_le V,List.nil_append];congr 1;omega
theorem yB.sl {α:Type} {T:Ty α} (h0:0<T.size) {w:World} {base e:Nat} {v:Value} {l:List α} (h:yB T w base e v l):Sl T w.cell? v l:=by
 obtain⟨css,⟨hl,hs⟩,Y,h3⟩:=h;have hcl:=nN Y h3;rcases hs with⟨rfl,hn⟩|⟨g,cap,cur,rfl,hg,hrow,hnc,hcm,hcs,htake⟩
 ·have:l=[]:=List.eq_nil_of_length_eq_zero hn
  subst this;exact⟨none,0,rfl,Nat.le_refl _,Nat.zero_le _,fun _=>rfl,fun i x e=>by simp at e⟩
 ·refine⟨some ⟨g,0,none⟩,cap,rfl,hnc,hcm,σ,fun i x e=>?_⟩
  have hi:i<l.length:=(List.getElem?_eq_some_iff.1 e).1;have hc:css[i]? =some css[i]:=dM V;refine⟨g,0,css[i],rfl,T.mono (EW _ _) (h3 i _ x hc e),fun j u hu=>?_⟩;have hj:j<T.size:=by rw [<-hcl css[i] (List.getElem_mem _)];exact(List.getElem?_eq_some_iff.1 hu).1
  have Z:css.flatten[i*T.size+j]? =some u:=by
   rw [lI h0 css hcl,Nat.mul_comm,Nat.mul_add_div h0,Nat.div_eq_of_lt hj,Nat.add_zero,hc,Nat.mul_add_mod,Nat.mod_eq_of_lt hj];exact hu
  rw [<-htake,List.getElem?_take] at Z;split at Z
  ·simp only [World.cell?,hrow];simpa using Z
  ·cases Z
theorem yB.snoc {α:Type} {T:Ty α} {w w':World} {base e:Nat} {v v':Value} {l:List α} {css:List (List Value)} {cs:List Value} {x:α} (Y:css.length=l.length) (h3:∀(i:Nat) (cs:List Value) (x:α),css[i]? =some cs->l[i]? =some x->T.R (rQ w v.ownBlock) cs x)
  (ho:w'.ownsRow base e T.size v' (l.length+1) (css.flatten++cs)) (hs:Sub (rQ w v.ownBlock) (rQ w' v'.ownBlock)) (hR:T.R (rQ w' v'.ownBlock) cs x):yB T w' base e v' (l++ [x]):=by
 refine⟨css++ [cs],by simpa using ho,by simp [Y],fun i cs' x' a b=>?_⟩;by_cases hi:i<l.length
 ·rw [List.getElem?_append_left V] at a
  rw [List.getElem?_append_left hi] at b;exact T.mono hs (h3 i _ _ a b)
 ·have:i=l.length:=by
   have:=(List.getElem?_eq_some_iff.1 b).1;simp at this;omega
  subst this;rw [<-Y] at a;simp at a b;subst a;subst b;exact hR
theorem yB.of_flat {α:Type} {T:Ty α} {f:α->List Value} {w:World} {base e:Nat} {v:Value} {l:List α} (h:w.ownsRow base e T.size v l.length (l.flatMap f)) (hR:∀c,∀x∈l,T.R c (f x) x):yB T w base e v l:=
 ⟨l.map f,by rw [<-List.flatMap_def];exact h,σ,fun i cs x a b=>by
  rw [List.getElem?_map,b] at a;obtain rfl:=bI a;exact hR _ x (List.mem_of_getElem? b)⟩
theorem Tc {w:World} {base:Nat} {e:TypeId} {size g n cap:Nat} {css:List (List Value)} {cs:List Value} {i:Nat} (hcl:∀cs∈css,cs.length=size) (h:w.ownsRow base e size (U (some ⟨g,0,none⟩) n cap) n css.flatten) (hi:i<css.length) (hcs:cs.length=size):
  (w.setCells g (i*size) cs).ownsRow base e size (U (some ⟨g,0,none⟩) n cap) n (css.set i cs).flatten/\w.grownBy (w.setCells g (i*size) cs) (some g):=by
 have hle:(i+1)*size<=css.length*size:=Nat.mul_le_mul_right _ V;have hle':i*size+size<=css.length*size:=by rw [Nat.add_mul] at hle;omega
 obtain⟨N,Y⟩:=Dz cs (i*size) w css.flatten h (by rw [ou css hcl,hcs];exact hle');refine⟨?_,Y⟩;rw [hcs,ng css i hcl,show i*size+size=(i+1)*size by rw [Nat.add_mul];omega,qI css (i+1) hcl] at N;rw [List.set_eq_take_append_cons_drop,bC hi];simpa using N
def bK {α:Type} (T:Ty α) (c:CM) (w:World) (base e:Nat) (v:Value) (l:List α):Prop:=
 ∃css:List (List Value),w.ownsRow base e T.size v l.length css.flatten/\css.length=l.length/\∀(i:Nat) (cs:List Value) (x:α),css[i]? =some cs->l[i]? =some x->T.R c cs x
theorem bK.nil {α:Type} (T:Ty α) (c:CM) (w:World) (base e:Nat):bK T c w base e (U none 0 0) []:=⟨[],World.ownsRow_nil _ _ _ _,rfl,fun i cs x h=>by simp at h⟩
theorem bK.kept {α:Type} {T:Ty α} {c:CM} {w w':World} {base e:Nat} {v:Value} {l:List α} {row:Option Nat} (h:bK T c w base e v l) (hg:w.grownBy w' row) (hne:v.ownBlock=none∨v.ownBlock≠row):bK T c w' base e v l:=by
 obtain⟨css,N,Y,h3⟩:=h;exact⟨css,N.kept hg hne,Y,h3⟩
theorem bK.grow {α:Type} {T:Ty α} {c:CM} {w w':World} {base e:Nat} {v:Value} {l:List α} (h:bK T c w base e v l) (hg:aK w w'):bK T c w' base e v l:=
 h.kept (aO hg none) (by cases v.ownBlock<;>simp)
theorem bK.mono {α:Type} {T:Ty α} {c c':CM} {w:World} {base e:Nat} {v:Value} {l:List α} (hs:Sub c c') (h:bK T c w base e v l):bK T c' w base e v l:=by
 obtain⟨css,N,Y,h3⟩:=h;exact⟨css,N,Y,fun i cs x a b=>T.mono hs (h3 i cs x a b)⟩
theorem bK.lt {α:Type} {T:Ty α} {c:CM} {w:World} {base e:Nat} {v:Value} {l:List α} (h:bK T c w base e v l):∀k,v.ownBlock=some k->base<=k/\k<w.heap.size:=by
 obtain⟨css,N,_⟩:=h;exact N.lt
theorem bK.form {α:Type} {T:Ty α} {c:CM} {w:World} {base e:Nat} {v:Value} {l:List α} (h:bK T c w base e v l):∃a cap,v=U a l.length cap:=by
 obtain⟨css,⟨_,⟨rfl,h0⟩|⟨g,cap,cur,rfl,_⟩⟩,_⟩:=h
 ·rw [h0];exact⟨_,_,rfl⟩
 ·exact⟨_,_,rfl⟩
theorem dG {w:World} {base:Nat} {e:TypeId} {size n:Nat} {v:Value} {xs:List Value} (h:w.ownsRow base e size v n xs):∃a cap,v=U a n cap:=by
 obtain⟨_,⟨rfl,rfl⟩|⟨g,cap,cur,rfl,_⟩⟩:=h
 ·exact⟨_,_,rfl⟩
 ·exact⟨_,_,rfl⟩
theorem bK.sl {α:Type} {T:Ty α} {c:CM} (h0:0<T.size) {w:World} {base e:Nat} {v:Value} {l:List α} (hs:Sub c w.cell?) (h:bK T c w base e v l):Sl T w.cell? v l:=by
 obtain⟨css,⟨hl,hs'⟩,Y,h3⟩:=h;have hcl:=nN Y h3;rcases hs' with⟨rfl,hn⟩|⟨g,cap,cur,rfl,hg,hrow,hnc,hcm,hcs,htake⟩
 ·have:l=[]:=List.eq_nil_of_length_eq_zero hn
  subst this;exact⟨none,0,rfl,Nat.le_refl _,Nat.zero_le _,fun _=>rfl,fun i x e=>by simp at e⟩
 ·refine⟨some ⟨g,0,none⟩,cap,rfl,hnc,hcm,σ,fun i x e=>?_⟩
  have hi:i<l.length:=(List.getElem?_eq_some_iff.1 e).1;have hc:css[i]? =some css[i]:=dM V;refine⟨g,0,css[i],rfl,T.mono hs (h3 i _ x hc e),fun j u hu=>?_⟩;have hj:j<T.size:=by rw [<-hcl css[i] (List.getElem_mem _)];exact(List.getElem?_eq_some_iff.1 hu).1
  have Z:css.flatten[i*T.size+j]? =some u:=by
   rw [lI h0 css hcl,Nat.mul_comm,Nat.mul_add_div h0,Nat.div_eq_of_lt hj,Nat.add_zero,hc,Nat.mul_add_mod,Nat.mod_eq_of_lt hj];exact hu
  rw [<-htake,List.getElem?_take] at Z;split at Z
  ·simp only [World.cell?,hrow];simpa using Z
  ·cases Z
theorem bK.snoc {α:Type} {T:Ty α} {c:CM} {w':World} {base e:Nat} {v':Value} {l:List α} {css:List (List Value)} {cs:List Value} {x:α} (Y:css.length=l.length) (h3:∀(i:Nat) (cs:List Value) (x:α),css[i]? =some cs->l[i]? =some x->T.R c cs x)
  (ho:w'.ownsRow base e T.size v' (l.length+1) (css.flatten++cs)) (hR:T.R c cs x):bK T c w' base e v' (l++ [x]):=by
 refine⟨css++ [cs],by simpa using ho,by simp [Y],fun i cs' x' a b=>?_⟩;by_cases hi:i<l.length
 ·rw [List.getElem?_append_left V] at a
  rw [List.getElem?_append_left hi] at b;exact h3 i _ _ a b
 ·have:i=l.length:=by
   have:=(List.getElem?_eq_some_iff.1 b).1;simp at this;omega
  subst this;rw [<-Y] at a;simp at a b;subst a;subst b;exact hR
theorem Yb {P:Program} {t e:TypeId} {size bytes:Nat} (hE:EI P t e size bytes) {α:Type} {T:Ty α} (hT:T.size=size) {c:CM} {W w0:World} {cs:Array Value} {ops:Array Oper} {rest:List Oper} {o:Oper} {a:Act} {Q:Exit->Act->World->Prop} (hgd:o.guard=none) (s x:Operand)
  (ho:o.op=.call { callee:=.builtin .append,args:=#[s,x],argTypes:=#[t,t] }) (hG:aK W w0) {base:Nat} (hB:W.heap.size<=base) (hB':base<=w0.heap.size)
  {v:Value} {l:List α} {y:α} (hs:a.eval s=v) (bU:bK T c w0 base e v l) (hR:T.R c cs.toList y)
  {g:Nat} (Z:a.eval x=U (some ⟨g,0,none⟩) 1 1) (hg:g=w0.heap.size) (N:∀u∈cs.toList,u.oneCell'=true)
  (hbytes:(l.length+1)*bytes<=140737488355328) (zi:0<bytes)
  (h:∀g c' w',bK T c w' base e (U (some ⟨g,0,none⟩) (l.length+1) c') (l++ [y])->aK W w'->(w0.alloc (.cells cs e)).grownBy w' v.ownBlock->(v.ownBlock=some g∨g=w0.heap.size+1)->wpList P ops Q rest (a.put o.dst (U (some ⟨g,0,none⟩) (l.length+1) c')) w'):wpList P ops Q (o::rest) a (w0.alloc (.cells cs e)):=by
 subst hg;obtain⟨css,h4,h5,h6⟩:=bU;obtain⟨i,z,hi,hz,k2,k3,k4,k5,_⟩:=hE.hi;subst hT;have Y:l.length+1<=(l.length+1)*bytes:=Nat.le_mul_of_pos_right _ zi;refine wpList_append_lies _ hgd s x t ho base e i z T.size bytes hE.ht hi hz k2 k3 k4 k5 v l.length css.flatten hs (h4.alloc _) _ 1 1 cs.toList Z (by rw [T.len hR,Nat.one_mul]) (rP w0 cs e) N ε (by unfold maxLen;omega) hbytes (by simp;omega) (w0.heap.size+1) σ fun g c' w' a1 a2 a3 _=>?_;exact h g c' w' (bK.snoc h5 h6 a1 hR) ((hG.alloc _).grown a2 fun k hk=>Nat.le_trans hB (h4.lt k hk).1) a2 a3
theorem bK.get {α:Type} {T:Ty α} {c:CM} {w:World} {base e:Nat} {a:Option Addr} {cap:Nat} {l:List α} (h0:0<T.size) (h:bK T c w base e (U a l.length cap) l) (i:Nat) (hi:i<l.length):∃g cs,a=some ⟨g,0,none⟩/\T.R c cs l[i]/\At w.cell? g (i*T.size) cs:=by
 obtain⟨css,N,Y,h3⟩:=h;have hcl:=nN Y h3;have hc:css[i]? =some css[i]:=dM V;have hR:=h3 i _ l[i] hc (dM hi);obtain⟨hl,⟨_,hn⟩|⟨g,cap',cur,he,hg,hrow,hnc,hcm,hcs,htake⟩⟩:=id N
 ·omega
 ·simp only [Value.slice.injEq,true_and] at he
  obtain⟨rfl,rfl⟩:=he;refine⟨g,css[i],rfl,hR,fun j u hu=>?_⟩;have hj:j<T.size:=by rw [<-T.len hR];exact(List.getElem?_eq_some_iff.1 hu).1
  have:=N.cells (g:=g) rfl (i*T.size+j) u (by
   rw [lI h0 css hcl,Nat.mul_comm,Nat.mul_add_div h0,Nat.div_eq_of_lt hj,Nat.add_zero,hc,Nat.mul_add_mod,Nat.mod_eq_of_lt hj];exact hu)
  rw [Addr.add_lit,Nat.zero_add] at this;exact this
theorem Zm {w:World} {base b':Nat} {e:TypeId} {size n:Nat} {v:Value} {xs:List Value} (hb:b'<=base) (h:w.ownsRow base e size v n xs):w.ownsRow b' e size v n xs:=by
 obtain⟨N,Y⟩:=h;refine⟨N,?_⟩;rcases Y with Y|⟨g,cap,cur,hv,hg,r⟩
 ·exact .inl Y
 ·exact .inr ⟨g,cap,cur,hv,Nat.le_trans hb hg,r⟩
theorem bK.base {α:Type} {T:Ty α} {c:CM} {w:World} {base b' e:Nat} {v:Value} {l:List α} (h:bK T c w base e v l) (hb:b'<=base):bK T c w b' e v l:=by
 obtain⟨css,N,Y,h3⟩:=h;exact⟨css,Zm hb N,Y,h3⟩
structure gL (w w':World) (base:Nat) (e:TypeId) (size:Nat) (v:Value) (n:Nat) (a':Option Addr) (c':Nat) (xs:List Value):Prop where
 own:w'.ownsRow base e size (U a' n c') n xs
 grown:w.grownBy w' v.ownBlock
 blk:(Value.slice a' n c').ownBlock=v.ownBlock∨∃g,(Value.slice a' n c').ownBlock=some g/\w.heap.size<=g
theorem Jf {P:Program} {t e:TypeId} {size bytes:Nat} (hE:EI P t e size bytes) {w:World} (ty:TypeId) {base:Nat} {v:Value} {n:Nat} {xs:List Value} (bU:w.ownsRow base e size v n xs)
  (ao:Option Addr) (m c:Nat) (news:List Value) (hnone:ao=none->m=0/\c=0) (hl:news.length=m*size) (hnews:∀ad,ao=some ad->∀j u,news[j]? =some u->w.cell? (ad.add j)=some u) (N:∀u∈news,u.oneCell'=true)
  (BC:n+m<=maxLen) (hbytes:(n+m)*bytes<=140737488355328) (hbase:base<=w.heap.size):
  ∃a' c' w',(Builtin.append_ #[t,t] ty #[v,U ao m c]).run P w=.ok (U a' (n+m) c') w'/\gL w w' base e size v (n+m) a' c' (xs++news):=by
 obtain⟨i,z,hi,hz,k2,k3,k4,k5,_⟩:=hE.hi;cases ao with
 |none=>
  obtain⟨rfl,rfl⟩:=hnone rfl;have hn:news=[]:=List.eq_nil_of_length_eq_zero (by simpa using hl);subst hn;obtain⟨a',c',rfl⟩:=dG bU;exact⟨a',c',w,run_append_owned_none (P:=P) w base t ty e i size hE.ht hi _ n xs bU,by simpa using bU,⟨rfl,rfl,rfl,Nat.le_refl _,fun _ _ _=>rfl⟩,.inl rfl⟩
 |some ad=>
  obtain⟨v',w',hr,Y,h3,_,h5⟩:=run_append_own_at (P:=P) w base t ty e i z size bytes hE.ht hi hz k2 k3 k4 k5 v n xs bU ad m c news hl (hnews ad rfl) N BC hbytes hbase;obtain⟨a',c',rfl⟩:=dG Y;refine⟨a',c',w',hr,Y,h3,?_⟩;rcases h5 with h5|h5
  ·exact .inl h5
  ·exact .inr ⟨_,h5,Nat.le_refl _⟩
theorem vH {P:Program} {t e:TypeId} {size bytes:Nat} (hE:EI P t e size bytes) {w:World} {o:Oper} {a:Act} {K:Act->World->Prop} {Q:Exit->Act->World->Prop} (s x:Operand) (ho:o.op=.call { callee:=.builtin .append,args:=#[s,x],argTypes:=#[t,t] })
  {base:Nat} {v:Value} {n:Nat} {xs:List Value} (hs:a.eval s=v) (bU:w.ownsRow base e size v n xs)
  (ao:Option Addr) (m c:Nat) (news:List Value) (Z:a.eval x=U ao m c) (hnone:ao=none->m=0/\c=0) (hl:news.length=m*size) (hnews:∀ad,ao=some ad->∀j u,news[j]? =some u->w.cell? (ad.add j)=some u) (N:∀u∈news,u.oneCell'=true)
  (BC:n+m<=maxLen) (hbytes:(n+m)*bytes<=140737488355328) (hbase:base<=w.heap.size)
  (h:∀a' c' w',gL w w' base e size v (n+m) a' c' (xs++news)->K (a.put o.dst (U a' (n+m) c')) w'):o.wp P a w K Q:=by
 obtain⟨a',c',w',hr,Y⟩:=Jf hE o.type bU ao m c news hnone hl hnews N BC hbytes hbase;unfold Oper.wp execOp;simp only [ho,resolve,invoke,builtin,Sem.run_bind,Sem.run_pure,Result.andThen_ok,List.map_toArray,List.map_cons,List.map_nil,hs,Z,hr];exact h a' c' w' Y
theorem KC {P:Program} {t e:TypeId} {size bytes:Nat} (hE:EI P t e size bytes) {w:World} {ops:Array Oper} {rest:List Oper} {o:Oper} {a:Act} {Q:Exit->Act->World->Prop} (hgd:o.guard=none) (s x:Operand) (ho:o.op=.call { callee:=.builtin .append,args:=#[s,x],argTypes:=#[t,t] })
  {base:Nat} {v:Value} {n:Nat} {xs:List Value} (hs:a.eval s=v) (bU:w.ownsRow base e size v n xs)
  (ao:Option Addr) (m c:Nat) (news:List Value) (Z:a.eval x=U ao m c) (hnone:ao=none->m=0/\c=0) (hl:news.length=m*size) (hnews:∀ad,ao=some ad->∀j u,news[j]? =some u->w.cell? (ad.add j)=some u) (N:∀u∈news,u.oneCell'=true)
  (BC:n+m<=maxLen) (hbytes:(n+m)*bytes<=140737488355328) (hbase:base<=w.heap.size)
  (h:∀a' c' w',gL w w' base e size v (n+m) a' c' (xs++news)->wpList P ops Q rest (a.put o.dst (U a' (n+m) c')) w'):wpList P ops Q (o::rest) a w:=
 wpList_plain hgd fun _ hK=>vH hE s x ho hs bU ao m c news Z hnone hl hnews N BC hbytes hbase fun a' c' w' Y=>hK _ _ (h a' c' w' Y)
theorem oP {P:Program} {t e:TypeId} {size bytes:Nat} (hE:EI P t e size bytes) {w:World} {ops:Array Oper} {o:Oper} {a:Act} {K:Act->World->Prop} {Q:Exit->Act->World->Prop} {E:Prop} (hgd:o.guard=none) (s x:Operand) (ho:o.op=.call { callee:=.builtin .append,args:=#[s,x],argTypes:=#[t,t] })
  {base:Nat} {v:Value} {n:Nat} {xs:List Value} (hs:a.eval s=v) (bU:w.ownsRow base e size v n xs)
  (ao:Option Addr) (m c:Nat) (news:List Value) (Z:a.eval x=U ao m c) (hnone:ao=none->m=0/\c=0) (hl:news.length=m*size) (hnews:∀ad,ao=some ad->∀j u,news[j]? =some u->w.cell? (ad.add j)=some u) (N:∀u∈news,u.oneCell'=true)
  (BC:n+m<=maxLen) (hbytes:(n+m)*bytes<=140737488355328) (hbase:base<=w.heap.size)
  (h:∀a' c' w',gL w w' base e size v (n+m) a' c' (xs++news)->K (a.put o.dst (U a' (n+m) c')) w'):if Region.wanted o (yielded ops a.tmps)=true then Oper.wp P o a w K Q else E:=by
 rw [bC (by simp [Region.wanted,hgd])];exact vH hE s x ho hs bU ao m c news Z hnone hl hnews N BC hbytes hbase h
theorem Qn {w:World} {base:Nat} {e:TypeId} {size n c:Nat} {ao:Option Addr} {xs:List Value} (h:w.ownsRow base e size (U ao n c) n xs):(ao=none->n=0/\c=0)/\∀ad,ao=some ad->∀j u,xs[j]? =some u->w.cell? (ad.add j)=some u:=by
 obtain⟨hl,⟨he,hn⟩|⟨g,cap,cur,he,hg,_⟩⟩:=id h
 ·simp only [Value.slice.injEq] at he
  obtain⟨rfl,rfl,rfl⟩:=he;exact⟨fun _=>⟨rfl,rfl⟩,fun _ h=>by cases h⟩
 ·simp only [Value.slice.injEq,true_and] at he
  obtain⟨rfl,rfl⟩:=he;refine⟨σ,?_⟩;rintro ad hd j u hu;obtain rfl:=bI hd;exact h.cells (g:=g) rfl j u hu
def EX {α:Type} (T:Ty α):Prop:=∀c cs x,T.R c cs x->∀u∈cs,u.oneCell'=true
theorem lJ {α:Type} {T:Ty α} {c:CM} {v:Value} {l:List α} (h:Sl T c v l):v.oneCell'=true:=by
 obtain⟨a,cap,rfl,-⟩:=h;rfl
theorem jX:EX Ty.int:=by
 rintro c cs x ⟨rfl,-⟩ u hu;simp only [List.mem_cons,List.not_mem_nil,or_false] at hu;subst hu;rfl
theorem jc:EX Ty.rc:=by
 rintro c cs x ⟨v,rfl,-,-,h⟩ u hu;simp only [List.mem_cons,List.not_mem_nil,or_false] at hu;rcases hu with rfl|rfl|rfl
 ·rfl
 ·rfl
 ·exact lJ h
theorem zo:EX Ty.rd:=by
 rintro c cs x ⟨v,rfl,-,h⟩ u hu;simp only [List.mem_cons,List.not_mem_nil,or_false] at hu;rcases hu with rfl|rfl
 ·rfl
 ·exact lJ h
theorem jG:EX Ty.bG:=by
 rintro c cs x ⟨v,v',rfl,-,h,h'⟩ u hu;simp only [List.mem_cons,List.not_mem_nil,or_false] at hu;rcases hu with rfl|rfl|rfl|rfl
 ·rfl
 ·exact lJ h
 ·rfl
 ·exact lJ h'
theorem pR:EX Ty.ms:=by
 rintro c cs x ⟨v,rfl,-,-,-,h⟩ u hu;simp only [List.mem_cons,List.not_mem_nil,or_false] at hu;rcases hu with rfl|rfl|rfl|rfl
 ·rfl
 ·rfl
 ·rfl
 ·exact lJ h
theorem Qo:EX Ty.hs:=by
 rintro c cs x ⟨v,v',v'',rfl,h,-,-,-,-,h',h''⟩ u hu;simp only [List.mem_cons,List.not_mem_nil,or_false] at hu;rcases hu with rfl|rfl|rfl|rfl|rfl|rfl|rfl
 ·exact lJ h
 ·rfl
 ·rfl
 ·rfl
 ·rfl
 ·exact lJ h'
 ·exact lJ h''
theorem lW {α:Type} (T:Ty α):EX (Ty.sl T):=by
 rintro c cs x ⟨v,rfl,h⟩ u hu;simp only [List.mem_cons,List.not_mem_nil,or_false] at hu;subst hu;exact lJ h
def Src {α:Type} (T:Ty α) (c:CM) (w:World) (v:Value) (l:List α):Prop:=
 ∃(ao:Option Addr) (cap:Nat) (css:List (List Value)),v=U ao l.length cap/\(ao=none->l.length=0/\cap=0)/\l.length<=maxLen/\css.length=l.length/\
  (∀(i:Nat) (cs:List Value) (x:α),css[i]? =some cs->l[i]? =some x->T.R c cs x)/\∀ad,ao=some ad->∀j u,css.flatten[j]? =some u->w.cell? (ad.add j)=some u
theorem Src.kK {α:Type} {T:Ty α} (h0:0<T.size) {c:CM} {w:World} (hc:Sub c w.cell?) {v:Value} {l:List α} (h:Sl T c v l):Src T c w v l:=by
 obtain⟨a,cap,rfl,N,Y,h3,hel⟩:=h;have hex:∀n,n<=l.length->∃css:List (List Value),css.length=n/\∀(i:Nat) (cs:List Value) (x:α),css[i]? =some cs->l[i]? =some x->T.R c cs x/\∀ad,a=some ad->At c ad.block (ad.off+i*T.size) cs/\ad=⟨ad.block,ad.off,none⟩:=by
  intro n;induction n with
  |zero=>intro _;exact⟨[],rfl,fun i cs x h=>by simp at h⟩
  |succ n ih=>
   intro hn;obtain⟨css,hl,hi⟩:=ih V;obtain⟨b,o,cs,ha,hR,hA⟩:=hel n l[n] (dM V);refine⟨css++ [cs],by simp [hl],fun i cs' x e e'=>?_⟩;by_cases hlt:i<css.length
   ·rw [List.getElem?_append_left hlt] at e;exact hi i cs' x e e'
   ·have hb:=(List.getElem?_eq_some_iff.1 e).1
    simp at hb;obtain rfl:i=css.length:=by omega
    simp at e;subst e;rw [hl,dM V] at e';obtain rfl:=bI e';refine⟨hR,fun ad h=>?_⟩;rw [ha] at h;obtain rfl:=bI h;exact⟨by rw [hl];exact hA,rfl⟩
 obtain⟨css,hl,hi⟩:=hex l.length (Nat.le_refl _);refine⟨a,cap,css,rfl,fun h=>⟨by have:=h3 h;omega,h3 h⟩,V,hl,fun i cs x e e'=>(hi i cs x e e').1,fun ad had j u hu=>?_⟩;have hcl:=nN (c:=c) hl (fun i cs x e e'=>(hi i cs x e e').1);rw [lI h0 css hcl] at hu;cases Z:css[j/T.size]? with
 |none=>rw [Z] at hu;cases hu
 |some cs=>
  rw [Z] at hu;have hlt:=(List.getElem?_eq_some_iff.1 Z).1;obtain⟨hA,hd⟩:=(hi _ cs _ Z (dM V)).2 ad had;have:=hA _ u hu;rw [Nat.add_assoc,Nat.mul_comm,Nat.div_add_mod] at this;rw [hd,Addr.add_lit];exact hc _ _ this
theorem Src.mono {α:Type} {T:Ty α} {c c':CM} {w w':World} {v:Value} {l:List α} (h:Src T c w v l) (hc:Sub c c') (hs:Sub w.cell? w'.cell?):Src T c' w' v l:=by
 obtain⟨ao,cap,css,N,Y,h2',h3,h4,h5⟩:=h;exact⟨ao,cap,css,N,Y,h2',h3,fun i cs x e e'=>T.mono hc (h4 i cs x e e'),fun ad had j u hu=>hs _ _ (h5 ad had j u hu)⟩
theorem Src.grow {α:Type} {T:Ty α} {c:CM} {w w':World} {v:Value} {l:List α} (h:Src T c w v l) (hg:aK w w'):Src T c w' v l:=h.mono (Sub.refl _) hg.sub
theorem Src.kept {α:Type} {T:Ty α} {c:CM} {w w':World} {g n cap:Nat} {l:List α} {row:Option Nat} (h:Src T c w (U (some ⟨g,0,none⟩) n cap) l) (hg:w.grownBy w' row) (hne:some g≠row):Src T c w' (U (some ⟨g,0,none⟩) n cap) l:=by
 obtain⟨ao,cap',css,N,Y,h2',h3,h4,h5⟩:=h;refine⟨ao,cap',css,N,Y,h2',h3,h4,fun ad had j u hu=>?_⟩;have e:=h5 ad had j u hu;simp only [Value.slice.injEq] at N;obtain⟨N,-,-⟩:=N;rw [had] at N;obtain rfl:=bI N;have hl:=eH w _ e;rw [World.cell?_of_block (w:=w) (hg.block _ hl (by rw [Addr.add_lit];exact hne))];exact e
theorem Src.dU {α:Type} {T:Ty α} {c:CM} {cs:Array Value} {x:α} (hR:T.R c cs.toList x) (w:World) (t:TypeId) {g:Nat} (hg:g=w.heap.size):Src T c (w.alloc (.cells cs t)) (U (some ⟨g,0,none⟩) 1 1) [x]:=by
 subst hg;refine⟨_,1,[cs.toList],rfl,σ,(by show 1<=maxLen;decide),rfl,fun i cs' y e e'=>?_,fun ad had j u hu=>?_⟩
 ·have hi:=(List.getElem?_eq_some_iff.1 e).1
  obtain rfl:i=0:=by simpa using hi
  simp at e e';subst e;subst e';exact hR
 ·obtain rfl:=bI had
  exact rP w cs t j u (by simpa using hu)
theorem bK.mY {α:Type} (T:Ty α) (c:CM) (w:World) (B:Nat) (e:TypeId) (hB:B<=w.heap.size) {g:Nat} (hg:g=w.heap.size):bK T c (w.alloc (.cells #[] e)) B e (U (some ⟨g,0,none⟩) 0 0) []:=by
 subst hg;exact⟨[],World.ownsRow_made w #[] 0 hB (Nat.zero_le _) σ,rfl,fun i cs x h=>by simp at h⟩
theorem gM {P:Program} {t e:TypeId} {size bytes:Nat} (hE:EI P t e size bytes) {α:Type} {T:Ty α} (hT:T.size=size) (N:EX T) {c:CM} {w:World} (ty:TypeId) {base:Nat} {v vs:Value} {l m:List α} (bU:bK T c w base e v l) (hsrc:Src T c w vs m)
  (zi:0<bytes) (hbytes:(l.length+m.length)*bytes<=140737488355328) (hbase:base<=w.heap.size):
  ∃a' c' w',(Builtin.append_ #[t,t] ty #[v,vs]).run P w=.ok (U a' (l.length+m.length) c') w'/\bK T c w' base e (U a' (l.length+m.length) c') (l++m)/\w.grownBy w' v.ownBlock/\
   ((Value.slice a' (l.length+m.length) c').ownBlock=v.ownBlock∨∃g,(Value.slice a' (l.length+m.length) c').ownBlock=some g/\w.heap.size<=g):=by
 obtain⟨css,k1,k2,k3⟩:=bU;obtain⟨ao,cap,nY,rfl,s2,s2',s3,s4,s5⟩:=hsrc;subst hT;have hcl:=nN s3 s4;have hle:l.length+m.length<=(l.length+m.length)*bytes:=Nat.le_mul_of_pos_right _ zi;obtain⟨a',c',w',hr,hA⟩:=Jf hE ty k1 ao m.length cap nY.flatten s2 (by rw [ou nY hcl,s3]) s5 (by
   intro u hu;obtain⟨cs,hcs,huc⟩:=List.mem_flatten.1 hu;obtain⟨i,hi,rfl⟩:=List.mem_iff_getElem.1 hcs;exact N _ _ _ (s4 i nY[i] m[i] σ σ) u huc) (by unfold maxLen;omega) hbytes hbase
 refine⟨a',c',w',hr,⟨css++nY,?_,by simp [k2,s3],fun i cs x e e'=>?_⟩,hA.grown,hA.blk⟩
 ·have:=hA.own
  rw [<-List.flatten_append] at this;simpa using this
 ·by_cases hi:i<l.length
  ·rw [List.getElem?_append_left V] at e
   rw [List.getElem?_append_left hi] at e';exact k3 i _ _ e e'
  ·rw [List.getElem?_append_right V] at e
   rw [List.getElem?_append_right V] at e';rw [k2] at e;exact s4 _ _ _ e e'
theorem fP {P:Program} {t e:TypeId} {size bytes:Nat} (hE:EI P t e size bytes) {α:Type} {T:Ty α} (hT:T.size=size) (N:EX T) (zi:0<bytes) {c:CM} {w:World} {o:Oper} {a:Act} {K:Act->World->Prop} {Q:Exit->Act->World->Prop} (s x:Operand) (ho:o.op=.call { callee:=.builtin .append,args:=#[s,x],argTypes:=#[t,t] })
  {base:Nat} {v vs:Value} {l m:List α} (hs:a.eval s=v) (bU:bK T c w base e v l) (Z:a.eval x=vs) (hsrc:Src T c w vs m)
  (hbytes:(l.length+m.length)*bytes<=140737488355328) (hbase:base<=w.heap.size)
  (h:∀a' c' w',bK T c w' base e (U a' (l.length+m.length) c') (l++m)->w.grownBy w' v.ownBlock->((Value.slice a' (l.length+m.length) c').ownBlock=v.ownBlock∨∃g,(Value.slice a' (l.length+m.length) c').ownBlock=some g/\w.heap.size<=g)->K (a.put o.dst (U a' (l.length+m.length) c')) w'):o.wp P a w K Q:=by
 obtain⟨a',c',w',hr,Y,h3,h4⟩:=gM hE hT N o.type bU hsrc zi hbytes hbase;unfold Oper.wp execOp;simp only [ho,resolve,invoke,builtin,Sem.run_bind,Sem.run_pure,Result.andThen_ok,List.map_toArray,List.map_cons,List.map_nil,hs,Z,hr];exact h a' c' w' Y h3 h4
theorem cO {P:Program} {t e:TypeId} {size bytes:Nat} (hE:EI P t e size bytes) {α:Type} {T:Ty α} (hT:T.size=size) (N:EX T) (zi:0<bytes) {c:CM} {w:World} {ops:Array Oper} {rest:List Oper} {o:Oper} {a:Act} {Q:Exit->Act->World->Prop} (hgd:o.guard=none) (s x:Operand) (ho:o.op=.call { callee:=.builtin .append,args:=#[s,x],argTypes:=#[t,t] })
  {base:Nat} {v vs:Value} {l m:List α} (hs:a.eval s=v) (bU:bK T c w base e v l) (Z:a.eval x=vs) (hsrc:Src T c w vs m)
  (hbytes:(l.length+m.length)*bytes<=140737488355328) (hbase:base<=w.heap.size)
  (h:∀a' c' w',bK T c w' base e (U a' (l.length+m.length) c') (l++m)->w.grownBy w' v.ownBlock->((Value.slice a' (l.length+m.length) c').ownBlock=v.ownBlock∨∃g,(Value.slice a' (l.length+m.length) c').ownBlock=some g/\w.heap.size<=g)->wpList P ops Q rest (a.put o.dst (U a' (l.length+m.length) c')) w'):wpList P ops Q (o::rest) a w:=
 wpList_plain hgd fun _ hK=>fP hE hT N zi s x ho hs bU Z hsrc hbytes hbase fun a' c' w' Y h3 h4=>hK _ _ (h a' c' w' Y h3 h4)
theorem vk {P:Program} {t e:TypeId} {size bytes:Nat} (hE:EI P t e size bytes) {α:Type} {T:Ty α} (hT:T.size=size) (N:EX T) (zi:0<bytes) {c:CM} {w:World} {ops:Array Oper} {o:Oper} {a:Act} {K:Act->World->Prop} {Q:Exit->Act->World->Prop} {E:Prop} (hgd:o.guard=none) (s x:Operand) (ho:o.op=.call { callee:=.builtin .append,args:=#[s,x],argTypes:=#[t,t] })
  {base:Nat} {v vs:Value} {l m:List α} (hs:a.eval s=v) (bU:bK T c w base e v l) (Z:a.eval x=vs) (hsrc:Src T c w vs m)
  (hbytes:(l.length+m.length)*bytes<=140737488355328) (hbase:base<=w.heap.size)
  (h:∀a' c' w',bK T c w' base e (U a' (l.length+m.length) c') (l++m)->w.grownBy w' v.ownBlock->((Value.slice a' (l.length+m.length) c').ownBlock=v.ownBlock∨∃g,(Value.slice a' (l.length+m.length) c').ownBlock=some g/\w.heap.size<=g)->K (a.put o.dst (U a' (l.length+m.length) c')) w'):if Region.wanted o (yielded ops a.tmps)=true then Oper.wp P o a w K Q else E:=by
 rw [bC (by simp [Region.wanted,hgd])];exact fP hE hT N zi s x ho hs bU Z hsrc hbytes hbase h
theorem iM {g n c B:Nat} (h:B<=g):∀k,(Value.slice (some ⟨g,0,none⟩) n c).ownBlock=some k->B<=k:=by
 intro k hk;obtain rfl:g=k:=by simpa [Value.ownBlock] using hk
 exact h
theorem Sl.nil {α:Type} (T:Ty α) (c:CM):Sl T c (U none 0 0) []:=⟨none,0,rfl,Nat.le_refl _,Nat.zero_le _,fun _=>rfl,fun i x e=>by simp at e⟩
theorem dI {w0 w w':World} {v:Value} (hG:aK w0 w) (hg:w.grownBy w' v.ownBlock) (hv:∀k,v.ownBlock=some k->w0.heap.size<=k):aK w0 w':=hG.grown hg hv
theorem ni {B m:Nat} {v:Value} {a':Option Addr} {n c':Nat} (hB:B<=m) (hb:(Value.slice a' n c').ownBlock=v.ownBlock∨∃g,(Value.slice a' n c').ownBlock=some g/\m<=g) (hv:∀k,v.ownBlock=some k->B<=k):∀k,(Value.slice a' n c').ownBlock=some k->B<=k:=by
 intro k hk;rcases hb with hb|⟨g,hb,hg⟩
 ·exact hv k (hb▸hk)
 ·rw [hb] at hk
  obtain rfl:=bI hk;exact Nat.le_trans hB hg
def jH (S:Int->Int):List Pt->Int
 | []=>0
 |p::l=>if wrap64 (S p.k+p.n)<0 then 11 else if 1048576<wrap64 (S p.k+p.n) then 4 else jH S l
def S4 (s0 s1 s2 s3:Int) (k:Int):Int:=if k=0 then s0 else if k=1 then s1 else if k=2 then s2 else s3
def jg (l:List Pt):Prop:=∀p∈l,0<=p.k/\p.k<4
theorem Qp (s0 s1 s2 s3 k:Int) (h0:0<=k) (N:k<4):(#[J s0,J s1,J s2,J s3]:Array Value)[k.toNat]? =some (J (S4 s0 s1 s2 s3 k)):=by
 have:k=0∨k=1∨k=2∨k=3:=by omega
 rcases this with rfl|rfl|rfl|rfl<;>rfl
theorem KD {v:Value} {l:List Pt} {s0 s1 s2 s3:Int} (w:World) (hv:pX w.cell? v l) (hk:jg l):
  Calls Tryz.prog 107 #[.agg #[J s0,J s1,J s2,J s3],v] w fun e w'=>e=.returned (J (jH (S4 s0 s1 s2 s3) l))/\aK w w':=by
 obtain⟨a,cap,rfl,N,Y,-,hel⟩:=hv;unfold maxLen at Y;go_enter Tryz.func107,Tryz.ntmps107;go_wp2;go_loopw [4,9] (fun _ i wr=>∃k:Nat,k<=l.length/\i=J k/\aK (w.alloc (.cells #[J s0,J s1,J s2,J s3] 47)) wr/\jH (S4 s0 s1 s2 s3) l=jH (S4 s0 s1 s2 s3) (l.drop k)) (fun _ i _=>l.length - (intOf i).toNat)
 case atStart=>exact⟨0,V,rfl,aG _,rfl⟩
 case round=>
  obtain⟨k,hk',rfl,hb,hE⟩:=hrel;have hbw:=((aG w).alloc _).trans hb;by_cases hlt:k<l.length
  ·obtain⟨b,o,rfl,c0,c1,c2,-,-,-⟩:=pX.at_ hel k hlt
   replace c0:=hbw.sub _ _ c0;replace c1:=hbw.sub _ _ c1;replace c2:=hbw.sub _ _ c2;obtain⟨Gj,SG⟩:=hk l[k] σ;have cs:wr.cell? ⟨w,l[k].k.toNat,none⟩=some (J (S4 s0 s1 s2 s3 l[k].k)):=hb.sub _ _ (by
    rw [World.cell?_alloc_new];exact Qp s0 s1 s2 s3 _ Gj SG)
   have hsz:w.heap.size<wr:=by have:=hb.size;simp at this;omega
   rw [List.drop_eq_getElem_cons hlt,jH] at hE;clear hel hk;generalize l[k].h=ph at*;generalize l[k].k=pk at*;generalize l[k].n=pn at*;generalize S4 s0 s1 s2 s3 pk=spk at*;have HE:=I hE;clear hE;go_wp2_with (go_quiet (fail))
   ·go_ret
    exact⟨dQ (by rw [HE.o,bC ‹_›]),je⟩
   ·go_ret
    rename_i t1 _ t2
    exact⟨dQ (by rw [HE.o,aV V,bC t2]),je⟩
   ·rename_i t1 _ t2
    go_roundw
    case rel=>exact⟨k+1,V,by go_num,je,by rw [HE.o,aV V,aV V]⟩
    case measure=>simp [intOf];omega
  ·go_wp2
   go_ret;refine⟨?_,hbw⟩;rw [hE,List.drop_of_length_le V];rfl
def jT (l:List Pt) (n:Int):List Pt:=l.filter fun p=>p.h==n
theorem KE {v:Value} {l:List Pt} {n:Int} (w:World) (hv:pX w.cell? v l) (hm:l.length*24<=140737488355328):
  Calls Tryz.prog 20 #[v,J n] w fun e w'=>∃v',e=.returned v'/\w'.ownsRow w.heap.size 111 3 v' (jT l n).length (yY (jT l n))/\aK w w':=by
 obtain⟨a,cap,rfl,N,Y,-,hel⟩:=hv;unfold maxLen at Y;go_enter Tryz.func20,Tryz.ntmps20;go_wp2;go_loopw [5,10] (fun v i wr=>∃k:Nat,k<=l.length/\i=J k/\aK w wr/\wr.ownsRow w.heap.size 111 3 v (jT (l.take k) n).length (yY (jT (l.take k) n))) (fun _ i _=>l.length - (intOf i).toNat)
 case atStart=>exact⟨0,V,rfl,aG _,World.ownsRow_nil _ _ _ _⟩
 case round=>
  obtain⟨k,hk',rfl,hb,bU⟩:=hrel;by_cases hlt:k<l.length
  ·obtain⟨b,o,rfl,c0,c1,c2,-,-,-⟩:=pX.at_ hel k hlt
   replace c0:=hb.sub _ _ c0;replace c1:=hb.sub _ _ c1;replace c2:=hb.sub _ _ c2;have hd:jT (l.take (k+1)) n=jT (l.take k) n++if l[k].h==n then [l[k]] else []:=by
    rw [List.take_succ_eq_append_getElem hlt,jT,List.filter_append];by_cases h:l[k].h==n<;>simp [h,jT]
   have hle:(jT (l.take k) n).length<=k:=Nat.le_trans (List.length_filter_le _ _) (List.length_take_le _ _);clear hel;generalize hp:l[k]=p at*;obtain⟨ph,pk,pn⟩:=p;clear hp;simp only at c0 c1 c2 hd;have HD:=I hd;clear hd;generalize jT (l.take k) n=acc at*;have hsz:=hb.size;cases ht:(ph==n)
   ·go_wp2_with (go_quiet (fail))
    go_roundw
    case rel=>exact⟨k+1,V,by go_num,je,by rw [HD.o,ht];simpa using bU.alloc _⟩
    case measure=>simp [intOf];omega
   ·go_wp2_with (at_builtin;refine app1 Ky rfl _ _ rfl (hb.alloc _) rfl (bU.alloc _) rfl σ rfl (by simp [Value.oneCell']) V ε ?_;intro v' w' hown' hb' _)
    go_roundw
    case rel=>exact⟨k+1,V,by go_num,hb',by rw [HD.o,ht];simpa [Ql,Pt.cells] using hown'⟩
    case measure=>simp [intOf];omega
  ·have KF:k=l.length:=by omega
   rw [eG V] at bU;clear hel;go_wp2;go_ret;exact⟨_,rfl,bU,hb⟩
def Sm.get (s:Sm) (k:Int):Int:=S4 s.a s.b s.c s.d k
def Sm.put (s:Sm) (k x:Int):Sm:=if k=0 then { s with a:=x } else if k=1 then { s with b:=x } else if k=2 then { s with c:=x } else { s with d:=x }
def Sm.add (s:Sm) (k n:Int):Sm:=s.put k (wrap64 (s.get k+n))
def pY (s:Sm) (l:List Pt):Sm:=l.foldl (fun s p=>s.add p.k p.n) s
theorem Sm.Zn (s:Sm) (k x:Int) (h0:0<=k) (N:k<4):(#[J s.a,J s.b,J s.c,J s.d]:Array Value).setIfInBounds k.toNat (J x)=#[J (s.put k x).a,J (s.put k x).b,J (s.put k x).c,J (s.put k x).d]:=by
 have:k=0∨k=1∨k=2∨k=3:=by omega
 rcases this with rfl|rfl|rfl|rfl<;>rfl
theorem Sm.Td {w:World} {B:Nat} {s:Sm} {t:TypeId} (h:w.heap[B]? =some (.cells #[J s.a,J s.b,J s.c,J s.d] t (0,0))) (k:Int) (h0:0<=k) (N:k<4):w.cell? ⟨B,k.toNat,none⟩=some (J (s.get k)):=by
 simp only [World.cell?,h];exact Qp _ _ _ _ _ h0 N
theorem Sm.gJ {w:World} {B:Nat} {s:Sm} {t:TypeId} (h:w.heap[B]? =some (.cells #[J s.a,J s.b,J s.c,J s.d] t (0,0))) (o:Nat):w.frozen? ⟨B,o,none⟩=false:=by
 simp [World.frozen?,h]
theorem Sm.Yc {w:World} {B:Nat} {s:Sm} {t:TypeId} (h:w.heap[B]? =some (.cells #[J s.a,J s.b,J s.c,J s.d] t (0,0))) (k x:Int) (h0:0<=k) (N:k<4):(w.setCell ⟨B,k.toNat,none⟩ (J x)).heap[B]? =some (.cells #[J (s.put k x).a,J (s.put k x).b,J (s.put k x).c,J (s.put k x).d] t (0,0)):=by
 simp only [World.setCell,Array.getElem?_modify,h];simp [<-Sm.Zn s k x h0 N]
theorem bQ {w:World} {B:Nat} {o:Obj} (h:w.heap[B]? =some o) (o':Obj):(w.alloc o').heap[B]? =some o:=by
 exact(Below.heap_alloc w o' B (γ h)).trans h
theorem BE {v:Value} {l:List Pt} {s:Sm} (w:World) (hv:pX w.cell? v l) (hk:jg l):
  Calls Tryz.prog 74 #[.agg #[J s.a,J s.b,J s.c,J s.d],v] w fun e w'=>e=.returned (.agg #[J (pY s l).a,J (pY s l).b,J (pY s l).c,J (pY s l).d])/\aK w w':=by
 obtain⟨a,cap,rfl,N,Y,-,hel⟩:=hv;unfold maxLen at Y;go_enter Tryz.func74,Tryz.ntmps74;go_wp2;go_loopw [9] (fun i wr=>∃(k:Nat) (s':Sm),k<=l.length/\i=J k/\aK w wr/\pY s' (l.drop k)=pY s l/\wr.heap[w.heap.size]? =some (.cells #[J s'.a,J s'.b,J s'.c,J s'.d] 47 (0,0))/\wr.heap[w.heap.size+1]? =some (.cells #[J 0,J 0,J 0,J 0] 47 (0,0))) (fun i _=>l.length - (intOf i).toNat)
 case atStart=>exact⟨0,s,V,rfl,je,rfl,bQ (heap_alloc_new w _) _,by simpa using heap_alloc_new (w.alloc _) _⟩
 case round=>
  obtain⟨k,s',hk',rfl,hb,hE,hrow,iJ⟩:=hrel;have HE:=I hE;clear hE;by_cases hlt:k<l.length
  ·obtain⟨b,o,rfl,c0,c1,c2,-,-,-⟩:=pX.at_ hel k hlt
   replace c0:=hb.sub _ _ c0;replace c1:=hb.sub _ _ c1;replace c2:=hb.sub _ _ c2;obtain⟨Gj,SG⟩:=hk l[k] σ;have HR:=I hrow;have zu:=I iJ;have cs:=Sm.Td hrow _ Gj SG;have cf:=Sm.gJ hrow l[k].k.toNat;have hsz:w.heap.size<wr:=(γ hrow);have HD:=I (List.drop_eq_getElem_cons hlt);clear hel hk hrow iJ;generalize hp:l[k]=p at*;obtain⟨ph,pk,pn⟩:=p;clear hp;simp only at c0 c1 c2 Gj SG cs cf;go_wp2;go_region
   go_wp2;go_roundw
   case rel=>exact⟨k+1,s'.add pk pn,V,by go_num,je,by rw [<-HE.o,HD.o];rfl,bQ (Sm.Yc HR.o _ _ Gj SG) _,bQ ((Below.heap_setCell _ _ _ _ σ).trans zu.o) _⟩
   case measure=>simp [intOf];omega
  ·have e0:wr.cell? ⟨w,0,none⟩=some (J s'.a):=by simp [World.cell?,hrow]
   have e1:wr.cell? ⟨w,1,none⟩=some (J s'.b):=by simp [World.cell?,hrow]
   have e2:wr.cell? ⟨w,2,none⟩=some (J s'.c):=by simp [World.cell?,hrow]
   have e3:wr.cell? ⟨w,3,none⟩=some (J s'.d):=by simp [World.cell?,hrow]
   have z0:wr.cell? ⟨w+1,0,none⟩=some (J 0):=by simp [World.cell?,iJ]
   have z1:wr.cell? ⟨w+1,1,none⟩=some (J 0):=by simp [World.cell?,iJ]
   have z2:wr.cell? ⟨w+1,2,none⟩=some (J 0):=by simp [World.cell?,iJ]
   have z3:wr.cell? ⟨w+1,3,none⟩=some (J 0):=by simp [World.cell?,iJ]
   have zf:∀o,wr.frozen? ⟨w+1,o,none⟩=false:=by simp [World.frozen?,iJ]
   have hs:s'=pY s l:=by rw [<-HE.o,List.drop_of_length_le V];rfl
   have HS:=I hs;clear hrow iJ hel hk HE hs;go_wp2;refine dw (v:=.agg #[J s'.a,J s'.b,J s'.c,J s'.d]) (by simp [results,Tryz.results74,go_sem,z0,z1,z2,z3]) rfl ?_;refine⟨by rw [HS.o],?_⟩;refine aK.setCell (aK.setCell (aK.setCell (aK.setCell hb ?_ _) ?_ _) ?_ _) ?_ _<;>simp
theorem Zo {v:Value} {l:List Pt} {s0 s1 s2 s3:Int} (w:World) (hv:pX w.cell? v l) (hk:jg l):
  Calls Tryz.prog 136 #[.agg #[J s0,J s1,J s2,J s3],v] w fun e w'=>e=.returned (J (jH (S4 s0 s1 s2 s3) l))/\aK w w':=by
 obtain⟨a,cap,rfl,N,Y,-,hel⟩:=hv;unfold maxLen at Y;go_enter Tryz.func136,Tryz.ntmps136;go_wp2;go_loopw [4,10] (fun _ i wr=>∃k:Nat,k<=l.length/\i=J k/\aK (w.alloc (.cells #[J s0,J s1,J s2,J s3] 47)) wr/\jH (S4 s0 s1 s2 s3) l=jH (S4 s0 s1 s2 s3) (l.drop k)) (fun _ i _=>l.length - (intOf i).toNat)
 case atStart=>exact⟨0,V,rfl,aG _,rfl⟩
 case round=>
  obtain⟨k,hk',rfl,hb,hE⟩:=hrel;have hbw:=((aG w).alloc _).trans hb;by_cases hlt:k<l.length
  ·obtain⟨b,o,rfl,c0,c1,c2,-,-,-⟩:=pX.at_ hel k hlt
   replace c0:=hbw.sub _ _ c0;replace c1:=hbw.sub _ _ c1;replace c2:=hbw.sub _ _ c2;obtain⟨Gj,SG⟩:=hk l[k] σ;have cs:wr.cell? ⟨w,l[k].k.toNat,none⟩=some (J (S4 s0 s1 s2 s3 l[k].k)):=hb.sub _ _ (by
    rw [World.cell?_alloc_new];exact Qp s0 s1 s2 s3 _ Gj SG)
   have hsz:w.heap.size<wr:=by have:=hb.size;simp at this;omega
   rw [List.drop_eq_getElem_cons hlt,jH] at hE;clear hel hk;generalize l[k].h=ph at*;generalize l[k].k=pk at*;generalize l[k].n=pn at*;generalize S4 s0 s1 s2 s3 pk=spk at*;have HE:=I hE;clear hE;go_wp2;go_region
   all_goals go_wp2
   ·go_ret
    exact⟨dQ (by rw [HE.o,bC ‹_›]),je⟩
   ·go_ret
    rename_i t1 _ t2
    exact⟨dQ (by rw [HE.o,aV V,bC t2]),je⟩
   ·rename_i t1 _ t2
    go_roundw
    case rel=>exact⟨k+1,V,by go_num,je,by rw [HE.o,aV V,aV V]⟩
    case measure=>simp [intOf];omega
  ·go_wp2
   go_ret;refine⟨?_,hbw⟩;rw [hE,List.drop_of_length_le V];rfl
def D5 (s:Sm):Bool:=decide (0<=s.a/\s.a<=1048576/\0<=s.b/\s.b<=1048576/\0<=s.c/\s.c<=1048576/\0<=s.d/\s.d<=1048576)
theorem Ws (s:Sm):D5 s=true↔∀k:Nat,k<4->0<=s.get k/\s.get k<=1048576:=by
 unfold D5 Sm.get S4;simp only [decide_eq_true_eq];constructor
 ·rintro⟨a,b,c,d,e,f,g,h⟩ k hk
  have:k=0∨k=1∨k=2∨k=3:=by omega
  rcases this with rfl|rfl|rfl|rfl<;>simp<;>omega
 ·intro h
  have h0:=h 0 V;have N:=h 1 V;have Y:=h 2 V;have h3:=h 3 V;simp at h0 N Y h3;omega
def nO (x:Int) (l:List Pt) (k:Int):Int:=l.foldl (fun x p=>if p.k=k then wrap64 (x+p.n) else x) x
theorem Sm.get_put (s:Sm) {j k:Int} (x:Int) (h0:0<=j) (N:j<4) (g0:0<=k) (g1:k<4):(s.put k x).get j=if j=k then x else s.get j:=by
 have a:j=0∨j=1∨j=2∨j=3:=by omega
 have b:k=0∨k=1∨k=2∨k=3:=by omega
 rcases a with rfl|rfl|rfl|rfl<;>rcases b with rfl|rfl|rfl|rfl<;>rfl
theorem Sm.ext_get {s t:Sm} (h:∀j:Int,0<=j->j<4->s.get j=t.get j):s=t:=by
 obtain⟨a,b,c,d⟩:=s;obtain⟨a',b',c',d'⟩:=t;have h0:=h 0 V V;have N:=h 1 V V;have Y:=h 2 V V;have h3:=h 3 V V;simp [Sm.get,S4] at h0 N Y h3;simp [h0,N,Y,h3]
theorem Qq:∀(l:List Pt) (s:Sm),jg l->∀j:Int,0<=j->j<4->(pY s l).get j=nO (s.get j) l j
 | [],s,_,j,_,_=>rfl
 |p::l,s,hk,j,h0,N=>by
  have hp:=hk p σ;show(pY (s.add p.k p.n) l).get j=nO (if p.k=j then wrap64 (s.get j+p.n) else s.get j) l j;rw [Qq l _ (fun q O=>hk q (by simp [O])) j h0 N,Sm.add,Sm.get_put s _ h0 N hp.1 hp.2];by_cases h:j=p.k
  ·simp [h]
  ·have:¬p.k=j:=fun e=>h e.symm
   simp [h,this]
theorem Sm.BT (s:Sm) {k:Int} (h0:0<=k) (N:k<4):s.put k (s.get k)=s:=
 Sm.ext_get fun j a b=>by
  rw [Sm.get_put s _ a b h0 N];split
  ·subst j;rfl
  ·rfl
theorem Sm.BV (s:Sm) {k:Int} (x y:Int) (h0:0<=k) (N:k<4):(s.put k x).put k y=s.put k y:=
 Sm.ext_get fun j a b=>by
  rw [Sm.get_put _ _ a b h0 N,Sm.get_put _ _ a b h0 N,Sm.get_put _ _ a b h0 N];split<;>rfl
theorem gN {v:Value} {l:List Pt} {s:Sm} (w:World) (hv:pX w.cell? v l) (hk:jg l):
  Calls Tryz.prog 21 #[.agg #[J s.a,J s.b,J s.c,J s.d],v] w fun e w'=>e=.returned (.agg #[J (pY s l).a,J (pY s l).b,J (pY s l).c,J (pY s l).d])/\aK w w':=by
 obtain⟨a,cap,rfl,N,Y,-,hel⟩:=hv;unfold maxLen at Y;have BW:=I (Qq l s hk);clear hk;go_enter Tryz.func21,Tryz.ntmps21;go_wp2;go_loopw [5,7,8,12,13] (fun _ _ i _ _ wr=>∃(k:Nat) (s':Sm),k<=4/\i=J k/\aK w wr/\(∀j:Nat,j<4->s'.get j=if j<k then nO (s.get j) l j else s.get j)/\wr.heap[w.heap.size]? =some (.cells #[J s'.a,J s'.b,J s'.c,J s'.d] 47 (0,0))/\wr.heap[w.heap.size+1]? =some (.cells #[J 0,J 0,J 0,J 0] 47 (0,0))) (fun _ _ i _ _ _=>4 - (intOf i).toNat)
 case atStart=>exact⟨0,s,V,rfl,je,fun j _=>σ,bQ (heap_alloc_new w _) _,by simpa using heap_alloc_new (w.alloc _) _⟩
 case round=>
  obtain⟨k,s',hk',rfl,hb,hE,hrow,iJ⟩:=hrel;have HE:=I hE;clear hE;by_cases hlt:k<4
  ·have HR:=I hrow
   have zu:=I iJ;clear hrow iJ;go_wp2;rw [show decide ((k:Int)<4)=true by simp;omega];go_loopw [7,13] (fun _ i wx=>∃(m:Nat) (s2:Sm),m<=l.length/\i=J m/\aK w wx/\s2=s'.put k (nO (s'.get k) (l.take m) k)/\wx.heap[w.heap.size]? =some (.cells #[J s2.a,J s2.b,J s2.c,J s2.d] 47 (0,0))/\wx.heap[w.heap.size+1]? =some (.cells #[J 0,J 0,J 0,J 0] 47 (0,0))) (fun _ i _=>l.length - (intOf i).toNat)
   case atStart=>exact⟨0,s',V,rfl,je,(Sm.BT s' V V).symm,HR.o,zu.o⟩
   case round=>
    obtain⟨m,s2,hm',rfl,hbx,hs2,hrow,iJ⟩:=hrel;have Gl:=I hs2;clear hs2;by_cases hlm:m<l.length
    ·obtain⟨b,o,rfl,c0,c1,c2,-,-,-⟩:=pX.at_ hel m hlm
     replace c0:=hbx.sub _ _ c0;replace c1:=hbx.sub _ _ c1;replace c2:=hbx.sub _ _ c2;have HR:=I hrow;have zu:=I iJ;have cs:=Sm.Td hrow k V V;have cf:=Sm.gJ hrow k;have hsz:w.heap.size<wr:=(γ hrow);have hstep:nO (s'.get k) (l.take (m+1)) k=if l[m].k=k then wrap64 (nO (s'.get k) (l.take m) k+l[m].n) else nO (s'.get k) (l.take m) k:=by
      rw [List.take_succ_eq_append_getElem hlm,nO,List.foldl_append];rfl
     have HST:=I hstep;have Wu:s2.get k=nO (s'.get k) (l.take m) k:=by rw [Gl.o,Sm.get_put _ _ V V V V,bC rfl]
     have yh:=I Wu;clear hel hrow iJ hstep Wu;simp only [Int.toNat_natCast] at cs;generalize hp:l[m]=p at*;obtain⟨ph,pk,pn⟩:=p;clear hp;simp only at c0 c1 c2;generalize Z:s2.get k=x at*;clear Z;by_cases hkk:pk=(k:Int)
     ·have tk:(pk==(k:Int))=true:=by simpa using hkk
      have M:=I hkk;clear hkk;go_wp2;go_region
      go_wp2;go_roundw
      case rel=>
       refine⟨m+1,s2.put k (wrap64 (x+pn)),V,by go_num,je,?_,bQ (Sm.Yc (k:=(k:Int)) HR.o _ V V) _,bQ ((Below.heap_setCell _ _ _ _ σ).trans zu.o) _⟩;have h:=HST.o;rw [bC M.o] at h;rw [h,<-yh.o,Gl.o,Sm.BV _ _ _ V V]
      case measure=>simp [intOf];omega
     ·have tk:(pk==(k:Int))=false:=by simpa using hkk
      have M:=I hkk;clear hkk;go_wp2;go_roundw
      case rel=>
       refine⟨m+1,s2,V,by go_num,je,?_,bQ HR.o _,bQ zu.o _⟩;have h:=HST.o;rw [aV M.o] at h;rw [h];exact Gl.o
      case measure=>simp [intOf];omega
    ·have hfin:s2=s'.put k (nO (s'.get k) l k):=by
      have:=Gl.o;rw [eG V] at this;exact this
     have HF:=I hfin;clear hfin hel;go_wp2;go_roundw
     case rel=>
      refine⟨k+1,s2,V,by go_num,hbx,fun j hj=>?_,hrow,iJ⟩;rw [HF.o,Sm.get_put _ _ V V V V];by_cases hjk:j=k
      ·subst hjk
       rw [bC rfl,bC V,HE.o j hj,aV V]
      ·rw [aV V,HE.o j hj]
       by_cases h:j<k
       ·rw [bC h,bC V]
       ·rw [aV h,aV V]
     case measure=>simp [intOf];omega
  ·have e0:wr.cell? ⟨w,0,none⟩=some (J s'.a):=by simp [World.cell?,hrow]
   have e1:wr.cell? ⟨w,1,none⟩=some (J s'.b):=by simp [World.cell?,hrow]
   have e2:wr.cell? ⟨w,2,none⟩=some (J s'.c):=by simp [World.cell?,hrow]
   have e3:wr.cell? ⟨w,3,none⟩=some (J s'.d):=by simp [World.cell?,hrow]
   have z0:wr.cell? ⟨w+1,0,none⟩=some (J 0):=by simp [World.cell?,iJ]
   have z1:wr.cell? ⟨w+1,1,none⟩=some (J 0):=by simp [World.cell?,iJ]
   have z2:wr.cell? ⟨w+1,2,none⟩=some (J 0):=by simp [World.cell?,iJ]
   have z3:wr.cell? ⟨w+1,3,none⟩=some (J 0):=by simp [World.cell?,iJ]
   have zf:∀o,wr.frozen? ⟨w+1,o,none⟩=false:=by simp [World.frozen?,iJ]
   have hs:s'=pY s l:=Sm.ext_get fun j a b=>by
    have:=HE.o j.toNat V;rw [bC V,show((j.toNat:Nat):Int)=j by omega] at this;rw [this,BW.o j a b]
   have HS:=I hs;clear hrow iJ hel HE hs BW;go_wp2;refine dw (v:=.agg #[J s'.a,J s'.b,J s'.c,J s'.d]) (by simp [results,Tryz.results21,go_sem,z0,z1,z2,z3]) rfl ?_;refine⟨by rw [HS.o],?_⟩;refine aK.setCell (aK.setCell (aK.setCell (aK.setCell hb ?_ _) ?_ _) ?_ _) ?_ _<;>simp
theorem sO (b j:Nat):((⟨b,0,none⟩:Addr).add j)=⟨b,j,none⟩:=by unfold Addr.add;split<;>simp_all
section
variable {P:Program} {ops:Array Oper} {Q:Exit->Act->World->Prop} {md:Region.Mode} {S:World->Prop} {c:Nat}
def uP (md:Region.Mode) (ops:Array Oper) (listed:Array Bool):Prop:=
 listed.size=ops.size/\∀(j:Nat) (o:Oper),ops[j]? =some o->listed.getD j true=true->∀e∈o.after,Region.binds md e=true->listed.getD e.on false=true
def waitsFor (md:Region.Mode) (ops:Array Oper):Nat->Nat->Nat->Bool
 |0,_,_=>false
 |f+1,i,c=>((ops[c]?).map fun o=>o.after.toList.any fun e=>Region.binds md e&&(e.on==i||waitsFor md ops f i e.on)).getD false
theorem KG {f i:Nat} {listed:Array Bool} (hc:uP md ops listed) (hi:listed.getD i false=false):∀{c:Nat},waitsFor md ops f i c=true->c∉Region.ready md ops listed/\(c<ops.size->listed.getD c false=false):=by
 induction f with
 |zero=>intro c h;cases h
 |succ f ih=>
  intro c h;unfold waitsFor at h;cases ho:ops[c]? with
  |none=>rw [ho] at h;cases h
  |some o=>
   rw [ho] at h;simp only [Option.map_some,Option.getD_some,List.any_eq_true,Bool.and_eq_true,Bool.or_eq_true,beq_iff_eq] at h;obtain⟨e,he,hb,hor⟩:=h;have he':e∈o.after:=by simpa using he
   have hun:listed.getD e.on false=false:=by
    rcases hor with rfl|Y
    ·exact hi
    ·have h3:=ih Y
     by_cases hlt:e.on<ops.size
     ·exact h3.2 hlt
     ·simp [Array.getElem?_eq_none (xs:=listed) (i:=e.on) (by rw [hc.1];omega)]
   refine⟨fun hr=>?_,fun _=>?_⟩
   ·obtain⟨_,o',ho',hall⟩:=mem_ready.1 hr
    rw [ho] at ho';obtain rfl:=bI ho';have:=hall e he' hb;rw [hun] at this;cases this
   ·by_cases ht:listed.getD c true=true
    ·have:=hc.2 c o ho ht e he' hb
     rw [hun] at this;cases this
    ·have hlt:=(γ ho)
     have hl:c<listed.size:=by rw [hc.1];exact hlt
     simp [hl] at ht ⊢;exact ht
theorem uP.set {listed:Array Bool} (h:uP md ops listed) {j:Nat} (hj:j∈Region.ready md ops listed):uP md ops (listed.setIfInBounds j true):=by
 refine⟨by simpa using h.1,fun k o ho hk e he hb=>?_⟩;obtain⟨_,oj,hoj,hall⟩:=mem_ready.1 hj;have keep:listed.getD e.on false=true->(listed.setIfInBounds j true).getD e.on false=true:=by
  intro Z;by_cases hje:j=e.on
  ·rw [hje]
   by_cases hl:e.on<listed.size
   ·simp [hl]
   ·simp [hl] at Z
  ·rw [getD_set_ne false hje];exact Z
 by_cases hjk:j=k
 ·subst hjk
  rw [hoj] at ho;obtain rfl:=bI ho;exact keep (hall e he hb)
 ·rw [getD_set_ne true hjk] at hk
  exact keep (h.2 k o ho hk e he hb)
def oz (P:Program) (md:Region.Mode) (ops:Array Oper) (Q:Exit->Act->World->Prop) (S:World->Prop) (c:Nat):Nat->Array Bool->Act->World->Prop
 |0,listed,a,w=>Region.ready md ops listed=[]/\Q .normal a w
 |fuel+1,listed,a,w=>(Region.ready md ops listed=[]->Q .normal a w)/\∀i∈Region.ready md ops listed,wpOp P ops Q i (fun a' w'=>(i≠c->S w')/\oz P md ops Q S c fuel (listed.setIfInBounds i true) a' w') a w
theorem OY:∀(fuel:Nat) (listed:Array Bool) (a:Act) (w:World),oz P md ops Q S c fuel listed a w->wpAny P md ops Q fuel listed a w
 |0,_,_,_,h=>h
 |_+1,_,_,_,h=>⟨h.1,fun i hi=>wpOp_mono (fun a' w' h'=>OY _ _ a' w' h'.2) (h.2 i hi)⟩
theorem Jg {i f:Nat} {oi:Oper} {v:Value} (hi:ops[i]? =some oi) (hsel:∀(j:Nat) (o:Oper) cs b,ops[j]? =some o->o.op≠ .select cs b)
  (hQ:∀k a w,Q (.panic k) (a.put oi.dst v) w->Q (.panic k) a w) (hw:waitsFor md ops f i c=true):
  ∀(fuel:Nat) (listed:Array Bool) (a:Act) (w:World),uP md ops listed->
   (∀j oj,ops[j]? =some oj->j≠i->listed.getD j true=false->(∀e∈oj.after,Region.binds md e=true->e.on≠i)->oi.apart ops oj=true)->
   i∈Region.ready md ops listed->YieldsIf P ops S oi v a->S w->
   oz P md ops Q S c fuel (listed.setIfInBounds i true) (a.put oi.dst v) w->oz P md ops Q S c (fuel+1) listed a w:=by
 have hun:∀listed:Array Bool,i∈Region.ready md ops listed->listed.getD i false=false:=by
  intro listed hr;have h0:=(mem_ready.1 hr).1;by_cases hl:i<listed.size
  ·simp [hl] at h0 ⊢;exact h0
  ·simp [hl]
 intro fuel;induction fuel with
 |zero=>
  intro listed a w _ _ hr hy hS H;refine⟨fun h=>(by rw [h] at hr;cases hr),fun j hj=>?_⟩;by_cases hji:j=i
  ·subst hji;exact hy.wpOp hi hS ⟨fun _=>hS,H⟩
  ·have:=ready_mono hj hji
   rw [H.1] at this;cases this
 |succ fuel ih=>
  intro listed a w hcl hfree hr hy hS H;refine⟨fun h=>(by rw [h] at hr;cases hr),fun j hj=>?_⟩;by_cases hji:j=i
  ·subst hji;exact hy.wpOp hi hS ⟨fun _=>hS,H⟩
  ·have hjc:j≠c:=fun e=>(KG hcl (hun _ hr) hw).1 (e▸hj)
   have N:=H.2 j (ready_mono hj hji);obtain⟨hjun,oj,hoj,hall⟩:=mem_ready.1 hj;have hnot:∀e∈oj.after,Region.binds md e=true->e.on≠i:=fun e he hb heq=>by
    have N:=hall e he hb;rw [heq,hun _ hr] at N;cases N
   have Y:=wpOp_putIf hoj (hfree j oj hoj hji hjun hnot) (fun cs b=>hsel i oi cs b hi) (fun cs b=>hsel j oj cs b hoj) hQ hy N;refine wpOp_mono (fun a' w' h3=>⟨fun _=>h3.2.1 hjc,ih (listed.setIfInBounds j true) a' w' (hcl.set hj) (fun k ok hk hki hku hno=>?_) (ready_mono hr (Ne.symm hji)) h3.1 (h3.2.1 hjc) ?_⟩) Y
   ·refine hfree k ok hk hki ?_ hno
    by_cases hjk:j=k
    ·subst hjk;exact hjun
    ·rw [getD_set_ne true hjk] at hku;exact hku
   ·rw [Array.setIfInBounds_comm _ _ hji]
    exact h3.2.2
def Tf (md:Region.Mode) (ops:Array Oper) (listed:Array Bool):Bool:=
 listed.size==ops.size&&(List.range ops.size).all fun j=>((ops[j]?).map fun o=>!(listed.getD j true)||o.after.toList.all fun e=>!Region.binds md e||listed.getD e.on false).getD true
theorem Qr {listed:Array Bool} (h:Tf md ops listed=true):uP md ops listed:=by
 unfold Tf at h;simp only [Bool.and_eq_true,beq_iff_eq,List.all_eq_true,List.mem_range] at h;refine⟨h.1,fun j o ho hj e he hb=>?_⟩;have Y:=h.2 j (γ ho);rw [ho] at Y;simp only [Option.map_some,Option.getD_some,hj,Bool.not_true,Bool.false_or,List.all_eq_true,Bool.or_eq_true] at Y;rcases Y e (by simpa using he) with h3|h3
 ·rw [hb] at h3;cases h3
 ·exact h3
theorem yC {i:Nat} (f:Nat) {oi:Oper} {v:Value} {fuel:Nat} {listed:Array Bool} {a:Act} {w:World} (hi:ops[i]? =some oi)
  (hs:Region.noSelect ops=true) (hf:Region.free md ops listed i=true) (hr:(Region.ready md ops listed).contains i=true) (hw:waitsFor md ops f i c=true) (hcl:Tf md ops listed=true)
  (hQ:∀k a w,Q (.panic k) (a.put oi.dst v) w->Q (.panic k) a w) (hS:S w) (hy:YieldsIf P ops S oi v a)
  (h:oz P md ops Q S c fuel (listed.setIfInBounds i true) (a.put oi.dst v) w):oz P md ops Q S c (fuel+1) listed a w:=
 Jg hi (Region.noSelect_spec hs) hQ hw fuel listed a w (Qr hcl) (Region.free_spec hi hf) (by simpa using hr) hy hS h
theorem bW {listed:Array Bool} {a:Act} {w:World} {fuel:Nat} (hr:Region.ready md ops listed=[]) (h:Q .normal a w):oz P md ops Q S c fuel listed a w:=by
 cases fuel with
 |zero=>exact⟨hr,h⟩
 |succ n=>exact⟨fun _=>h,by rw [hr];simp⟩
theorem iU {i:Nat} {o:Oper} {fuel:Nat} {listed:Array Bool} {a:Act} {w:World} (hr:Region.ready md ops listed=[i]) (hi:ops[i]? =some o)
  (h:∀K:Act->World->Prop,(∀a' w',(i≠c->S w')/\oz P md ops Q S c fuel (listed.setIfInBounds i true) a' w'->K a' w')->if Region.wanted o (yielded ops a.tmps)=true then Oper.wp P o a w K Q else K (a.put o.dst undef) w):
  oz P md ops Q S c (fuel+1) listed a w:=by
 refine⟨fun h0=>absurd (h0.symm.trans hr) σ,fun j hj=>?_⟩;rw [hr] at hj;obtain rfl:j=i:=by simpa using hj
 exact wpOp_step hi fun K hK=>h K hK
theorem EY {i j:Nat} {o o':Oper} {fuel:Nat} {listed:Array Bool} {a:Act} {w:World} (hr:Region.ready md ops listed=[i,j]) (hi:ops[i]? =some o) (hj:ops[j]? =some o')
  (h:∀K:Act->World->Prop,(∀a' w',(i≠c->S w')/\oz P md ops Q S c fuel (listed.setIfInBounds i true) a' w'->K a' w')->if Region.wanted o (yielded ops a.tmps)=true then Oper.wp P o a w K Q else K (a.put o.dst undef) w)
  (h':∀K:Act->World->Prop,(∀a' w',(j≠c->S w')/\oz P md ops Q S c fuel (listed.setIfInBounds j true) a' w'->K a' w')->if Region.wanted o' (yielded ops a.tmps)=true then Oper.wp P o' a w K Q else K (a.put o'.dst undef) w):
  oz P md ops Q S c (fuel+1) listed a w:=by
 refine⟨fun h0=>absurd (h0.symm.trans hr) σ,fun x Z=>?_⟩;rw [hr] at Z;have Z:x=i∨x=j:=by simpa using Z
 rcases Z with rfl|rfl
 ·exact wpOp_step hi fun K hK=>h K hK
 ·exact wpOp_step hj fun K hK=>h' K hK
def tk (P:Program) (md:Region.Mode) (ops:Array Oper) (Q:Exit->Act->World->Prop) (S:World->Prop) (c:Nat) (w:World):List Nat->Nat->Array Bool->Act->Prop
 | [],fuel,listed,a=>oz P md ops Q S c fuel listed a w
 |i::is,F,listed,a=>∃fuel oi v,F=fuel+1/\ops[i]? =some oi/\YieldsIf P ops S oi v a/\tk P md ops Q S c w is fuel (listed.setIfInBounds i true) (a.put oi.dst v)
theorem bO (i:Nat) {o:Oper} {fuel:Nat} {listed:Array Bool} {a:Act} {w:World} (hr:Region.ready md ops listed=[i]) (hi:ops[i]? =some o)
  (h:∀K:Act->World->Prop,Hid (∀a' w',(i≠c->S w')/\oz P md ops Q S c fuel (listed.setIfInBounds i true) a' w'->K a' w')->if Region.wanted o (yielded ops a.tmps)=true then Oper.wp P o a w K Q else K (a.put o.dst undef) w):
  oz P md ops Q S c (fuel+1) listed a w:=iU hr hi fun K hK=>h K (I hK)
theorem bP (i j:Nat) {o o':Oper} {fuel:Nat} {listed:Array Bool} {a:Act} {w:World} (hr:Region.ready md ops listed=[i,j]) (hi:ops[i]? =some o) (hj:ops[j]? =some o')
  (h:∀K:Act->World->Prop,Hid (∀a' w',(i≠c->S w')/\oz P md ops Q S c fuel (listed.setIfInBounds i true) a' w'->K a' w')->if Region.wanted o (yielded ops a.tmps)=true then Oper.wp P o a w K Q else K (a.put o.dst undef) w)
  (h':∀K:Act->World->Prop,Hid (∀a' w',(j≠c->S w')/\oz P md ops Q S c fuel (listed.setIfInBounds j true) a' w'->K a' w')->if Region.wanted o' (yielded ops a.tmps)=true then Oper.wp P o' a w K Q else K (a.put o'.dst undef) w):
  oz P md ops Q S c (fuel+1) listed a w:=EY hr hi hj (fun K hK=>h K (I hK)) fun K hK=>h' K (I hK)
theorem dH (S:World->Prop) (c:Nat) {id:Nat} {a:Act} {w:World} (hm:P.follows .mixedOrders=true) (h:oz P .any ops Q S c ops.size (Array.replicate ops.size false) a w.drew):(Code.region id ops true).wp P Q a w:=
 wp_region_any hm (OY _ _ _ _ h)
end
section
variable {P:Program} {ops:Array Oper} {Q:Exit->Act->World->Prop} {md:Region.Mode} {S:World->Prop} {c:Nat}
def LB (P:Program) (md:Region.Mode) (ops:Array Oper) (Q:Exit->Act->World->Prop) (S:World->Prop) (c:Nat) (w:World):List Nat->Nat->Array Bool->Act->Prop
 | [],fuel,listed,a=>oz P md ops Q S c fuel listed a w
 |i::is,F,listed,a=>∃fuel oi v,F=fuel+1/\ops[i]? =some oi/\YieldsIf P ops S oi v a/\LB P md ops Q S c w is fuel (listed.setIfInBounds i true) (a.put oi.dst v)
def CA (md:Region.Mode) (ops:Array Oper) (c f:Nat):List Nat->Array Bool->Bool
 | [],_=>true
 |i::is,listed=>Region.free md ops listed i&&((Region.ready md ops listed).contains i&&(waitsFor md ops f i c&&CA md ops c f is (listed.setIfInBounds i true)))
theorem gO {w:World} (hsel:∀(j:Nat) (o:Oper) cs b,ops[j]? =some o->o.op≠ .select cs b) (hQ:∀k d v a w,Q (.panic k) (a.put (some d) v) w->Q (.panic k) a w) (hS:S w) (f:Nat):∀(is:List Nat) (fuel:Nat) (listed:Array Bool) (a:Act),uP md ops listed->CA md ops c f is listed=true->LB P md ops Q S c w is fuel listed a->oz P md ops Q S c fuel listed a w
 | [],_,_,_,_,_,h=>h
 |i::is,_,listed,a,hd,hb,h=>by
  obtain⟨fuel,oi,v,rfl,hi,hy,h⟩:=h;simp only [CA,Bool.and_eq_true] at hb;obtain⟨b1,b2,b3,b4⟩:=hb;have hr:i∈Region.ready md ops listed:=by simpa using b2
  exact Jg hi hsel (fun k a w h=>by
   cases hd:oi.dst with
   |none=>rw [hd] at h;exact h
   |some d=>rw [hd] at h;exact hQ k d _ a w h) b3 fuel listed a w hd (Region.free_spec hi b1) hr hy hS (gO hsel hQ hS f is fuel _ _ (hd.set hr) b4 h)
theorem qJ (is:List Nat) (f:Nat) {fuel:Nat} {listed:Array Bool} {a:Act} {w:World} (h5:(Region.noSelect ops&&(Tf md ops listed&&CA md ops c f is listed))=true) (hQ:∀k d v a w,Q (.panic k) (a.put (some d) v) w->Q (.panic k) a w) (hS:S w)
  (h:LB P md ops Q S c w is fuel listed a):oz P md ops Q S c fuel listed a w:=by
 simp only [Bool.and_eq_true] at h5;exact gO (Region.noSelect_spec h5.1) hQ hS f is fuel listed a (Qr h5.2.1) h5.2.2 h
theorem PH {i:Nat} {is:List Nat} {fuel:Nat} {listed:Array Bool} {a:Act} {w:World} {oi:Oper} {v:Value} (hi:ops[i]? =some oi) (hw:Region.wanted oi (yielded ops a.tmps)=true) (hy:∀w,S w->(execOp a.eval oi).run P w=.ok (.value v) w)
  (h:LB P md ops Q S c w is fuel (listed.setIfInBounds i true) (a.put oi.dst v)):LB P md ops Q S c w (i::is) (fuel+1) listed a:=⟨fuel,oi,v,rfl,hi,.inl ⟨hw,hy⟩,h⟩
theorem jY {i:Nat} {is:List Nat} {fuel:Nat} {listed:Array Bool} {a:Act} {w:World} {oi:Oper} {v:Value} (h:LB P md ops Q S c w is fuel (listed.setIfInBounds i true) (a.put oi.dst v)) (hi:ops[i]? =some oi:=by rfl) (hw:Region.wanted oi (yielded ops a.tmps)=true:=by rfl) (hy:∀w,S w->(execOp a.eval oi).run P w=.ok (.value v) w:=by(intro w' hSw;(try dsimp only at hSw);repeat (with_reducible (have O:=And.left hSw;replace hSw:=And.right hSw));go_simp<;>with_reducible rfl)):LB P md ops Q S c w (i::is) (fuel+1) listed a:=PH hi hw hy h
theorem qK {fuel:Nat} {listed:Array Bool} {a:Act} {w:World} (h:oz P md ops Q S c fuel listed a w):LB P md ops Q S c w [] fuel listed a:=h
end
def ov (c:CM) (W w:World):CM:=fun a=>if a.block<W.heap.size then c a else w.cell? a
theorem gG {c:CM} {W w:World} (h:Sub c W.cell?):Sub c (ov c W w):=fun a v e=>by
 unfold ov;rw [bC (eH W a (h a v e))];exact e
theorem dY {c:CM} {W w:World} {a:Addr} (h:W.heap.size<=a.block):ov c W w a=w.cell? a:=by
 unfold ov;rw [aV V]
theorem xR {c:CM} {W w:World} (h:Sub c W.cell?) (hg:aK W w):Sub (ov c W w) w.cell?:=fun a v e=>by
 unfold ov at e;split at e
 ·exact hg.sub _ _ (h _ _ e)
 ·exact e
theorem zx {c c':CM} {W w w':World} (h:Sub c c') (hg:aK w w'):Sub (ov c W w) (ov c' W w'):=fun a v e=>by
 unfold ov at e ⊢;split at e
 ·exact(bC ‹_›).trans (h _ _ e)
 ·rw [aV ‹_›];exact hg.sub _ _ e
def wo (B:Nat) (c:CM):CM:=fun a=>if a.block=B then none else c a
theorem qL (B:Nat) (c:CM):Sub (wo B c) c:=fun a v e=>by
 unfold wo at e;split at e
 ·cases e
 ·exact e
theorem JY {B:Nat} {c c':CM} (h:Sub c c'):Sub (wo B c) (wo B c'):=fun a v e=>by
 unfold wo at e ⊢;split at e
 ·cases e
 ·rw [aV ‹_›];exact h _ _ e
theorem LE {B:Nat} {c:CM} {W:World} (h:Sub c W.cell?) (hB:W.heap.size<=B):Sub c (wo B c):=fun a v e=>by
 have hl:=eH W a (h a v e);unfold wo;rw [aV V];exact e
theorem LF {c c':CM} {w W w1 w':World} (hW:aK w W) (h:Sub c' (ov c w W)) (N:∀a v,W.heap.size<=a.block->w1.cell? a=some v->w'.cell? a=some v) (Y:∀a v,w.heap.size<=a.block->a.block<W.heap.size->c' a=some v->w'.cell? a=some v):Sub (ov c' W w1) (ov c w w'):=fun a v e=>by
 unfold ov at e;split at e
 ·have e2:=h _ _ e
  unfold ov at e2 ⊢;split at e2
  ·rw [bC ‹_›];exact e2
  ·rw [aV ‹_›];exact Y a v V ‹_› e
 ·have:=hW.size
  unfold ov;rw [aV V];exact N a v V e
theorem Wv {c:CM} {w W w1 w':World} {B:Nat} (hW:aK w W) (N:aK W w1) (hB:B<W.heap.size) (hs:∀a:Addr,a.block≠B->w'.cell? a=w1.cell? a):Sub (ov (wo B (ov c w W)) W w1) (ov c w w'):=
 LF hW (qL _ _) (fun a v hl e=>by rw [hs a V];exact e) fun a v hl hl2 e=>by
  have hne:a.block≠B:=by
   intro hb;unfold wo at e;rw [bC hb] at e;cases e
  have e2:=qL _ _ a v e;rw [dY hl] at e2;rw [hs a hne];exact N.sub _ _ e2
theorem Ce {c:CM} {w W:World} {B:Nat} {a:Addr} (h:w.heap.size<=a.block) (hB:a.block≠B):wo B (ov c w W) a=W.cell? a:=by
 unfold wo;rw [aV hB,dY h]
theorem A8 {c:CM} {w W:World} {B:Nat} (hc:Sub c w.cell?) (hB:w.heap.size<=B):Sub c (wo B (ov c w W)):=(LE hc hB).trans (JY (gG hc))
theorem rU {c:CM} {w W:World} {B:Nat} (hc:Sub c w.cell?) (hg:aK w W):Sub (wo B (ov c w W)) W.cell?:=(qL _ _).trans (xR hc hg)
theorem gI {w:World} {p a:Addr} {u:Value} (h:a.block≠p.block):(w.setCell p u).cell? a=w.cell? a:=
 World.cell?_of_block (by simp only [World.setCell,Array.getElem?_modify];rw [aV (fun e=>h e.symm)])
theorem bK.slc {α:Type} {T:Ty α} {c d:CM} (h0:0<T.size) {w:World} {base e:Nat} {v:Value} {l:List α} (h:bK T c w base e v l) (hs:Sub c d) (hd:∀a:Addr,base<=a.block->d a=w.cell? a):Sl T d v l:=by
 obtain⟨css,⟨hl,hs'⟩,Y,h3⟩:=h;have hcl:=nN Y h3;rcases hs' with⟨rfl,hn⟩|⟨g,cap,cur,rfl,hg,hrow,hnc,hcm,hcs,htake⟩
 ·have:l=[]:=List.eq_nil_of_length_eq_zero hn
  subst this;exact⟨none,0,rfl,Nat.le_refl _,Nat.zero_le _,fun _=>rfl,fun i x e=>by simp at e⟩
 ·refine⟨some ⟨g,0,none⟩,cap,rfl,hnc,hcm,σ,fun i x e=>?_⟩
  have hi:i<l.length:=(List.getElem?_eq_some_iff.1 e).1;have hc:css[i]? =some css[i]:=dM V;refine⟨g,0,css[i],rfl,T.mono hs (h3 i _ x hc e),fun j u hu=>?_⟩;have hj:j<T.size:=by rw [<-hcl css[i] (List.getElem_mem _)];exact(List.getElem?_eq_some_iff.1 hu).1
  have Z:css.flatten[i*T.size+j]? =some u:=by
   rw [lI h0 css hcl,Nat.mul_comm,Nat.mul_add_div h0,Nat.div_eq_of_lt hj,Nat.add_zero,hc,Nat.mul_add_mod,Nat.mod_eq_of_lt hj];exact hu
  rw [<-htake,List.getElem?_take] at Z;rw [hd _ hg];split at Z
  ·simp only [World.cell?,hrow];simpa using Z
  ·cases Z
theorem bK.of_flat {α:Type} {T:Ty α} {f:α->List Value} {c:CM} {w:World} {base e:Nat} {v:Value} {l:List α} (h:w.ownsRow base e T.size v l.length (l.flatMap f)) (hR:∀x∈l,T.R c (f x) x):bK T c w base e v l:=
 ⟨l.map f,by rw [<-List.flatMap_def];exact h,σ,fun i cs x a b=>by
  rw [List.getElem?_map,b] at a;obtain rfl:=bI a;exact hR x (List.mem_of_getElem? b)⟩
theorem bK.ints {c:CM} {w:World} {base e:Nat} {v:Value} {l:List Int} (h:w.ownsRow base e 1 v l.length (l.flatMap eX)) (hok:∀x∈l,I64 x):bK Ty.int c w base e v l:=
 bK.of_flat (T:=Ty.int) (f:=eX) h fun x Z=>⟨rfl,hok x Z⟩
theorem bK.pts {c:CM} {w:World} {base e:Nat} {v:Value} {l:List Pt} (h:w.ownsRow base e 3 v l.length (yY l)) (hok:AY l):bK Ty.pt c w base e v l:=
 bK.of_flat (T:=Ty.pt) (f:=Pt.cells) h fun x Z=>⟨rfl,hok x Z⟩
def jR (r:Rc) (st:List Rd×Bool×Sm×List Int) (x:Rd):List Rd×Bool×Sm×List Int:=
 if x.aJ=r.aJ/\st.2.1=false then
  if r.aX=2 then(st.1,true,pY st.2.2.1 x.aH,st.2.2.2++ [r.aJ]) else if r.aX=3 then(st.1,true,st.2.2.1,st.2.2.2) else(st.1++ [x],true,st.2.2.1,st.2.2.2)
 else(st.1++ [x],st.2.1,st.2.2.1,st.2.2.2)
def f_ (h:Hs) (r:Rc):Hs:=
 let st:=h.ready.foldl (jR r) ([],false,h.aP,h.done)
 { bg:=h.bg,aP:=st.2.2.1,ready:=if r.aX=1/\st.2.1=false then st.1++ [⟨r.aJ,r.aH⟩] else st.1,done:=st.2.2.2 }
def jM (l:List Rc):Hs:=l.foldl f_ ⟨l,⟨0,0,0,0⟩,[],[]⟩
def KH (s:Sm):Prop:=I64 s.a/\I64 s.b/\I64 s.c/\I64 s.d
theorem gZ:I64 0:=by unfold I64;decide
theorem Yd (x:Int):I64 (wrap64 x):=wrap64_wf x
theorem KH.put {s:Sm} (h:KH s) (k:Int) {x:Int} (Z:I64 x):KH (s.put k x):=by
 unfold Sm.put;obtain⟨a,b,c,d⟩:=h;split
 ·exact⟨Z,b,c,d⟩
 ·split
  ·exact⟨a,Z,c,d⟩
  ·split
   ·exact⟨a,b,Z,d⟩
   ·exact⟨a,b,c,Z⟩
theorem KH.pY {s:Sm} (h:KH s) (l:List Pt):KH (pY s l):=by
 induction l generalizing s with
 |nil=>exact h
 |cons p l ih=>exact ih (h.put p.k (Yd _))
theorem mY (w:World) (B:Nat) (e:TypeId) (hB:B<=w.heap.size):(w.alloc (.cells #[] e)).ownsRow B e 1 (U (some ⟨w,0,none⟩) 0 0) 0 []:=World.ownsRow_made w #[] 0 hB (Nat.zero_le _) rfl
structure gP (c:CM) (w:World) (wr:World) (vl:Value) (vr vd:Value) (h:Hs):Prop where
 row:wr.heap[w.heap.size+1]? =some (.cells #[vl,J h.aP.a,J h.aP.b,J h.aP.c,J h.aP.d,vr,vd] 50 (0,0))
 res:wr.heap[w.heap.size]? =some (.cells #[(),J 0,J 0,J 0,J 0,(),()] 50 (0,0))
 ready:bK Ty.rd c wr (w.heap.size+2) 53 vr h.ready
 done:wr.ownsRow (w.heap.size+2) 3 1 vd h.done.length (h.done.flatMap eX)
 grow:aK w wr
 size:w.heap.size+2<=wr.heap.size
structure HOk (h:Hs) (n:Nat):Prop where
 ready:h.ready.length<=n
 done:h.done.length<=n
 keys:∀x∈h.ready,jg x.aH
 aP:KH h.aP
 ints:∀x∈h.done,I64 x
theorem gP.dL {c:CM} {w wr w':World} {vl vr vd:Value} {h:Hs} {row:Option Nat} (hb:gP c w wr vl vr vd h) (hg:wr.grownBy w' row) (N:∀k,row=some k->w.heap.size+2<=k) (Y:vr.ownBlock=none∨vr.ownBlock≠row) (h3:vd.ownBlock=none∨vd.ownBlock≠row):gP c w w' vl vr vd h where
 row:=by rw [hg.block _ (τ hb.size) (fun e=>by have:=N _ e.symm;omega)];exact hb.row
 res:=by rw [hg.block _ (τ hb.size) (fun e=>by have:=N _ e.symm;omega)];exact hb.res
 ready:=hb.ready.kept hg Y
 done:=hb.done.kept hg h3
 grow:=hb.grow.grown hg (fun k hk=>by have:=N k hk;omega)
 size:=Nat.le_trans hb.size hg.size
theorem Ti {w:World} {B:Nat} {a b c d e f g:Value} {t:TypeId} (h:w.heap[B]? =some (.cells #[a,b,c,d,e,f,g] t (0,0))) (u:Value):(w.setCell ⟨B,5,none⟩ u).heap[B]? =some (.cells #[a,b,c,d,e,u,g] t (0,0)):=by
 simp only [World.setCell,Array.getElem?_modify,h];simp
structure gR (c:CM) (w wo wx:World) (vl vr:Value) (rcs:List Value) (r:Rc) (h:Hs) (k m:Nat) (s6:Value) (st:List Rd×Bool×Sm×List Int) (vd:Value):Prop where
 fold:(h.ready.take m).foldl (jR r) ([],false,h.aP,h.done)=st
 own:bK Ty.rd c wx (wo.heap.size+1) 53 s6 st.1
 box:gP c w wx vl vr vd { h with aP:=st.2.2.1,done:=st.2.2.2 }
 len:st.1.length<=m
 KI:st.2.2.2.length<=k+(if st.2.1 then 1 else 0)
 keys:∀x∈st.1,jg x.aH
 aP:KH st.2.2.1
 ints:∀x∈st.2.2.2,I64 x
 Oh:At wx.cell? wo.heap.size 0 rcs
 size:wo.heap.size+1<=wx.heap.size
 DF:w.heap.size+2<=wo.heap.size
 vr:∀k,vr.ownBlock=some k->k<wo.heap.size
 Az:s6.ownBlock=none∨s6.ownBlock≠vd.ownBlock
theorem gR.app {c:CM} {w wo wx w':World} {vl vr:Value} {rcs:List Value} {r:Rc} {h:Hs} {k m:Nat} {s6:Value} {st:List Rd×Bool×Sm×List Int} {vd:Value} {x:Rd} {b:Bool} {o1 o2:Obj} {g c':Nat}
  (H:gR c w wo wx vl vr rcs r h k m s6 st vd) (Z:h.ready[m]? =some x) (hkx:jg x.aH) (hst:jR r st x=(st.1++ [x],b,st.2.2)) (hb:st.2.1=true->b=true)
  (ho:bK Ty.rd c w' (wo.heap.size+1) 53 (U (some ⟨g,0,none⟩) (st.1.length+1) c') (st.1++ [x])) (hg:((wx.alloc o1).alloc o2).grownBy w' s6.ownBlock) (hl:s6.ownBlock=some g∨g=wx.heap.size+1+1):
  gR c w wo w' vl vr rcs r h k (m+1) (U (some ⟨g,0,none⟩) (st.1.length+1) c') (st.1++ [x],b,st.2.2) vd:=by
 have hg':wx.grownBy w' s6.ownBlock:=bD (aO (((aG wx).alloc o1).alloc o2) _) hg;have hlt:=H.own.lt;exact {
  fold:=by
   have hm:=(List.getElem?_eq_some_iff.1 Z);obtain⟨eV,Ye⟩:=hm;rw [List.take_succ_eq_append_getElem eV,List.foldl_append,H.fold,Ye];simpa using hst
  own:=ho
  box:=H.box.dL hg' (fun k hk=>by have:=(hlt k hk).1;have:=H.DF;omega) (by
   cases e:vr.ownBlock with
   |none=>exact .inl rfl
   |some q=>right;intro e';have:=H.vr q e;have:=(hlt q e'.symm).1;omega) (by
   rcases H.Az with d|d
   ·cases e:vd.ownBlock with
    |none=>exact .inl rfl
    |some q=>right;rw [d];simp
   ·right;exact fun e=>d e.symm)
  len:=by have:=H.len;simp;omega
  KI:=by
   have:=H.KI;simp only;cases hs:st.2.1 with
   |true=>rw [hb hs];rw [hs] at this;exact this
   |false=>rw [hs] at this;simp at this;omega
  keys:=fun y hy=>by
   simp only [List.mem_append,List.mem_singleton] at hy;rcases hy with hy|rfl
   ·exact H.keys y hy
   ·exact hkx
  aP:=H.aP
  ints:=H.ints
  Oh:=fun j u hu=>by
   have e:=H.Oh j u hu;have hl:=eH wx _ e;simp only at hl;rw [World.cell?_of_block (w:=wx) (hg'.block _ hl (fun e'=>by have:=(hlt _ e'.symm).1;simp only at this;omega))];exact e
  size:=Nat.le_trans H.size hg'.size
  DF:=H.DF
  vr:=H.vr
  Az:=by
   right;rcases hl with hl|hl
   ·rcases H.Az with d|d
    ·rw [d] at hl;cases hl
    ·rw [hl] at d;exact d
   ·intro e'
    have:=(H.box.done.lt g e'.symm).2;omega }
theorem gR.skip {c:CM} {w wo wx:World} {vl vr:Value} {rcs:List Value} {r:Rc} {h:Hs} {k m:Nat} {s6:Value} {st:List Rd×Bool×Sm×List Int} {vd:Value} {x:Rd} {o1:Obj}
  (H:gR c w wo wx vl vr rcs r h k m s6 st vd) (Z:h.ready[m]? =some x) (hst:jR r st x=(st.1,true,st.2.2)):gR c w wo (wx.alloc o1) vl vr rcs r h k (m+1) s6 (st.1,true,st.2.2) vd:=by
 have hg:=(aG wx).alloc o1;have hg':=aO hg none;exact {
  fold:=by
   obtain⟨eV,Ye⟩:=List.getElem?_eq_some_iff.1 Z;rw [List.take_succ_eq_append_getElem eV,List.foldl_append,H.fold,Ye];simpa using hst
  own:=H.own.grow hg
  box:=H.box.dL hg' σ (by cases vr.ownBlock<;>simp) (by cases vd.ownBlock<;>simp)
  len:=by have:=H.len;simp;omega
  KI:=by
   have:=H.KI;simp only;cases hs:st.2.1<;>rw [hs] at this<;>simp at this ⊢ <;>omega
  keys:=H.keys
  aP:=H.aP
  ints:=H.ints
  Oh:=H.Oh.mono hg.sub
  size:=by have:=H.size;simp;omega
  DF:=H.DF
  vr:=H.vr
  Az:=H.Az }
theorem gR.did {c:CM} {w wo wx w':World} {vl vr:Value} {rcs:List Value} {r:Rc} {h:Hs} {k m:Nat} {s6:Value} {st:List Rd×Bool×Sm×List Int} {vd GK:Value} {x:Rd} {sm:Sm}
  (H:gR c w wo wx vl vr rcs r h k m s6 st vd) (Z:h.ready[m]? =some x) (hst:jR r st x=(st.1,true,sm,st.2.2.2++ [r.aJ])) (hf:st.2.1=false) (hsm:KH sm) (hd:I64 r.aJ)
  (hg:wx.grownBy w' (some (w.heap.size+1))) (hrow:w'.heap[w.heap.size+1]? =some (.cells #[vl,J sm.a,J sm.b,J sm.c,J sm.d,vr,GK] 50 (0,0)))
  (hdn:w'.ownsRow (w.heap.size+2) 3 1 GK (st.2.2.2++ [r.aJ]).length ((st.2.2.2++ [r.aJ]).flatMap eX)) (hnew:∀q,GK.ownBlock=some q->wx.heap.size<=q):
  gR c w wo w' vl vr rcs r h k (m+1) s6 (st.1,true,sm,st.2.2.2++ [r.aJ]) GK:=by
 have hB:=H.box.size;have hos:=H.DF;exact {
  fold:=by
   obtain⟨eV,Ye⟩:=List.getElem?_eq_some_iff.1 Z;rw [List.take_succ_eq_append_getElem eV,List.foldl_append,H.fold,Ye];simpa using hst
  own:=H.own.kept hg (by
   cases e:s6.ownBlock with
   |none=>exact .inl rfl
   |some q=>right;intro e';have:=(H.own.lt q e).1;simp at e';omega)
  box:={
   row:=hrow
   res:=by rw [hg.block _ V σ];exact H.box.res
   ready:=H.box.ready.kept hg (by
    cases e:vr.ownBlock with
    |none=>exact .inl rfl
    |some q=>right;intro e';have:=(H.box.ready.lt q e).1;simp at e';omega)
   done:=hdn
   grow:=H.box.grow.grown hg (fun k hk=>by simp at hk;omega)
   size:=Nat.le_trans hB hg.size }
  len:=by have:=H.len;simp;omega
  KI:=by have:=H.KI;rw [hf] at this;simp at this ⊢;omega
  keys:=H.keys
  aP:=hsm
  ints:=fun y hy=>by
   simp only [List.mem_append,List.mem_singleton] at hy;rcases hy with hy|rfl
   ·exact H.ints y hy
   ·exact hd
  Oh:=fun j u hu=>by
   have e:=H.Oh j u hu;have hl:=eH wx _ e;simp only at hl;rw [World.cell?_of_block (w:=wx) (hg.block _ hl (fun e'=>by simp at e';omega))];exact e
  size:=Nat.le_trans H.size hg.size
  DF:=H.DF
  vr:=H.vr
  Az:=by
   cases e:s6.ownBlock with
   |none=>exact .inl rfl
   |some q=>
    right;intro e';have:=hnew q e'.symm;have:=(H.own.lt q e).2;omega }
theorem A_ {c:CM} {v:Value} {l:List Rc} (w:World) (hc:Sub c w.cell?) (hv:NT c v l) (hk:∀r∈l,jg r.aH) (hm:l.length*40<=140737488355328):
  Calls Tryz.prog 129 #[v] w fun e w'=>∃v',e=.returned v'/\Of Ty.hs (ov c w w') v' (jM l)/\aK w w':=by
 have hv0:=hv;have HC:=I hc;clear hc;obtain⟨al,cl,rfl,N,Y,-,hel⟩:=hv;unfold maxLen at Y;have HV:=I hv0;have HM:=I hm;have gS:=I hk;clear hv0 hm hk;go_enter Tryz.func129,Tryz.ntmps129;go_wp2;go_loopw [14] (fun i wr=>∃(k:Nat) (h:Hs) (vr vd:Value),k<=l.length/\i=J k/\(l.take k).foldl f_ ⟨l,⟨0,0,0,0⟩,[],[]⟩=h/\gP c w wr (U al l.length cl) vr vd h/\HOk h k) (fun i _=>l.length - (intOf i).toNat)
 case atStart=>
  refine⟨0,_,(),(),V,rfl,rfl,⟨by simpa using heap_alloc_new (w.alloc _) _,bQ (heap_alloc_new w _) _,bK.nil _ _ _ _ _,World.ownsRow_nil _ _ _ _,je,σ⟩,⟨σ,σ,σ,⟨gZ,gZ,gZ,gZ⟩,σ⟩⟩
 case round=>
  obtain⟨k,h,vr,vd,hk',rfl,hH,hB,hO⟩:=hrel;by_cases hlt:k<l.length
  ·obtain⟨b,o,vp,rfl,c0,c1,c2,i1,i2,hP⟩:=NT.at_ hel k hlt
   obtain⟨ap,cp,rfl,-⟩:=id hP;replace c0:=hB.grow.sub _ _ (HC.o _ _ c0);replace c1:=hB.grow.sub _ _ (HC.o _ _ c1);replace c2:=hB.grow.sub _ _ (HC.o _ _ c2);obtain⟨ar,cr,rfl⟩:=hB.ready.form;obtain⟨ad,cd,rfl⟩:=dG hB.done;have hR:=hB.ready.sl ε (HC.o.trans hB.grow.sub);obtain⟨Oi,Oj,he,hr1,VY,-,hrel⟩:=hR;obtain⟨rfl,rfl⟩:ar=Oi/\cr=Oj:=by simpa using he
   unfold maxLen at VY;have e5:wr.cell? ⟨w+1,5,none⟩=some (U ar h.ready.length cr):=by simp [World.cell?,hB.row]
   have hsz:w.heap.size+1<wr:=(γ hB.row);have hstep:(l.take (k+1)).foldl f_ ⟨l,⟨0,0,0,0⟩,[],[]⟩=f_ h l[k]:=by
    rw [List.take_succ_eq_append_getElem hlt,List.foldl_append,hH];rfl
   have HST:=I hstep;have HB:=I hB;have HO:=I hO;have HP:=I hP;have HI2:=I i2;have HKR:=I (gS.o l[k] (List.getElem_mem _));clear hel hH hB hO he hstep hP i1 i2;generalize l[k]=r at*;obtain⟨wo,rfl⟩:=χ wr;go_wp2;go_loopw [6,7,21] (fun s6 s7 i wx=>∃(m:Nat) (st:List Rd×Bool×Sm×List Int) (GK:Value),m<=h.ready.length/\i=J m/\s7=.bool st.2.1/\
    gR c w wo wx (U (some ⟨b,o,none⟩) l.length cl) (U ar h.ready.length cr) [J r.aX,J r.aJ,U ap r.aH.length cp] r h k m s6 st GK) (fun _ _ i _=>h.ready.length - (intOf i).toNat)
   case atStart=>
    have hg:=(aG wo).alloc (.cells #[J r.aX,J r.aJ,U ap r.aH.length cp] 79);refine⟨0,([],false,h.aP,h.done),U ad h.done.length cd,V,rfl,rfl,?_⟩;exact {
     fold:=rfl
     own:=bK.nil _ _ _ _ _
     box:=HB.o.dL (aO hg none) σ (by cases (Value.slice ar h.ready.length cr).ownBlock<;>simp) (by cases (Value.slice ad h.done.length cd).ownBlock<;>simp)
     len:=by simp
     KI:=by simpa using HO.o.done
     keys:=by simp
     aP:=HO.o.aP
     ints:=HO.o.ints
     Oh:=fun j u hu=>by rw [Nat.zero_add,World.cell?_alloc_new];simpa using hu
     size:=by simp
     DF:=HB.o.size
     vr:=fun q O=>(HB.o.ready.lt q O).2
     Az:=.inl rfl }
   case round=>
    obtain⟨m,st,GK,hm',rfl,rfl,hX⟩:=hrel;have f0:=hX.Oh 0 _ rfl;have f1:=hX.Oh 1 _ rfl;have f2:=hX.Oh 2 _ rfl;simp only [Nat.add_zero,Nat.zero_add] at f0 f1 f2;have hxs:=hX.size;have hos:=hX.DF;obtain⟨a6,c6,rfl⟩:=hX.own.form;have hwz:w.heap.size+1<wr:=by omega
    have hwl:wo.heap.size<wr:=by omega
    by_cases hlm:m<h.ready.length
    ·obtain⟨g,cs,hag,hRx,hAx⟩:=bK.get ε hX.box.ready m hlm
     obtain⟨vq,rfl,Tj,hQ⟩:=id hRx;obtain⟨aq,cq,rfl,-⟩:=id hQ;have d0:=hAx 0 _ rfl;have d1:=hAx 1 _ rfl;simp only [Nat.add_zero,Ty.rd] at d0 d1;subst hag;have HX:=I hX;have Yf:=I hRx;have gT:Hid (∀u∈(#[J h.ready[m].aJ,.slice aq h.ready[m].aH.length cq]:Array Value).toList,u.oneCell'=true):=by
      intro u hu;simp at hu;rcases hu with rfl|rfl<;>rfl
     have HLEN:Hid ((st.1.length+1)*32<=140737488355328):=by
      have N:=hX.len;have h3:=HO.o.ready;have h4:=HM.o;show(st.1.length+1)*32<=140737488355328;omega
     have HBS:Hid (w.heap.size<=wo.heap.size+1):=by show w.heap.size<=wo.heap.size+1;omega
     have hI:Hid (wo.heap.size+1<=(wr.alloc (.cells #[J h.ready[m].aJ,.slice aq h.ready[m].aH.length cq] 53)).heap.size):=by show _<=_;simp;omega
     have hxm:h.ready[m]? =some h.ready[m]:=dM hlm;have LI:=I hxm;have HKX:=I (HO.o.keys h.ready[m] (List.getElem_mem _));clear hX hAx hRx Tj hQ hxm;generalize h.ready[m]=x at*;obtain⟨rest,was,sm,dn⟩:=st;by_cases tk:x.aJ=r.aJ
     ·have tk':(x.aJ !=r.aJ)=false:=by simp [tk]
      have HT:=I tk;clear tk;cases was
      ·by_cases t2:r.aX=2
       ·have t2':(r.aX==2)=true:=by simp [t2]
        have hst:jR r (rest,false,sm,dn) x=(rest,true,pY sm x.aH,dn++ [r.aJ]):=by simp [jR,HT.o,t2]
        have D6:=I hst;have O:Sl Ty.pt c (U aq x.aH.length cq) x.aH:=by
         obtain⟨v',he,_,O⟩:=Yf.o;simp only [List.cons.injEq,and_true,true_and] at he;rw [he];exact O
        have hdo:=fun(W:World) (hW:aK wr W)=>gN (s:=sm) W (O.mono (HC.o.trans (HX.o.box.grow.trans hW).sub)) HKX.o;have Ol:=I hdo;have hrow:=HX.o.box.row;simp only at hrow;obtain⟨ay,cy,hvd⟩:=dG HX.o.box.done;simp only at hvd;rw [hvd] at hrow;have e1:wr.cell? ⟨w+1,1,none⟩=some (J sm.a):=by simp [World.cell?,hrow]
        have e2:wr.cell? ⟨w+1,2,none⟩=some (J sm.b):=by simp [World.cell?,hrow]
        have e3:wr.cell? ⟨w+1,3,none⟩=some (J sm.c):=by simp [World.cell?,hrow]
        have e4:wr.cell? ⟨w+1,4,none⟩=some (J sm.d):=by simp [World.cell?,hrow]
        have e6:wr.cell? ⟨w+1,6,none⟩=some (U ay dn.length cy):=by simp [World.cell?,hrow]
        have jw:=I hrow;have HVD:=I hvd;clear t2 hst O hdo hrow hvd;go_wp2_with fail
        refine(Ol.o _ ((aG _).alloc _)).mono ?_;rintro e w1 ⟨rfl,dZ⟩;have hbw:=((aG wr).alloc _).trans dZ;have k1:=hbw.sub _ _ e1;have k2:=hbw.sub _ _ e2;have k3:=hbw.sub _ _ e3;have k4:=hbw.sub _ _ e4;have k6:=hbw.sub _ _ e6;have k7:=hbw.sub _ _ f1;have kf:∀o,w1.frozen? ⟨w+1,o,none⟩=false:=fun o=>by
         rw [hbw.frozen (p:=⟨w+1,o,none⟩) hwz];simp [World.frozen?,jw.o]
        have kz:w.heap.size+1<w1:=by have:=hbw.size;omega
        have kz2:wo.heap.size<w1:=by have:=hbw.size;omega
        have Tm:=I hbw;clear dZ hbw e1 e2 e3 e4 e6 f0 f1 f2 d0 d1;go_wp2_with fail
        generalize hW2:(((w1.setCell ⟨w+1,1,none⟩ (J (pY sm x.aH).a)).setCell ⟨w+1,2,none⟩ (J (pY sm x.aH).b)).setCell ⟨w+1,3,none⟩ (J (pY sm x.aH).c)).setCell ⟨w+1,4,none⟩ (J (pY sm x.aH).d)=w2;have Zp:w1.grownBy w2 (some (w.heap.size+1)):=by
         rw [<-hW2];exact bD (dS w1 ⟨w+1,1,none⟩ _) (bD (dS _ ⟨w+1,2,none⟩ _) (bD (dS _ ⟨w+1,3,none⟩ _) (dS _ ⟨w+1,4,none⟩ _)))
        have iJ:w2.heap[w.heap.size+1]? =some (.cells #[U (some ⟨b,o,none⟩) l.length cl,J (pY sm x.aH).a,J (pY sm x.aH).b,J (pY sm x.aH).c,J (pY sm x.aH).d,U (some ⟨g,0,none⟩) h.ready.length cr,U ay dn.length cy] 50 (0,0)):=by
         have N:w1.heap[w.heap.size+1]? =some (.cells #[U (some ⟨b,o,none⟩) l.length cl,J sm.a,J sm.b,J sm.c,J sm.d,U (some ⟨g,0,none⟩) h.ready.length cr,U ay dn.length cy] 50 (0,0)):=(Tm.o.block _ hwz).trans jw.o;rw [<-hW2];simp only [World.setCell,Array.getElem?_modify,N];simp
        have m6:w2.cell? ⟨w+1,6,none⟩=some (U ay dn.length cy):=by simp [World.cell?,iJ]
        have m7:w2.cell? ⟨wo,1,none⟩=some (J r.aJ):=(World.cell?_of_block (Zp.block _ kz2 (by simp;omega))).trans k7;have mf:∀o,w2.frozen? ⟨w+1,o,none⟩=false:=by simp [World.frozen?,iJ]
        have mz:w.heap.size+1<w2:=by have:=Zp.size;omega
        have mz2:wo.heap.size<w2:=by have:=Zp.size;omega
        have A0Z:w2.ownsRow (w.heap.size+2) 3 1 (U ay dn.length cy) dn.length (dn.flatMap eX):=by
         have N:=HX.o.box.done;simp only at N;rw [HVD.o] at N;exact(N.kept (aO Tm.o none) (by cases (Value.slice ay dn.length cy).ownBlock<;>simp)).kept Zp (by
          cases e:(Value.slice ay dn.length cy).ownBlock with
          |none=>exact .inl rfl
          |some q=>right;intro e';have:=(N.lt q e).1;simp at e';omega)
        have A00:=I Zp;have A01:=I iJ;have Zq:=I A0Z;clear hW2 Zp iJ A0Z k1 k2 k3 k4 k6 k7 kf kz kz2;have LN:Hid ((dn.length+1)*8<=140737488355328):=by
         have N:=HX.o.KI;have h4:=HM.o;show(dn.length+1)*8<=140737488355328;simp at N;omega
        have eW:=I (Qn Zq.o);have Qs:Hid ((dn.flatMap eX).length=dn.length*1):=qG (f:=eX) (size:=1) (fun _=>rfl) dn;have eZ:=I (yx EO dn);have PJ:Hid (0+dn.length<=maxLen):=by show _<=_;have:=LN.o;unfold maxLen;omega
        have Yg:Hid ((0+dn.length)*8<=140737488355328):=by show _<=_;have:=LN.o;omega
        have HMK:Hid (∀W,aK w2 W->(W.alloc (.cells #[] 3)).ownsRow (w.heap.size+2) 3 1 (U (some ⟨W,0,none⟩) 0 0) 0 []):=fun W hG=>mY W _ _ (τ hG.size);have HS:Hid (∀W,aK w2 W->W.cell? ⟨w+1,6,none⟩=some (U ay dn.length cy)/\W.cell? ⟨wo,1,none⟩=some (J r.aJ)):=fun W hG=>⟨hG.sub _ _ m6,hG.sub _ _ m7⟩;have D7:Hid (∀W,aK w2 W->∀ad,ay=some ad->∀j u,(dn.flatMap eX)[j]? =some u->W.cell? (ad.add j)=some u):=fun W hG ad e j u hu=>hG.sub _ _ (eW.o.2 ad e j u hu);have Zr:Hid (∀W W' v n a1 c1 xs,aK w2 W->gL W W' (w.heap.size+2) 3 1 v n a1 c1 xs->(∀q',v.ownBlock=some q'->w2.heap.size<=q')->aK w2 W'/\∀q',(Value.slice a1 n c1).ownBlock=some q'->w2.heap.size<=q'):=by
         intro W W' v n a1 c1 xs hG hA O;refine⟨hG.grown hA.grown O,fun q' hq'=>?_⟩;rcases hA.blk with hb|⟨g',hb,hg'⟩
         ·rw [hb] at hq';exact O _ hq'
         ·rw [hb] at hq';obtain rfl:=bI hq';exact Nat.le_trans hG.size hg'
        have PM:Hid (∀(W:World) (a2:Option Addr) (c2:Nat),aK w2 W->W.ownsRow (w.heap.size+2) 3 1 (U a2 (dn.length+1) c2) (dn.length+1) (dn.flatMap eX++ [J r.aJ])->(∀q,(Value.slice a2 (dn.length+1) c2).ownBlock=some q->w2.heap.size<=q)->
          gR c w wo (W.setCell ⟨w+1,6,none⟩ (U a2 (dn.length+1) c2)) (U (some ⟨b,o,none⟩) l.length cl) (U (some ⟨g,0,none⟩) h.ready.length cr) [J r.aX,J r.aJ,U ap r.aH.length cp] r h k (m+1) (U a6 rest.length c6) (rest,true,pY sm x.aH,dn++ [r.aJ]) (U a2 (dn.length+1) c2)):=by
         intro W a2 c2 hG hO O;refine HX.o.did LI.o D6.o rfl (HX.o.aP.pY _) HI2.o (bD (aO Tm.o _) (bD A00.o (bD (aO hG _) (dS W _ _)))) ?_ ?_ ?_
         ·have N:=(hG.block _ mz).trans A01.o
          simp only [World.setCell,Array.getElem?_modify,N];simp
         ·have N:=hO.kept (dS W ⟨w+1,6,none⟩ (U a2 (dn.length+1) c2)) (by
           cases e:(Value.slice a2 (dn.length+1) c2).ownBlock with
           |none=>exact .inl rfl
           |some q=>right;intro e';have:=O q e;simp at e';omega)
          simpa [eX] using N
         ·intro q hq'
          have N:=O q hq';have Y:=Tm.o.size;have h3:=A00.o.size;omega
        refine dH (fun w'=>w'.cell? ⟨w+1,6,none⟩=some (U ay dn.length cy)/\w'.cell? ⟨wo,1,none⟩=some (J r.aJ)) 9 κ ?_;refine qJ [1,2,4,5] 4 κ (fun _ _ _ _ _ h=>h) (HS.o _ ((aG w2).drew)) ?_;repeat (refine jY ?_;try simp only [Act.put,Ae])
        refine qK ?_;refine EY (i:=0) (j:=6) κ rfl rfl (fun K kQ=>?_) (fun K kQ=>?_)<;>(have M:=I kQ;clear kQ)
        ·go_simp
         refine ψ M (fun _=>HS.o _ (by repeat first|assumption|exact aG _|refine aK.alloc ?_ _|refine aK.drew ?_)) ?_;try simp only [Act.put,Ae,Af,Ag]
         refine EY (i:=3) (j:=6) κ rfl rfl (fun K kQ=>?_) (fun K kQ=>?_)<;>(have M:=I kQ;clear kQ)
         ·have qM:=HMK.o w2.drew ((aG w2).drew)
          refine oP jL rfl (.tmp 51) (.tmp 53) rfl rfl (base:=w.heap.size+2) (v:=U (some ⟨w2,0,none⟩) 0 0) qM ay dn.length cy (dn.flatMap eX) rfl eW.o.1 Qs.o (D7.o _ (by repeat first|assumption|exact aG _|refine aK.alloc ?_ _|refine aK.drew ?_)) eZ.o PJ.o Yg.o (by simp;omega) ?_;intro a1 c1 w3 hA1;obtain⟨G3,B3⟩:=Zr.o _ w3 _ _ a1 c1 _ (by repeat first|assumption|exact aG _|refine aK.alloc ?_ _|refine aK.drew ?_) hA1 (by intro q O;simp [Value.ownBlock] at O;omega);simp only [Nat.zero_add,List.nil_append] at hA1 B3 ⊢;refine ψ M (fun _=>HS.o _ (by repeat first|assumption|exact aG _|refine aK.alloc ?_ _|refine aK.drew ?_)) ?_;try simp only [Act.put,Ae]
          refine iU (i:=6) κ rfl (fun K kQ=>?_);have M:=I kQ;clear kQ;go_simp;refine ψ M (fun _=>HS.o _ (by repeat first|assumption|exact aG _|refine aK.alloc ?_ _|refine aK.drew ?_)) ?_;try simp only [Act.put,Ae,Af,Ag]
          refine iU (i:=7) κ rfl (fun K kQ=>?_);have M:=I kQ;clear kQ;refine oP jL rfl (.tmp 54) (.tmp 57) rfl rfl (base:=w.heap.size+2) (hA1.own.alloc _) (some ⟨w3,0,none⟩) 1 1 [J r.aJ] rfl σ rfl (by rintro ad ⟨rfl⟩;exact rP w3 #[J r.aJ] _) (EO r.aJ) (by have:=LN.o;unfold maxLen;omega) LN.o (by have:=G3.size;simp;omega) ?_;intro a2 c2 w4 hA2;obtain⟨G4,B4⟩:=Zr.o _ w4 _ _ a2 c2 _ (by repeat first|assumption|exact aG _|refine aK.alloc ?_ _|refine aK.drew ?_) hA2 B3;have n4:=G4.sub _ _ m6;have n5:∀o,w4.frozen? ⟨w+1,o,none⟩=false:=fun o=>(G4.frozen (p:=⟨w+1,o,none⟩) mz).trans (mf o);refine ψ M (fun _=>HS.o _ (by repeat first|assumption|exact aG _|refine aK.alloc ?_ _|refine aK.drew ?_)) ?_;try simp only [Act.put,Ae]
          refine iU (i:=8) κ rfl (fun K kQ=>?_);have M:=I kQ;clear kQ;go_simp;refine ψ M (fun _=>HS.o _ (by repeat first|assumption|exact aG _|refine aK.alloc ?_ _|refine aK.drew ?_)) ?_;try simp only [Act.put,Ae,Af,Ag]
          refine iU (i:=9) κ rfl (fun K kQ=>?_);have M:=I kQ;clear kQ;go_simp;refine ψ M (fun h=>absurd rfl h) ?_;try simp only [Act.put,Ae,Af,Ag]
          refine bW κ ?_;have HF:=I (PM.o w4 a2 c2 G4 hA2.own B4);clear hA1 hA2 G3 G4 B3 B4 n4 n5 m6 m7 mf;go_wp2_with fail
          go_roundw
          case rel=>exact⟨m+1,_,_,V,by go_num,rfl,HF.o⟩
          case measure=>simp [intOf];omega
         ·go_simp
          refine ψ M (fun _=>HS.o _ (by repeat first|assumption|exact aG _|refine aK.alloc ?_ _|refine aK.drew ?_)) ?_;try simp only [Act.put,Ae,Af,Ag]
          have SE:∀j u,([J r.aJ]:List Value)[j]? =some u->((w2.drew.alloc (.cells #[] 3)).alloc (.cells #[J r.aJ] 3)).cell? ⟨w2+1,j,none⟩=some u:=fun j u hu=>by have h:=rP (w2.drew.alloc (.cells #[] 3)) #[J r.aJ] 3 j u hu;rw [sO] at h;simpa using h
          refine iU (i:=3) κ rfl (fun K kQ=>?_);have M:=I kQ;clear kQ;have qM:=(HMK.o w2.drew ((aG w2).drew)).alloc (.cells #[J r.aJ] 3);refine oP jL rfl (.tmp 51) (.tmp 53) rfl rfl (base:=w.heap.size+2) (v:=U (some ⟨w2,0,none⟩) 0 0) qM ay dn.length cy (dn.flatMap eX) rfl eW.o.1 Qs.o (D7.o _ (by repeat first|assumption|exact aG _|refine aK.alloc ?_ _|refine aK.drew ?_)) eZ.o PJ.o Yg.o (by simp;omega) ?_;intro a1 c1 w3 hA1;obtain⟨G3,B3⟩:=Zr.o _ w3 _ _ a1 c1 _ (by repeat first|assumption|exact aG _|refine aK.alloc ?_ _|refine aK.drew ?_) hA1 (by intro q O;simp [Value.ownBlock] at O;omega);simp only [Nat.zero_add,List.nil_append] at hA1 B3 ⊢;refine ψ M (fun _=>HS.o _ (by repeat first|assumption|exact aG _|refine aK.alloc ?_ _|refine aK.drew ?_)) ?_;try simp only [Act.put,Ae]
          refine iU (i:=7) κ rfl (fun K kQ=>?_);have M:=I kQ;clear kQ;refine oP jL rfl (.tmp 54) (.tmp 57) rfl rfl (base:=w.heap.size+2) (hA1.own) (some ⟨w2+1,0,none⟩) 1 1 [J r.aJ] rfl σ rfl (by rintro ad ⟨rfl⟩ j u hu;rw [sO];exact(World.cell?_of_block (hA1.grown.block _ (by simp<;>omega) (by simp [Value.ownBlock]))).trans (SE j u hu)) (EO r.aJ) (by have:=LN.o;unfold maxLen;omega) LN.o (by have:=G3.size;simp;omega) ?_;intro a2 c2 w4 hA2;obtain⟨G4,B4⟩:=Zr.o _ w4 _ _ a2 c2 _ (by repeat first|assumption|exact aG _|refine aK.alloc ?_ _|refine aK.drew ?_) hA2 B3;have n4:=G4.sub _ _ m6;have n5:∀o,w4.frozen? ⟨w+1,o,none⟩=false:=fun o=>(G4.frozen (p:=⟨w+1,o,none⟩) mz).trans (mf o);refine ψ M (fun _=>HS.o _ (by repeat first|assumption|exact aG _|refine aK.alloc ?_ _|refine aK.drew ?_)) ?_;try simp only [Act.put]
          refine iU (i:=8) κ rfl (fun K kQ=>?_);have M:=I kQ;clear kQ;go_simp;refine ψ M (fun _=>HS.o _ (by repeat first|assumption|exact aG _|refine aK.alloc ?_ _|refine aK.drew ?_)) ?_;try simp only [Act.put,Ae,Af,Ag]
          refine iU (i:=9) κ rfl (fun K kQ=>?_);have M:=I kQ;clear kQ;go_simp;refine ψ M (fun h=>absurd rfl h) ?_;try simp only [Act.put,Ae,Af,Ag]
          refine bW κ ?_;have HF:=I (PM.o w4 a2 c2 G4 hA2.own B4);clear hA1 hA2 G3 G4 B3 B4 n4 n5 m6 m7 mf;go_wp2_with fail
          go_roundw
          case rel=>exact⟨m+1,_,_,V,by go_num,rfl,HF.o⟩
          case measure=>simp [intOf];omega
        ·go_simp
         refine ψ M (fun _=>HS.o _ (by repeat first|assumption|exact aG _|refine aK.alloc ?_ _|refine aK.drew ?_)) ?_;try simp only [Act.put,Ae,Af,Ag]
         have SE:∀j u,([J r.aJ]:List Value)[j]? =some u->((w2.drew.alloc (.cells #[J r.aJ] 3)).alloc (.cells #[] 3)).cell? ⟨w2,j,none⟩=some u:=fun j u hu=>by have h:=rP w2.drew #[J r.aJ] 3 j u hu;rw [sO] at h;exact((aG (w2.drew.alloc (.cells #[J r.aJ] 3))).alloc (.cells #[] 3)).sub _ _ h
         refine iU (i:=0) κ rfl (fun K kQ=>?_);have M:=I kQ;clear kQ;go_simp;refine ψ M (fun _=>HS.o _ (by repeat first|assumption|exact aG _|refine aK.alloc ?_ _|refine aK.drew ?_)) ?_;try simp only [Act.put,Ae,Af,Ag]
         refine iU (i:=3) κ rfl (fun K kQ=>?_);have M:=I kQ;clear kQ;have qM:=HMK.o (w2.drew.alloc (.cells #[J r.aJ] 3)) (((aG w2).drew).alloc _);replace qM:((w2.drew.alloc (.cells #[J r.aJ] 3)).alloc (.cells #[] 3)).ownsRow (w.heap.size+2) 3 1 (U (some ⟨w2+1,0,none⟩) 0 0) 0 []:=by simpa using qM
         refine oP jL rfl (.tmp 51) (.tmp 53) rfl rfl (base:=w.heap.size+2) (v:=U (some ⟨w2+1,0,none⟩) 0 0) qM ay dn.length cy (dn.flatMap eX) rfl eW.o.1 Qs.o (D7.o _ (by repeat first|assumption|exact aG _|refine aK.alloc ?_ _|refine aK.drew ?_)) eZ.o PJ.o Yg.o (by simp;omega) ?_;intro a1 c1 w3 hA1;obtain⟨G3,B3⟩:=Zr.o _ w3 _ _ a1 c1 _ (by repeat first|assumption|exact aG _|refine aK.alloc ?_ _|refine aK.drew ?_) hA1 (by intro q O;simp [Value.ownBlock] at O;omega);simp only [Nat.zero_add,List.nil_append] at hA1 B3 ⊢;refine ψ M (fun _=>HS.o _ (by repeat first|assumption|exact aG _|refine aK.alloc ?_ _|refine aK.drew ?_)) ?_;try simp only [Act.put,Ae]
         refine iU (i:=7) κ rfl (fun K kQ=>?_);have M:=I kQ;clear kQ;refine oP jL rfl (.tmp 54) (.tmp 57) rfl rfl (base:=w.heap.size+2) (hA1.own) (some ⟨w2,0,none⟩) 1 1 [J r.aJ] rfl σ rfl (by rintro ad ⟨rfl⟩ j u hu;rw [sO];exact(World.cell?_of_block (hA1.grown.block _ (by simp<;>omega) (by simp [Value.ownBlock]))).trans (SE j u hu)) (EO r.aJ) (by have:=LN.o;unfold maxLen;omega) LN.o (by have:=G3.size;simp;omega) ?_;intro a2 c2 w4 hA2;obtain⟨G4,B4⟩:=Zr.o _ w4 _ _ a2 c2 _ (by repeat first|assumption|exact aG _|refine aK.alloc ?_ _|refine aK.drew ?_) hA2 B3;have n4:=G4.sub _ _ m6;have n5:∀o,w4.frozen? ⟨w+1,o,none⟩=false:=fun o=>(G4.frozen (p:=⟨w+1,o,none⟩) mz).trans (mf o);refine ψ M (fun _=>HS.o _ (by repeat first|assumption|exact aG _|refine aK.alloc ?_ _|refine aK.drew ?_)) ?_;try simp only [Act.put]
         refine iU (i:=8) κ rfl (fun K kQ=>?_);have M:=I kQ;clear kQ;go_simp;refine ψ M (fun _=>HS.o _ (by repeat first|assumption|exact aG _|refine aK.alloc ?_ _|refine aK.drew ?_)) ?_;try simp only [Act.put,Ae,Af,Ag]
         refine iU (i:=9) κ rfl (fun K kQ=>?_);have M:=I kQ;clear kQ;go_simp;refine ψ M (fun h=>absurd rfl h) ?_;try simp only [Act.put,Ae,Af,Ag]
         refine bW κ ?_;have HF:=I (PM.o w4 a2 c2 G4 hA2.own B4);clear hA1 hA2 G3 G4 B3 B4 n4 n5 m6 m7 mf;go_wp2_with fail
         go_roundw
         case rel=>exact⟨m+1,_,_,V,by go_num,rfl,HF.o⟩
         case measure=>simp [intOf];omega
       ·by_cases t3:r.aX=3
        ·have t2':(r.aX==2)=false:=by simp [t2]
         have t3':(r.aX==3)=true:=by simp [t3]
         have hst:jR r (rest,false,sm,dn) x=(rest,true,sm,dn):=by simp [jR,HT.o,t3]
         have D6:=I hst;clear t2 t3 hst;go_wp2_with fail
         go_roundw
         case rel=>exact⟨m+1,_,_,V,by go_num,rfl,HX.o.skip LI.o D6.o⟩
         case measure=>simp [intOf];omega
        ·have t2':(r.aX==2)=false:=by simp [t2]
         have t3':(r.aX==3)=false:=by simp [t3]
         have hst:jR r (rest,false,sm,dn) x=(rest++ [x],true,sm,dn):=by simp [jR,HT.o,t2,t3]
         have D6:=I hst;clear t2 t3 hst;go_wp2_with (at_builtin;refine Yb AZ (T:=Ty.rd) rfl (c:=c) (W:=w) rfl _ _ rfl (HX.o.box.grow.alloc _) (base:=wo.heap.size+1) HBS.o hI.o rfl (HX.o.own.grow ((aG _).alloc _)) Yf.o rfl σ gT.o HLEN.o ε ?_;intro g1 c' w1 hJ x_ GU KJ;have xA:=I hJ;have Om:=I GU;have HL1:=I KJ;clear hJ x_ GU KJ)
         go_roundw
         case rel=>exact⟨m+1,_,_,V,by go_num,rfl,HX.o.app LI.o HKX.o D6.o σ xA.o Om.o (HL1.o.imp id fun h=>by simpa using h)⟩
         case measure=>simp [intOf];omega
      ·have hst:jR r (rest,true,sm,dn) x=(rest++ [x],true,sm,dn):=by simp [jR]
       have D6:=I hst;clear hst;go_wp2_with (at_builtin;refine Yb AZ (T:=Ty.rd) rfl (c:=c) (W:=w) rfl _ _ rfl (HX.o.box.grow.alloc _) (base:=wo.heap.size+1) HBS.o hI.o rfl (HX.o.own.grow ((aG _).alloc _)) Yf.o rfl σ gT.o HLEN.o ε ?_;intro g1 c' w1 hJ x_ GU KJ;have xA:=I hJ;have Om:=I GU;have HL1:=I KJ;clear hJ x_ GU KJ)
       go_roundw
       case rel=>exact⟨m+1,_,_,V,by go_num,rfl,HX.o.app LI.o HKX.o D6.o σ xA.o Om.o (HL1.o.imp id fun h=>by simpa using h)⟩
       case measure=>simp [intOf];omega
     ·have tk':(x.aJ !=r.aJ)=true:=by simp [tk]
      have hst:jR r (rest,was,sm,dn) x=(rest++ [x],was,sm,dn):=by simp [jR,tk]
      have D6:=I hst;clear tk hst;go_wp2_with (at_builtin;refine Yb AZ (T:=Ty.rd) rfl (c:=c) (W:=w) rfl _ _ rfl (HX.o.box.grow.alloc _) (base:=wo.heap.size+1) HBS.o hI.o rfl (HX.o.own.grow ((aG _).alloc _)) Yf.o rfl σ gT.o HLEN.o ε ?_;intro g1 c' w1 hJ x_ GU KJ;have xA:=I hJ;have Om:=I GU;have HL1:=I KJ;clear hJ x_ GU KJ)
      go_roundw
      case rel=>exact⟨m+1,_,_,V,by go_num,rfl,HX.o.app LI.o HKX.o D6.o σ xA.o Om.o (HL1.o.imp id fun h=>by simpa using h)⟩
      case measure=>simp [intOf];omega
    ·obtain rfl:m=h.ready.length:=by omega
     have hfold:=hX.fold;rw [eG (Nat.le_refl _)] at hfold;have EJ:=I hfold;have HX:=I hX;have hrow:=hX.box.row;have e5':wr.cell? ⟨w+1,5,none⟩=some (U ar h.ready.length cr):=by simp [World.cell?,hrow]
     have zf:∀o,wr.frozen? ⟨w+1,o,none⟩=false:=by simp [World.frozen?,hrow]
     obtain⟨rest,was,sm,dn⟩:=st;have Yh:=Ti hrow (U a6 rest.length c6);have yD:=I Yh;have Tn:=dS wr ⟨w+1,5,none⟩ (U a6 rest.length c6);have VZ:=I Tn;have KL:=(hX.own.base (show w.heap.size+2<=wo.heap.size+1 by omega)).kept Tn (by
      cases e:(Value.slice a6 rest.length c6).ownBlock with
      |none=>exact .inl rfl
      |some q=>right;intro e';have:=(hX.own.lt q e).1;simp at e';omega)
     have hU:=I KL;have hY:=hX.box.done.kept Tn (by
      cases e:GK.ownBlock with
      |none=>exact .inl rfl
      |some q=>right;intro e';have:=(hX.box.done.lt q e).1;simp at e';omega)
     have Zq:=I hY;have A02:=hX.box.grow.grown Tn (fun q O=>by simp at O;omega);have PP:=I A02;clear hX hfold hrow Yh Tn KL hY A02 hrel;by_cases t1:r.aX=1
     ·have t1':(r.aX==1)=true:=by simp [t1]
      have HT1:=I t1;clear t1;cases was
      ·have hrs:f_ h r={ bg:=h.bg,aP:=sm,ready:=rest++ [⟨r.aJ,r.aH⟩],done:=dn }:=by rw [f_,EJ.o];simp [HT1.o]
       have HRS:=I hrs;have gT:Hid (∀u∈(#[J r.aJ,U ap r.aH.length cp]:Array Value).toList,u.oneCell'=true):=by
        intro u hu;simp at hu;rcases hu with rfl|rfl<;>rfl
       have HLEN:Hid ((rest.length+1)*32<=140737488355328):=by
        have N:=HX.o.len;have h3:=HO.o.ready;have h4:=HM.o;show(rest.length+1)*32<=140737488355328;simp only at N;omega
       have HRR:Hid (Ty.rd.R c [J r.aJ,U ap r.aH.length cp] ⟨r.aJ,r.aH⟩):=I ⟨_,rfl,HI2.o,HP.o⟩;have hI:Hid (w.heap.size+2<=(wr.setCell ⟨w+1,5,none⟩ (U a6 rest.length c6)).heap.size):=by show _<=_;simp;omega
       have A2p:Hid (w.heap.size<=w.heap.size+2):=by show _<=_;omega
       have rE:Hid (∀q,(Value.slice a6 rest.length c6).ownBlock=some q->q≠w.heap.size+1):=by
        intro q O e';have:=(HX.o.own.lt q O).1;omega
       clear hrs;go_wp2_with (at_builtin;refine Yb AZ (T:=Ty.rd) rfl (c:=c) (W:=w) rfl _ _ rfl PP.o (base:=w.heap.size+2) A2p.o hI.o rfl hU.o HRR.o rfl σ gT.o HLEN.o ε ?_;intro g1 c' w1 hJ x_ GU KJ;have q5:=(bQ yD.o (.cells #[J r.aJ,U ap r.aH.length cp] 53));have q6:w1.cell? ⟨w+1,5,none⟩=some (U a6 rest.length c6):=(World.cell?_of_block (GU.block _ (γ q5) (fun e'=>rE.o _ e'.symm rfl))).trans (by simp [World.cell?,q5]);have q7:∀o,w1.frozen? ⟨w+1,o,none⟩=false:=fun o=>(World.frozen?_of_block (GU.block _ (γ q5) (fun e'=>rE.o _ e'.symm rfl))).trans (by simp [World.frozen?,q5]);clear q5;have xA:=I hJ;have VX:=I x_;have Om:=I GU;have HL1:=I KJ;clear hJ x_ GU KJ)
       have q8:w1.heap[w.heap.size+1]? =some (.cells #[U (some ⟨b,o,none⟩) l.length cl,J sm.a,J sm.b,J sm.c,J sm.d,U a6 rest.length c6,GK] 50 (0,0)):=by
        rw [Om.o.block _ (by simp;omega) (fun e'=>rE.o _ e'.symm rfl)];exact bQ yD.o _
       have q9:w1.heap[w.heap.size]? =some (.cells #[(),J 0,J 0,J 0,J 0,(),()] 50 (0,0)):=by
        rw [Om.o.block _ (by simp;omega) (fun e'=>by have:=(HX.o.own.lt _ e'.symm).1;omega)];exact bQ ((VZ.o.block _ V σ).trans HX.o.box.res) _
       have hsg:=dS w1 ⟨w+1,5,none⟩ (U (some ⟨g1,0,none⟩) (rest.length+1) c');have hdn:=((Zq.o.alloc (.cells #[J r.aJ,U ap r.aH.length cp] 53)).kept Om.o (by
        rcases HX.o.Az with d|d
        ·cases e:GK.ownBlock with
         |none=>exact .inl rfl
         |some q=>right;intro e';have e2:=e'.trans (show(Value.slice a6 rest.length c6).ownBlock=none from d);cases e2
        ·right;exact fun e=>d e.symm)).kept hsg (by
        cases e:GK.ownBlock with
        |none=>exact .inl rfl
        |some q=>right;intro e';have:=(Zq.o.lt q e).1;simp at e';omega)
       go_roundw
       case rel=>
        refine⟨k+1,{ bg:=h.bg,aP:=sm,ready:=rest++ [⟨r.aJ,r.aH⟩],done:=dn },U (some ⟨g1,0,none⟩) (rest.length+1) c',GK,V,by go_num,by rw [HST.o,HRS.o],⟨Ti q8 _,?_,?_,hdn,VX.o.grown hsg (fun q O=>by simp at O;omega),?_⟩,⟨?_,?_,?_,HX.o.aP,HX.o.ints⟩⟩
        ·rw [hsg.block _ (γ q9) σ];exact q9
        ·exact xA.o.kept hsg (by right;intro e';have:=(xA.o.lt g1 rfl).1;simp [Value.ownBlock] at e';omega)
        ·have:=Om.o.size;simp at this ⊢;omega
        ·have:=HX.o.len;have:=HO.o.ready;simp at*;omega
        ·have:=HX.o.KI;simp at*;omega
        ·intro y hy
         simp only [List.mem_append,List.mem_singleton] at hy;rcases hy with hy|rfl
         ·exact HX.o.keys y hy
         ·exact HKR.o
       case measure=>simp [intOf];omega
      ·have hrs:f_ h r={ bg:=h.bg,aP:=sm,ready:=rest,done:=dn }:=by rw [f_,EJ.o];simp
       have HRS:=I hrs;clear hrs;go_wp2_with fail
       go_roundw
       case rel=>
        refine⟨k+1,{ bg:=h.bg,aP:=sm,ready:=rest,done:=dn },U a6 rest.length c6,GK,V,by go_num,by rw [HST.o,HRS.o],⟨yD.o,?_,hU.o,Zq.o,PP.o,Nat.le_trans HX.o.box.size VZ.o.size⟩,⟨?_,?_,HX.o.keys,HX.o.aP,HX.o.ints⟩⟩
        ·rw [VZ.o.block _ V σ];exact HX.o.box.res
        ·have:=HX.o.len;have:=HO.o.ready;simp only at*;omega
        ·have:=HX.o.KI;simp only at*;split at this<;>omega
       case measure=>simp [intOf];omega
     ·have t1':(r.aX==1)=false:=by simp [t1]
      have hrs:f_ h r={ bg:=h.bg,aP:=sm,ready:=rest,done:=dn }:=by rw [f_,EJ.o];simp [t1]
      have HRS:=I hrs;clear t1 hrs;go_wp2_with fail
      go_roundw
      case rel=>
       refine⟨k+1,{ bg:=h.bg,aP:=sm,ready:=rest,done:=dn },U a6 rest.length c6,GK,V,by go_num,by rw [HST.o,HRS.o],⟨yD.o,?_,hU.o,Zq.o,PP.o,Nat.le_trans HX.o.box.size VZ.o.size⟩,⟨?_,?_,HX.o.keys,HX.o.aP,HX.o.ints⟩⟩
       ·rw [VZ.o.block _ V σ];exact HX.o.box.res
       ·have:=HX.o.len;have:=HO.o.ready;simp only at*;omega
       ·have:=HX.o.KI;simp only at*;split at this<;>omega
      case measure=>simp [intOf];omega
  ·obtain⟨ar,cr,rfl⟩:=hB.ready.form
   obtain⟨ad,cd,rfl⟩:=dG hB.done;have e0:wr.cell? ⟨w+1,0,none⟩=some (U al l.length cl):=by simp [World.cell?,hB.row]
   have e1:wr.cell? ⟨w+1,1,none⟩=some (J h.aP.a):=by simp [World.cell?,hB.row]
   have e2:wr.cell? ⟨w+1,2,none⟩=some (J h.aP.b):=by simp [World.cell?,hB.row]
   have e3:wr.cell? ⟨w+1,3,none⟩=some (J h.aP.c):=by simp [World.cell?,hB.row]
   have e4:wr.cell? ⟨w+1,4,none⟩=some (J h.aP.d):=by simp [World.cell?,hB.row]
   have e5:wr.cell? ⟨w+1,5,none⟩=some (U ar h.ready.length cr):=by simp [World.cell?,hB.row]
   have e6:wr.cell? ⟨w+1,6,none⟩=some (U ad h.done.length cd):=by simp [World.cell?,hB.row]
   have z0:wr.cell? ⟨w,0,none⟩=some (U none 0 0):=by simp [World.cell?,hB.res]
   have z1:wr.cell? ⟨w,1,none⟩=some (J 0):=by simp [World.cell?,hB.res]
   have z2:wr.cell? ⟨w,2,none⟩=some (J 0):=by simp [World.cell?,hB.res]
   have z3:wr.cell? ⟨w,3,none⟩=some (J 0):=by simp [World.cell?,hB.res]
   have z4:wr.cell? ⟨w,4,none⟩=some (J 0):=by simp [World.cell?,hB.res]
   have z5:wr.cell? ⟨w,5,none⟩=some (U none 0 0):=by simp [World.cell?,hB.res]
   have z6:wr.cell? ⟨w,6,none⟩=some (U none 0 0):=by simp [World.cell?,hB.res]
   have zf:∀o,wr.frozen? ⟨w,o,none⟩=false:=by simp [World.frozen?,hB.res]
   have hfin:jM l=h:=by rw [eG V] at hH;exact hH
   have uq:(jM l).bg=l:=by
    unfold jM;have:∀(rs:List Rc) (h0:Hs),(rs.foldl f_ h0).bg=h0.bg:=by
     intro rs;induction rs with
     |nil=>intro h0;rfl
     |cons r rs ih=>intro h0;rw [List.foldl_cons,ih];rfl
    rw [this]
   have HF:=I hfin;have G_:=I uq;have HB:=I hB;have HO:=I hO;clear hel hH hB hO hfin uq;go_wp2;refine dw (v:=.agg #[U al l.length cl,J h.aP.a,J h.aP.b,J h.aP.c,J h.aP.d,U ar h.ready.length cr,U ad h.done.length cd]) (by simp [results,Tryz.results129,go_sem,z0,z1,z2,z3,z4,z5,z6]) rfl ?_;have hset:=fun(a:World) (o:Nat) (u:Value)=>dS a ⟨w,o,none⟩ u;have hg:=bD (hset wr 0 (U al l.length cl)) (bD (hset _ 1 (J h.aP.a)) (bD (hset _ 2 (J h.aP.b)) (bD (hset _ 3 (J h.aP.c)) (bD (hset _ 4 (J h.aP.d)) (bD (hset _ 5 (U ar h.ready.length cr)) (hset _ 6 (U ad h.done.length cd)))))));have hGr:=HB.o.grow.grown hg (fun k hk=>by simp at hk;omega);have e_:h.bg=l:=by rw [<-HF.o];exact G_.o
   rw [HF.o];refine⟨_,rfl,⟨[U al l.length cl,J h.aP.a,J h.aP.b,J h.aP.c,J h.aP.d,U ar h.ready.length cr,U ad h.done.length cd],rfl,_,_,_,rfl,?_,?_,?_,?_,?_,?_,?_⟩,hGr⟩
   ·rw [e_];exact HV.o.mono (gG HC.o)
   ·exact HO.o.aP.1
   ·exact HO.o.aP.2.1
   ·exact HO.o.aP.2.2.1
   ·exact HO.o.aP.2.2.2
   ·exact(HB.o.ready.kept hg (by
     right;intro e;have:=(HB.o.ready.lt _ e).1;simp only at this;omega)).slc ε (gG HC.o) fun a ha=>dY V
   ·exact(bK.ints (c:=c) (HB.o.done.kept hg (by
     right;intro e;have:=(HB.o.done.lt _ e).1;simp only at this;omega)) HO.o.ints).slc ε (gG HC.o) fun a ha=>dY V
end Go.Proofs.YtocnmkefmgmkbaaGreat
namespace Go.Proofs.YtocnmkefmgmkbaaGreat
open Go.RowKit Go.Instr
def kD {κ:Type} (enc:κ->Value) (w:World) (m:Nat) (kv:List (κ×Value)):Prop:=
 ∃(es:List MapEntry) (clock:Nat),w.heap[m]? =some (.map es.toArray clock)/\es.map (fun e=>(e.key,e.val))=kv.map fun p=>(enc p.1,p.2)
structure Jh {κ:Type} [DecidableEq κ] (P:Program) (K:TypeId) (enc:κ->Value):Prop where
 chk:∀(b:Bool) (k:κ) (w:World),(checkKey b 10000 K (enc k)).run P w=.ok () w
 find:∀(k:κ) (kv:List (κ×Value)) (es:List MapEntry) (w:World),es.map (fun e=>(e.key,e.val))=kv.map (fun p=>(enc p.1,p.2))->
  (findKey K (enc k) es).run P w=.ok ((kv.findIdx? (fun p=>p.1==k)).bind fun i=>(kv[i]?).map fun p=>(i,p.2)) w
 same:∀k,sameBits 10000 (enc k) (enc k)=true
def Qu {κ:Type} [DecidableEq κ] (kv:List (κ×Value)) (k:κ):Option Value:=(kv.find? (fun p=>p.1==k)).map (·.2)
def Tq {κ:Type} [DecidableEq κ] (kv:List (κ×Value)) (k:κ) (v:Value):List (κ×Value):=match kv.findIdx? (fun p=>p.1==k) with|some i=>kv.set i (k,v)|none=>kv++ [(k,v)]
theorem iA {κ:Type} [DecidableEq κ] (kv:List (κ×Value)) (k:κ):((kv.findIdx? (fun p=>p.1==k)).bind fun i=>(kv[i]?).map fun p=>(i,p.2)).map (·.2)=Qu kv k:=by
 unfold Qu;cases h:kv.findIdx? (fun p=>p.1==k) with
 |none=>
  rw [List.findIdx?_eq_none_iff] at h;have:kv.find? (fun p=>p.1==k)=none:=by
   rw [List.find?_eq_none];intro x Z;simpa using h x Z
  rw [this];rfl
 |some i=>
  have hf:=List.find?_eq_some_iff_getElem (xs:=kv) (p:=fun p:κ×Value=>p.1==k) (b:=kv[i]'(by rw [List.findIdx?_eq_some_iff_getElem] at h;exact h.1));have h':=h;rw [List.findIdx?_eq_some_iff_getElem] at h;obtain⟨hi,hp,hb⟩:=h;rw [hf.2 ⟨hp,i,hi,rfl,fun j hj=>by simpa using hb j hj⟩];simp [dM hi]
theorem Wx {κ:Type} [DecidableEq κ] {P:Program} {t K E:TypeId} {enc:κ->Value} (hK:Jh P K enc) (ht:P.underlying t=some (.map K E)) {z:Value} (hz:∀w,(zeroValue E).run P w=.ok z w) {w:World} {m:Nat} {kv:List (κ×Value)} (h:kD enc w m kv) (k:κ):
  (lookup t (.map (some m)) (enc k) false).run P w=.ok ((Qu kv k).getD z) w:=by
 obtain⟨es,clock,hb,he⟩:=h;have hf:=hK.find k kv es w he;rw [<-iA];have hc:=fun b=>hK.chk b k w;cases h:(kv.findIdx? (fun p=>p.1==k)).bind fun i=>(kv[i]?).map fun p=>(i,p.2) with
 |none=>
  rw [h] at hf;simp [Instr.lookup,run_underlying ht,MapKept.run_getObj_map hb,hc,hf,hz,Result.andThen]
 |some q=>
  rw [h] at hf;simp [Instr.lookup,run_underlying ht,MapKept.run_getObj_map hb,hc,hf,Result.andThen]
theorem Yi {κ:Type} [DecidableEq κ] {P:Program} {t K E:TypeId} {enc:κ->Value} (hK:Jh P K enc) (ht:P.underlying t=some (.map K E)) {w:World} {m:Nat} {kv:List (κ×Value)} (h:kD enc w m kv) (k:κ) (v:Value):
  ∃w',(mapUpdate t (.map (some m)) (enc k) v).run P w=.ok () w'/\kD enc w' m (Tq kv k v)/\w.grownBy w' (some m):=by
 obtain⟨es,clock,hb,he⟩:=h;have hf:=hK.find k kv es w he;have hc:=fun b=>hK.chk b k w;have hlt:m<w.heap.size:=(γ hb);have hlen:es.length=kv.length:=by have:=congrArg List.length he;simpa using this
 have hgr:∀o:Obj,w.grownBy { w with heap:=w.heap.setIfInBounds m o } (some m):=fun o=>
  ⟨rfl,rfl,rfl,σ,fun k hk hne=>by simp only [Array.getElem?_setIfInBounds];rw [aV (fun e=>hne (by rw [e]))]⟩
 have hset:∀(o:Obj),(setObj m o).run P w=.ok () { w with heap:=w.heap.setIfInBounds m o }:=fun o=>by simp [setObj,Sem.run,hb]
 cases h:kv.findIdx? (fun p=>p.1==k) with
 |none=>
  rw [h] at hf;refine⟨_,by simp [Instr.mapUpdate,run_underlying ht,MapKept.run_getObj_map hb,hc,hf,hset,Result.andThen];rfl,?_,hgr _⟩;refine⟨es++ [{ key:=enc k,val:=v,born:=clock }],clock+1,by simp [hlt],?_⟩;rw [Tq,h];simp [he]
 |some i=>
  rw [h] at hf;rw [List.findIdx?_eq_some_iff_getElem] at h;obtain⟨hi,hp,hbf⟩:=h;have hek:(es[i]' V).key=enc k:=by
   have:=congrArg (fun l=>l[i]?) he;simp only [List.getElem?_map,dM hi,dM (show i<es.length by omega),Option.map_some,Option.some.injEq,Prod.mk.injEq] at this;rw [this.1];congr 1;simpa using hp
  have hkeep:(keyThatStays (((es.toArray[i]?).map (·.key)).getD (enc k)) (enc k)).run P w=.ok (enc k) w:=by
   have:((es.toArray[i]?).map (·.key)).getD (enc k)=enc k:=by simp [dM (show i<es.length by omega),hek]
   rw [this];simp [keyThatStays,hK.same]
  simp only [Option.bind_some,dM hi,Option.map_some] at hf;refine⟨_,by simp only [Instr.mapUpdate,Sem.run_bind,run_underlying ht,Result.andThen_ok,MapKept.run_getObj_map hb,hc,hf,hkeep,hset];rfl,?_,hgr _⟩;refine⟨es.modify i fun e=>{ e with key:=enc k,val:=v },clock,by simp [hlt],?_⟩;have hm:Tq kv k v=kv.set i (k,v):=by
   have:kv.findIdx? (fun p=>p.1==k)=some i:=by rw [List.findIdx?_eq_some_iff_getElem];exact⟨hi,hp,hbf⟩
   rw [Tq,this]
  rw [hm,List.map_set,<-he];apply List.ext_getElem?;intro j;simp only [List.getElem?_map,List.getElem?_modify,List.getElem?_set,List.length_map];by_cases hij:i=j
  ·subst hij
   simp [show i<es.length by omega]
  ·simp [hij]
theorem Yj {κ:Type} [DecidableEq κ] {P:Program} {K:TypeId} {enc:κ->Value} (heq:∀(k k':κ) (w:World),(Op.equal K (enc k) (enc k')).run P w=.ok (decide (k=k')) w) (k:κ):∀(kv:List (κ×Value)) (es:List MapEntry) (n:Nat) (w:World),es.map (fun e=>(e.key,e.val))=kv.map (fun p=>(enc p.1,p.2))->
  (findAsking K (enc k) es n).run P w=.ok ((kv.findIdx? (fun p=>p.1==k)).bind fun i=>(kv[i]?).map fun p=>(n+i,p.2)) w
 | [],[],n,w,_=>by simp [findAsking]
 | [],_::_,n,w,h=>by simp at h
 |_::_,[],n,w,h=>by simp at h
 |p::kv,e::es,n,w,h=>by
  simp only [List.map_cons,List.cons.injEq,Prod.mk.injEq] at h;obtain⟨⟨hk,hv⟩,h⟩:=h;have ih:=Yj heq k kv es (n+1) w h;simp only [findAsking,Sem.run_bind,hk,heq,Result.andThen_ok,Sem.run_ite,ih,Sem.run_pure,List.findIdx?_cons];by_cases hp:p.1=k
  ·simp [hp,hv]
  ·have:¬k=p.1:=fun e=>hp e.symm
   simp only [this,decide_false,Bool.false_eq_true,if_false,beq_eq_false_iff_ne.2 hp];congr 1;cases kv.findIdx? (fun p=>p.1==k) with
   |none=>rfl
   |some i=>simp [Nat.add_assoc,Nat.add_comm 1 i]
def l7 (n:Int):Value:=J n
theorem qN:Jh (κ:=Int) Tryz.prog 3 l7 where
 chk:=fun b k w=>by cases b<;>kernel_rfl
 find:=by
  intro k kv es w h;have hf:∀(kv:List (Int×Value)) (es:List MapEntry) (n:Nat),es.map (fun e=>(e.key,e.val))=kv.map (fun p=>(l7 p.1,p.2))->findNow (.int .i64) (l7 k) es n=some ((kv.findIdx? (fun p=>p.1==k)).bind fun i=>(kv[i]?).map fun p=>(n+i,p.2)):=by
   intro kv;induction kv with
   |nil=>intro es n h;cases es with
    |nil=>simp [findNow]
    |cons _ _=>simp at h
   |cons p kv ih=>
    intro es n h;cases es with
    |nil=>simp at h
    |cons e es=>
     simp only [List.map_cons,List.cons.injEq,Prod.mk.injEq] at h;obtain⟨⟨hk,hv⟩,h⟩:=h;simp only [findNow,hk,l7,sameNow,if_true,List.findIdx?_cons];by_cases hp:p.1=k
     ·simp [hp,hv]
     ·have:¬k=p.1:=fun e=>hp e.symm
      simp only [beq_eq_false_iff_ne.2 this,beq_eq_false_iff_ne.2 hp];have:=ih es (n+1) h;simp only [l7] at this;rw [this];simp only [Bool.false_eq_true,if_false,Option.some.injEq];cases kv.findIdx? (fun p=>p.1==k) with
      |none=>rfl
      |some i=>simp [Nat.add_assoc,Nat.add_comm 1 i]
  have:=hf kv es 0 h;simp only [Nat.zero_add] at this;simp only [findKey,Sem.run_bind,run_underlying Tryz.underlying3,Result.andThen_ok,this,Sem.run_pure]
 same:=fun k=>by simp [l7,sameBits]
def uQ (p:Int×Int):Value:=.agg #[J p.1,J p.2]
theorem Qv:Jh (κ:=Int×Int) Tryz.prog 129 uQ where
 chk:=fun b k w=>by cases b<;>kernel_rfl
 find:=by
  intro k kv es w h;have heq:∀(k k':Int×Int) (w:World),(Op.equal 129 (uQ k) (uQ k')).run Tryz.prog w=.ok (decide (k=k')) w:=by
   intro k k' w;obtain⟨a,b⟩:=k;obtain⟨a',b'⟩:=k';obtain⟨i,hi,-⟩:=Go.info_parts (show(Tryz.prog.info? 3).map (fun i=>(i.zero,i.size,i.bytes))=some (some (J 0),1,8) by kernel_rfl);have u3:=Tryz.underlying3;have a3:=Tryz.isAgg3;have z3:=Tryz.sizeOf3;have hc:Tryz.prog.cellsOf 3=1:=by kernel_rfl
   unfold Op.equal Op.maxDepth;rw [uQ,uQ,show(10000:Nat)=9999+1 from rfl,run_equalIn_array w 9999 _ _ Tryz.underlying129 hi,hc,show List.range 2=[0,1] from rfl];clear hi;simp only [Op.eqItems];go_simp;by_cases N:a=a'<;>by_cases Y:b=b'<;>simp [N,Y]
  have:=Yj heq k kv es 0 w h;simp only [Nat.zero_add] at this;cases es with
  |nil=>
   simp only [findKey,Sem.run_bind,run_underlying Tryz.underlying129,Result.andThen_ok,findNow,Sem.run_pure];cases kv with
   |nil=>rfl
   |cons _ _=>simp at h
  |cons e es=>
   have hn:findNow (.array 2 3) (uQ k) (e::es) 0=none:=by simp [findNow,sameNow]
   simp only [findKey,Sem.run_bind,run_underlying Tryz.underlying129,Result.andThen_ok,hn,this]
 same:=fun k=>by simp [uQ,sameBits]
theorem rV {κ:Type} [DecidableEq κ] {P:Program} {t K E:TypeId} {enc:κ->Value} (hK:Jh P K enc) (ht:P.underlying t=some (.map K E)) {z:Value} (hz:∀w,(zeroValue E).run P w=.ok z w) {w:World} {ops:Array Oper} {rest:List Oper} {o:Oper} {a:Act} {Q:Exit->Act->World->Prop} (hg:o.guard=none) (mo x:Operand) (hop:o.op=Op.lookup t mo x false)
  {m:Nat} {kv:List (κ×Value)} (h:kD enc w m kv) (k:κ) (hm:a.eval mo=.map (some m)) (Z:a.eval x=enc k) (hC:wpList P ops Q rest (a.put o.dst ((Qu kv k).getD z)) w):wpList P ops Q (o::rest) a w:=by
 refine wpList_plain hg fun K' hK'=>?_;have hrun:=Wx hK ht hz h k;unfold Oper.wp;simp [execOp,hop,hm,Z,hrun,Result.andThen];exact hK' _ _ hC
theorem KN {κ:Type} [DecidableEq κ] {P:Program} {t K E:TypeId} {enc:κ->Value} (hK:Jh P K enc) (ht:P.underlying t=some (.map K E)) {w:World} {ops:Array Oper} {rest:List Oper} {o:Oper} {a:Act} {Q:Exit->Act->World->Prop} (hg:o.guard=none) (mo x y:Operand) (hop:o.op=Op.mapUpdate t mo x y)
  {m:Nat} {kv:List (κ×Value)} (h:kD enc w m kv) (k:κ) (v:Value) (hm:a.eval mo=.map (some m)) (Z:a.eval x=enc k) (hy:a.eval y=v) (hC:∀w',kD enc w' m (Tq kv k v)->w.grownBy w' (some m)->wpList P ops Q rest (a.put o.dst undef) w'):wpList P ops Q (o::rest) a w:=by
 refine wpList_plain hg fun K' hK'=>?_;obtain⟨w',hrun,N,Y⟩:=Yi hK ht h k v;unfold Oper.wp;simp [execOp,hop,hm,Z,hy,hrun,Result.andThen];exact hK' _ _ (hC w' N Y)
theorem kD.new {κ:Type} {enc:κ->Value} (w:World):kD enc (w.alloc (.map #[] 0)) w.heap.size []:=⟨[],0,heap_alloc_new w _,rfl⟩
theorem kD.grown {κ:Type} {enc:κ->Value} {w w':World} {m:Nat} {kv:List (κ×Value)} {row:Option Nat} (h:kD enc w m kv) (hg:w.grownBy w' row) (hne:row≠some m):kD enc w' m kv:=by
 obtain⟨es,c,hb,he⟩:=h;exact⟨es,c,by rw [hg.block m (γ hb) (fun e=>hne e.symm)];exact hb,he⟩
theorem kD.lt {κ:Type} {enc:κ->Value} {w:World} {m:Nat} {kv:List (κ×Value)} (h:kD enc w m kv):m<w.heap.size:=by
 obtain⟨es,c,hb,he⟩:=h;exact(γ hb)
def nP {κ:Type} (ks:List κ):List (κ×Value):=ks.map fun k=>(k,.bool true)
theorem Tt {κ:Type} [DecidableEq κ] (ks:List κ) (k:κ):(Qu (nP ks) k).getD (.bool false)=.bool (decide (k∈ks)):=by
 unfold Qu nP;induction ks with
 |nil=>simp
 |cons x ks ih=>
  simp only [List.map_cons,List.find?_cons];by_cases h:x=k
  ·simp [h]
  ·have h':¬k=x:=fun e=>h e.symm
   simp only [beq_eq_false_iff_ne.2 h,List.mem_cons,h',false_or];exact ih
theorem Qw {κ:Type} [DecidableEq κ] {ks:List κ} {k:κ} (h:k∈ks):(Qu (nP ks) k).getD (.bool false)=.bool true:=by rw [Tt];simp [h]
theorem KO {κ:Type} [DecidableEq κ] {ks:List κ} {k:κ} (h:¬k∈ks):(Qu (nP ks) k).getD (.bool false)=.bool false:=by rw [Tt];simp [h]
theorem Ba {κ:Type} [DecidableEq κ] (ks:List κ) (k:κ):∃ks',Tq (nP ks) k (.bool true)=nP ks'/\∀x,x∈ks'↔x∈ks∨x=k:=by
 unfold Tq;cases h:(nP ks).findIdx? (fun p=>p.1==k) with
 |none=>exact⟨ks++ [k],by simp [nP],σ⟩
 |some i=>
  rw [List.findIdx?_eq_some_iff_getElem] at h;obtain⟨hi,hp,_⟩:=h;have hi':i<ks.length:=by simpa [nP] using hi
  have hk:ks[i]=k:=by simpa [nP] using hp
  refine⟨ks,?_,fun x=>⟨Or.inl,fun h=>h.elim id fun h=>by rw [h,<-hk];exact List.getElem_mem _⟩⟩;apply List.ext_getElem?;intro j;rw [List.getElem?_set];by_cases hij:i=j
  ·subst hij;simp [nP,hi',hk]
  ·simp [hij]
end Go.Proofs.YtocnmkefmgmkbaaGreat
namespace Go.Proofs.YtocnmkefmgmkbaaGreat
open Go.RowKit
def OZ (p:Pt) (h:Int):Bool:=decide (p.h<0∨h<=p.h∨p.k<0∨3<p.k∨1048576<p.n∨p.n< -1048576)
def jU (h:Int):List (Int×Int)->List Pt->Int
 |_,[]=>0
 |had,p::l=>if OZ p h=true then 3 else if(p.h,p.k)∈had then 4 else jU h ((p.h,p.k)::had) l
def dO (l:List Pt) (h:Int):Int:=if l.length=0∨4<l.length then 5 else jU h [] l
theorem xU (h:Int):∀(l:List Pt) (a b:List (Int×Int)),(∀x,x∈a↔x∈b)->jU h a l=jU h b l
 | [],_,_,_=>rfl
 |p::l,a,b,hab=>by
  simp only [jU,hab];rw [xU h l ((p.h,p.k)::a) ((p.h,p.k)::b) (fun x=>by simp [hab])]
theorem CC (p:Pt) (h:Int):(p.h<0)∨(0<=p.h/\h<=p.h)∨(0<=p.h/\p.h<h/\p.k<0)∨(0<=p.h/\p.h<h/\0<=p.k/\3<p.k)∨(0<=p.h/\p.h<h/\0<=p.k/\p.k<=3/\1048576<p.n)∨(0<=p.h/\p.h<h/\0<=p.k/\p.k<=3/\p.n<=1048576/\p.n< -1048576)∨(0<=p.h/\p.h<h/\0<=p.k/\p.k<=3/\p.n<=1048576/\-1048576<=p.n):=by omega
theorem vI {v:Value} {l:List Pt} {h:Int} (w:World) (hv:pX w.cell? v l):
  Calls Tryz.prog 49 #[v,J h] w fun e w'=>e=.returned (J (dO l h))/\aK w w':=by
 obtain⟨a,cap,rfl,N,Y,-,hel⟩:=hv;unfold maxLen at Y;have hzb:∀w,(zeroValue 4).run Tryz.prog w=.ok (.bool false) w:=fun w=>by kernel_rfl
 by_cases hl0:l.length=0
 ·have hE:dO l h=5:=by simp [dO,hl0]
  have HE:=I hE;have t0:((l.length:Int)==0)=true:=by simp [hl0]
  clear hel hE hl0 hzb;go_enter Tryz.func49,Tryz.ntmps49;go_wp2;go_ret;exact⟨dQ HE.o.symm,aG _⟩
 have t0:((l.length:Int)==0)=false:=by rw [beq_eq_false_iff_ne];omega
 by_cases hl4:4<l.length
 ·have hE:dO l h=5:=by rw [dO,bC (.inr hl4)]
  have HE:=I hE;clear hel hE hl0 hzb;go_enter Tryz.func49,Tryz.ntmps49;go_wp2;go_ret;exact⟨dQ HE.o.symm,aG _⟩
 have hE:dO l h=jU h [] l:=by rw [dO,aV V]
 have HE:=I hE;clear hE hl0;have hmm:=@run_makeMap Tryz.prog;go_enter Tryz.func49,Tryz.ntmps49;go_wp2;go_loopw [4,19] (fun _ i wr=>∃(k:Nat) (ks:List (Int×Int)),k<=l.length/\i=J k/\aK w wr/\kD uQ wr w.heap.size (nP ks)/\dO l h=jU h ks (l.drop k)) (fun _ i _=>l.length - (intOf i).toNat)
 case atStart=>exact⟨0,[],V,rfl,je,kD.new w,HE.o⟩
 case round=>
  obtain⟨k,ks,hk',rfl,hb,hmap,hE⟩:=hrel;have HM:=I hmap;by_cases hlt:k<l.length
  ·obtain⟨b,o,rfl,c0,c1,c2,-,-,-⟩:=pX.at_ hel k hlt
   replace c0:=hb.sub _ _ c0;replace c1:=hb.sub _ _ c1;replace c2:=hb.sub _ _ c2;rw [List.drop_eq_getElem_cons hlt,jU] at hE;have hw:=CC l[k] h;have hbad:∀b,decide (l[k].h<0∨h<=l[k].h∨l[k].k<0∨3<l[k].k∨1048576<l[k].n∨l[k].n< -1048576)=b->OZ l[k] h=b:=fun b hb=>hb;have HB:=I hbad;have lC:=I hE;clear hel hE hmap hbad HE;generalize hp:l[k]=p at*;obtain⟨ph,pk,pn⟩:=p;clear hp;simp only at hw c0 c1 c2;rcases hw with hw|⟨w1,hw⟩|⟨w1,w2,hw⟩|⟨w1,w2,w3,hw⟩|⟨w1,w2,w3,w4,hw⟩|⟨w1,w2,w3,w4,w5,hw⟩|⟨w1,w2,w3,w4,w5,hw⟩
   iterate 6 (· (go_wp2;go_ret;exact⟨dQ (by rw [lC.o,bC (HB.o true (by simp only [decide_eq_true_eq];omega))]),je⟩))
   have hnb:=HB.o false (by simp only [decide_eq_false_iff_not];omega);have PQ:=lC.o;rw [aV (by rw [hnb];exact Bool.false_ne_true)] at PQ;have Qx:=I PQ;clear PQ hnb HB lC;by_cases hin:(ph,pk)∈ks
   ·have HI:=I hin
    have HG:=I (Qw hin);clear hin;go_wp2_with (at_lookup;refine rV Qv Tryz.underlying128 hzb rfl _ _ rfl (HM.o.grown (aO ((aG _).alloc _) none) σ) (ph,pk) rfl rfl ?_;rw [HG.o])
    go_ret;exact⟨dQ (by rw [Qx.o,bC HI.o]),je⟩
   ·have HI:=I hin
    have HG:=I (KO hin);clear hin;go_wp2_with (first|(at_lookup;refine rV Qv Tryz.underlying128 hzb rfl _ _ rfl (HM.o.grown (aO ((aG _).alloc _) none) σ) (ph,pk) rfl rfl ?_;rw [HG.o])|(at_mapUpdate;refine KN Qv Tryz.underlying128 rfl _ _ _ rfl (HM.o.grown (aO ((aG _).alloc _) none) σ) (ph,pk) (.bool true) rfl rfl rfl ?_;intro w' hm' hg';have HM':=I hm';have x_:=I hg';clear hm' hg'))
    obtain⟨ks',hks,hmem⟩:=Ba ks (ph,pk);have hm':=HM'.o;rw [hks] at hm';go_roundw
    case rel=>exact⟨k+1,ks',V,by go_num,(hb.alloc _).grown x_.o σ,hm',by rw [Qx.o,aV HI.o];exact xU h _ _ _ fun x=>by rw [hmem,List.mem_cons,or_comm]⟩
    case measure=>simp [intOf];omega
  ·go_wp2
   go_ret;refine⟨dQ ?_,hb⟩;rw [hE,List.drop_of_length_le V];rfl
end Go.Proofs.YtocnmkefmgmkbaaGreat
namespace Go.Proofs.YtocnmkefmgmkbaaGreat
theorem KP {h:Int}:∀{l:List Pt} {had:List (Int×Int)},jU h had l=0->(∀p∈l,OZ p h=false)/\(∀p∈l,(p.h,p.k)∉had)/\(l.map fun p=>(p.h,p.k)).Nodup
 | [],_,_=>by simp
 |p::l,had,e=>by
  unfold jU at e;split at e
  ·cases e
  ·rename_i hb
   split at e
   ·cases e
   ·rename_i hn
    obtain⟨N,Y,h3⟩:=KP e;refine⟨fun q O=>?_,fun q O=>?_,?_⟩
    ·rcases List.mem_cons.1 O with rfl|O
     ·simpa using hb
     ·exact N q O
    ·rcases List.mem_cons.1 O with rfl|O
     ·exact hn
     ·exact fun hm=>Y q O (List.mem_cons_of_mem _ hm)
    ·rw [List.map_cons,List.nodup_cons]
     refine⟨fun hm=>?_,h3⟩;obtain⟨q,O,he⟩:=List.mem_map.1 hm;exact Y q O (by rw [he];exact List.mem_cons_self)
theorem g_ {l:List Pt} {h:Int} (e:dO l h=0):0<l.length/\l.length<=4/\(∀p∈l,0<=p.h/\p.h<h/\0<=p.k/\p.k<4/\p.n<=1048576/\-1048576<=p.n)/\(l.map fun p=>(p.h,p.k)).Nodup:=by
 unfold dO at e;split at e
 ·cases e
 ·rename_i hl
  obtain⟨N,_,h3⟩:=KP e;refine⟨V,V,fun p hp=>?_,h3⟩;have:=of_decide_eq_false (N p hp);omega
theorem vJ {l:List Pt} {h:Int} (e:dO l h=0):jg l:=fun p hp=>by
 have:=(g_ e).2.2.1 p hp;exact⟨this.2.2.1,this.2.2.2.1⟩
def nG (d:Int) (x:Rd):Bool:=x.aJ==d
theorem Qy (r:Rc):∀(l:List Rd) (a:List Rd) (s:Sm) (d:List Int),l.foldl (jR r) (a,true,s,d)=(a++l,true,s,d)
 | [],a,s,d=>by simp
 |x::l,a,s,d=>by
  rw [List.foldl_cons,show jR r (a,true,s,d) x=(a++ [x],true,s,d) by simp [jR],Qy r l];simp
theorem Ci (r:Rc):∀(l:List Rd) (a:List Rd) (s:Sm) (d:List Int),l.foldl (jR r) (a,false,s,d)=
  match l.find? (nG r.aJ) with
  |none=>(a++l,false,s,d)
  |some x=>(a++(if r.aX=2∨r.aX=3 then l.eraseP (nG r.aJ) else l),true,if r.aX=2 then pY s x.aH else s,if r.aX=2 then d++ [r.aJ] else d)
 | [],a,s,d=>by simp
 |x::l,a,s,d=>by
  rw [List.foldl_cons];by_cases h:x.aJ=r.aJ
  ·have hd:nG r.aJ x=true:=by simp [nG,h]
   rw [List.find?_cons_of_pos hd,List.eraseP_cons_of_pos hd];by_cases Y:r.aX=2
   ·rw [show jR r (a,false,s,d) x=(a,true,pY s x.aH,d++ [r.aJ]) by simp [jR,h,Y],Qy];simp [Y]
   ·by_cases h3:r.aX=3
    ·rw [show jR r (a,false,s,d) x=(a,true,s,d) by simp [jR,h,h3],Qy];simp [h3]
    ·rw [show jR r (a,false,s,d) x=(a++ [x],true,s,d) by simp [jR,h,Y,h3],Qy];simp [Y,h3]
  ·have hd:nG r.aJ x=false:=by simp [nG,h]
   rw [show jR r (a,false,s,d) x=(a++ [x],false,s,d) by simp [jR,h],Ci r l,List.find?_cons_of_neg (by simp [hd])];cases l.find? (nG r.aJ) with
   |none=>simp
   |some y=>by_cases hk:r.aX=2∨r.aX=3<;>simp [hk,hd]
end Go.Proofs.YtocnmkefmgmkbaaGreat
namespace Go.Proofs.YtocnmkefmgmkbaaGreat
open Go.RowKit
def Tv (r:Rc):Bool:=decide (0<=r.aJ/\(r.aH≠ []->dO r.aH 3=0)/\(r.aX=1->r.aH≠ []))
def lK (key:Int) (r:Rd):Bool:=r.aH.any fun p=>p.k==key
def pJ (l:List Rd) (key:Int):Int:=match l.find? (lK key) with|some r=>r.aJ|none=>-1
theorem Tz {l:List Rd} {k:Nat} {key:Int} (hlt:k<l.length) (h:∀r∈l.take k,lK key r=false):(lK key l[k]=true->pJ l key=l[k].aJ)/\(lK key l[k]=false->∀r∈l.take (k+1),lK key r=false):=by
 constructor
 ·intro O
  have:l.find? (lK key)=some l[k]:=by
   rw [List.find?_eq_some_iff_getElem];exact⟨O,k,hlt,rfl,fun j hj=>by simpa using h l[j] (by rw [List.mem_take_iff_getElem];exact⟨j,V,rfl⟩)⟩
  rw [pJ,this]
 ·intro O r hr
  rw [List.take_succ_eq_append_getElem hlt] at hr;rcases List.mem_append.1 hr with h'|h'
  ·exact h r h'
  ·simp at h';subst h';exact O
theorem TA {l:List Rd} {key:Int} (h:∀r∈l,lK key r=false):pJ l key= -1:=by
 have:l.find? (lK key)=none:=by rw [List.find?_eq_none];intro x Z;simp [h x Z]
 rw [pJ,this]
theorem CD {v:Value} {h:Hs} {key:Int} (w:World) (hv:Of Ty.hs w.cell? v h):
  Calls Tryz.prog 128 #[v,J key] w fun e w'=>e=.returned (J (pJ h.ready key))/\aK w w':=by
 obtain⟨cs,rfl,vl,vr,vd,rfl,hl,-,-,-,-,hr,hd⟩:=hv;obtain⟨al,cl,rfl,-⟩:=id hl;obtain⟨ad,cd,rfl,-⟩:=id hd;obtain⟨a,cap,rfl,N,Y,-,hel⟩:=hr;unfold maxLen at Y;go_enter Tryz.func128,Tryz.ntmps128;go_wp2;go_loopw [4,6,8,12,18,19] (fun _ _ _ i _ _ wr=>∃k:Nat,k<=h.ready.length/\i=J k/\aK w wr/\∀r∈h.ready.take k,lK key r=false) (fun _ _ _ i _ _ _=>h.ready.length - (intOf i).toNat)
 case atStart=>exact⟨0,V,rfl,je,σ⟩
 case round=>
  obtain⟨k,hk',rfl,hb,hE⟩:=hrel;by_cases hlt:k<h.ready.length
  ·obtain⟨b,o,vp,rfl,c0,c1,-,hP⟩:=VU.at_ hel k hlt
   obtain⟨ap,cp,rfl,hp1,hp2,hp0,Wy⟩:=id hP;replace c0:=hb.sub _ _ c0;replace c1:=hb.sub _ _ c1;obtain⟨s1,s2⟩:=Tz hlt hE;have H1:=I s1;have H2:=I s2;have hcl:h.ready[k].aH.length<=9223372036854775807:=by unfold maxLen at hp2;omega
   clear hel hP hE s1 s2 hp1 hp2 hp0;generalize h.ready[k]=r at*;obtain⟨wo,rfl⟩:=χ wr;go_wp2;go_loopw [4,8,19] (fun _ _ i wx=>∃m:Nat,m<=r.aH.length/\i=J m/\aK (wo.alloc (.cells #[J r.aJ,U ap r.aH.length cp] 53)) wx/\∀p∈r.aH.take m,(p.k==key)=false) (fun _ _ i _=>r.aH.length - (intOf i).toNat)
   case atStart=>exact⟨0,V,rfl,aG _,σ⟩
   case round=>
    obtain⟨m,hm',rfl,hbx,hF⟩:=hrel;have HF:=I hF;clear hF;have hbw:=((hb.alloc (.cells #[J r.aJ,U ap r.aH.length cp] 53)).trans hbx);by_cases hlm:m<r.aH.length
    ·obtain⟨b',o',rfl,d0,d1,d2,-,-,-⟩:=pX.at_ Wy m hlm
     replace d0:=hbw.sub _ _ d0;replace d1:=hbw.sub _ _ d1;replace d2:=hbw.sub _ _ d2;have e0:=hbx.sub ⟨wo,0,none⟩ _ (World.cell?_alloc_new wo _ _ 0);simp at e0;have hyes:(r.aH[m].k==key)=true->lK key r=true:=fun h=>by rw [lK,List.any_eq_true];exact⟨_,List.getElem_mem _,h⟩
     have hno:(r.aH[m].k==key)=false->∀p∈r.aH.take (m+1),(p.k==key)=false:=by
      intro h p hp;rw [List.take_succ_eq_append_getElem hlm] at hp;rcases List.mem_append.1 hp with h'|h'
      ·exact HF.o p h'
      ·simp at h';subst h';exact h
     have HY:=I hyes;have HN:=I hno;have hsz:wo.heap.size<wr:=by have:=hbx.size;simp at this;omega
     clear Wy hyes hno HF;generalize r.aH[m]=q at*;cases tk:(q.k==key)
     ·have H3:=I (HN.o tk)
      clear HN HY;go_wp2;go_roundw
      case rel=>exact⟨m+1,V,by go_num,je,H3.o⟩
      case measure=>simp [intOf];omega
     ·have H3:=I (H1.o (HY.o tk))
      clear HN HY;go_wp2;go_ret;exact⟨dQ H3.o.symm,je⟩
    ·have hfin:lK key r=false:=by
      rw [lK,List.any_eq_false];intro p hp;have:=HF.o p (by rw [eG V];exact hp);simp [this]
     have H3:=I (H2.o hfin);clear Wy hfin HF;go_wp2;go_roundw
     case rel=>exact⟨k+1,V,by go_num,hbw,H3.o⟩
     case measure=>simp [intOf];omega
  ·have hn:=TA (l:=h.ready) (key:=key) (by rw [eG V] at hE;exact hE)
   have HN:=I hn;clear hel hE hn;go_wp2;go_ret;exact⟨dQ HN.o.symm,hb⟩
theorem CE (w:World) (B:Nat) (key:Int) (p:Pt) (hc:w.cell? ⟨B,0,none⟩=some (J key)):
  Calls Tryz.prog 161 #[.agg #[J p.h,J p.k,J p.n],.pointer (some ⟨B,0,none⟩)] w fun e w'=>e=.returned (.bool (p.k==key))/\aK w w':=by
 have hB:=eH w _ hc;simp only at hB;go_enter Tryz.func161,Tryz.ntmps161;go_wp2;go_ret;exact⟨rfl,je⟩
theorem Zt (w:World) (B:Nat) (key:Int) (l:List Pt) (hc:w.cell? ⟨B,0,none⟩=some (J key)):xw Tryz.prog Ty.pt qH w 161 #[.pointer (some ⟨B,0,none⟩)] l (fun p=>p.k==key) where
 ent:=fun args w=>by kernel_rfl
 say:=by
  rintro wx cs p hg _ ⟨rfl,_⟩;exact CE wx B key p (hg.sub _ _ hc)
theorem Zu {v:Value} {h:Hs} {key:Int} (w:World) (hv:Of Ty.hs w.cell? v h):
  Calls Tryz.prog 154 #[v,J key] w fun e w'=>e=.returned (J (pJ h.ready key))/\aK w w':=by
 obtain⟨cs,rfl,vl,vr,vd,rfl,hl,-,-,-,-,hr,hd⟩:=hv;obtain⟨al,cl,rfl,-⟩:=id hl;obtain⟨ad,cd,rfl,-⟩:=id hd;obtain⟨a,cap,rfl,N,Y,-,hel⟩:=hr;unfold maxLen at Y;go_enter Tryz.func154,Tryz.ntmps154;go_wp2;go_loopw [4,6,10] (fun _ _ i wr=>∃k:Nat,k<=h.ready.length/\i=J k/\aK w wr/\wr.cell? ⟨w+1,0,none⟩=some (J key)/\∀r∈h.ready.take k,lK key r=false) (fun _ _ i _=>h.ready.length - (intOf i).toNat)
 case atStart=>exact⟨0,V,rfl,je,σ,σ⟩
 case round=>
  obtain⟨k,hk',rfl,hb,hkey,hE⟩:=hrel;by_cases hlt:k<h.ready.length
  ·obtain⟨b,o,vp,rfl,c0,c1,-,hP⟩:=VU.at_ hel k hlt
   obtain⟨ap,cp,rfl,hp1,hp2,hp0,Wy⟩:=id hP;replace c0:=hb.sub _ _ c0;replace c1:=hb.sub _ _ c1;obtain⟨s1,s2⟩:=Tz hlt hE;have H1:=I s1;have H2:=I s2;have hcall:=fun(W:World) (hW:aK wr W)=>uh W (Sl.mono (hb.trans hW).sub hP) (Zt W (w.heap.size+1) key h.ready[k].aH (hW.sub _ _ hkey));have HC:=I hcall;have M:=I hkey;have O:h.ready[k].aH.any (fun p=>p.k==key)=lK key h.ready[k]:=rfl;rw [O] at HC;clear hel hP hE s1 s2 hp1 hp2 hp0 Wy hcall O hkey;generalize h.ready[k]=r at*;cases tk:lK key r
   ·rw [tk] at HC
    go_wp2_with (go_at_call 111;refine(HC.o _ ((aG _).alloc _)).mono ?_;rintro e w1 ⟨rfl,dZ⟩;have oW:=I dZ;clear dZ)
    go_roundw
    case rel=>exact⟨k+1,V,by go_num,(hb.alloc _).trans oW.o,(((aG wr).alloc _).trans oW.o).sub _ _ M.o,H2.o tk⟩
    case measure=>simp [intOf];omega
   ·rw [tk] at HC
    go_wp2_with (go_at_call 111;refine(HC.o _ ((aG _).alloc _)).mono ?_;rintro e w1 ⟨rfl,dZ⟩;have e0:=dZ.sub ⟨wr,0,none⟩ _ (World.cell?_alloc_new wr _ _ 0);simp at e0;have oW:=I dZ;clear dZ)
    go_ret;exact⟨dQ (H1.o tk).symm,(hb.alloc _).trans oW.o⟩
  ·have hn:=TA (l:=h.ready) (key:=key) (by rw [eG V] at hE;exact hE)
   have HN:=I hn;clear hel hE hn hkey;go_wp2;go_ret;exact⟨dQ HN.o.symm,hb⟩
theorem iB (w:World) (B:Nat) (p:Pt) (h:Hs) (cs:List Value) (hR:Ty.hs.R w.cell? cs h) (hc:At w.cell? B 0 cs):
  Calls Tryz.prog 153 #[.agg #[J p.h,J p.k,J p.n],.pointer (some ⟨B,0,none⟩)] w fun e w'=>e=.returned (.bool (decide (0<=pJ h.ready p.k)))/\aK w w':=by
 have hO:Of Ty.hs w.cell? (.agg cs.toArray) h:=⟨cs,rfl,hR⟩;have hcall:=fun(W:World) (hW:aK w W)=>Zu (key:=p.k) W (hO.mono hW.sub);obtain⟨vl,vr,vd,rfl,hl,-,-,-,-,hr,hd⟩:=hR;obtain⟨al,cl,rfl,-⟩:=id hl;obtain⟨ad,cd,rfl,-⟩:=id hd;obtain⟨a,cap,rfl,N,Y,-,hel⟩:=hr;have k0:=hc 0 _ rfl;have k1:=hc 1 _ rfl;have k2:=hc 2 _ rfl;have k3:=hc 3 _ rfl;have k4:=hc 4 _ rfl;have k5:=hc 5 _ rfl;have k6:=hc 6 _ rfl;have hB:=eH w _ k0;simp only [Nat.zero_add] at k0 k1 k2 k3 k4 k5 k6 hB;have HC:=I hcall;clear hcall hel hl hd hO hc N Y;go_enter Tryz.func153,Tryz.ntmps153;go_wp2_with (go_at_call 154;refine(HC.o _ ((aG _).alloc _)).mono ?_;rintro e w1 ⟨rfl,dZ⟩)
 go_ret;exact⟨rfl,((aG w).alloc _).trans dZ⟩
theorem WA (w:World) (B:Nat) (h:Hs) (cs:List Value) (hR:Ty.hs.R w.cell? cs h) (hc:At w.cell? B 0 cs) (l:List Pt):xw Tryz.prog Ty.pt qH w 153 #[.pointer (some ⟨B,0,none⟩)] l (fun p=>decide (0<=pJ h.ready p.k)) where
 ent:=fun args w=>by kernel_rfl
 say:=by
  rintro wx cs' p hg _ ⟨rfl,_⟩;exact iB wx B p h cs (Ty.hs.mono hg.sub hR) (hc.mono hg.sub)
def xB (l:List Rd) (ps:List Pt):Bool:=!ps.any fun p=>decide (0<=pJ l p.k)
theorem WB {v v':Value} {h:Hs} {ps:List Pt} (w:World) (hv:Of Ty.hs w.cell? v h) (hv':pX w.cell? v' ps):
  Calls Tryz.prog 135 #[v,v'] w fun e w'=>e=.returned (.bool (xB h.ready ps))/\aK w w':=by
 obtain⟨cs,rfl,hR⟩:=hv;have hcall:=fun(W:World) (B:Nat) (hW:aK w W) (hc:At W.cell? B 0 cs)=>uh W (hv'.mono hW.sub) (WA W B h cs (Ty.hs.mono hW.sub hR) hc ps);obtain⟨vl,vr,vd,rfl,hl,-,-,-,-,hr,hd⟩:=hR;obtain⟨al,cl,rfl,-⟩:=id hl;obtain⟨ad,cd,rfl,-⟩:=id hd;obtain⟨a,cap,rfl,N,Y,-,hel⟩:=hr;have HC:=I (hcall (w.alloc (.cells #[U al h.bg.length cl,J h.aP.a,J h.aP.b,J h.aP.c,J h.aP.d,U a h.ready.length cap,U ad h.done.length cd] 50)) w.heap.size ((aG w).alloc _) (fun j u hu=>by rw [Nat.zero_add,World.cell?_alloc_new];simpa using hu));clear hcall hel hl hd N Y;have hv:=hv';obtain⟨ap,cp,rfl,hp1,hp2,hp0,Wy⟩:=hv';clear Wy hv hp0 hp1 hp2;have HF:Hid (xB h.ready ps=!ps.any fun p=>decide (0<=pJ h.ready p.k)):=I rfl;generalize (ps.any fun p=>decide (0<=pJ h.ready p.k))=r at*;go_enter Tryz.func135,Tryz.ntmps135;go_wp2_with (go_at_call 111;refine HC.o.mono ?_;rintro e w1 ⟨rfl,dZ⟩)
 go_ret;exact⟨dA HF.o.symm,((aG w).alloc _).trans dZ⟩
end Go.Proofs.YtocnmkefmgmkbaaGreat
namespace Go.Proofs.YtocnmkefmgmkbaaGreat
theorem KQ {l:List Rd} {d:Int} {x:Rd} (h:l.find? (nG d)=some x):x.aJ=d:=by
 have:=List.find?_some h;simpa [nG] using this
theorem vK (h:Hs) (r:Rc):(f_ h r).ready=(if(h.ready.find? (nG r.aJ)).isSome=true then(if r.aX=2∨r.aX=3 then h.ready.eraseP (nG r.aJ) else h.ready) else if r.aX=1 then h.ready++ [⟨r.aJ,r.aH⟩] else h.ready):=by
 unfold f_;rw [Ci];cases hf:h.ready.find? (nG r.aJ) with
 |none=>simp
 |some x=>simp
structure Fine (l:List Rd):Prop where
 nodup:(l.map (·.aJ)).Nodup
 pos:∀x∈l,0<=x.aJ
theorem Zv {h:Hs} (hf:Fine h.ready) {r:Rc} (hr:0<=r.aJ):Fine (f_ h r).ready:=by
 rw [vK];split
 ·split
  ·exact⟨hf.nodup.sublist ((List.eraseP_sublist).map _),fun x Z=>hf.pos x (List.eraseP_sublist.subset Z)⟩
  ·exact hf
 ·rename_i hn
  split
  ·refine⟨?_,fun x Z=>?_⟩
   ·rw [List.map_append,List.nodup_append]
    refine⟨hf.nodup,σ,fun a ha b hb e=>?_⟩;simp at hb;subst hb;obtain⟨x,Z,rfl⟩:=List.mem_map.1 ha;apply hn;rw [List.find?_isSome];exact⟨x,Z,by simp [nG,e]⟩
   ·simp only [List.mem_append,List.mem_singleton] at Z
    rcases Z with Z|rfl
    ·exact hf.pos x Z
    ·exact hr
  ·exact hf
theorem KR:∀(l:List Rc) (h:Hs) (x:List Rc),(l.foldl f_ { h with bg:=x })={ (l.foldl f_ h) with bg:=x }
 | [],_,_=>rfl
 |r::l,h,x=>by
  rw [List.foldl_cons,List.foldl_cons,<-KR l];rfl
theorem WC (l:List Rc) (r:Rc):jM (l++ [r])={ (f_ (jM l) r) with bg:=l++ [r] }:=by
 unfold jM;rw [List.foldl_append];have:=KR l ⟨l,⟨0,0,0,0⟩,[],[]⟩ (l++ [r]);simp only at this;rw [this];rfl
theorem KT (x:Rd) (l:List Rd) (key:Int):pJ (x::l) key=if lK key x=true then x.aJ else pJ l key:=by
 unfold pJ;by_cases h:lK key x=true
 ·rw [List.find?_cons_of_pos h,bC h]
 ·rw [List.find?_cons_of_neg h,aV h]
theorem Yk:∀(l:List Rd) (key:Int),pJ l key= -1∨∃x∈l,pJ l key=x.aJ
 | [],_=>.inl rfl
 |x::l,key=>by
  rw [KT];split
  ·exact .inr ⟨x,List.mem_cons_self,rfl⟩
  ·rcases Yk l key with h|⟨y,hy,h⟩
   ·exact .inl h
   ·exact .inr ⟨y,List.mem_cons_of_mem _ hy,h⟩
def dP (l:List Rd) (d:Int):Bool:=l.any (nG d)
def iy (h:Hs) (d:Int) (ps:List Pt):Int:=
 if d∈h.done then 10 else if dP h.ready d=true then 0 else if xB h.ready ps=false then 12 else jH h.aP.get ps
def gW (h:Hs) (r:Rc):Hs:=jM (h.bg++ [r])
def o7 (aX d me:Int):List Ms:=[⟨aX,d,me,[]⟩]
def dK (h:Hs) (m:Ms):Hs:=
 if m.aX=1 then(if iy h m.aJ m.aH=0/\dP h.ready m.aJ=false then gW h ⟨1,m.aJ,m.aH⟩ else h)
 else if m.aX=4 then(if dP h.ready m.aJ=true then gW h ⟨2,m.aJ,[]⟩ else h)
 else if m.aX=5 then(if dP h.ready m.aJ=true then gW h ⟨3,m.aJ,[]⟩ else h)
 else h
def dV (h:Hs) (me:Int) (m:Ms):List Ms:=
 if m.aX=1 then(if iy h m.aJ m.aH=10 then [] else if iy h m.aJ m.aH=0 then o7 2 m.aJ me else o7 3 m.aJ me)
 else if m.aX=4 then(if m.aJ∈(dK h m).done then o7 6 m.aJ me else [])
 else []
def mg (h:Hs) (me:Int):List Ms:=h.ready.map fun r=>⟨7,r.aJ,me,[]⟩
def cZ (m:Ms):Int:=
 if m.aX<1∨7<m.aX then 1 else if m.aJ<0∨1343<m.aJ∨m.aU<0∨2<m.aU then 3
 else if 1<m.aX then(if m.aH=[] then 0 else 5)
 else if dO m.aH 3=0 then(if m.aH.all (fun p=>p.h==m.aU)=true then 0 else 3) else dO m.aH 3
def Made (h:Hs):Prop:=h=jM h.bg
theorem WE (l:List Rc):Made (jM l):=by
 unfold Made;have h:=KR l ⟨l,⟨0,0,0,0⟩,[],[]⟩ l;have:(jM l).bg=l:=by
  have e:∀(k:List Rc) (h:Hs),(k.foldl f_ h).bg=h.bg:=by
   intro k;induction k with
   |nil=>intro h;rfl
   |cons r k ih=>intro h;rw [List.foldl_cons,ih];rfl
  exact e l _
 rw [this]
theorem Cj (l:List Rc):(jM l).bg=l:=by
 have e:∀(k:List Rc) (h:Hs),(k.foldl f_ h).bg=h.bg:=by
  intro k;induction k with
  |nil=>intro h;rfl
  |cons r k ih=>intro h;rw [List.foldl_cons,ih];rfl
 exact e l _
theorem He {h:Hs} (hm:Made h) (r:Rc):gW h r={ (f_ h r) with bg:=h.bg++ [r] }:=by
 unfold gW;rw [WC,<-hm]
theorem zy {h:Hs} (hm:Made h) (r:Rc):(gW h r).ready=(f_ h r).ready:=by rw [He hm]
theorem Zw (h:Hs) (r:Rc):Made (gW h r):=WE _
theorem Ji (l:List Rd) (d:Int):dP l d=(l.find? (nG d)).isSome:=by
 unfold dP;rw [Bool.eq_iff_iff,List.any_eq_true,List.find?_isSome]
end Go.Proofs.YtocnmkefmgmkbaaGreat
namespace Go.Proofs.YtocnmkefmgmkbaaGreat
open Go.RowKit
theorem iN (l:List Rd) (ps:List Pt):xB l ps=ps.all fun p=>decide (pJ l p.k<0):=by
 unfold xB;induction ps with
 |nil=>rfl
 |cons p ps ih=>
  rw [List.any_cons,List.all_cons,<-ih,Bool.not_or];congr 1;by_cases h:0<=pJ l p.k
  ·simp [h,Int.not_lt.2 h]
  ·simp [h,Int.not_le.1 h]
theorem Hf {α:Type} {T:Ty α} {c:CM} {B n:Nat} {cs:List Value} {x:α} (hR:T.R c cs x) (hA:At c B 0 cs) (hn:1<=n) (hm:n<=maxLen):Sl T c (U (some ⟨B,0,none⟩) 1 n) [x]:=
 ⟨_,n,rfl,hn,hm,σ,fun i y hy=>by
  have hi:=(List.getElem?_eq_some_iff.1 hy).1;obtain rfl:i=0:=by simpa using hi
  obtain rfl:x=y:=by simpa using hy
  exact⟨B,0,cs,rfl,hR,by simpa using hA⟩⟩
theorem at_new (w:World) (c:Array Value) (t:TypeId):At (w.alloc (.cells c t)).cell? w.heap.size 0 c.toList:=fun j u hu=>by
 rw [Nat.zero_add,World.cell?_alloc_new];simpa using hu
theorem Of.ig {c:CM} {v:Value} {h:Hs} (hv:Of Ty.hs c v h):∃al cl ar cr ad cd,v=.agg #[U al h.bg.length cl,J h.aP.a,J h.aP.b,J h.aP.c,J h.aP.d,U ar h.ready.length cr,U ad h.done.length cd]:=by
 obtain⟨cs,rfl,hR⟩:=hv;obtain⟨vl,vr,vd,rfl,hl,-,-,-,-,hr,hd⟩:=hR;obtain⟨ah,ch,rfl,-⟩:=id hl;obtain⟨ad,cd,rfl,-⟩:=id hd;obtain⟨ar,cr,rfl,-⟩:=id hr;exact⟨_,_,_,_,_,_,rfl⟩
theorem CF {l:List Int} {k:Nat} {n:Int} (hlt:k<l.length) (h:∀x∈l.take k,x≠n) (hne:l[k]≠n):∀x∈l.take (k+1),x≠n:=by
 intro x Z;rw [List.take_succ_eq_append_getElem hlt] at Z;rcases List.mem_append.1 Z with h'|h'
 ·exact h x h'
 ·simp at h';subst h';exact hne
theorem zC {v:Value} {l:List Int} {n:Int} (w:World) (hv:Ints w.cell? v l):
  Calls Tryz.prog 68 #[v,J n] w fun e w'=>e=.returned (.bool (decide (n∈l)))/\aK w w':=by
 obtain⟨a,cap,rfl,N,Y,-,hel⟩:=hv;unfold maxLen at Y;go_enter Tryz.func68,Tryz.ntmps68;go_wp2;go_loopw [6,9] (fun _ i wr=>∃k:Nat,k<=l.length/\i=J k/\aK w wr/\∀x∈l.take k,x≠n) (fun _ i _=>l.length - (intOf i).toNat)
 case atStart=>exact⟨0,V,rfl,je,σ⟩
 case round=>
  obtain⟨k,hk',rfl,hb,hE⟩:=hrel;have HE:=I hE;clear hE;by_cases hlt:k<l.length
  ·obtain⟨b,o,rfl,c0,-⟩:=xu hel k hlt
   replace c0:=hb.sub _ _ c0;have H1:Hid (l[k]=n->n∈l):=fun h=>h▸List.getElem_mem _;have H2:Hid (l[k]≠n->∀x∈l.take (k+1),x≠n):=fun h=>CF hlt HE.o h;clear hel;generalize l[k]=x at*;cases ht:(x==n)
   ·have H3:=I (H2.o (by simpa using ht))
    clear H1 H2;go_wp2;go_roundw
    case rel=>exact⟨k+1,V,by go_num,je,H3.o⟩
    case measure=>simp [intOf];omega
   ·have H3:=I (H1.o (by simpa using ht))
    clear H1 H2;go_wp2;go_ret;exact⟨dA (by simp [H3.o]),je⟩
  ·clear hel
   go_wp2;go_ret;refine⟨dA ?_,hb⟩;have h:=HE.o;rw [eG V] at h;symm;rw [decide_eq_false_iff_not];exact fun hm=>h n hm rfl
theorem O1 {v:Value} {h:Hs} {d:Int} (w:World) (hv:Of Ty.hs w.cell? v h):
  Calls Tryz.prog 97 #[v,J d] w fun e w'=>e=.returned (.bool (dP h.ready d))/\aK w w':=by
 obtain⟨cs,rfl,vl,vr,vd,rfl,hl,-,-,-,-,hr,hd⟩:=hv;obtain⟨al,cl,rfl,-⟩:=id hl;obtain⟨ad,cd,rfl,-⟩:=id hd;obtain⟨a,cap,rfl,N,Y,-,hel⟩:=hr;unfold maxLen at Y;go_enter Tryz.func97,Tryz.ntmps97;go_wp2;go_loopw [6,10] (fun _ i wr=>∃k:Nat,k<=h.ready.length/\i=J k/\aK w wr/\∀r∈h.ready.take k,nG d r=false) (fun _ i _=>h.ready.length - (intOf i).toNat)
 case atStart=>exact⟨0,V,rfl,je,σ⟩
 case round=>
  obtain⟨k,hk',rfl,hb,hE⟩:=hrel;have HE:=I hE;clear hE;by_cases hlt:k<h.ready.length
  ·obtain⟨b,o,vp,rfl,c0,c1,-,hP⟩:=VU.at_ hel k hlt
   obtain⟨ap,cp,rfl,-⟩:=id hP;replace c0:=hb.sub _ _ c0;replace c1:=hb.sub _ _ c1;have H1:Hid (nG d h.ready[k]=true->dP h.ready d=true):=fun Y=>List.any_eq_true.2 ⟨_,List.getElem_mem _,Y⟩;have H2:Hid (nG d h.ready[k]=false->∀r∈h.ready.take (k+1),nG d r=false):=fun Y r hr=>by
    rw [List.take_succ_eq_append_getElem hlt] at hr;rcases List.mem_append.1 hr with h'|h'
    ·exact HE.o r h'
    ·simp at h';subst h';exact Y
   clear hel hP;generalize h.ready[k]=r at*;cases ht:(r.aJ==d)
   ·have H3:=I (H2.o ht)
    clear H1 H2;go_wp2;go_roundw
    case rel=>exact⟨k+1,V,by go_num,je,H3.o⟩
    case measure=>simp [intOf];omega
   ·have H3:=I (H1.o ht)
    clear H1 H2;go_wp2;go_ret;exact⟨dA H3.o.symm,je⟩
  ·clear hel
   go_wp2;go_ret;refine⟨dA ?_,hb⟩;have h3:=HE.o;rw [eG V] at h3;symm;rw [dP,List.any_eq_false];intro x Z;rw [h3 x Z];simp
theorem Of.Yl {c:CM} {v:Value} {r:Rc} (hv:Of Ty.rc c v r):∃ap cp,v=.agg #[J r.aX,J r.aJ,U ap r.aH.length cp]:=by
 obtain⟨cs,rfl,vp,rfl,-,-,hp⟩:=hv;obtain⟨ap,cp,rfl,-⟩:=id hp;exact⟨_,_,rfl⟩
theorem Of.cells {α:Type} {T:Ty α} {c:CM} {cs:Array Value} {x:α} (h:Of T c (.agg cs) x):T.R c cs.toList x:=by
 obtain⟨cs',he,hR⟩:=h;simp only [Value.agg.injEq] at he;subst he;exact hR
theorem Of.oC {c:CM} {al ar ad:Option Addr} {nl cl nr cr nd cd:Nat} {sa sb sc sd:Value} {h:Hs} (hv:Of Ty.hs c (.agg #[U al nl cl,sa,sb,sc,sd,U ar nr cr,U ad nd cd]) h):Sl Ty.rc c (U al nl cl) h.bg/\Sl Ty.rd c (U ar nr cr) h.ready/\Sl Ty.int c (U ad nd cd) h.done:=by
 obtain⟨vl,vr,vd,he,hl,-,-,-,-,hr,hd⟩:=hv.cells;simp at he;obtain⟨rfl,-,-,-,-,rfl,rfl⟩:=he;exact⟨hl,hr,hd⟩
theorem KU {c:CM} {v vr:Value} {h:Hs} {r:Rc} (w:World) (hc:Sub c w.cell?) (hv:Of Ty.hs c v h) (hr:Of Ty.rc c vr r) (hk:∀x∈h.bg,jg x.aH) (hkr:jg r.aH) (hm:(h.bg.length+1)*40<=140737488355328):
  Calls Tryz.prog 98 #[v,vr] w fun e w'=>∃v',e=.returned v'/\Of Ty.hs (ov c w w') v' (gW h r)/\aK w w':=by
 obtain⟨al,cl,ar,cr,ad,cd,rfl⟩:=hv.ig;obtain⟨ap,cp,rfl⟩:=hr.Yl;have hll:=(Of.oC hv).1;have HR:=I hr.cells;have D7:=I (fun(W:World) (hW:aK w W)=>(Src.kK (T:=Ty.rc) ε hc hll).grow hW);have HM:=I hm;have PR:=I hk;have HKR:=I hkr;have HC:=I hc;clear hv hr hll hm hk hkr hc;generalize hne:gW h r=x;have rE:Hid (jM (h.bg++ [r])=x):=hne;clear hne;go_enter Tryz.func98,Tryz.ntmps98;go_wp2_with fail
 have hGW:aK w (((w.alloc (.cells #[U al h.bg.length cl,J h.aP.a,J h.aP.b,J h.aP.c,J h.aP.d,U ar h.ready.length cr,U ad h.done.length cd] 50)).alloc (.cells #[J r.aX,J r.aJ,U ap r.aH.length cp] 79)).alloc (.cells #[(),J 0,J 0,J 0,J 0,(),()] 50)):=(((aG w).alloc _).alloc _).alloc _;have hS:(((w.alloc (.cells #[U al h.bg.length cl,J h.aP.a,J h.aP.b,J h.aP.c,J h.aP.d,U ar h.ready.length cr,U ad h.done.length cd] 50)).alloc (.cells #[J r.aX,J r.aJ,U ap r.aH.length cp] 79)).alloc (.cells #[(),J 0,J 0,J 0,J 0,(),()] 50)).cell? ⟨w,0,none⟩=some (U al h.bg.length cl)/\(((w.alloc (.cells #[U al h.bg.length cl,J h.aP.a,J h.aP.b,J h.aP.c,J h.aP.d,U ar h.ready.length cr,U ad h.done.length cd] 50)).alloc (.cells #[J r.aX,J r.aJ,U ap r.aH.length cp] 79)).alloc (.cells #[(),J 0,J 0,J 0,J 0,(),()] 50)).cell? ⟨w+1,0,none⟩=some (J r.aX)/\(((w.alloc (.cells #[U al h.bg.length cl,J h.aP.a,J h.aP.b,J h.aP.c,J h.aP.d,U ar h.ready.length cr,U ad h.done.length cd] 50)).alloc (.cells #[J r.aX,J r.aJ,U ap r.aH.length cp] 79)).alloc (.cells #[(),J 0,J 0,J 0,J 0,(),()] 50)).cell? ⟨w+1,1,none⟩=some (J r.aJ)/\(((w.alloc (.cells #[U al h.bg.length cl,J h.aP.a,J h.aP.b,J h.aP.c,J h.aP.d,U ar h.ready.length cr,U ad h.done.length cd] 50)).alloc (.cells #[J r.aX,J r.aJ,U ap r.aH.length cp] 79)).alloc (.cells #[(),J 0,J 0,J 0,J 0,(),()] 50)).cell? ⟨w+1,2,none⟩=some (U ap r.aH.length cp):=by refine⟨?_,?_,?_,?_⟩<;>go_simp
 have hZ:(((w.alloc (.cells #[U al h.bg.length cl,J h.aP.a,J h.aP.b,J h.aP.c,J h.aP.d,U ar h.ready.length cr,U ad h.done.length cd] 50)).alloc (.cells #[J r.aX,J r.aJ,U ap r.aH.length cp] 79)).alloc (.cells #[(),J 0,J 0,J 0,J 0,(),()] 50)).cell? ⟨w+1+1,0,none⟩=some (U none 0 0)/\(((w.alloc (.cells #[U al h.bg.length cl,J h.aP.a,J h.aP.b,J h.aP.c,J h.aP.d,U ar h.ready.length cr,U ad h.done.length cd] 50)).alloc (.cells #[J r.aX,J r.aJ,U ap r.aH.length cp] 79)).alloc (.cells #[(),J 0,J 0,J 0,J 0,(),()] 50)).cell? ⟨w+1+1,1,none⟩=some (J 0)/\(((w.alloc (.cells #[U al h.bg.length cl,J h.aP.a,J h.aP.b,J h.aP.c,J h.aP.d,U ar h.ready.length cr,U ad h.done.length cd] 50)).alloc (.cells #[J r.aX,J r.aJ,U ap r.aH.length cp] 79)).alloc (.cells #[(),J 0,J 0,J 0,J 0,(),()] 50)).cell? ⟨w+1+1,2,none⟩=some (J 0)/\(((w.alloc (.cells #[U al h.bg.length cl,J h.aP.a,J h.aP.b,J h.aP.c,J h.aP.d,U ar h.ready.length cr,U ad h.done.length cd] 50)).alloc (.cells #[J r.aX,J r.aJ,U ap r.aH.length cp] 79)).alloc (.cells #[(),J 0,J 0,J 0,J 0,(),()] 50)).cell? ⟨w+1+1,3,none⟩=some (J 0)/\(((w.alloc (.cells #[U al h.bg.length cl,J h.aP.a,J h.aP.b,J h.aP.c,J h.aP.d,U ar h.ready.length cr,U ad h.done.length cd] 50)).alloc (.cells #[J r.aX,J r.aJ,U ap r.aH.length cp] 79)).alloc (.cells #[(),J 0,J 0,J 0,J 0,(),()] 50)).cell? ⟨w+1+1,4,none⟩=some (J 0)/\(((w.alloc (.cells #[U al h.bg.length cl,J h.aP.a,J h.aP.b,J h.aP.c,J h.aP.d,U ar h.ready.length cr,U ad h.done.length cd] 50)).alloc (.cells #[J r.aX,J r.aJ,U ap r.aH.length cp] 79)).alloc (.cells #[(),J 0,J 0,J 0,J 0,(),()] 50)).cell? ⟨w+1+1,5,none⟩=some (U none 0 0)/\(((w.alloc (.cells #[U al h.bg.length cl,J h.aP.a,J h.aP.b,J h.aP.c,J h.aP.d,U ar h.ready.length cr,U ad h.done.length cd] 50)).alloc (.cells #[J r.aX,J r.aJ,U ap r.aH.length cp] 79)).alloc (.cells #[(),J 0,J 0,J 0,J 0,(),()] 50)).cell? ⟨w+1+1,6,none⟩=some (U none 0 0):=by refine⟨?_,?_,?_,?_,?_,?_,?_⟩<;>go_simp
 have hZF:∀o,(((w.alloc (.cells #[U al h.bg.length cl,J h.aP.a,J h.aP.b,J h.aP.c,J h.aP.d,U ar h.ready.length cr,U ad h.done.length cd] 50)).alloc (.cells #[J r.aX,J r.aJ,U ap r.aH.length cp] 79)).alloc (.cells #[(),J 0,J 0,J 0,J 0,(),()] 50)).frozen? ⟨w+1+1,o,none⟩=false:=by intro o;go_simp
 have hsz:w.heap.size+1+1<(((w.alloc (.cells #[U al h.bg.length cl,J h.aP.a,J h.aP.b,J h.aP.c,J h.aP.d,U ar h.ready.length cr,U ad h.done.length cd] 50)).alloc (.cells #[J r.aX,J r.aJ,U ap r.aH.length cp] 79)).alloc (.cells #[(),J 0,J 0,J 0,J 0,(),()] 50)).heap.size:=by simp
 generalize hW3:(((w.alloc (.cells #[U al h.bg.length cl,J h.aP.a,J h.aP.b,J h.aP.c,J h.aP.d,U ar h.ready.length cr,U ad h.done.length cd] 50)).alloc (.cells #[J r.aX,J r.aJ,U ap r.aH.length cp] 79)).alloc (.cells #[(),J 0,J 0,J 0,J 0,(),()] 50))=w3 at*;have Dl:=I hGW;have HS:Hid (∀W,aK w3 W->W.cell? ⟨w,0,none⟩=some (U al h.bg.length cl)/\W.cell? ⟨w+1,0,none⟩=some (J r.aX)/\W.cell? ⟨w+1,1,none⟩=some (J r.aJ)/\W.cell? ⟨w+1,2,none⟩=some (U ap r.aH.length cp)):=fun W hW=>⟨hW.sub _ _ hS.1,hW.sub _ _ hS.2.1,hW.sub _ _ hS.2.2.1,hW.sub _ _ hS.2.2.2⟩;have yD:=I (fun(W:World) (hW:aK w3 W)=>D7.o W (Dl.o.trans hW));have HL:Hid (h.bg.length+1<=3518437208883):=by show _<=_;have:=HM.o;omega
 have HZ:Hid (∀W,aK w3 W->W.cell? ⟨w+1+1,0,none⟩=some (U none 0 0)/\W.cell? ⟨w+1+1,1,none⟩=some (J 0)/\W.cell? ⟨w+1+1,2,none⟩=some (J 0)/\W.cell? ⟨w+1+1,3,none⟩=some (J 0)/\W.cell? ⟨w+1+1,4,none⟩=some (J 0)/\W.cell? ⟨w+1+1,5,none⟩=some (U none 0 0)/\W.cell? ⟨w+1+1,6,none⟩=some (U none 0 0)/\∀o,W.frozen? ⟨w+1+1,o,none⟩=false):=fun W hW=>⟨hW.sub _ _ hZ.1,hW.sub _ _ hZ.2.1,hW.sub _ _ hZ.2.2.1,hW.sub _ _ hZ.2.2.2.1,hW.sub _ _ hZ.2.2.2.2.1,hW.sub _ _ hZ.2.2.2.2.2.1,hW.sub _ _ hZ.2.2.2.2.2.2,fun o=>by rw [hW.frozen (p:=⟨w+1+1,o,none⟩) hsz];exact hZF o⟩;clear hW3 hGW hS hZ hZF;refine dH (fun w'=>w'.cell? ⟨w,0,none⟩=some (U al h.bg.length cl)/\w'.cell? ⟨w+1,0,none⟩=some (J r.aX)/\w'.cell? ⟨w+1,1,none⟩=some (J r.aJ)/\w'.cell? ⟨w+1,2,none⟩=some (U ap r.aH.length cp)) 8 κ ?_;obtain⟨wd,hWd⟩:=χ w3.drew;rw [<-hWd];have GD:aK w3 wd:=by rw [hWd];exact(aG _).drew
 have zD:w3.heap.size=wd.heap.size:=by rw [hWd];rfl
 have ZD:=I zD;clear hWd zD;refine qJ [1,2,4] 8 κ (fun _ _ _ _ _ h=>h) (HS.o _ GD) ?_;repeat (refine jY ?_;try simp only [Act.put,Ae])
 refine qK ?_;refine EY (i:=0) (j:=5) κ rfl rfl (fun K kQ=>?_) (fun K kQ=>?_)
 ·have M:=I kQ
  clear kQ;go_simp;refine ψ M (fun _=>HS.o _ (GD.alloc _)) ?_;try simp only [Act.put,Ae,Af,Ag]
  refine EY (i:=3) (j:=5) κ rfl rfl (fun K kQ=>?_) (fun K kQ=>?_)
  ·have M:=I kQ
   clear kQ;refine vk (v:=U (some ⟨wd,0,none⟩) 0 0) mX rfl jc ε rfl (.tmp 5) (.tmp 7) rfl rfl ((bK.mY Ty.rc c _ w3.heap.size _ (φ ZD.o) σ)) rfl (yD.o _ (GD.alloc _)) (by have:=HL.o;simp;omega) (GD.alloc _).size ?_;intro a3 c3 q3 mZ o9 fB;try simp only [lu,List.nil_append] at mZ
   try simp only [lu] at fB
   try simp only [lu]
   have G3:=dI (w0:=w3) (GD.alloc _) o9 (iM (φ ZD.o));have B3:=I (ni (B:=w3.heap.size) (GD.alloc _).size fB (iM (φ ZD.o)));have n_:=I mZ;have uF:=I o9;clear mZ o9 fB;refine ψ M (fun _=>HS.o _ G3) ?_;try simp only [Act.put,Ae]
   refine iU (i:=5) κ rfl (fun K kQ=>?_);have M:=I kQ;clear kQ;go_simp;refine ψ M (fun _=>HS.o _ (G3.alloc _)) ?_;try simp only [Act.put,Ae,Af,Ag]
   refine iU (i:=6) κ rfl (fun K kQ=>?_);have M:=I kQ;clear kQ;refine vk (v:=U a3 (h.bg.length) c3) mX rfl jc ε rfl (.tmp 8) (.tmp 10) rfl rfl ((n_.o).grow ((aG _).alloc _)) rfl ((Src.dU (T:=Ty.rc) (c:=c) (cs:=#[J r.aX,J r.aJ,U ap r.aH.length cp]) HR.o _ _ σ)) (by have:=HL.o;simp;omega) (G3.alloc _).size ?_;intro a6 c6 q6 tZ JI nS;try simp only [lu] at tZ
   try simp only [lu] at nS
   try simp only [lu]
   have G6:=dI (w0:=w3) (G3.alloc _) JI B3.o;have Gm:=I tZ;clear tZ JI nS;refine ψ M (fun _=>HS.o _ G6) ?_;try simp only [Act.put,Ae]
   refine iU (i:=7) κ rfl (fun K kQ=>?_);have M:=I kQ;clear kQ;go_simp;go_at_call 129
   refine(A_ (c:=wo (w.heap.size+1+1) (ov c w q6)) (l:=h.bg++ [r]) q6 (rU HC.o (Dl.o.trans G6)) (Gm.o.slc ε (A8 HC.o V) fun a ha=>Ce V V) (by intro x Z;rcases List.mem_append.1 Z with Z|Z;exact PR.o x Z;simp at Z;subst Z;exact HKR.o) (by have:=HL.o;simp;omega)).mono ?_;rw [rE.o];rintro e q7 ⟨vx,rfl,hX,jQ⟩;obtain⟨iC,iD,oD,oG,uS,uT,rfl⟩:=hX.ig;have HX:=I hX;have G7:=G6.trans jQ;have Ai:=I jQ;obtain⟨p0,p1,p2,p3,p4,p5,p6,pf⟩:=HZ.o _ G7;have z7:w.heap.size+1+1<q7:=by have:=G7.size;omega
   clear hX jQ;refine ψ M (fun _=>HS.o _ G7) ?_;try simp only [Act.put,Ae,Af,Ag]
   refine iU (i:=8) κ rfl (fun K kQ=>?_);have M:=I kQ;clear kQ;go_simp;refine ψ M (fun h=>absurd rfl h) ?_;try simp only [Act.put,Ae,Af,Ag]
   refine bW κ ?_;go_wp2;refine dw (v:=.agg #[U iC x.bg.length iD,J x.aP.a,J x.aP.b,J x.aP.c,J x.aP.d,U oD x.ready.length oG,U uS x.done.length uT]) (by simp [results,Tryz.results98,go_sem,p0,p1,p2,p3,p4,p5,p6]) rfl ?_;refine⟨_,rfl,?_,?_⟩
   ·refine HX.o.mono (Wv (B:=w.heap.size+1+1) (Dl.o.trans G6) Ai.o (τ G6.size) fun a ha=>?_)
    rw [gI ha,gI ha,gI ha,gI ha,gI ha,gI ha,gI ha]
   ·(repeat (with_reducible refine aK.setCell ?_ (by first|(simp;done)|(simp;omega)|omega) _))
    exact Dl.o.trans G7
  ·have M:=I kQ
   clear kQ;go_simp;refine ψ M (fun _=>HS.o _ ((GD.alloc _).alloc _)) ?_;try simp only [Act.put,Ae,Af,Ag]
   refine iU (i:=3) κ rfl (fun K kQ=>?_);have M:=I kQ;clear kQ;refine vk (v:=U (some ⟨wd,0,none⟩) 0 0) mX rfl jc ε rfl (.tmp 5) (.tmp 7) rfl rfl (((bK.mY Ty.rc c _ w3.heap.size _ (φ ZD.o) σ)).grow ((aG _).alloc _)) rfl (yD.o _ ((GD.alloc _).alloc _)) (by have:=HL.o;simp;omega) ((GD.alloc _).alloc _).size ?_;intro a3 c3 q3 mZ o9 fB;try simp only [lu,List.nil_append] at mZ
   try simp only [lu] at fB
   try simp only [lu]
   have G3:=dI (w0:=w3) ((GD.alloc _).alloc _) o9 (iM (φ ZD.o));have B3:=I (ni (B:=w3.heap.size) ((GD.alloc _).alloc _).size fB (iM (φ ZD.o)));have n_:=I mZ;have uF:=I o9;clear mZ o9 fB;refine ψ M (fun _=>HS.o _ G3) ?_;try simp only [Act.put,Ae]
   refine iU (i:=6) κ rfl (fun K kQ=>?_);have M:=I kQ;clear kQ;refine vk (v:=U a3 (h.bg.length) c3) mX rfl jc ε rfl (.tmp 8) (.tmp 10) rfl rfl (n_.o) rfl (((Src.dU (T:=Ty.rc) (c:=c) (cs:=#[J r.aX,J r.aJ,U ap r.aH.length cp]) HR.o _ _ σ)).kept uF.o (by simp [Value.ownBlock])) (by have:=HL.o;simp;omega) G3.size ?_;intro a6 c6 q6 tZ JI nS;try simp only [lu] at tZ
   try simp only [lu] at nS
   try simp only [lu]
   have G6:=dI (w0:=w3) G3 JI B3.o;have Gm:=I tZ;clear tZ JI nS;refine ψ M (fun _=>HS.o _ G6) ?_;try simp only [Act.put]
   refine iU (i:=7) κ rfl (fun K kQ=>?_);have M:=I kQ;clear kQ;go_simp;go_at_call 129
   refine(A_ (c:=wo (w.heap.size+1+1) (ov c w q6)) (l:=h.bg++ [r]) q6 (rU HC.o (Dl.o.trans G6)) (Gm.o.slc ε (A8 HC.o V) fun a ha=>Ce V V) (by intro x Z;rcases List.mem_append.1 Z with Z|Z;exact PR.o x Z;simp at Z;subst Z;exact HKR.o) (by have:=HL.o;simp;omega)).mono ?_;rw [rE.o];rintro e q7 ⟨vx,rfl,hX,jQ⟩;obtain⟨iC,iD,oD,oG,uS,uT,rfl⟩:=hX.ig;have HX:=I hX;have G7:=G6.trans jQ;have Ai:=I jQ;obtain⟨p0,p1,p2,p3,p4,p5,p6,pf⟩:=HZ.o _ G7;have z7:w.heap.size+1+1<q7:=by have:=G7.size;omega
   clear hX jQ;refine ψ M (fun _=>HS.o _ G7) ?_;try simp only [Act.put,Ae,Af,Ag]
   refine iU (i:=8) κ rfl (fun K kQ=>?_);have M:=I kQ;clear kQ;go_simp;refine ψ M (fun h=>absurd rfl h) ?_;try simp only [Act.put,Ae,Af,Ag]
   refine bW κ ?_;go_wp2;refine dw (v:=.agg #[U iC x.bg.length iD,J x.aP.a,J x.aP.b,J x.aP.c,J x.aP.d,U oD x.ready.length oG,U uS x.done.length uT]) (by simp [results,Tryz.results98,go_sem,p0,p1,p2,p3,p4,p5,p6]) rfl ?_;refine⟨_,rfl,?_,?_⟩
   ·refine HX.o.mono (Wv (B:=w.heap.size+1+1) (Dl.o.trans G6) Ai.o (τ G6.size) fun a ha=>?_)
    rw [gI ha,gI ha,gI ha,gI ha,gI ha,gI ha,gI ha]
   ·(repeat (with_reducible refine aK.setCell ?_ (by first|(simp;done)|(simp;omega)|omega) _))
    exact Dl.o.trans G7
 ·have M:=I kQ
  clear kQ;go_simp;refine ψ M (fun _=>HS.o _ (GD.alloc _)) ?_;try simp only [Act.put,Ae,Af,Ag]
  refine iU (i:=0) κ rfl (fun K kQ=>?_);have M:=I kQ;clear kQ;go_simp;refine ψ M (fun _=>HS.o _ ((GD.alloc _).alloc _)) ?_;try simp only [Act.put,Ae,Af,Ag]
  refine iU (i:=3) κ rfl (fun K kQ=>?_);have M:=I kQ;clear kQ;refine vk (v:=U (some ⟨wd+1,0,none⟩) 0 0) mX rfl jc ε rfl (.tmp 5) (.tmp 7) rfl rfl ((bK.mY Ty.rc c _ w3.heap.size _ (φ ZD.o) σ)) rfl (yD.o _ ((GD.alloc _).alloc _)) (by have:=HL.o;simp;omega) ((GD.alloc _).alloc _).size ?_;intro a3 c3 q3 mZ o9 fB;try simp only [lu,List.nil_append] at mZ
  try simp only [lu] at fB
  try simp only [lu]
  have G3:=dI (w0:=w3) ((GD.alloc _).alloc _) o9 (iM (φ ZD.o));have B3:=I (ni (B:=w3.heap.size) ((GD.alloc _).alloc _).size fB (iM (φ ZD.o)));have n_:=I mZ;have uF:=I o9;clear mZ o9 fB;refine ψ M (fun _=>HS.o _ G3) ?_;try simp only [Act.put,Ae]
  refine iU (i:=6) κ rfl (fun K kQ=>?_);have M:=I kQ;clear kQ;refine vk (v:=U a3 (h.bg.length) c3) mX rfl jc ε rfl (.tmp 8) (.tmp 10) rfl rfl (n_.o) rfl ((((Src.dU (T:=Ty.rc) (c:=c) (cs:=#[J r.aX,J r.aJ,U ap r.aH.length cp]) HR.o _ _ σ)).grow ((aG _).alloc _)).kept uF.o (by simp [Value.ownBlock])) (by have:=HL.o;simp;omega) G3.size ?_;intro a6 c6 q6 tZ JI nS;try simp only [lu] at tZ
  try simp only [lu] at nS
  try simp only [lu]
  have G6:=dI (w0:=w3) G3 JI B3.o;have Gm:=I tZ;clear tZ JI nS;refine ψ M (fun _=>HS.o _ G6) ?_;try simp only [Act.put]
  refine iU (i:=7) κ rfl (fun K kQ=>?_);have M:=I kQ;clear kQ;go_simp;go_at_call 129
  refine(A_ (c:=wo (w.heap.size+1+1) (ov c w q6)) (l:=h.bg++ [r]) q6 (rU HC.o (Dl.o.trans G6)) (Gm.o.slc ε (A8 HC.o V) fun a ha=>Ce V V) (by intro x Z;rcases List.mem_append.1 Z with Z|Z;exact PR.o x Z;simp at Z;subst Z;exact HKR.o) (by have:=HL.o;simp;omega)).mono ?_;rw [rE.o];rintro e q7 ⟨vx,rfl,hX,jQ⟩;obtain⟨iC,iD,oD,oG,uS,uT,rfl⟩:=hX.ig;have HX:=I hX;have G7:=G6.trans jQ;have Ai:=I jQ;obtain⟨p0,p1,p2,p3,p4,p5,p6,pf⟩:=HZ.o _ G7;have z7:w.heap.size+1+1<q7:=by have:=G7.size;omega
  clear hX jQ;refine ψ M (fun _=>HS.o _ G7) ?_;try simp only [Act.put,Ae,Af,Ag]
  refine iU (i:=8) κ rfl (fun K kQ=>?_);have M:=I kQ;clear kQ;go_simp;refine ψ M (fun h=>absurd rfl h) ?_;try simp only [Act.put,Ae,Af,Ag]
  refine bW κ ?_;go_wp2;refine dw (v:=.agg #[U iC x.bg.length iD,J x.aP.a,J x.aP.b,J x.aP.c,J x.aP.d,U oD x.ready.length oG,U uS x.done.length uT]) (by simp [results,Tryz.results98,go_sem,p0,p1,p2,p3,p4,p5,p6]) rfl ?_;refine⟨_,rfl,?_,?_⟩
  ·refine HX.o.mono (Wv (B:=w.heap.size+1+1) (Dl.o.trans G6) Ai.o (τ G6.size) fun a ha=>?_)
   rw [gI ha,gI ha,gI ha,gI ha,gI ha,gI ha,gI ha]
  ·(repeat (with_reducible refine aK.setCell ?_ (by first|(simp;done)|(simp;omega)|omega) _))
   exact Dl.o.trans G7
theorem Of.ny {c:CM} {v:Value} {m:Ms} (hv:Of Ty.ms c v m):∃ap cp,v=.agg #[J m.aX,J m.aJ,J m.aU,U ap m.aH.length cp]:=by
 obtain⟨cs,rfl,vp,rfl,-,-,-,hp⟩:=hv;obtain⟨ap,cp,rfl,-⟩:=id hp;exact⟨_,_,rfl⟩
theorem Of.yE {c:CM} {a b d:Value} {ap:Option Addr} {n cp:Nat} {m:Ms} (hv:Of Ty.ms c (.agg #[a,b,d,U ap n cp]) m):Sl Ty.pt c (U ap n cp) m.aH/\I64 m.aX/\I64 m.aJ/\I64 m.aU:=by
 obtain⟨cs,he,vp,rfl,N,Y,h3,hp⟩:=hv;simp at he;obtain⟨-,-,-,rfl⟩:=he;exact⟨hp,N,Y,h3⟩
theorem TB {ps:List Pt} {h:Int} {k:Nat} (hlt:k<ps.length) (hE:∀p∈ps.take k,(p.h==h)=true):
  ((ps[k].h==h)=true->∀p∈ps.take (k+1),(p.h==h)=true)/\((ps[k].h==h)=false->ps.all (fun p=>p.h==h)=false):=by
 constructor
 ·intro e p hp
  rw [List.take_succ_eq_append_getElem hlt] at hp;rcases List.mem_append.1 hp with h'|h'
  ·exact hE p h'
  ·simp at h';subst h';exact e
 ·intro e
  rw [List.all_eq_false];exact⟨_,List.getElem_mem hlt,by simp [e]⟩
theorem Zx {v:Value} {m:Ms} (w:World) (hv:Of Ty.ms w.cell? v m):
  Calls Tryz.prog 95 #[v] w fun e w'=>e=.returned (J (cZ m))/\aK w w':=by
 obtain⟨ap,cp,rfl⟩:=hv.ny;obtain⟨hp,-⟩:=hv.yE;have HW:=I (fun(W:World) (hW:aK w W)=>vI (h:=3) W (hp.mono hW.sub));have pU:=I hp;clear hv hp;by_cases N:m.aX<1
 ·have HE:Hid (cZ m=1):=by show cZ m=1;unfold cZ;rw [bC (.inl N)]
  go_enter Tryz.func95,Tryz.ntmps95;go_wp2;go_ret;exact⟨dQ HE.o.symm,je⟩
 by_cases Y:7<m.aX
 ·have HE:Hid (cZ m=1):=by show cZ m=1;unfold cZ;rw [bC (.inr Y)]
  go_enter Tryz.func95,Tryz.ntmps95;go_wp2;go_ret;exact⟨dQ HE.o.symm,je⟩
 by_cases h3:m.aJ<0
 ·have HE:Hid (cZ m=3):=by show cZ m=3;unfold cZ;rw [aV V,bC (.inl h3)]
  go_enter Tryz.func95,Tryz.ntmps95;go_wp2;go_ret;exact⟨dQ HE.o.symm,je⟩
 by_cases h4:1343<m.aJ
 ·have HE:Hid (cZ m=3):=by show cZ m=3;unfold cZ;rw [aV V,bC V]
  go_enter Tryz.func95,Tryz.ntmps95;go_wp2;go_ret;exact⟨dQ HE.o.symm,je⟩
 by_cases h5:m.aU<0
 ·have HE:Hid (cZ m=3):=by show cZ m=3;unfold cZ;rw [aV V,bC V]
  go_enter Tryz.func95,Tryz.ntmps95;go_wp2;go_ret;exact⟨dQ HE.o.symm,je⟩
 by_cases h6:2<m.aU
 ·have HE:Hid (cZ m=3):=by show cZ m=3;unfold cZ;rw [aV V,bC V]
  go_enter Tryz.func95,Tryz.ntmps95;go_wp2;go_ret;exact⟨dQ HE.o.symm,je⟩
 by_cases h7:1<m.aX
 ·by_cases h8:m.aH=[]
  ·have HE:Hid (cZ m=0):=by show cZ m=0;unfold cZ;rw [aV V,aV V,bC h7,bC h8]
   have hl:m.aH.length=0:=by rw [h8];rfl
   clear h8;generalize m.aH.length=n at*;subst hl;go_enter Tryz.func95,Tryz.ntmps95;go_wp2;go_ret;exact⟨dQ HE.o.symm,je⟩
  ·have HE:Hid (cZ m=5):=by show cZ m=5;unfold cZ;rw [aV V,aV V,bC h7,aV h8]
   have hl:0<m.aH.length:=List.length_pos_iff.2 h8;have hb:((m.aH.length:Int) !=0)=true:=by rw [bne_iff_ne];omega
   clear h8;go_enter Tryz.func95,Tryz.ntmps95;go_wp2;go_ret;exact⟨dQ HE.o.symm,je⟩
 have HB:Hid (cZ m=if dO m.aH 3=0 then(if m.aH.all (fun p=>p.h==m.aU)=true then 0 else 3) else dO m.aH 3):=by
  show cZ m=_;unfold cZ;rw [aV V,aV V,aV h7]
 by_cases h8:dO m.aH 3=0
 ·have hb:(dO m.aH 3 !=0)=false:=by simp [h8]
  have HE:Hid (cZ m=(if m.aH.all (fun p=>p.h==m.aU)=true then 0 else 3)):=by show cZ m=_;rw [HB.o,bC h8]
  clear h8;generalize dO m.aH 3=we at*;have hp:=pU.o;obtain⟨Oo,cp',he,hp1,hp2,-,hel⟩:=hp;obtain⟨rfl,rfl⟩:ap=Oo/\cp=cp':=by simpa using he
  unfold maxLen at hp2;clear he;go_enter Tryz.func95,Tryz.ntmps95;go_wp2_with fail
  refine(HW.o _ ((aG _).alloc _)).mono ?_;rintro e w1 ⟨rfl,dR⟩;(obtain⟨Gn,Hg⟩:=gu dR;have uw:w.heap.size<w1:=(ω dR.size);have pK:=I dR;clear dR)
  go_wp2;go_loopw [5,48] (fun _ i wr=>∃k:Nat,k<=m.aH.length/\i=J k/\aK w1 wr/\∀p∈m.aH.take k,(p.h==m.aU)=true) (fun _ i _=>m.aH.length - (intOf i).toNat)
  case atStart=>exact⟨0,V,rfl,aG _,σ⟩
  case round=>
   obtain⟨k,hk',rfl,hb,hE⟩:=hrel;have hbw:=((aG w).alloc (.cells #[J m.aX,J m.aJ,J m.aU,U ap m.aH.length cp] 85)).trans (pK.o.trans hb);have x2:=hb.sub ⟨w,2,none⟩ (J m.aU) (by rw [Gn _ _ σ,World.cell?_alloc_new];rfl);have xz:w.heap.size<wr:=by have:=hbw.size;have:=hb.size;omega
   by_cases hlt:k<m.aH.length
   ·obtain⟨b,o,rfl,c0,c1,c2,-,-,-⟩:=pX.at_ hel k hlt
    replace c0:=hbw.sub _ _ c0;replace c1:=hbw.sub _ _ c1;replace c2:=hbw.sub _ _ c2;obtain⟨s1,s2⟩:=TB hlt hE;have S1:=I s1;have S2:=I s2;clear hel hE s1 s2;generalize m.aH[k]=p at*;cases ht:(p.h==m.aU)
    ·have hne:(p.h !=m.aU)=true:=by simp [bne,ht]
     have S3:=I (S2.o ht);clear S1 S2;go_wp2;go_ret;refine⟨dQ ?_,hbw.trans Aw⟩;rw [HE.o,S3.o];rfl
    ·have hne:(p.h !=m.aU)=false:=by simp [bne,ht]
     have S3:=I (S1.o ht);clear S1 S2;go_wp2;go_roundw
     case rel=>exact⟨k+1,V,by go_num,je,S3.o⟩
     case measure=>simp [intOf];omega
   ·have HF:=I hE
    clear hel hE;go_wp2;go_ret;refine⟨dQ ?_,hbw⟩;have h9:=HF.o;rw [eG V] at h9;rw [HE.o,bC (List.all_eq_true.2 h9)]
 ·have hb:(dO m.aH 3 !=0)=true:=by simp [h8]
  have HE:Hid (cZ m=dO m.aH 3):=by show cZ m=_;rw [HB.o,aV h8]
  clear h8;generalize dO m.aH 3=we at*;go_enter Tryz.func95,Tryz.ntmps95;go_wp2_with fail
  refine(HW.o _ ((aG _).alloc _)).mono ?_;rintro e w1 ⟨rfl,dR⟩;(obtain⟨Gn,Hg⟩:=gu dR;have uw:w.heap.size<w1:=(ω dR.size);have pK:=I dR;clear dR)
  go_wp2;go_ret;exact⟨dQ HE.o.symm,((aG w).alloc _).trans pK.o⟩
theorem TD {l:List Rd} {ps:List Pt} {p:Pt} (hp:p∈ps) (h:0<=pJ l p.k):xB l ps=false:=by
 unfold xB;rw [Bool.not_eq_false',List.any_eq_true];exact⟨p,hp,by simpa using h⟩
theorem Zy {l:List Rd} {ps:List Pt} (h:∀p∈ps,pJ l p.k<0):xB l ps=true:=by
 unfold xB;rw [Bool.not_eq_true',List.any_eq_false];intro p hp;have:=h p hp;simp;omega
theorem iS {v vp:Value} {h:Hs} {d:Int} {ps:List Pt} (w:World) (hv:Of Ty.hs w.cell? v h) (hp:pX w.cell? vp ps) (hk:jg ps):
  Calls Tryz.prog 96 #[v,J d,vp] w fun e w'=>e=.returned (J (iy h d ps))/\aK w w':=by
 have HO:=I hv;obtain⟨al,cl,ar,cr,ad,cd,rfl⟩:=hv.ig;have yF:=I (fun(W:World) (hW:aK w W)=>zC (n:=d) W ((Of.oC HO.o).2.2.mono hW.sub));have Jj:=I (fun(W:World) (hW:aK w W)=>O1 (d:=d) W (HO.o.mono hW.sub));have HWH:=I (fun(W:World) (key:Int) (hW:aK w W)=>CD (key:=key) W (HO.o.mono hW.sub));have HFT:=I (fun(W:World) (hW:aK w W)=>KD (s0:=h.aP.a) (s1:=h.aP.b) (s2:=h.aP.c) (s3:=h.aP.d) W (hp.mono hW.sub) hk);obtain⟨ap,cp,rfl,hp1,hp2,-,hel⟩:=hp;unfold maxLen at hp2;clear hv hk;by_cases hd:d∈h.done
 ·have HE:Hid (iy h d ps=10):=by show iy h d ps=10;unfold iy;rw [bC hd]
  have HD:=I (decide_eq_true hd);clear hd;go_enter Tryz.func96,Tryz.ntmps96;go_wp2_with fail
  refine(yF.o _ ((aG _).alloc _)).mono ?_;rw [HD.o];rintro e w1 ⟨rfl,dR⟩;(obtain⟨Gn,Hg⟩:=gu dR;have uw:w.heap.size<w1:=(ω dR.size);have pK:=I dR;clear dR)
  go_wp2;go_ret;exact⟨dQ HE.o.symm,((aG w).alloc _).trans pK.o⟩
 have HD:=I (decide_eq_false hd);by_cases hr:dP h.ready d=true
 ·have HE:Hid (iy h d ps=0):=by show iy h d ps=0;unfold iy;rw [aV hd,bC hr]
  have HR:=I hr;clear hd hr;go_enter Tryz.func96,Tryz.ntmps96;go_wp2_with fail
  refine(yF.o _ ((aG _).alloc _)).mono ?_;rw [HD.o];rintro e w1 ⟨rfl,dR⟩;(obtain⟨Gn,Hg⟩:=gu dR;have uw:w.heap.size<w1:=(ω dR.size);have pK:=I dR;clear dR)
  go_wp2_with fail
  refine(Jj.o _ (((aG w).alloc _).trans pK.o)).mono ?_;rw [HR.o];rintro e w2 ⟨rfl,iq⟩;(obtain⟨Ym,Yn⟩:=gu iq;have JJ:w.heap.size<w2:=(ω iq.size);have Dn:=I iq;clear iq)
  go_wp2;go_ret;exact⟨dQ HE.o.symm,(((aG w).alloc _).trans pK.o).trans Dn.o⟩
 have HE:Hid (iy h d ps=if xB h.ready ps=false then 12 else jH h.aP.get ps):=by show iy h d ps=_;unfold iy;rw [aV hd,aV hr]
 have HR:Hid (dP h.ready d=false):=by show dP h.ready d=false;simpa using hr
 clear hd hr;go_enter Tryz.func96,Tryz.ntmps96;go_wp2_with fail
 refine(yF.o _ ((aG _).alloc _)).mono ?_;rw [HD.o];rintro e w1 ⟨rfl,dR⟩;(obtain⟨Gn,Hg⟩:=gu dR;have uw:w.heap.size<w1:=(ω dR.size);have pK:=I dR;clear dR)
 go_wp2_with fail
 refine(Jj.o _ (((aG w).alloc _).trans pK.o)).mono ?_;rw [HR.o];rintro e w2 ⟨rfl,iq⟩;have HG:=I (pK.o.trans iq);clear iq Gn Hg uw;go_wp2;go_loopw [8,18] (fun _ i wr=>∃k:Nat,k<=ps.length/\i=J k/\aK w2 wr/\∀p∈ps.take k,pJ h.ready p.k<0) (fun _ i _=>ps.length - (intOf i).toNat)
 case atStart=>exact⟨0,V,rfl,aG _,σ⟩
 case round=>
  obtain⟨k,hk',rfl,hb,hE⟩:=hrel;have hg:=HG.o.trans hb;have hbw:=((aG w).alloc (.cells #[U al h.bg.length cl,J h.aP.a,J h.aP.b,J h.aP.c,J h.aP.d,U ar h.ready.length cr,U ad h.done.length cd] 50)).trans hg;obtain⟨cr1,fr1⟩:=gu hg;have xz:w.heap.size<wr:=by have:=hg.size;simp at this;omega
  by_cases hlt:k<ps.length
  ·obtain⟨b,o,rfl,c0,c1,c2,-,-,-⟩:=pX.at_ hel k hlt
   replace c0:=hbw.sub _ _ c0;replace c1:=hbw.sub _ _ c1;replace c2:=hbw.sub _ _ c2;have H1:Hid (0<=pJ h.ready ps[k].k->xB h.ready ps=false):=fun Y=>TD (List.getElem_mem hlt) Y;have H2:Hid (pJ h.ready ps[k].k<0->∀p∈ps.take (k+1),pJ h.ready p.k<0):=fun Y p hp=>by
    rw [List.take_succ_eq_append_getElem hlt] at hp;rcases List.mem_append.1 hp with h'|h'
    ·exact hE p h'
    ·simp at h';subst h';exact Y
   have Tm:=I hbw;have HB:=I hb;clear hel hE hbw hg hb;generalize ps[k]=p at*;go_wp2_with fail
   refine(HWH.o _ p.k (Tm.o.alloc _)).mono ?_;rintro e w3 ⟨rfl,fB⟩;have lU:=I (((aG wr).alloc _).trans fB);clear fB;by_cases hw:0<=pJ h.ready p.k
   ·have H3:=I (H1.o hw)
    clear H1 H2;generalize pJ h.ready p.k=wk at*;go_wp2;go_ret;refine⟨dQ ?_,Tm.o.trans lU.o⟩;rw [HE.o,bC H3.o]
   ·have H3:=I (H2.o V)
    clear H1 H2;generalize pJ h.ready p.k=wk at*;go_wp2;go_roundw
    case rel=>exact⟨k+1,V,by go_num,HB.o.trans lU.o,H3.o⟩
    case measure=>simp [intOf];omega
  ·have HF:=I hE
   have Tm:=I hbw;clear hel hE hbw hb hg;go_wp2_with fail
   refine(HFT.o _ Tm.o).mono ?_;rintro e w3 ⟨rfl,fB⟩;have lU:=I fB;clear fB;go_wp2;go_ret;refine⟨dQ ?_,Tm.o.trans lU.o⟩;have h9:=HF.o;rw [eG V] at h9;rw [HE.o,aV (by rw [Zy h9];simp)];rfl
def wk (B k:Nat) (c:CM):CM:=fun a=>if B<=a.block/\a.block<B+k then none else c a
theorem Qz (B k:Nat) (c:CM):Sub (wk B k c) c:=fun a v e=>by
 unfold wk at e;split at e
 ·cases e
 ·exact e
theorem KW {c:CM} {w W:World} (hc:Sub c w.cell?) (k:Nat):Sub c (wk w.heap.size k (ov c w W)):=fun a v e=>by
 have hl:=eH w a (hc a v e);unfold wk;rw [aV V];exact gG hc a v e
theorem Yo {c:CM} {w W:World} (hc:Sub c w.cell?) (hg:aK w W) (k:Nat):Sub (wk w.heap.size k (ov c w W)) W.cell?:=(Qz _ _ _).trans (xR hc hg)
theorem PT {c:CM} {w W:World} {k:Nat} {a:Addr} (h:w.heap.size+k<=a.block):wk w.heap.size k (ov c w W) a=W.cell? a:=by
 unfold wk;rw [aV V,dY V]
theorem EZ {c:CM} {w W w1 w':World} {k:Nat} (hW:aK w W) (N:aK W w1) (hk:w.heap.size+k<=W.heap.size) (hs:∀a v,w.heap.size+k<=a.block->w1.cell? a=some v->w'.cell? a=some v):Sub (ov (wk w.heap.size k (ov c w W)) W w1) (ov c w w'):=
 LF hW (Qz _ _ _) (fun a v hl e=>hs a v V e) fun a v hl hl2 e=>by
  have hne:w.heap.size+k<=a.block:=by
   apply Classical.byContradiction;intro hb;unfold wk at e;rw [bC ⟨hl,V⟩] at e;cases e
  have e2:=Qz _ _ _ a v e;rw [dY hl] at e2;exact hs a v hne (N.sub _ _ e2)
theorem O4 {c:CM} {w W:World} {q:Nat} {cs:List Value} (h:At W.cell? q 0 cs) (O:w.heap.size<=q):At (ov c w W) q 0 cs:=fun j v e=>by
 rw [dY (by exact O)];exact h j v e
theorem fM {w w':World} {B:Nat} (h:w.grownBy w' (some B)) {a:Addr} (hl:a.block<w.heap.size) (hb:a.block≠B):w'.cell? a=w.cell? a:=
 World.cell?_of_block (h.block a.block hl (fun e=>hb (bI e)))
theorem bZ {w:World} {B:Nat} {a b c d e f g:Value} {t:TypeId} (h:w.heap[B]? =some (.cells #[a,b,c,d,e,f,g] t (0,0))):
  w.cell? ⟨B,0,none⟩=some a/\w.cell? ⟨B,1,none⟩=some b/\w.cell? ⟨B,2,none⟩=some c/\w.cell? ⟨B,3,none⟩=some d/\w.cell? ⟨B,4,none⟩=some e/\w.cell? ⟨B,5,none⟩=some f/\w.cell? ⟨B,6,none⟩=some g:=by
 refine⟨?_,?_,?_,?_,?_,?_,?_⟩<;>simp [World.cell?,h]
theorem aT {w:World} {B:Nat} {a b c d:Value} {t:TypeId} (h:w.heap[B]? =some (.cells #[a,b,c,d] t (0,0))):
  w.cell? ⟨B,0,none⟩=some a/\w.cell? ⟨B,1,none⟩=some b/\w.cell? ⟨B,2,none⟩=some c/\w.cell? ⟨B,3,none⟩=some d:=by
 refine⟨?_,?_,?_,?_⟩<;>simp [World.cell?,h]
theorem fO:(Tryz.prog.info? 50).map (·.size)=some 7:=by kernel_rfl
theorem gJ {w:World} {B:Nat} {cs:Array Value} {t:TypeId} (h:w.heap[B]? =some (.cells cs t (0,0))) (o:Nat):w.frozen? ⟨B,o,none⟩=false:=by simp [World.frozen?,h]
theorem bJ {w w':World} {B:Nat} {o:Obj} {row:Option Nat} (h:w.heap[B]? =some o) (hg:w.grownBy w' row) (hne:some B≠row):w'.heap[B]? =some o:=by
 rw [hg.block B (γ h) hne];exact h
theorem aF {w w':World} {B:Nat} {o:Obj} (h:w.heap[B]? =some o) (hg:aK w w'):w'.heap[B]? =some o:=by
 rw [hg.block B (γ h)];exact h
theorem bn (w:World) (o:Obj):(w.alloc o).heap[w.heap.size]? =some o:=heap_alloc_new w o
theorem aY {o:Oper} {y:Nat->Option Bool} {X E:Prop} {inst:Decidable (Region.wanted o y=true)} (hgd:o.guard=none) (h:X):@ite Prop (Region.wanted o y=true) inst X E:=by
 rw [bC (by simp [Region.wanted,hgd])];exact h
theorem b_ {P:Program} {ty:TypeId} {w:World} {o:Oper} {a:Act} {K:Act->World->Prop} {Q:Exit->Act->World->Prop} (d s:Operand) (ho:o.op=.store ty d s)
  {g:Nat} {t:TypeId} {old cells:Array Value} (hd:a.eval d=.pointer (some ⟨g,0,none⟩)) (hs:a.eval s=.agg cells) (hrow:w.heap[g]? =some (.cells old t (0,0)))
  (hi:(P.info? ty).map (·.size)=some cells.size) (hos:old.size=cells.size) (N:cells.toList.all (·.oneCell')=true)
  (h:∀w',w'.heap[g]? =some (.cells cells t (0,0))->w.grownBy w' (some g)->K (a.put o.dst undef) w'):o.wp P a w K Q:=by
 have hr:=run_storeVar_row (P:=P) w g t ty old cells hrow hi hos (by rw [<-Array.all_toList];exact N);unfold Oper.wp execOp;simp only [ho,hd,hs,Instr.storeAt,Instr.sureAddr,Sem.run_bind,Sem.run_pure,Result.andThen_ok,hr];exact h _ (setRow_heap w g old cells t _ hrow) ⟨rfl,rfl,rfl,by simp [World.setRow],fun k hk hne=>by
  simp only [World.setRow];rw [Array.getElem?_modify];rw [aV (fun e=>hne (by rw [e]))]⟩
theorem aQ {P:Program} {ty:TypeId} {ops:Array Oper} {rest:List Oper} {w:World} {o:Oper} {a:Act} {Q:Exit->Act->World->Prop} (hgd:o.guard=none) (d s:Operand) (ho:o.op=.store ty d s)
  {g:Nat} {t:TypeId} {old cells:Array Value} (hd:a.eval d=.pointer (some ⟨g,0,none⟩)) (hs:a.eval s=.agg cells) (hrow:w.heap[g]? =some (.cells old t (0,0)))
  (hi:(P.info? ty).map (·.size)=some cells.size) (hos:old.size=cells.size) (N:cells.toList.all (·.oneCell')=true)
  (h:∀w',w'.heap[g]? =some (.cells cells t (0,0))->w.grownBy w' (some g)->wpList P ops Q rest (a.put o.dst undef) w'):wpList P ops Q (o::rest) a w:=
 wpList_plain hgd fun _ hK=>b_ d s ho hd hs hrow hi hos N fun w' a b=>hK _ _ (h w' a b)
theorem KX {κ:Type} [DecidableEq κ] {P:Program} {t K E:TypeId} {enc:κ->Value} (hK:Jh P K enc) (ht:P.underlying t=some (.map K E)) {z:Value} (hz:∀w,(zeroValue E).run P w=.ok z w) {w:World} {ops:Array Oper} {rest:List Oper} {o:Oper} {a:Act} {Q:Exit->Act->World->Prop} (hg:o.guard=none) (mo x:Operand) (hop:o.op=Op.lookup t mo x false)
  {m:Nat} {kv:List (κ×Value)} (h:kD enc w m kv) (k:κ) (v:Value) (hv:(Qu kv k).getD z=v) (hm:a.eval mo=.map (some m)) (Z:a.eval x=enc k) (hC:wpList P ops Q rest (a.put o.dst v) w):wpList P ops Q (o::rest) a w:=by
 subst hv;exact rV hK ht hz hg mo x hop h k hm Z hC
theorem Cm {κ:Type} [DecidableEq κ] {P:Program} {t K E:TypeId} {enc:κ->Value} (hK:Jh P K enc) (ht:P.underlying t=some (.map K E)) {w:World} {ops:Array Oper} {rest:List Oper} {o:Oper} {a:Act} {Q:Exit->Act->World->Prop} (hg:o.guard=none) (mo x y:Operand) (hop:o.op=Op.insert t mo x y)
  {m:Nat} {kv:List (κ×Value)} (h:kD enc w m kv) (k:κ) (v:Value) (hm:a.eval mo=.map (some m)) (Z:a.eval x=enc k) (hy:a.eval y=v) (hC:∀w',kD enc w' m (Tq kv k v)->w.grownBy w' (some m)->wpList P ops Q rest (a.put o.dst undef) w'):wpList P ops Q (o::rest) a w:=by
 refine wpList_plain hg fun K' hK'=>?_;obtain⟨w',hrun,N,Y⟩:=Yi hK ht h k v;unfold Oper.wp;simp [execOp,hop,hm,Z,hy,hrun,Result.andThen];exact hK' _ _ (hC w' N Y)
theorem sZ {v:Value} {l:List Pt} (w:World) (hv:Sl Ty.pt w.cell? v l) (hm:l.length*24<=140737488355328):
  Calls Tryz.prog 73 #[v] w fun e w'=>∃v',e=.returned v'/\w'.ownsRow w.heap.size 111 3 v' l.length (l.flatMap Pt.cells)/\aK w w':=by
 obtain⟨a,cap,rfl,N,Y,h0,hel⟩:=hv;have hnil:=fun w:World=>Go.Lib.run_eql_slice_nil (P:=Tryz.prog) w 23 111 a l.length cap 0 0 Ky.ht;cases a with
 |none=>
  obtain rfl:=h0 rfl;have hl:l=[]:=by
   cases l with
   |nil=>rfl
   |cons x l=>obtain⟨_,_,_,h,_⟩:=hel 0 x rfl;cases h
  subst hl;have hnil':=fun w:World=>Go.Lib.run_eql_slice_nil (P:=Tryz.prog) w 23 111 none 0 0 0 0 Ky.ht;simp only [Option.isNone_none] at hnil';clear hel h0 hm N Y hnil;show Calls _ _ #[()] _ _;go_enter Tryz.func73,Tryz.ntmps73;go_wp2;go_ret;exact⟨_,rfl,World.ownsRow_nil _ _ _ _,je⟩
 |some ad=>
  have hc:=DZ (f:=Pt.cells) (size:=3) ε (fun _=>rfl) (c:=w.cell?) (a:=some ad) (l:=l) (fun i x e=>by
   obtain⟨b,o,cs,ha,⟨rfl,-⟩,hA⟩:=hel i x e;exact⟨b,o,ha,hA⟩) ad rfl
  have hlen:(l.flatMap Pt.cells).length=l.length*3:=qG (f:=Pt.cells) (size:=3) (fun _=>rfl) l;have h1c:∀u∈l.flatMap Pt.cells,u.oneCell'=true:=yx Wn l;simp only [Option.isNone_some] at hnil;have HC:=I hc;have HM:=I hm;clear hel hc hm Y;go_enter Tryz.func73,Tryz.ntmps73;go_wp2_with (at_builtin;go_loud (refine JX (W:=w) Ky rfl _ _ rfl ((aG w).alloc _) rfl (World.ownsRow_made w #[] 0 (Nat.le_refl _) (Nat.zero_le _) rfl) ad l.length cap (l.flatMap Pt.cells) rfl hlen ?_ ?_ ?_ ?_ ?_))
  ·intro j u hu;exact((aG w).alloc _).sub _ _ (HC.o j u hu)
  ·exact h1c
  ·have:=HM.o;unfold maxLen;omega
  ·have:=HM.o;omega
  ·intro v' w' bU hG _
   go_wp2;go_ret;exact⟨_,rfl,by simpa using bU,hG⟩
theorem Zz {v:Value} {l:List Int} (w:World) (hv:Sl Ty.int w.cell? v l) (hm:l.length*8<=140737488355328):
  Calls Tryz.prog 101 #[v] w fun e w'=>∃v',e=.returned v'/\w'.ownsRow w.heap.size 3 1 v' l.length (l.flatMap eX)/\aK w w':=by
 obtain⟨a,cap,rfl,N,Y,h0,hel⟩:=hv;have hnil:=fun w:World=>Go.Lib.run_eql_slice_nil (P:=Tryz.prog) w 48 3 a l.length cap 0 0 jL.ht;cases a with
 |none=>
  obtain rfl:=h0 rfl;have hl:l=[]:=by
   cases l with
   |nil=>rfl
   |cons x l=>obtain⟨_,_,_,h,_⟩:=hel 0 x rfl;cases h
  subst hl;have hnil':=fun w:World=>Go.Lib.run_eql_slice_nil (P:=Tryz.prog) w 48 3 none 0 0 0 0 jL.ht;simp only [Option.isNone_none] at hnil';clear hel h0 hm N Y hnil;show Calls _ _ #[()] _ _;go_enter Tryz.func101,Tryz.ntmps101;go_wp2;go_ret;exact⟨_,rfl,World.ownsRow_nil _ _ _ _,je⟩
 |some ad=>
  have hc:=DZ (f:=eX) (size:=1) ε (fun _=>rfl) (c:=w.cell?) (a:=some ad) (l:=l) (fun i x e=>by
   obtain⟨b,o,cs,ha,⟨rfl,-⟩,hA⟩:=hel i x e;exact⟨b,o,ha,hA⟩) ad rfl
  have hlen:(l.flatMap eX).length=l.length*1:=qG (f:=eX) (size:=1) (fun _=>rfl) l;have h1c:∀u∈l.flatMap eX,u.oneCell'=true:=yx EO l;simp only [Option.isNone_some] at hnil;have HC:=I hc;have HM:=I hm;clear hel hc hm Y;go_enter Tryz.func101,Tryz.ntmps101;go_wp2_with (at_builtin;go_loud (refine JX (W:=w) jL rfl _ _ rfl ((aG w).alloc _) rfl (World.ownsRow_made w #[] 0 (Nat.le_refl _) (Nat.zero_le _) rfl) ad l.length cap (l.flatMap eX) rfl hlen ?_ ?_ ?_ ?_ ?_))
  ·intro j u hu;exact((aG w).alloc _).sub _ _ (HC.o j u hu)
  ·exact h1c
  ·have:=HM.o;unfold maxLen;omega
  ·have:=HM.o;omega
  ·intro v' w' bU hG _
   go_wp2;go_ret;exact⟨_,rfl,by simpa using bU,hG⟩
theorem KY {v:Value} {l:List UInt8} (w:World) (hv:Sl Ty.byte w.cell? v l) (hm:l.length*1<=140737488355328):
  Calls Tryz.prog 82 #[v] w fun e w'=>∃v',e=.returned v'/\w'.ownsRow w.heap.size 5 1 v' l.length (l.flatMap jf)/\aK w w':=by
 obtain⟨a,cap,rfl,N,Y,h0,hel⟩:=hv;have hnil:=fun w:World=>Go.Lib.run_eql_slice_nil (P:=Tryz.prog) w 97 5 a l.length cap 0 0 ER.ht;cases a with
 |none=>
  obtain rfl:=h0 rfl;have hl:l=[]:=by
   cases l with
   |nil=>rfl
   |cons x l=>obtain⟨_,_,_,h,_⟩:=hel 0 x rfl;cases h
  subst hl;have hnil':=fun w:World=>Go.Lib.run_eql_slice_nil (P:=Tryz.prog) w 97 5 none 0 0 0 0 ER.ht;simp only [Option.isNone_none] at hnil';clear hel h0 hm N Y hnil;show Calls _ _ #[()] _ _;go_enter Tryz.func82,Tryz.ntmps82;go_wp2;go_ret;exact⟨_,rfl,World.ownsRow_nil _ _ _ _,je⟩
 |some ad=>
  have hc:=DZ (f:=jf) (size:=1) ε (fun _=>rfl) (c:=w.cell?) (a:=some ad) (l:=l) (fun i x e=>by
   obtain⟨b,o,cs,ha,rfl,hA⟩:=hel i x e;exact⟨b,o,ha,hA⟩) ad rfl
  have hlen:(l.flatMap jf).length=l.length*1:=qG (f:=jf) (size:=1) (fun _=>rfl) l;have h1c:∀u∈l.flatMap jf,u.oneCell'=true:=yx one_byte l;simp only [Option.isNone_some] at hnil;have HC:=I hc;have HM:=I hm;clear hel hc hm Y;go_enter Tryz.func82,Tryz.ntmps82;go_wp2_with (at_builtin;go_loud (refine JX (W:=w) ER rfl _ _ rfl ((aG w).alloc _) rfl (World.ownsRow_made w #[] 0 (Nat.le_refl _) (Nat.zero_le _) rfl) ad l.length cap (l.flatMap jf) rfl hlen ?_ ?_ ?_ ?_ ?_))
  ·intro j u hu;exact((aG w).alloc _).sub _ _ (HC.o j u hu)
  ·exact h1c
  ·have:=HM.o;unfold maxLen;omega
  ·have:=HM.o;omega
  ·intro v' w' bU hG _
   go_wp2;go_ret;exact⟨_,rfl,by simpa using bU,hG⟩
def fr (W0 w:World) (X:List (Option Nat)):CM:=fun a=>if a.block<W0.heap.size∨some a.block∈X then none else w.cell? a
theorem iO (W0 w:World) (X:List (Option Nat)):Sub (fr W0 w X) w.cell?:=fun a v e=>by
 unfold fr at e;split at e
 ·cases e
 ·exact e
theorem Yp (c:CM) (W0 w:World) (X:List (Option Nat)):Sub (fr W0 w X) (ov c W0 w):=fun a v e=>by
 unfold fr at e;split at e
 ·cases e
 ·rename_i h
  rw [dY V];exact e
theorem jh {W0 w:World} {X:List (Option Nat)} {a:Addr} (h:W0.heap.size<=a.block) (Z:some a.block∉X):fr W0 w X a=w.cell? a:=by
 unfold fr;rw [aV (by rintro(N|N);omega;exact Z N)]
theorem jV {W0 w w':World} {X X':List (Option Nat)} (h:∀k,k<w.heap.size->W0.heap.size<=k->some k∉X->w'.heap[k]? =w.heap[k]?/\some k∉X'):Sub (fr W0 w X) (fr W0 w' X'):=fun a v e=>by
 unfold fr at e;split at e
 ·cases e
 ·rename_i hn
  have N:¬a.block<W0.heap.size:=fun Z=>hn (.inl Z);have Y:some a.block∉X:=fun Z=>hn (.inr Z);obtain⟨h3,h4⟩:=h a.block (eH w a e) V Y;rw [jh V h4,World.cell?_of_block h3];exact e
theorem fH {W0 w w':World} {X:List (Option Nat)} (h:aK w w'):Sub (fr W0 w X) (fr W0 w' X):=jV fun k hk _ Z=>⟨h.block k hk,Z⟩
theorem uy {W0 w w':World} {v v':Value} (hg:w.grownBy w' v.ownBlock) (hb:v'.ownBlock=v.ownBlock∨∃g,v'.ownBlock=some g/\w.heap.size<=g):Sub (fr W0 w [v.ownBlock]) (fr W0 w' [v'.ownBlock]):=
 jV fun k hk _ Z=>⟨hg.block k hk (by simpa using Z),by
  rcases hb with hb|⟨g,hb,hge⟩
  ·rw [hb];exact Z
  ·rw [hb];simp;omega⟩
theorem KZ {W0 w1 w:World} {v:Value} {l:List Pt} {X:List (Option Nat)} (h:w.ownsRow w1.heap.size 111 3 v l.length (l.flatMap Pt.cells)) (hok:AY l) (hW:W0.heap.size<=w1.heap.size) (hX:∀k,w1.heap.size<=k->some k∉X):Sl Ty.pt (fr W0 w X) v l:=
 (bK.pts (c:=fr W0 w X) h hok).slc ε (Sub.refl _) fun a ha=>jh V (hX _ ha)
theorem E5 {v:Value} {l:List Rc} (w:World) (hv:NT w.cell? v l) (hm:l.length*40<=140737488355328) (hp:∀r∈l,r.aH.length*24<=140737488355328):
  Calls Tryz.prog 71 #[v] w fun e w'=>∃v',e=.returned v'/\bK Ty.rc (fr w w' [v'.ownBlock]) w' w.heap.size 79 v' l/\aK w w':=by
 obtain⟨a,cap,rfl,N,Y,-,hel⟩:=hv;unfold maxLen at Y;have HM:=I hm;have HP:=I hp;clear hm hp;go_enter Tryz.func71,Tryz.ntmps71;go_wp2;go_loopw [3,8] (fun s3 i wr=>∃k:Nat,k<=l.length/\i=J k/\aK w wr/\bK Ty.rc (fr w wr [s3.ownBlock]) wr w.heap.size 79 s3 (l.take k)) (fun _ i _=>l.length - (intOf i).toNat)
 case atStart=>exact⟨0,V,rfl,aG _,bK.nil _ _ _ _ _⟩
 case round=>
  obtain⟨k,hk',rfl,hb,bU⟩:=hrel;by_cases hlt:k<l.length
  ·obtain⟨b,o,vp,rfl,c0,c1,c2,i0,i1,hP⟩:=NT.at_ hel k hlt
   obtain⟨ap,cp,rfl,-⟩:=id hP;replace c0:=hb.sub _ _ c0;replace c1:=hb.sub _ _ c1;replace c2:=hb.sub _ _ c2;have htk:l.take (k+1)=l.take k++ [l[k]]:=by rw [List.take_succ_eq_append_getElem hlt]
   have nK:=I htk;have hpl:=HP.o l[k] (List.getElem_mem _);have hok:=pX.ok (c:=w.cell?) hP;have Je:=I (fun(W:World) (hW:aK wr W)=>sZ W (hP.mono (hb.trans hW).sub) hpl);have hlk:(l.take k).length=k:=by simp;omega
   have dX:=I bU;have HI:=I (And.intro i0 (And.intro i1 hok));obtain⟨av,cv,rfl⟩:=bU.form;clear hel hP htk hpl hok bU i0 i1;generalize l[k]=r at*;generalize hlt':l.take k=lk at*;have CB:=I hlk;clear hlt' hlk;go_wp2_with fail
   refine(Je.o _ ((aG _).alloc _)).mono ?_;rintro e w2 ⟨v2,rfl,wS,gB⟩;obtain⟨a2,uz,rfl⟩:=dG wS;have pI:=I wS;have jq:=I gB;obtain⟨Ym,Yn⟩:=gu gB;have z2:wr.heap.size<w2:=by have:=gB.size;simp at this;omega
   clear wS gB;have uF:Hid (aK wr (w2.setCell ⟨wr,2,none⟩ (U a2 r.aH.length uz))):=I ((((aG wr).alloc _).trans jq.o).setCell σ _);go_wp2_with (first|(at_builtin;refine cO (c:=fr w ((w2.setCell ⟨wr,2,none⟩ (U a2 r.aH.length uz)).alloc (.cells #[J r.aX,J r.aJ,U a2 r.aH.length uz] 79)) [(Value.slice av lk.length cv).ownBlock]) (base:=w.heap.size) (l:=lk) (m:=[r]) mX rfl jc ε rfl (.tmp 16) (.tmp 18) rfl rfl ?own rfl (Src.dU (cs:=#[J r.aX,J r.aJ,U a2 r.aH.length uz]) ?d0 _ _ ?d1) ?d2 ?d3 ?_))
   case own=>exact(dX.o.mono (fH (uF.o.alloc _))).grow (uF.o.alloc _)
   case d0=>
    refine⟨_,rfl,HI.o.1,HI.o.2.1,?_⟩;have hlt2:=dX.o.lt;refine KZ (w1:=wr.alloc (.cells #[J r.aX,J r.aJ,U ap r.aH.length cp] 79)) ?_ HI.o.2.2 ?_ ?_
    ·exact(pI.o.kept (dS w2 ⟨wr,2,none⟩ _) (by
      cases e:(Value.slice a2 r.aH.length uz).ownBlock with
      |none=>exact .inl rfl
      |some q=>right;have:=(pI.o.lt q e).1;simp at this ⊢;omega)).alloc _
    ·have:=hb.size;simp;omega
    ·intro q O
     simp only [List.mem_singleton];intro e;have:=(hlt2 q e.symm).2;simp at O;omega
   case d1=>simp
   case d2=>have:=HM.o;have:=CB.o;simp;omega
   case d3=>have:=(uF.o.alloc (.cells #[J r.aX,J r.aJ,U a2 r.aH.length uz] 79)).size;have:=hb.size;omega
   intro a5 c5 w5 xC uG iY;have Yq:aK w w5:=dI (w0:=w) (hb.trans (uF.o.alloc _)) uG (fun q O=>(dX.o.lt q O).1);have oQ:=I (xC.mono (uy uG (iY.imp_right fun⟨g,e,hge⟩=>⟨g,e,by simpa using hge⟩)));have wW:=I Yq;clear xC uG iY Yq Ym Yn;go_wp2;go_roundw
   case rel=>exact⟨k+1,V,by go_num,wW.o,by rw [nK.o];exact oQ.o⟩
   case measure=>simp [intOf];omega
  ·clear hel
   go_wp2;go_ret;have h9:=bU;rw [eG V] at h9;exact⟨_,rfl,h9,hb⟩
end Go.Proofs.YtocnmkefmgmkbaaGreat
