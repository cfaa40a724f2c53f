/- Parts of proofs, joined: G1, G2, G3, G4, G5, G6, G7, G8, G9, G10, G11, U28, U29, G12p. No condition beside those that each theorem names. -/
import Derived.Deep.DeepCutAuto
import Derived.Shelf.Slices.In.SortNone
import Derived.Test.YtocnmkefmgmkbaaGreatJW1b
import Derived.Test.YtocnmkefmgmkbaaGreatJW6a
import Derived.Test.YtocnmkefmgmkbaaGreatJW4b
import Derived.Test.YtocnmkefmgmkbaaGreatJW2a
set_option maxRecDepth 100000
set_option maxHeartbeats 40000000
namespace Go.Proofs.YtocnmkefmgmkbaaGreat
open Go.RowKit
def Ty.J_:Ty (Opn×Value) where
 size:=4
 R:=fun c cs x=>∃vp:Value,cs=[ι x.1.deed,vp,.bool x.1.dec,x.2]/\I64 x.1.deed/\Sl Ty.pt c vp x.1.parts/\x.2.oneCell'=true
 len:=by rintro c cs x ⟨_,rfl,_⟩;rfl
 mono:=by rintro c c' cs x h ⟨a,rfl,h1,h2,h3⟩;exact⟨a,rfl,h1,h2.mono h,h3⟩
abbrev vW:=Opn×Value
theorem yS:zF Ty.J_:=by
 rintro c cs x ⟨v,rfl,-,h,h'⟩ u hu;simp only [List.mem_cons,List.not_mem_nil,or_false] at hu;rcases hu with rfl|rfl|rfl|rfl
 ·rfl
 ·exact iU h
 ·rfl
 ·exact h'
def Ie (a b:Option Nat):Prop:=a=none∨a≠b
theorem Ie.symm {a b:Option Nat} (h:Ie a b):Ie b a:=by
 rcases h with rfl|h
 ·cases b with
  |none=>exact .inl rfl
  |some q=>exact .inr σ
 ·exact .inr fun e=>h e.symm
structure jm (w W:World) (X:List (Option Nat)):Prop where
 pw:X.Pairwise Ie
 lt:∀q,some q∈X->w.heap.size<=q/\q<W.heap.size
theorem jm.off {w W:World} {X:List (Option Nat)} (h:jm w W X) {i j:Nat} {a b:Option Nat} (hi:X[i]? =some a) (hj:X[j]? =some b) (hne:i≠j):Ie a b:=by
 obtain⟨hi1,rfl⟩:=List.getElem?_eq_some_iff.1 hi;obtain⟨hj1,rfl⟩:=List.getElem?_eq_some_iff.1 hj;rcases Nat.lt_or_gt_of_ne hne with h1|h1
 ·exact List.pairwise_iff_getElem.1 h.pw i j hi1 hj1 h1
 ·exact(List.pairwise_iff_getElem.1 h.pw j i hj1 hi1 h1).symm
theorem jm.later {w W W2:World} {X:List (Option Nat)} (h:jm w W X) (hs:W.heap.size<=W2.heap.size):jm w W2 X:=⟨h.pw,fun q hq=>by have:=h.lt q hq;omega⟩
theorem jm.step {w W W2:World} {X:List (Option Nat)} {i:Nat} {r r':Option Nat} (h:jm w W X) (hi:X[i]? =some r) (hg:W.grownBy W2 r) (hb:r'=r∨∃g,r'=some g/\W.heap.size<=g) (hl:∀q,r'=some q->w.heap.size<=q/\q<W2.heap.size):
  jm w W2 (X.set i r')/\Sub (fr w W X) (fr w W2 (X.set i r')):=by
 have hs:=hg.size;refine⟨⟨?_,fun q hq=>?_⟩,gZ fun k hk h0 hx=>⟨hg.block k hk fun e=>hx (e▸List.mem_of_getElem? hi),fun hx'=>?_⟩⟩
 ·rw [List.pairwise_iff_getElem]
  intro a b ha hb' hab;rw [List.length_set] at ha hb';have hv':∀j u,j≠i->X[j]? =some u->Ie r' u:=fun j u hj hu=>by
   rcases hb with rfl|⟨g,rfl,hge⟩
   ·exact h.off hi hu (Ne.symm hj)
   ·refine .inr fun e=>?_
    have:=(h.lt g (e▸List.mem_of_getElem? hu)).2;omega
  rw [List.getElem_set,List.getElem_set];by_cases h1:i=a
  ·rw [if_pos h1,if_neg δ]
   exact hv' b _ δ (List.getElem?_eq_getElem hb')
  ·rw [if_neg h1]
   by_cases h2:i=b
   ·rw [if_pos h2]
    exact(hv' a _ δ (List.getElem?_eq_getElem ha)).symm
   ·rw [if_neg h2]
    exact List.pairwise_iff_getElem.1 h.pw a b ha hb' hab
 ·rcases List.mem_or_eq_of_mem_set hq with hq|hq
  ·have:=h.lt q hq;omega
  ·exact hl q hq.symm
 ·rcases List.mem_or_eq_of_mem_set hx' with hu|e
  ·exact hx hu
  ·rcases hb with rfl|⟨g,rfl,hge⟩
   ·exact hx (e▸List.mem_of_getElem? hi)
   ·have:=Option.some.inj e
    omega
theorem jm.less {w W:World} {X Y:List (Option Nat)} (h:jm w W X) (hp:Y.Pairwise Ie) (hs:∀q,some q∈Y->some q∈X):jm w W Y/\Sub (fr w W X) (fr w W Y):=
 ⟨⟨hp,fun q hq=>h.lt q (hs q hq)⟩,gZ fun _ _ _ hx=>⟨rfl,fun hy=>hx (hs _ hy)⟩⟩
def hro (B:Nat) (vl vo:Value) (L:List vW):List (Option Nat):=some B::vl.ownBlock::vo.ownBlock::L.map (·.2.ownBlock)
structure HR (w W:World) (B:Nat) (vl vo:Value) (lg:List Rc) (L:List vW):Prop where
 log:aI Ty.rc (fr w W (hro B vl vo L)) W w.heap.size 79 vl lg
 opn:aI Ty.J_ (fr w W (hro B vl vo L)) W w.heap.size 58 vo L
 heard:∀x∈L,aI Ty.int (fun _=>none) W w.heap.size 3 x.2 x.1.heard
 ok:jm w W (hro B vl vo L)
 grow:Grow w W
theorem aI.Xm {c d:CM} {w:World} {base e:Nat} {v:Value} {L:List vW} (h:aI Ty.J_ c w base e v L) (hs:Sub c d) (hh:∀x∈L,Sl Ty.int d x.2 x.1.heard):aI Ty.opn d w base e v (L.map (·.1)):=by
 obtain⟨css,h1,h2,h3⟩:=h;refine⟨css,by rw [List.length_map];exact h1,by simp [h2],fun i cs x a b=>?_⟩;rw [List.getElem?_map] at b;cases hL:L[i]? with
 |none=>rw [hL] at b;cases b
 |some y=>
  rw [hL] at b;obtain rfl:=Option.some.inj b;obtain⟨vp,he,hi,hp,-⟩:=h3 i cs y a hL;exact⟨vp,y.2,he,hi,hp.mono hs,hh y (List.mem_of_getElem? hL)⟩
section
variable {w W:World} {B:Nat} {vl vo:Value} {lg:List Rc} {L:List vW}
theorem HR.Zq (b:HR w W B vl vo lg L) (x:vW) (hx:x∈L):Sl Ty.int (ov (fun _=>none) w W) x.2 x.1.heard:=
 (b.heard x hx).slc ε (fun a v e=>by cases e) fun a ha=>bH ha
theorem HR.Lj (b:HR w W B vl vo lg L):aI Ty.opn (ov (fun _=>none) w W) W w.heap.size 58 vo (L.map (·.1)):=b.opn.Xm (QF (fun _=>none) _ _ _) b.Zq
theorem HR.of (b:HR w W B vl vo lg L) {aG next:Int} (h1:I64 aG) (h2:I64 next):Of Ty.hd (ov (fun _=>none) w W) (.agg #[vl,ι aG,ι next,vo]) ⟨lg,aG,next,L.map (·.1)⟩:=
 ⟨_,rfl,vl,vo,rfl,b.log.slc ε (QF _ _ _ _) fun a ha=>bH ha,h1,h2,b.Lj.slc ε (Sub.refl _) fun a ha=>bH ha⟩
theorem HR.later {W2:World} (b:HR w W B vl vo lg L) (hg:Grow W W2):HR w W2 B vl vo lg L where
 log:=(b.log.mono (dO hg)).grow hg
 opn:=(b.opn.mono (dO hg)).grow hg
 heard:=fun x hx=>(b.heard x hx).grow hg
 ok:=b.ok.later hg.size
 grow:=b.grow.trans hg
theorem HR.iQ {k:Nat} {x:vW} (hk:L[k]? =some x):(hro B vl vo L)[k+3]? =some x.2.ownBlock:=by
 simp [hro,List.getElem?_map,hk]
theorem jR {v:Value} {r:Option Nat} (h:Ie v.ownBlock r):v.ownBlock=none∨v.ownBlock≠r:=h
theorem HR.box {W2:World} (b:HR w W B vl vo lg L) (hg:W.grownBy W2 (some B)):HR w W2 B vl vo lg L:=by
 have h0:(hro B vl vo L)[0]? =some (some B):=rfl;obtain⟨k1,k2⟩:=b.ok.step h0 hg (.inl rfl) (fun q hq=>by have:=b.ok.lt q (hq▸List.mem_of_getElem? h0);have:=hg.size;omega);have e:(hro B vl vo L).set 0 (some B)=hro B vl vo L:=rfl;rw [e] at k1 k2;refine⟨(b.log.mono k2).kept hg (jR (b.ok.off (i:=1) (j:=0) rfl h0 ε)),(b.opn.mono k2).kept hg (jR (b.ok.off (i:=2) (j:=0) rfl h0 ε)),fun x hx=>?_,k1,b.grow.grown hg (fun k hk=>(b.ok.lt k (hk▸List.mem_of_getElem? h0)).1)⟩;obtain⟨i,hi,rfl⟩:=List.mem_iff_getElem.1 hx;exact(b.heard _ hx).kept hg (jR (b.ok.off (HR.iQ (List.getElem?_eq_getElem hi)) h0 δ))
theorem HR.logs {W2:World} {ED:Value} {lg':List Rc} (b:HR w W B vl vo lg L) (hg:W.grownBy W2 vl.ownBlock) (hb:ED.ownBlock=vl.ownBlock∨∃g,ED.ownBlock=some g/\W.heap.size<=g)
  (ho:aI Ty.rc (fr w W (hro B vl vo L)) W2 w.heap.size 79 ED lg'):HR w W2 B ED vo lg' L:=by
 have h0:(hro B vl vo L)[1]? =some vl.ownBlock:=rfl;obtain⟨k1,k2⟩:=b.ok.step h0 hg hb ho.lt;have e:(hro B vl vo L).set 1 ED.ownBlock=hro B ED vo L:=rfl;rw [e] at k1 k2;refine⟨ho.mono k2,(b.opn.mono k2).kept hg (jR (b.ok.off (i:=2) (j:=1) rfl h0 ε)),fun x hx=>?_,k1,b.grow.grown hg (fun k hk=>(b.log.lt k hk).1)⟩;obtain⟨i,hi,rfl⟩:=List.mem_iff_getElem.1 hx;exact(b.heard _ hx).kept hg (jR (b.ok.off (HR.iQ (List.getElem?_eq_getElem hi)) h0 δ))
theorem HR.put {W2:World} {jZ:Value} {L':List vW} (b:HR w W B vl vo lg L) (hg:W.grownBy W2 vo.ownBlock) (hb:jZ.ownBlock=vo.ownBlock∨∃g,jZ.ownBlock=some g/\W.heap.size<=g)
  (ho:aI Ty.J_ (fr w W (hro B vl vo L)) W2 w.heap.size 58 jZ L') (hh:∀x∈L',x∈L∨x.2=ς none 0 0/\x.1.heard=[]) (hp:(L'.map (·.2.ownBlock)).Pairwise Ie):HR w W2 B vl jZ lg L':=by
 have h0:(hro B vl vo L)[2]? =some vo.ownBlock:=rfl;obtain⟨k1,k2⟩:=b.ok.step h0 hg hb ho.lt;have e:(hro B vl vo L).set 2 jZ.ownBlock=hro B vl jZ L:=rfl;rw [e] at k1 k2;have hin:∀q,some q∈L'.map (·.2.ownBlock)->some q∈L.map (·.2.ownBlock):=fun q hq=>by
  obtain⟨x,hx,e⟩:=List.mem_map.1 hq;rcases hh x hx with h|⟨h,-⟩
  ·exact List.mem_map.2 ⟨x,h,e⟩
  ·rw [h] at e;cases e
 have hsub:∀q,some q∈hro B vl jZ L'->some q∈hro B vl jZ L:=fun q hq=>by
  unfold hro at hq ⊢;rcases List.mem_cons.1 hq with h|hq
  ·exact List.mem_cons.2 (.inl h)
  rcases List.mem_cons.1 hq with h|hq
  ·exact List.mem_cons.2 (.inr (List.mem_cons.2 (.inl h)))
  rcases List.mem_cons.1 hq with h|hq
  ·exact List.mem_cons.2 (.inr (List.mem_cons.2 (.inr (List.mem_cons.2 (.inl h)))))
  ·exact List.mem_cons.2 (.inr (List.mem_cons.2 (.inr (List.mem_cons.2 (.inr (hin q hq))))))
 have hpw:(hro B vl jZ L').Pairwise Ie:=by
  have p:=k1.pw;unfold hro at p ⊢;simp only [List.pairwise_cons] at p ⊢;have up:∀a:Option Nat,(∀c∈L.map (·.2.ownBlock),Ie a c)->∀c∈L'.map (·.2.ownBlock),Ie a c:=fun a ha c hc=>by
   cases c with
   |none=>exact Ie.symm (.inl rfl)
   |some q=>exact ha _ (hin q hc)
  refine⟨fun c hc=>?_,fun c hc=>?_,up _ p.2.2.1,hp⟩
  ·rcases List.mem_cons.1 hc with rfl|hc
   ·exact p.1 _ σ
   ·rcases List.mem_cons.1 hc with rfl|hc
    ·exact p.1 _ σ
    ·exact up _ (fun c hc=>p.1 c (by simp at hc ⊢;exact .inr (.inr hc))) c hc
  ·rcases List.mem_cons.1 hc with rfl|hc
   ·exact p.2.1 _ σ
   ·exact up _ (fun c hc=>p.2.1 c (by simp at hc ⊢;exact .inr hc)) c hc
 obtain⟨k3,k4⟩:=k1.less hpw hsub;have k5:=k2.trans k4;refine⟨(b.log.mono k5).kept hg (jR (b.ok.off (i:=1) (j:=2) rfl h0 ε)),ho.mono k5,fun x hx=>?_,k3,b.grow.grown hg (fun k hk=>(b.opn.lt k hk).1)⟩;rcases hh x hx with h|⟨h1,h2⟩
 ·obtain⟨i,hi,rfl⟩:=List.mem_iff_getElem.1 h
  exact(b.heard _ h).kept hg (jR (b.ok.off (HR.iQ (List.getElem?_eq_getElem hi)) h0 δ))
 ·rw [h1,h2];exact aI.nil _ _ _ _ _
end
theorem aI.JD {α:Type} {T:Ty α} {c:CM} {w:World} {base e g n cap:Nat} {l:List α} (h:aI T c w base e (ς (some ⟨g,0,none⟩) n cap) l) (hn:n=l.length) {i j:Nat} {x x':α} (hi:l[i]? =some x) (hj:j<T.size) {u:Value}
  (hR:∀cs,T.R c cs x->T.R c (cs.set j u) x'):aI T c (w.setCell ⟨g,i*T.size+j,none⟩ u) base e (ς (some ⟨g,0,none⟩) n cap) (l.set i x'):=by
 obtain⟨css,h1,h2,h3⟩:=h;subst hn;have hil:=(List.getElem?_eq_some_iff.1 hi).1;have hcl:=jM h2 h3;have hcx:css[i]? =some css[i]:=List.getElem?_eq_getElem δ;have hci:=h3 i css[i] x hcx hi;have k2:=(h1.stored (i*T.size+j) u).1;have e1:(css.set i (css[i].set j u)).flatten=css.flatten.set (i*T.size+j) u:=by
  have h0:0<T.size:=by omega
  have hcl':∀cs∈css.set i (css[i].set j u),cs.length=T.size:=fun cs hcs=>by
   rcases List.mem_or_eq_of_mem_set hcs with h|rfl
   ·exact hcl cs h
   ·rw [List.length_set];exact T.len hci
  apply List.ext_getElem?;intro q;rw [iT h0 _ hcl',List.getElem?_set,List.getElem?_set,iT h0 css hcl];by_cases hq:i=q/T.size
  ·rw [if_pos hq]
   subst hq;rw [if_pos δ,hcx];simp only [Option.bind_some,List.getElem?_set];have hdm:=Nat.div_add_mod q T.size;rw [Nat.mul_comm] at hdm;by_cases hj2:j=q % T.size
   ·rw [if_pos hj2,if_pos (by rw [T.len hci];exact hj),if_pos δ,if_pos (by
     rw [jV css hcl,h2];have:(q/T.size+1)*T.size<=l.length*T.size:=Nat.mul_le_mul_right _ δ;rw [Nat.add_mul] at this;omega)]
   ·rw [if_neg hj2,if_neg δ]
  ·rw [if_neg hq,if_neg (fun e=>hq (by
    rw [<-e,Nat.mul_comm,Nat.mul_add_div h0,Nat.div_eq_of_lt hj,Nat.add_zero]))]
 refine⟨css.set i (css[i].set j u),by rw [e1];simpa using k2,by simp [h2],fun q cs y a b=>?_⟩;rw [List.getElem?_set] at a b;by_cases hq:i=q
 ·rw [if_pos hq,if_pos δ] at a b
  obtain rfl:=Option.some.inj a;obtain rfl:=Option.some.inj b;exact hR _ hci
 ·rw [if_neg hq] at a b
  exact h3 q cs y a b
theorem HR.hear {w W W2:World} {B:Nat} {vl:Value} {lg:List Rc} {L:List vW} {g n cap k:Nat} {x:vW} {v':Value} {l':List Int} (b:HR w W B vl (ς (some ⟨g,0,none⟩) n cap) lg L) (hn:n=L.length) (hk:L[k]? =some x)
  (hg:W.grownBy W2 x.2.ownBlock) (hb:v'.ownBlock=x.2.ownBlock∨∃q,v'.ownBlock=some q/\W.heap.size<=q) (ho:aI Ty.int (fun _=>none) W2 w.heap.size 3 v' l'):
  HR w (W2.setCell ⟨g,k*4+3,none⟩ v') B vl (ς (some ⟨g,0,none⟩) n cap) lg (L.set k (⟨x.1.deed,x.1.parts,x.1.dec,l'⟩,v'))/\W.cell? ⟨g,k*4,none⟩=some (ι x.1.deed)/\∃vp,W.cell? ⟨g,k*4+1,none⟩=some vp:=by
 have hkl:=(List.getElem?_eq_some_iff.1 hk).1;have h0:=HR.iQ (B:=B) (vl:=vl) (vo:=ς (some ⟨g,0,none⟩) n cap) hk;obtain⟨k1,k2⟩:=b.ok.step h0 hg hb ho.lt;have e:(hro B vl (ς (some ⟨g,0,none⟩) n cap) L).set (k+3) v'.ownBlock=hro B vl (ς (some ⟨g,0,none⟩) n cap) (L.set k (⟨x.1.deed,x.1.parts,x.1.dec,l'⟩,v')):=by
  unfold hro;simp [List.map_set]
 rw [e] at k1 k2;have h2:∀M:List vW,(hro B vl (ς (some ⟨g,0,none⟩) n cap) M)[2]? =some (some g):=fun _=>rfl;have gs:W2.grownBy (W2.setCell ⟨g,k*4+3,none⟩ v') (some g):=grownBy_setCell W2 ⟨g,k*4+3,none⟩ v';obtain⟨k3,k4⟩:=k1.step (h2 _) gs (.inl rfl) (fun q hq=>by
  have:=k1.lt q (by rw [<-hq];exact List.mem_of_getElem? (h2 _));have:=gs.size;omega)
 have e2:(hro B vl (ς (some ⟨g,0,none⟩) n cap) (L.set k (⟨x.1.deed,x.1.parts,x.1.dec,l'⟩,v'))).set 2 (some g)=hro B vl (ς (some ⟨g,0,none⟩) n cap) (L.set k (⟨x.1.deed,x.1.parts,x.1.dec,l'⟩,v')):=rfl;rw [e2] at k3 k4;have hsub:=k2.trans k4;have o1:=(b.opn.kept hg (jR (b.ok.off (i:=2) (j:=k+3) (h2 _) h0 δ)));have o2:=aI.JD (T:=Ty.J_) (x':=(⟨x.1.deed,x.1.parts,x.1.dec,l'⟩,v')) o1 hn hk (j:=3) ε (u:=v') (fun cs hR=>by
  obtain⟨vp,rfl,h1,h2,-⟩:=hR;exact⟨vp,rfl,h1,h2,by obtain⟨a',c',rfl⟩:=ho.form;rfl⟩)
 refine⟨⟨((b.log.kept hg (jR (b.ok.off (i:=1) (j:=k+3) rfl h0 δ))).mono hsub).kept gs (jR (b.ok.off (i:=1) (j:=2) rfl (h2 _) ε)),o2.mono hsub,fun y hy=>?_,k3,(b.grow.grown hg (fun q hq=>(b.ok.lt q (hq▸List.mem_of_getElem? h0)).1)).grown gs (fun q hq=>(b.ok.lt q (by rw [<-hq];exact List.mem_of_getElem? (h2 _))).1)⟩,?_⟩
 ·obtain⟨i,hi,rfl⟩:=List.mem_iff_getElem.1 hy
  rw [List.length_set] at hi;have hoff:Ie ((hro B vl (ς (some ⟨g,0,none⟩) n cap) (L.set k (⟨x.1.deed,x.1.parts,x.1.dec,l'⟩,v')))[i+3]?.getD none) (some g):=by
   have h9:=HR.iQ (B:=B) (vl:=vl) (vo:=ς (some ⟨g,0,none⟩) n cap) (L:=L.set k (⟨x.1.deed,x.1.parts,x.1.dec,l'⟩,v')) (k:=i) (List.getElem?_eq_getElem (by rw [List.length_set];exact hi));rw [h9];exact k1.off h9 (h2 _) δ
  have h9:=HR.iQ (B:=B) (vl:=vl) (vo:=ς (some ⟨g,0,none⟩) n cap) (L:=L.set k (⟨x.1.deed,x.1.parts,x.1.dec,l'⟩,v')) (k:=i) (List.getElem?_eq_getElem (by rw [List.length_set];exact hi));rw [h9] at hoff;refine aI.kept ?_ gs (jR hoff);by_cases hki:k=i
  ·subst hki
   simp only [List.getElem_set_self];exact ho
  ·rw [List.getElem_set_ne hki]
   exact(b.heard _ (List.getElem_mem _)).kept hg (jR (b.ok.off (HR.iQ (List.getElem?_eq_getElem hi)) h0 δ))
 ·have o:=b.opn
  rw [hn] at o;obtain⟨g',cs,hg',hR,hA⟩:=o.get ε k hkl;obtain rfl:g=g':=by simpa using hg'
  obtain⟨vp,rfl,-,-,-⟩:=hR;have hx:L[k]=x:=by rw [List.getElem?_eq_getElem hkl] at hk;exact Option.some.inj hk
  have c0:=hA 0 _ rfl;have c1:=hA 1 _ rfl;rw [hx] at c0;exact⟨c0,vp,c1⟩
theorem HR.at_ {w W:World} {B:Nat} {vl:Value} {lg:List Rc} {L:List vW} {a:Option Addr} {n cap k:Nat} {x:vW} (b:HR w W B vl (ς a n cap) lg L) (hn:n=L.length) (hk:L[k]? =some x):
  ∃g vp,a=some ⟨g,0,none⟩/\w.heap.size<=g/\g<W.heap.size/\W.cell? ⟨g,k*4,none⟩=some (ι x.1.deed)/\W.cell? ⟨g,k*4+1,none⟩=some vp/\W.cell? ⟨g,k*4+2,none⟩=some (.bool x.1.dec)/\W.cell? ⟨g,k*4+3,none⟩=some x.2/\I64 x.1.deed/\
   Sl Ty.pt (fr w W (hro B vl (ς a n cap) L)) vp x.1.parts/\aI Ty.int (fun _=>none) W w.heap.size 3 x.2 x.1.heard:=by
 have hkl:=(List.getElem?_eq_some_iff.1 hk).1;have o:=b.opn;rw [hn] at o;obtain⟨g',cs,rfl,hR,hA⟩:=o.get ε k hkl;have hx:L[k]=x:=by rw [List.getElem?_eq_getElem hkl] at hk;exact Option.some.inj hk
 rw [hx] at hR;obtain⟨vp,rfl,hi,hp,-⟩:=hR;have hl:=b.opn.lt g' rfl;refine⟨g',vp,rfl,hl.1,hl.2,hA 0 _ rfl,hA 1 _ rfl,hA 2 _ rfl,hA 3 _ rfl,hi,?_,b.heard x (List.mem_of_getElem? hk)⟩;rw [hn];exact hp
theorem HR.decide {w W:World} {B:Nat} {vl:Value} {lg:List Rc} {L:List vW} {g n cap k:Nat} {x:vW} (b:HR w W B vl (ς (some ⟨g,0,none⟩) n cap) lg L) (hn:n=L.length) (hk:L[k]? =some x):
  HR w ((W.setCell ⟨g,k*4+2,none⟩ (.bool true)).setCell ⟨g,k*4+3,none⟩ (ς none 0 0)) B vl (ς (some ⟨g,0,none⟩) n cap) lg (L.set k (⟨x.1.deed,x.1.parts,true,[]⟩,ς none 0 0)):=by
 have gs:W.grownBy ((W.setCell ⟨g,k*4+2,none⟩ (.bool true)).setCell ⟨g,k*4+3,none⟩ (ς none 0 0)) (some g):=grownBy_trans (grownBy_setCell W ⟨g,k*4+2,none⟩ _) (grownBy_setCell _ ⟨g,k*4+3,none⟩ _);have hkl:=(List.getElem?_eq_some_iff.1 hk).1;have o1:=aI.JD (T:=Ty.J_) (x':=(⟨x.1.deed,x.1.parts,true,x.1.heard⟩,x.2)) b.opn hn hk (j:=2) ε (u:=.bool true) (fun cs hR=>by
  obtain⟨vp,rfl,h1,h2,h3⟩:=hR;exact⟨vp,rfl,h1,h2,h3⟩)
 have hk2:(L.set k (⟨x.1.deed,x.1.parts,true,x.1.heard⟩,x.2))[k]? =some (⟨x.1.deed,x.1.parts,true,x.1.heard⟩,x.2):=by rw [List.getElem?_set_self hkl]
 have o2:=aI.JD (T:=Ty.J_) (x':=(⟨x.1.deed,x.1.parts,true,[]⟩,ς none 0 0)) o1 (by rw [List.length_set];exact hn) hk2 (j:=3) ε (u:=ς none 0 0) (fun cs hR=>by
  obtain⟨vp,rfl,h1,h2,-⟩:=hR;exact⟨vp,rfl,h1,h2,rfl⟩)
 rw [List.set_set] at o2;refine b.put (jZ:=ς (some ⟨g,0,none⟩) n cap) gs (.inl rfl) o2 (fun y hy=>?_) ?_
 ·rcases List.mem_or_eq_of_mem_set hy with h|rfl
  ·exact .inl h
  ·exact .inr ⟨rfl,rfl⟩
 ·rw [List.map_set]
  have p:(L.map (·.2.ownBlock)).Pairwise Ie:=by
   have p:=b.ok.pw;unfold hro at p;simp only [List.pairwise_cons] at p;exact p.2.2.2
  rw [List.pairwise_iff_getElem];intro i j hi hj hij;rw [List.getElem_set,List.getElem_set];by_cases h1:k=i
  ·rw [if_pos h1];exact .inl rfl
  ·rw [if_neg h1]
   by_cases h2:k=j
   ·rw [if_pos h2];exact Ie.symm (.inl rfl)
   ·rw [if_neg h2]
    rw [List.length_set] at hi hj;exact List.pairwise_iff_getElem.1 p i j hi hj hij
theorem EW {c:CM} {w:World} {base g cap k:Nat} {L:List vW} (h:aI Ty.J_ c w base 58 (ς (some ⟨g,0,none⟩) L.length cap) L) (hk:k<L.length):
  Calls Tryz.prog 121 #[ς (some ⟨g,0,none⟩) L.length cap,ι k,ι ((k:Int)+1)] w fun e w'=>e=.returned (ς (some ⟨g,0,none⟩) (L.length - 1) cap)/\aI Ty.J_ c w' base 58 (ς (some ⟨g,0,none⟩) (L.length - 1) cap) (L.eraseIdx k)/\w.grownBy w' (some g):=by
 obtain⟨css,h1,h2,h3⟩:=h;refine(Ob (i:=k) h1 hk (fun u hu=>?_)).mono ?_
 ·obtain⟨cs,hcs,huc⟩:=List.mem_flatten.1 hu
  obtain⟨i,hi,rfl⟩:=List.mem_iff_getElem.1 hcs;exact yS _ _ _ (h3 i css[i] L[i] σ σ) u huc
 ·rintro e w' ⟨rfl,ho,hg⟩
  exact⟨rfl,aI.erase (T:=Ty.J_) h2 h3 (Sub.refl _) hk ho,hg⟩
theorem HR.erase {w W W2:World} {B:Nat} {vl jZ:Value} {lg:List Rc} {L:List vW} {g n cap k:Nat} (b:HR w W B vl (ς (some ⟨g,0,none⟩) n cap) lg L) (hg:W.grownBy W2 (some g)) (hv:jZ.ownBlock=some g)
  (ho:aI Ty.J_ (fr w W (hro B vl (ς (some ⟨g,0,none⟩) n cap) L)) W2 w.heap.size 58 jZ (L.eraseIdx k)):HR w W2 B vl jZ lg (L.eraseIdx k):=by
 refine b.put (jZ:=jZ) hg (.inl hv) ho (fun y hy=>.inl (List.mem_of_mem_eraseIdx hy)) ?_;have p:=b.ok.pw;unfold hro at p;simp only [List.pairwise_cons] at p;exact p.2.2.2.sublist ((List.eraseIdx_sublist _ _).map _)
theorem jm.perm {w W:World} {X Y:List (Option Nat)} (h:jm w W X) (hp:X.Perm Y):jm w W Y/\Sub (fr w W X) (fr w W Y):=
 h.less ((List.Perm.pairwise_iff (fun h=>Ie.symm h) hp).1 h.pw) fun _ hq=>hp.mem_iff.2 hq
theorem jm.cons {w W:World} {X:List (Option Nat)} {r:Option Nat} (h:jm w W X) (hr:∀q,r=some q->w.heap.size<=q/\q<W.heap.size/\some q∉X):jm w W (r::X):=by
 refine⟨List.pairwise_cons.2 ⟨fun u hu=>?_,h.pw⟩,fun q hq=>?_⟩
 ·cases r with
  |none=>exact .inl rfl
  |some q=>exact .inr fun e=>(hr q rfl).2.2 (e▸hu)
 ·rcases List.mem_cons.1 hq with e|hq
  ·have:=hr q e.symm;omega
  ·exact h.lt q hq
theorem HR.ahead {w W0 W:World} {B:Nat} {vl vo:Value} {lg:List Rc} {L:List vW} {r:Option Nat} (b:HR w W0 B vl vo lg L) (h0:Grow W0 W) (hr:∀q,r=some q->W0.heap.size<=q/\q<W.heap.size):
  jm w W (r::hro B vl vo L)/\Sub (fr w W0 (hro B vl vo L)) (fr w W (r::hro B vl vo L)):=by
 have hs:=h0.size;have hw:=b.grow.size;refine⟨(b.ok.later hs).cons fun q hq=>⟨by have:=hr q hq;omega,(hr q hq).2,fun hm=>by have:=(b.ok.lt q hm).2;have:=hr q hq;omega⟩,gZ fun k hk _ hx=>⟨h0.block k hk,fun hm=>?_⟩⟩;rcases List.mem_cons.1 hm with e|hm
 ·have:=(hr k e.symm).1;omega
 ·exact hx hm
theorem HR.snoc {w W0 W W2:World} {B:Nat} {vl vo jZ:Value} {lg:List Rc} {L:List vW} {x:vW} (b:HR w W0 B vl vo lg L) (h0:Grow W0 W) (hx:aI Ty.int (fun _=>none) W W0.heap.size 3 x.2 x.1.heard)
  (hg:W.grownBy W2 vo.ownBlock) (hb:jZ.ownBlock=vo.ownBlock∨∃g,jZ.ownBlock=some g/\W.heap.size<=g)
  (ho:aI Ty.J_ (fr w W (x.2.ownBlock::hro B vl vo L)) W2 w.heap.size 58 jZ (L++ [x])):HR w W2 B vl jZ lg (L++ [x]):=by
 obtain⟨j1,j2⟩:=b.ahead h0 hx.lt;have E9:(x.2.ownBlock::hro B vl vo L)[3]? =some vo.ownBlock:=rfl;obtain⟨k1,k2⟩:=j1.step E9 hg hb ho.lt;have e:(x.2.ownBlock::hro B vl vo L).set 3 jZ.ownBlock=x.2.ownBlock::hro B vl jZ L:=rfl;rw [e] at k1 k2;have hp:(x.2.ownBlock::hro B vl jZ L).Perm (hro B vl jZ (L++ [x])):=by
  have e2:hro B vl jZ (L++ [x])=hro B vl jZ L++ [x.2.ownBlock]:=by simp [hro]
  rw [e2];exact(List.perm_append_singleton _ _).symm
 obtain⟨m1,m2⟩:=k1.perm hp;have s:=k2.trans m2;have sz:=h0.size;refine⟨((((b.log.grow h0).kept hg (jR (b.ok.off (i:=1) (j:=2) rfl rfl ε))).mono j2).mono s),ho.mono s,fun y hy=>?_,m1,(b.grow.trans h0).grown hg (fun k hk=>(b.opn.lt k hk).1)⟩;rcases List.mem_append.1 hy with hy|hy
 ·obtain⟨i,hi,rfl⟩:=List.mem_iff_getElem.1 hy
  exact((b.heard _ hy).grow h0).kept hg (jR (b.ok.off (HR.iQ (List.getElem?_eq_getElem hi)) (j:=2) rfl δ))
 ·obtain rfl:=List.mem_singleton.1 hy
  refine(hx.base b.grow.size).kept hg ?_;cases h9:y.2.ownBlock with
  |none=>exact .inl rfl
  |some q=>
   refine .inr fun e9=>?_;have h1:=(hx.lt q h9).1;have h2:=(b.ok.lt q (by rw [e9];exact List.mem_of_getElem? (i:=2) rfl)).2;omega
theorem HR.start {w wc w1 W:World} {B:Nat} {vl:Value} {lg:List Rc} (h:aI Ty.rc (fr wc w1 [vl.ownBlock]) w1 wc.heap.size 79 vl lg) (hw:w.heap.size<=wc.heap.size) (hs:w1.heap.size<=W.heap.size)
  (hb:∀k,k<w1.heap.size->wc.heap.size<=k->k≠B/\W.heap[k]? =w1.heap[k]?) (hB:w.heap.size<=B/\B<W.heap.size) (hg:Grow w W):HR w W B vl (ς none 0 0) lg []:=by
 have hl:=h.lt;have hsub:Sub (fr wc w1 [vl.ownBlock]) (fr w W (hro B vl (ς none 0 0) [])):=fun a v e=>by
  have hlt:=World.block_lt_of_cell? w1 a (fF _ _ _ _ _ e);unfold fr at e;split at e
  ·cases e
  ·rename_i hn
   have h1:¬a.block<wc.heap.size:=fun hx=>hn (.inl hx);have h2:some a.block≠vl.ownBlock:=fun hx=>hn (.inr (by rw [hx];simp));obtain⟨h3,h4⟩:=hb a.block hlt δ;rw [gy δ (by
    unfold hro;simp only [List.map_nil,List.mem_cons,List.not_mem_nil,or_false,not_or];exact⟨fun e=>h3 (Option.some.inj e),h2,by simp [Value.ownBlock]⟩),World.cell?_of_block h4]
   exact e
 refine⟨((h.mono hsub).block fun k hk=>(hb k (hl k hk).2 (hl k hk).1).2).base hw,aI.nil _ _ _ _ _,fun x hx=>(by cases hx),⟨?_,fun q hq=>?_⟩,hg⟩
 ·unfold hro
  simp only [List.map_nil,List.pairwise_cons,List.mem_cons,List.not_mem_nil,or_false,List.Pairwise.nil,and_true,forall_eq,forall_eq_or_imp];refine⟨⟨Ie.symm ?_,Ie.symm (.inl rfl)⟩,Ie.symm (.inl rfl),fun _ h=>by cases h⟩;cases h9:vl.ownBlock with
  |none=>exact .inl rfl
  |some q=>exact .inr fun e=>(hb q (hl q h9).2 (hl q h9).1).1 (Option.some.inj e)
 ·unfold hro at hq
  simp only [List.map_nil,List.mem_cons,List.not_mem_nil,or_false] at hq;rcases hq with e|e|e
  ·have:=Option.some.inj e;omega
  ·have:=hl q e.symm;omega
  ·cases e
theorem HR.MR {w W W2:World} {B B':Nat} {vl vo:Value} {lg:List Rc} {L:List vW} (b:HR w W B vl vo lg L) (hg:Grow W W2) (h1:W.heap.size<=B') (h2:B'<W2.heap.size):HR w W2 B' vl vo lg L:=by
 have hw:=b.grow.size;have hsub:Sub (fr w W (hro B vl vo L)) (fr w W2 (hro B' vl vo L)):=gZ fun k hk _ hx=>⟨hg.block k hk,fun hm=>by
  unfold hro at hx hm;rcases List.mem_cons.1 hm with e|hm
  ·have:=Option.some.inj e;omega
  ·exact hx (List.mem_cons.2 (.inr hm))⟩
 refine⟨(b.log.mono hsub).grow hg,(b.opn.mono hsub).grow hg,fun x hx=>(b.heard x hx).grow hg,?_,b.grow.trans hg⟩;have p:=b.ok.pw;have l:=b.ok.lt;have sz:=hg.size;unfold hro at p l ⊢;rw [List.pairwise_cons] at p;refine jm.cons ⟨p.2,fun q hq=>?_⟩ fun q hq=>?_
 ·have:=l q (List.mem_cons.2 (.inr hq));omega
 ·obtain rfl:=Option.some.inj hq
  exact⟨δ,h2,fun hm=>by have:=(l B' (List.mem_cons.2 (.inr hm))).2;omega⟩
theorem aI.slb {α:Type} {T:Ty α} {c d:CM} (h0:0<T.size) {w:World} {base e:Nat} {v:Value} {l:List α} (h:aI T c w base e v l) (hs:Sub c d) (hd:∀a:Addr,v.ownBlock=some a.block->d a=w.cell? a):Sl T d v l:=by
 obtain⟨css,⟨hl,hs'⟩,h2,h3⟩:=h;have hcl:=jM h2 h3;rcases hs' with⟨rfl,hn⟩|⟨g,cap,cur,rfl,hg,hrow,hnc,hcm,hcs,htake⟩
 ·have:l=[]:=List.eq_nil_of_length_eq_zero hn
  subst this;exact⟨none,0,rfl,Nat.le_refl _,Nat.zero_le _,fun _=>rfl,fun i x e=>by simp at e⟩
 ·refine⟨some ⟨g,0,none⟩,cap,rfl,hnc,hcm,σ,fun i x e=>?_⟩
  have hi:i<l.length:=(List.getElem?_eq_some_iff.1 e).1;have hc:css[i]? =some css[i]:=List.getElem?_eq_getElem δ;refine⟨g,0,css[i],rfl,T.mono hs (h3 i _ x hc e),fun j u hu=>?_⟩;have hj:j<T.size:=by rw [<-hcl css[i] (List.getElem_mem _)];exact(List.getElem?_eq_some_iff.1 hu).1
  have hx:css.flatten[i*T.size+j]? =some u:=by
   rw [iT h0 css hcl,Nat.mul_comm,Nat.mul_add_div h0,Nat.div_eq_of_lt hj,Nat.add_zero,hc,Nat.mul_add_mod,Nat.mod_eq_of_lt hj];exact hu
  rw [<-htake,List.getElem?_take] at hx;rw [hd _ ρ];split at hx
  ·simp only [World.cell?,hrow];simpa using hx
  ·cases hx
theorem HR.past {w0 w W W2:World} {B A:Nat} {vl vo:Value} {lg:List Rc} {L:List vW} (b:HR w W B vl vo lg L) (h:Grow w0 w) (hg:W.grownBy W2 (some A)) (hA:w0.heap.size<=A/\A<w.heap.size):HR w0 W2 B vl vo lg L:=by
 have hs:=h.size;have ne:∀q,some q∈hro B vl vo L->q≠A:=fun q hq=>by have:=b.ok.lt q hq;omega
 have sub:Sub (fr w W (hro B vl vo L)) (fr w0 W2 (hro B vl vo L)):=(gZ (W0:=w) (w':=W2) (X':=hro B vl vo L) fun k hk h0 hx=>⟨hg.block k hk (fun e=>by have:=Option.some.inj e;omega),hx⟩).trans (xP hs);have off:∀{v:Value} {i:Nat},(hro B vl vo L)[i]? =some v.ownBlock->v.ownBlock=none∨v.ownBlock≠some A:=fun {v i} hi=>by
  cases e:v.ownBlock with
  |none=>exact .inl rfl
  |some q=>exact .inr fun e2=>ne q (by rw [<-e];exact List.mem_of_getElem? hi) (Option.some.inj e2)
 refine⟨((b.log.mono sub).base hs).kept hg (off (i:=1) rfl),((b.opn.mono sub).base hs).kept hg (off (i:=2) rfl),fun x hx=>?_,⟨b.ok.pw,fun q hq=>by have:=b.ok.lt q hq;have:=hg.size;omega⟩,(h.trans b.grow).grown hg (fun q hq=>by have:=Option.some.inj hq;omega)⟩;obtain⟨i,hi,rfl⟩:=List.mem_iff_getElem.1 hx;exact((b.heard _ hx).base hs).kept hg (off (HR.iQ (List.getElem?_eq_getElem hi)))
theorem Ig:(Tryz.prog.info? 23).map (·.size)=some 1:=by kernel_rfl
theorem lu {v:Value} {B:Nat} (h:∀q,v.ownBlock=some q->q≠B):v.ownBlock=none∨v.ownBlock≠some B:=by
 cases e:v.ownBlock with
 |none=>exact .inl rfl
 |some q=>exact .inr fun e2=>h q e (Option.some.inj e2)
theorem Zr {c:CM} {v:Value} {l:List Int} (h:Sl Ty.int c v l):∀x∈l,I64 x:=fun x hx=>by
 obtain⟨a,cap,rfl,-,-,-,hel⟩:=h;obtain⟨i,hi,rfl⟩:=List.mem_iff_getElem.1 hx;obtain⟨b,o,cs,-,⟨-,h9⟩,-⟩:=hel i _ (List.getElem?_eq_getElem hi);exact h9
theorem vF {v:Value} {h:Hd} (w:World) (hv:Of Ty.hd w.cell? v h) (hk:yR h) (hp:∀r∈h.log,r.parts.length*24<=140737488355328):
  Calls Tryz.prog 60 #[v] w fun e w'=>∃vl vo B L,e=.returned (.agg #[vl,ι h.aG,ι h.next,vo])/\L.map (·.1)=h.opn/\HR w w' B vl vo h.log L:=by
 obtain⟨al,cl,ar,cr,rfl⟩:=hv.dS;obtain⟨IK,IL,he,h1,h2,-,hel⟩:=(Of.lq hv).2;obtain⟨rfl,rfl⟩:ar=IK/\cr=IL:=by simpa using he
 unfold maxLen at h2;have CG:=η (fun(W:World) (hW:Grow w W)=>yA W ((Of.lq hv).1.mono hW.sub) (τ hk.log) hp);have Ye:=η hk.parts;have NA:=η hk.heard;have h12:=hk.opn;clear hk he hv hp;obtain⟨wa,cO⟩:∃y:World,y=w.alloc (.cells #[ς al h.log.length cl,ι h.aG,ι h.next,ς ar h.opn.length cr] 29):=⟨_,rfl⟩;obtain⟨wz,hwz⟩:∃y:World,y=wa.alloc (.cells #[(),ι 0,ι 0,()] 29):=⟨_,rfl⟩;have hsz:wa.heap.size=w.heap.size+1:=by rw [cO];simp
 have R1:Hid (wz.heap[w.heap.size]? =some (.cells #[ς al h.log.length cl,ι h.aG,ι h.next,ς ar h.opn.length cr] 29 (0,0))):=η (by rw [hwz,cO];exact aB (aF _ _) _);have R2:Hid (wz.heap[w.heap.size+1]? =some (.cells #[(),ι 0,ι 0,()] 29 (0,0))):=η (by rw [hwz,<-hsz];exact aF _ _);have G1:Hid (Grow w wz):=η (by rw [hwz,cO];exact((Grow.refl w).alloc _).alloc _);have HZ:Hid (wz.heap.size=w.heap.size+2):=η (by rw [hwz,cO];simp);have HS:Hid (∀W,Grow wz W->W.cell? ⟨w.heap.size,0,none⟩=some (ς al h.log.length cl)/\W.cell? ⟨w.heap.size,1,none⟩=some (ι h.aG)/\W.cell? ⟨w.heap.size,2,none⟩=some (ι h.next)):=fun W hW=>by
  obtain⟨j0,j1,j2,-⟩:=cells4 (aj R1.o hW);exact⟨j0,j1,j2⟩
 go_enter Tryz.func60,Tryz.ntmps60;go_upto_region 1 with fail
 rw [<-cO];try rw [hsz]
 rw [<-hwz];clear cO hwz hsz;go_cut [3,36] from 6 (fun s3 s36 wc=>s36=undef/\∃B3 a3 c3,s3=.pointer (some ⟨B3,0,none⟩)/\wc.heap[B3]? =some (.cells #[ς a3 h.log.length c3,ι h.aG,ι h.next,()] 29 (0,0))/\HR wz wc B3 (ς a3 h.log.length c3) (ς none 0 0) h.log [])
 case first=>
  refine Cm (fun w'=>w'.cell? ⟨w.heap.size,0,none⟩=some (ς al h.log.length cl)/\w'.cell? ⟨w.heap.size,1,none⟩=some (ι h.aG)/\w'.cell? ⟨w.heap.size,2,none⟩=some (ι h.next)) [9] κ ?_;intro wd GD zD;have ZD:=η zD;clear zD;refine lY [0,1,3,4,5,6] 12 κ (fun _ _ _ _ _ h=>h) (HS.o _ GD) ?_;repeat (refine gq ?_;try simp only [aK])
  refine lZ ?_;refine eE 2 8 κ rfl rfl ?_ ?_
  ·intro K HK
   try simp only [aV]
   go_simp;go_at_call 71
   refine(CG.o _ (G1.o.trans GD)).mono ?_;rintro e w1 ⟨vl,rfl,hol,hb1⟩;obtain⟨a3,c3,rfl⟩:=hol.form;have HOL:=η hol;have G2:=η (Grow.trans GD hb1);have FA:=η hb1;clear hol hb1;refine HK.o _ _ ⟨.inr (HS.o _ G2.o),?_⟩;clear HK K;try simp only [aK]
   refine lY [7] 12 κ (fun _ _ _ _ _ h=>h) (HS.o _ G2.o) ?_;repeat (refine gq ?_;try simp only [aK])
   refine lZ ?_;refine iR 8 κ rfl ?_;intro K HK;try simp only [aV]
   go_simp;obtain⟨w8,hw8⟩:∃y:World,y=w1.alloc (.cells #[(),ι 0,ι 0,()] 29):=⟨_,rfl⟩;obtain⟨B3,hB3⟩:∃B,B=w1.heap.size:=⟨_,rfl⟩;rw [<-hw8,<-hB3];have R3:Hid (w8.heap[B3]? =some (.cells #[(),ι 0,ι 0,()] 29 (0,0))):=η (by rw [hw8,hB3];exact aF _ _);have G8:Hid (Grow w1 w8):=η (by rw [hw8];exact(Grow.refl _).alloc _);have HB3:=η hB3;have NE:Hid (w8.heap.size=B3+1):=η (by rw [hw8,hB3];simp);have F8:=η (Grow.trans G2.o G8.o);clear hw8 hB3;refine HK.o _ _ ⟨.inr (HS.o _ F8.o),?_⟩;clear HK K;try simp only [aK]
   refine iR 9 κ rfl ?_;intro K HK;refine aC rfl ?_;try simp only [aV]
   refine wp_store_row (.tmp 3) (.tmp 13) rfl rfl rfl R3.o bU rfl rfl ?_;intro wc rc gc;refine HK.o _ _ ⟨.inl ε,?_⟩;clear HK K;try simp only [aK]
   refine wO κ ?_;go_wp2;go_meet
   case rel=>
    have z1:=HZ.o;have z2:=ZD.o;have z3:=NE.o;have z4:=HB3.o;have z5:=(F8.o).size;have z6:=gc.size;have z7:=FA.o.size;have GC:Grow wz wc:=(F8.o).grown gc (fun q hq=>by have:=Option.some.inj hq;omega);exact⟨rfl,B3,a3,c3,rfl,rc,HR.start HOL.o (τ ((GD).size)) δ (fun k h1 h2=>⟨δ,by rw [gc.block k δ (fun e=>by have:=Option.some.inj e;omega),G8.o.block k δ]⟩) δ GC⟩
  ·intro K HK
   try simp only [aV]
   go_simp;obtain⟨w8,hw8⟩:∃y:World,y=wd.alloc (.cells #[(),ι 0,ι 0,()] 29):=⟨_,rfl⟩;obtain⟨B3,hB3⟩:∃B,B=wd.heap.size:=⟨_,rfl⟩;rw [<-hw8,<-hB3];have R3:Hid (w8.heap[B3]? =some (.cells #[(),ι 0,ι 0,()] 29 (0,0))):=η (by rw [hw8,hB3];exact aF _ _);have G8:Hid (Grow wd w8):=η (by rw [hw8];exact(Grow.refl _).alloc _);have HB3:=η hB3;have NE:Hid (w8.heap.size=B3+1):=η (by rw [hw8,hB3];simp);have F8:=η (Grow.trans GD G8.o);clear hw8 hB3;refine HK.o _ _ ⟨.inr (HS.o _ F8.o),?_⟩;clear HK K;try simp only [aK]
   refine iR 2 κ rfl ?_;intro K HK;try simp only [aV]
   go_simp;go_at_call 71
   refine(CG.o _ (G1.o.trans F8.o)).mono ?_;rintro e w1 ⟨vl,rfl,hol,hb1⟩;obtain⟨a3,c3,rfl⟩:=hol.form;have HOL:=η hol;have G2:=η (Grow.trans F8.o hb1);have FA:=η hb1;clear hol hb1;have NF:=η (aj R3.o FA.o);refine HK.o _ _ ⟨.inr (HS.o _ G2.o),?_⟩;clear HK K;try simp only [aK]
   refine lY [7] 12 κ (fun _ _ _ _ _ h=>h) (HS.o _ G2.o) ?_;repeat (refine gq ?_;try simp only [aK])
   refine lZ ?_;refine iR 9 κ rfl ?_;intro K HK;refine aC rfl ?_;try simp only [aV]
   refine wp_store_row (.tmp 3) (.tmp 13) rfl rfl rfl NF.o bU rfl rfl ?_;intro wc rc gc;refine HK.o _ _ ⟨.inl ε,?_⟩;clear HK K;try simp only [aK]
   refine wO κ ?_;go_wp2;go_meet
   case rel=>
    have z1:=HZ.o;have z2:=ZD.o;have z3:=NE.o;have z4:=HB3.o;have z5:=(G2.o).size;have z6:=gc.size;have z7:=FA.o.size;have GC:Grow wz wc:=(G2.o).grown gc (fun q hq=>by have:=Option.some.inj hq;omega);exact⟨rfl,B3,a3,c3,rfl,rc,HR.start HOL.o (τ ((F8.o).size)) δ (fun k h1 h2=>⟨δ,gc.block k δ (fun e=>by have:=Option.some.inj e;omega)⟩) δ GC⟩
 case rest=>
 obtain⟨rfl,B3,a3,c3,rfl,r3,hr⟩:=hcut;have GC:=η hr.grow;have R1C:=η (aj R1.o GC.o);obtain⟨c0,c1,c2,c4⟩:=cells4 R1C.o;have z1:w.heap.size<wc:=(γ R1C.o);have R3:=η r3;have HR0:=η hr;clear HS r3 hr;go_wp2;clear c0 c1 c2 c4 z1;go_loopw [17] (fun i wr=>∃(ao:Option Addr) (co:Nat) (L:List vW),L.length<=h.opn.length/\i=ι L.length/\L.map (·.1)=h.opn.take L.length/\wr.heap[B3]? =some (.cells #[ς a3 h.log.length c3,ι h.aG,ι h.next,ς ao L.length co] 29 (0,0))/\HR wz wr B3 (ς a3 h.log.length c3) (ς ao L.length co) h.log L) (fun i _=>h.opn.length - (intOf i).toNat)
 case atStart=>exact⟨none,0,[],σ,rfl,rfl,R3.o,HR0.o⟩
 case round=>
  obtain⟨ao,co,L,hk',rfl,hL,hrow,hr⟩:=hrel;have HG:=η hr.grow;have HRW:=η hrow;have HRR:=η hr;have pB:=η hL;clear hrow hr hL;have GW:=η (G1.o.trans HG.o);by_cases hlt:L.length<h.opn.length
  ·have kY:Hid (h.opn.take (L.length+1)=h.opn.take L.length++ [h.opn[L.length]]):=η (by rw [List.take_succ_eq_append_getElem hlt])
   obtain⟨b,o,vp,vh,rfl,c0,c1,c2,c3',i0,hP,hH⟩:=Ci.at_ hel L.length hlt;obtain⟨ap,cp,rfl,-⟩:=id hP;obtain⟨ah,ch,rfl,-⟩:=id hH;have wT:=η (m_.ok (c:=w.cell?) hP);have HIO:=η (Zr hH);have HC1:=η (fun(W:World) (hW:Grow w W)=>pz W (hP.mono hW.sub) (τ (Ye.o _ (List.getElem_mem hlt))));have HC2:=η (fun(W:World) (hW:Grow w W)=>S9 W (hH.mono hW.sub) (τ (NA.o _ (List.getElem_mem hlt))));have HI0:=η i0;replace c0:=GW.o.sub _ _ c0;replace c1:=GW.o.sub _ _ c1;replace c2:=GW.o.sub _ _ c2;replace c3':=GW.o.sub _ _ c3';clear hel hP hH i0;generalize h.opn[L.length]=q at*;obtain⟨wx,rfl⟩:∃x:World,x=wr:=⟨_,rfl⟩;obtain⟨wo,hwo⟩:∃y:World,y=wx.alloc (.cells #[ι q.deed,ς ap q.parts.length cp,.bool q.dec,ς ah q.heard.length ch] 58):=⟨_,rfl⟩;have GO:Hid (Grow wx wo):=η (by rw [hwo];exact(Grow.refl _).alloc _);have eL:Hid (wo.heap.size=wx.heap.size+1):=η (by rw [hwo];simp);obtain⟨BO,Ro⟩:∃y,y=wx.heap.size:=⟨_,rfl⟩;have RO:Hid (wo.heap[BO]? =some (.cells #[ι q.deed,ς ap q.parts.length cp,.bool q.dec,ς ah q.heard.length ch] 58 (0,0))):=η (by rw [hwo,Ro];exact aF _ _);have UL:Hid (BO=wx.heap.size):=η Ro;have sU:Hid (B3<wx.heap.size):=η (γ HRW.o);have HS:Hid (∀W,Grow wo W->W.cell? ⟨BO,1,none⟩=some (ς ap q.parts.length cp)/\W.cell? ⟨BO,3,none⟩=some (ς ah q.heard.length ch)):=fun W hW=>by
    obtain⟨-,j1,-,j3⟩:=cells4 (aj RO.o hW);exact⟨j1,j3⟩
   go_upto_region 5 with fail
   rw [<-hwo,<-Ro];clear hwo Ro c0 c1 c2 c3';go_cut [36] from 21 (fun s36 wc=>s36=undef/\∃a5 c5 a6 c6,wc.heap[BO]? =some (.cells #[ι q.deed,ς a5 q.parts.length c5,.bool q.dec,ς a6 q.heard.length c6] 58 (0,0))/\aI Ty.pt (fun _=>none) wc wo.heap.size 111 (ς a5 q.parts.length c5) q.parts/\aI Ty.int (fun _=>none) wc wo.heap.size 3 (ς a6 q.heard.length c6) q.heard/\(∀g,(Value.slice a6 q.heard.length c6).ownBlock=some g->(Value.slice a5 q.parts.length c5).ownBlock≠some g)/\Grow wx wc)
   case first=>
    refine Cm (fun w'=>w'.cell? ⟨BO,1,none⟩=some (ς ap q.parts.length cp)/\w'.cell? ⟨BO,3,none⟩=some (ς ah q.heard.length ch)) [7,8,9] κ ?_;intro wd GD zD;have ZD:=η zD;clear zD;refine lY [0,1,3,4] 12 κ (fun _ _ _ _ _ h=>h) (HS.o _ GD) ?_;repeat (refine gq ?_;try simp only [aK])
    refine lZ ?_;refine iR 2 κ rfl ?_;intro K HK;try simp only [aV]
    go_simp;go_at_call 73
    refine(HC1.o _ (GW.o.trans (GO.o.trans GD))).mono ?_;rintro e w5 ⟨v5,rfl,kJ,hb5⟩;obtain⟨a5,c5,rfl⟩:=aY kJ;have l9:=η kJ;have G5:=η (Grow.trans GD hb5);clear kJ hb5;refine HK.o _ _ ⟨.inr (HS.o _ G5.o),?_⟩;clear HK K;try simp only [aK]
    refine lY [6] 12 κ (fun _ _ _ _ _ h=>h) (HS.o _ G5.o) ?_;repeat (refine gq ?_;try simp only [aK])
    refine lZ ?_;refine iR 5 κ rfl ?_;intro K HK;try simp only [aV]
    go_simp;go_at_call 101
    refine(HC2.o _ (GW.o.trans (GO.o.trans G5.o))).mono ?_;rintro e w6 ⟨v6,rfl,tX,hb6⟩;obtain⟨a6,c6,rfl⟩:=aY tX;have Bl:=η tX;have GB6:=η hb6;have G6:=η (Grow.trans G5.o hb6);clear tX hb6;refine HK.o _ _ ⟨.inr (HS.o _ G6.o),?_⟩;clear HK K;try simp only [aK]
    refine iR 7 κ rfl ?_;intro K HK;refine aC rfl ?_;try simp only [aV]
    refine aU (.tmp 27) (.tmp 23) (v:=ς a5 q.parts.length c5) (new:=#[ι q.deed,ς a5 q.parts.length c5,.bool q.dec,ς ah q.heard.length ch]) rfl rfl ρ ρ (aj RO.o G6.o) Ig σ ρ ρ ?_;intro w7 r7 g7;have WU:=η r7;have kE:=η g7;clear r7 g7;refine HK.o _ _ ⟨.inl ε,?_⟩;clear HK K;try simp only [aK]
    refine iR 8 κ rfl ?_;intro K HK;try simp only [aV]
    go_simp;refine HK.o _ _ ⟨.inl ε,?_⟩;clear HK K;try simp only [aK]
    refine iR 9 κ rfl ?_;intro K HK;refine aC rfl ?_;try simp only [aV]
    refine aU (.tmp 28) (.tmp 26) (v:=ς a6 q.heard.length c6) (new:=#[ι q.deed,ς a5 q.parts.length c5,.bool q.dec,ς a6 q.heard.length c6]) rfl rfl ρ ρ WU.o vV σ ρ ρ ?_;intro w9 r9 g9;refine HK.o _ _ ⟨.inl ε,?_⟩;clear HK K;try simp only [aK]
    refine wO κ ?_;go_wp2;go_meet
    case rel=>
     have z2:=ZD.o;have z3:=eL.o;have z4:=UL.o;have z6:=G6.o.size;have z9:=G5.o.size;have GX:Grow wx w9:=((GO.o.trans G6.o).grown kE.o (fun q hq=>by have:=Option.some.inj hq;omega)).grown g9 (fun q hq=>by have:=Option.some.inj hq;omega);have o5:=aI.pts (c:=fun _=>none) (g_ l9.o GB6.o) wT.o;have o6:=aI.ints (c:=fun _=>none) Bl.o HIO.o;have n5:∀q,(Value.slice a5 _ c5).ownBlock=some q->q≠BO:=fun q hq=>by have:=(o5.lt q hq).1;omega
     have n6:∀q,(Value.slice a6 _ c6).ownBlock=some q->q≠BO:=fun q hq=>by have:=(o6.lt q hq).1;omega
     have k5:=(o5.kept kE.o (lu n5)).kept g9 (lu n5);have k6:=(o6.kept kE.o (lu n6)).kept g9 (lu n6);exact⟨rfl,a5,c5,a6,c6,r9,k5.base δ,k6.base δ,fun q hq e=>by have:=(o6.lt q hq).1;have h5:=(aI.pts (c:=fun _=>none) l9.o wT.o).lt q e;omega,GX⟩
   case rest=>
   obtain⟨rfl,a5,c5,a6,c6,r9,o5,o6,hne,gx⟩:=hcut;have R9:=η r9;have O5:=η o5;have O6:=η o6;have og:=η hne;have GX:=η gx;have RB:=η (aj HRW.o GX.o);have zB:B3<wc.heap.size:=(γ RB.o);have zO:BO<wc.heap.size:=(γ R9.o);obtain⟨d0,d1,d2,d3⟩:=cells4 RB.o;obtain⟨e0,e1,e2,e3⟩:=cells4 R9.o;clear HS r9 o5 o6 hne gx;go_wp2_with (first|(at_builtin;refine aZ (c:=fr wz (wc.alloc (.cells #[ι q.deed,ς a5 q.parts.length c5,.bool q.dec,ς a6 q.heard.length c6] 58)) ((Value.slice a6 q.heard.length c6).ownBlock::hro B3 (ς a3 h.log.length c3) (ς ao L.length co) L)) (base:=wz.heap.size) (l:=L) (m:=[(q,ς a6 q.heard.length c6)]) h_ rfl yS ε rfl (.tmp 30) (.tmp 32) rfl rfl ?own rfl (Src.bQ (T:=Ty.J_) (x:=(q,ς a6 q.heard.length c6)) (cs:=#[ι q.deed,ς a5 q.parts.length c5,.bool q.dec,ς a6 q.heard.length c6]) ?d0 _ _ ?d1) ?d2 ?d3 ?_))
   case own=>exact HRR.o.opn.mono (HRR.o.ahead (W:=wc.alloc (.cells #[ι q.deed,ς a5 q.parts.length c5,.bool q.dec,ς a6 q.heard.length c6] 58)) (r:=(Value.slice a6 q.heard.length c6).ownBlock) (GX.o.alloc _) (fun p hp=>by have:=O6.o.lt p hp;have:=eL.o;simp;omega)).2|>.grow (GX.o.alloc _)
   case d0=>exact⟨_,rfl,HI0.o,(O5.o.grow ((Grow.refl _).alloc _)).slb ε (fun a v e=>by cases e) (fun a ha=>gy (by have:=O5.o.lt _ ha;have:=HG.o.size;have:=eL.o;omega) (fun hm=>by
     rcases List.mem_cons.1 hm with e|hm
     ·exact og.o _ e.symm ha
     ·have h8:=(HRR.o.ok.lt _ hm).2
      have:=(O5.o.lt _ ha).1;have:=eL.o;omega)),rfl⟩
   case d1=>first|rfl|simp
   case d2=>simp;omega
   case d3=>have:=HG.o.size;have:=GX.o.size;simp;omega
   intro a9 c9 w9 fB eF gI;have HRN:=η (HRR.o.snoc (GX.o.alloc (.cells #[ι q.deed,ς a5 q.parts.length c5,.bool q.dec,ς a6 q.heard.length c6] 58)) ((O6.o.base (τ eL.o)).grow ((Grow.refl _).alloc _)) eF (gI.imp_right fun⟨g,e,hge⟩=>⟨g,e,by simpa using hge⟩) fB);have rZ:=η (aH (aj RB.o ((Grow.refl _).alloc (.cells #[ι q.deed,ς a5 q.parts.length c5,.bool q.dec,ς a6 q.heard.length c6] 58))) eF (fun e=>by
    have:=HRR.o.ok.off (i:=0) (j:=2) rfl rfl ε;rcases this with e2|e2
    ·cases e2
    ·exact e2 e))
   have HN9:Hid (∀q,(Value.slice a9 (L.length+1) c9).ownBlock=some q->q≠B3):=η (fun p hp e=>by
    have:=HRN.o.ok.off (i:=0) (j:=2) rfl rfl ε;rcases this with e2|e2
    ·cases e2
    ·exact e2 (by rw [<-e];exact hp.symm))
   clear fB eF gI d0 d1 d2 d3 e0 e1 e2 e3 zB zO;go_wp2_with (first|(refine aN rfl (.tmp 34) (.tmp 33) (v:=ς a9 (L.length+1) c9) (new:=#[ς a3 h.log.length c3,ι h.aG,ι h.next,ς a9 (L.length+1) c9]) rfl rfl ρ ρ rZ.o eH σ ρ ρ ?_))
   intro wn rn gn;have HRZ:=η (HRN.o.box gn);have RZ:=η rn;clear rn gn;go_wp2;go_roundw
   case rel=>
    have hl:(L++ [((q:Opn),Value.slice a6 q.heard.length c6)]).length=L.length+1:=by simp
    refine⟨a9,c9,L++ [(q,ς a6 q.heard.length c6)],by rw [hl];omega,by rw [hl];go_num,?_,by rw [hl];exact RZ.o,by rw [hl];exact HRZ.o⟩;rw [hl,kY.o,List.map_append,pB.o];rfl
   case measure=>simp [intOf];omega
  ·have R2W:=η (aj R2.o HG.o)
   obtain⟨d0,d1,d2,d3⟩:=cells4 HRW.o;have zB:B3<wr.heap.size:=(γ HRW.o);have zR:w.heap.size+1<wr:=(γ R2W.o);clear hel;go_wp2_with (first|(refine wpList_store_row rfl (.tmp 2) (.tmp 36) rfl rfl rfl R2W.o bU rfl rfl ?_))
   intro wf rf gf;obtain⟨p0,p1,p2,p3⟩:=cells4 rf;go_wp2;refine bodyPost_ret (v:=.agg #[ς a3 h.log.length c3,ι h.aG,ι h.next,ς ao L.length co]) (by simp [results,Tryz.results60,go_sem,p0,p1,p2,p3]) rfl ?_;have hlm:=pB.o;rw [List.take_of_length_le δ] at hlm;exact⟨_,_,B3,L,rfl,hlm,HRR.o.past G1.o gf (τ HZ.o)⟩
structure F9 (l:List Pt):Prop where
 ne:l≠ []
 lt:∀p∈l,0<=p.h/\p.h<3
 len:l.length<=4
theorem BZ {d:Int} {v:Value} {l:List Pt} (w:World) (hv:m_ w.cell? v l) (hd:I64 d) (hr:F9 l):
  Calls Tryz.prog 86 #[ι d,v] w fun e w'=>∃v',e=.returned v'/\aI Ty.ms (fun _=>none) w' w.heap.size 85 v' (dG d l)/\Grow w w':=by
 have uy:=η (jB w hv (τ hr.len) hr.ne hr.lt);obtain⟨ap,cp,rfl,-⟩:=id hv;have HD:=η hd;clear hv hd hr;go_enter Tryz.func86,Tryz.ntmps86;go_wp2_with fail
 refine uy.o.mono ?_;rintro e w1 ⟨v1,rfl,ho1,hb1⟩;obtain⟨a1,c1,rfl⟩:=aY ho1;have hix:=nD ho1 (jI l);have G1:=η hb1;have HL:=η (iC l);have gE:Hid ((aX l).map (fun n=>(⟨5,d,n,[]⟩:Ms))=dG d l):=η rfl;clear ho1 hb1;generalize aX l=hs at*;obtain⟨a1',c1',he1,-,-,-,hel⟩:=hix;obtain⟨rfl,rfl⟩:a1=a1'/\c1=c1':=by simpa using he1
 clear he1;go_wp2;go_loopw [5,11] (fun s5 i wr=>∃k:Nat,k<=hs.length/\i=ι k/\Grow w1 wr/\aI Ty.ms (fun _=>none) wr w1.heap.size 85 s5 ((hs.take k).map (fun n=>(⟨5,d,n,[]⟩:Ms)))) (fun _ i _=>hs.length - (intOf i).toNat)
 case atStart=>exact⟨0,δ,rfl,Grow.refl _,aI.nil _ _ _ _ _⟩
 case round=>
  obtain⟨k,hk',rfl,hb,hown⟩:=hrel;have hl3:=HL.o;by_cases hlt:k<hs.length
  ·have kY:=η (MC (fun n=>(⟨5,d,n,[]⟩:Ms)) hlt)
   have FK:=η (show((hs.take k).map (fun n=>(⟨5,d,n,[]⟩:Ms))).length<=3 by rw [List.length_map,List.length_take];omega);obtain⟨bx,ox,rfl,x0,hni⟩:=Bd hel k hlt;replace x0:=hb.sub _ _ x0;have OY:=η hni;have HOWN:=η hown;have HB:=η hb;obtain⟨av,cv,rfl⟩:=hown.form;clear hown hb hel hni;generalize hs[k]=n at*;generalize (hs.take k).map (fun n=>(⟨5,d,n,[]⟩:Ms))=ms at*;go_wp2_with (first|(at_builtin;refine aZ (c:=fun _=>none) (base:=w1.heap.size) (l:=ms) (m:=[⟨5,d,n,[]⟩]) tN rfl kU ε rfl (.tmp 15) (.tmp 19) rfl rfl ?own rfl (Src.bQ (T:=Ty.ms) (x:=⟨5,d,n,[]⟩) (cs:=#[ι 5,ι d,ι n,()]) ⟨_,rfl,(show I64 5 from by unfold I64;decide),HD.o,OY.o,Sl.nil _ _⟩ _ _ ?d1) ?d2 ?d3 ?_))
   case own=>exact HOWN.o.grow ((Grow.refl _).alloc _)
   case d1=>first|rfl|simp
   case d2=>have:=FK.o;simp;omega
   case d3=>have:=HB.o.size;simp;omega
   intro a9 c9 w9 fB eF gI;have jL:Hid (Grow w1 w9):=η (bn (w0:=w1) (HB.o.alloc _) eF (fun q hq=>(HOWN.o.lt q hq).1));have iF:=η fB;clear fB eF gI;go_wp2;go_roundw
   case rel=>exact⟨k+1,δ,by go_num,jL.o,by rw [kY.o];exact iF.o⟩
   case measure=>simp [intOf];omega
  ·have HOWN:=η hown
   have HB:=η hb;clear hown hb hel;go_wp2;go_ret;have h9:=HOWN.o;rw [List.take_of_length_le δ,gE.o] at h9;exact⟨_,rfl,h9.base G1.o.size,G1.o.trans HB.o⟩
structure MS (w:World) (b p:Nat) (o:Opn) (ap:Option Addr) (cp:Nat) (ah:Option Addr) (ch:Nat):Prop where
 c0:w.cell? ⟨b,p,none⟩=some (ι o.deed)
 c1:w.cell? ⟨b,p+1,none⟩=some (ς ap o.parts.length cp)
 c2:w.cell? ⟨b,p+2,none⟩=some (.bool o.dec)
 c3:w.cell? ⟨b,p+3,none⟩=some (ς ah o.heard.length ch)
 i0:I64 o.deed
 parts:Sl Ty.pt w.cell? (ς ap o.parts.length cp) o.parts
 heard:Sl Ty.int w.cell? (ς ah o.heard.length ch) o.heard
theorem MS.grow {w W:World} {b p:Nat} {o:Opn} {ap:Option Addr} {cp:Nat} {ah:Option Addr} {ch:Nat} (h:MS w b p o ap cp ah ch) (hg:Grow w W):MS W b p o ap cp ah ch:=
 ⟨hg.sub _ _ h.c0,hg.sub _ _ h.c1,hg.sub _ _ h.c2,hg.sub _ _ h.c3,h.i0,h.parts.mono hg.sub,h.heard.mono hg.sub⟩
theorem Ar {b p:Nat} {o:Opn} {ap:Option Addr} {cp:Nat} {ah:Option Addr} {ch:Nat} (w:World) (ho:MS w b p o ap cp ah ch) (hr:F9 o.parts):
  Calls Tryz.prog 113 #[.pointer (some ⟨b,p,none⟩)] w fun e w'=>∃v',e=.returned v'/\aI Ty.ms (fr w w' [v'.ownBlock]) w' w.heap.size 85 v' (gG o)/\Grow w w':=by
 have uy:=η (jB w ho.parts (τ hr.len) hr.ne hr.lt);have sB:=η (fun(n:Int) (W:World) (hW:Grow w W)=>QV (n:=n) W (ho.parts.mono hW.sub) (τ hr.len));have sS:=η (fun(n:Int) (W:World) (hW:Grow w W)=>fC (n:=n) W (ho.heard.mono hW.sub));have HAT:=η ho;have Yd:=η (m_.ok ho.parts);obtain⟨c0,c1,c2,c3,-,-,-⟩:=ho;clear hr;go_enter Tryz.func113,Tryz.ntmps113;go_wp2_with fail
 refine uy.o.mono ?_;rintro e w1 ⟨v1,rfl,ho1,hb1⟩;obtain⟨a1,c1',rfl⟩:=aY ho1;have hix:=nD ho1 (jI o.parts);have G1:=η hb1;have HL:=η (iC o.parts);have gE:Hid (((aX o.parts).filter (qC o)).map (gV o)=gG o):=η rfl;clear ho1 hb1 c0 c1 c2 c3;generalize aX o.parts=hs at*;obtain⟨a1',d1',he1,-,-,-,hel⟩:=hix;obtain⟨rfl,rfl⟩:a1=a1'/\c1'=d1':=by simpa using he1
 clear he1;go_wp2;go_loopw [3,13] (fun s3 i wr=>∃k:Nat,k<=hs.length/\i=ι k/\Grow w1 wr/\aI Ty.ms (fr w1 wr [s3.ownBlock]) wr w1.heap.size 85 s3 (((hs.take k).filter (qC o)).map (gV o))) (fun _ i _=>hs.length - (intOf i).toNat)
 case atStart=>exact⟨0,δ,rfl,Grow.refl _,aI.nil _ _ _ _ _⟩
 case round=>
  obtain⟨k,hk',rfl,hb,hown⟩:=hrel;have hl3:=HL.o;by_cases hlt:k<hs.length
  ·have kY:=η (H8 (qC o) (gV o) hlt)
   have FK:=η (show(((hs.take k).filter (qC o)).map (gV o)).length<=3 by rw [List.length_map];exact Nat.le_trans (List.length_filter_le _ _) (by simp;omega));obtain⟨bx,ox,rfl,x0,hni⟩:=Bd hel k hlt;replace x0:=hb.sub _ _ x0;have OY:=η hni;have HOWN:=η hown;have HB:=η hb;have GW:=η (G1.o.trans hb);obtain⟨av,cv,rfl⟩:=hown.form;clear hown hb hel hni;generalize hs[k]=n at*;generalize ((hs.take k).filter (qC o)).map (gV o)=ms at*;obtain⟨wx,rfl⟩:∃x:World,x=wr:=⟨_,rfl⟩;obtain⟨c0,c1,c2,c3,i0,-,-⟩:=HAT.o.grow GW.o;have HI0:=η i0;have zb:b<wx.heap.size:=World.block_lt_of_cell? wx _ c0;clear i0;by_cases hd:o.dec=true
   ·have HCM:Hid (gV o n=⟨4,o.deed,n,[]⟩):=η (by unfold gV;rw [if_pos hd])
    rw [hd] at c2;have HS:Hid (Ty.ms.R (fun _=>none) [ι 4,ι o.deed,ι n,()] ⟨4,o.deed,n,[]⟩):=η ⟨_,rfl,(show I64 4 from by unfold I64;decide),HI0.o,OY.o,Sl.nil _ _⟩;have HDE:=η hd;clear hd;go_wp2_with fail
    refine(sS.o n _ (GW.o.alloc _)).mono ?_;rintro e w2 ⟨rfl,hb2⟩;have G2:=η (((Grow.refl wx).alloc _).trans hb2);have R5:=η (aj (aF wx (.cells #[ι 4,ι o.deed,ι n,()] 85)) hb2);clear hb2 c0 c1 c2 c3 x0;obtain⟨r0,r1,r2,r3⟩:=cells4 R5.o;have z1:wx.heap.size<w2:=(γ R5.o);by_cases hq:n∈o.heard
    ·have WJ:decide (n∈o.heard)=true:=decide_eq_true hq
     have HT:=η kY.o;rw [if_neg (by show¬qC o n=true;simp [qC,hq])] at HT;rw [WJ];clear hq;go_wp2;go_roundw
     case rel=>exact⟨k+1,δ,by go_num,HB.o.trans G2.o,by rw [HT.o];exact(HOWN.o.mono (dO G2.o)).grow G2.o⟩
     case measure=>simp [intOf];omega
    ·have WJ:decide (n∈o.heard)=false:=decide_eq_false hq
     have HT:=η kY.o;rw [if_pos (by show qC o n=true;simp [qC,hq]),HCM.o] at HT;rw [WJ];clear hq;go_wp2_with (first|(at_builtin;refine aZ (c:=fr w1 w2 [(Value.slice av ms.length cv).ownBlock]) (base:=w1.heap.size) (l:=ms) (m:=[⟨4,o.deed,n,[]⟩]) tN rfl kU ε rfl (.tmp 43) (.tmp 45) rfl rfl ?own rfl (Src.bQ (T:=Ty.ms) (x:=⟨4,o.deed,n,[]⟩) (cs:=#[ι 4,ι o.deed,ι n,()]) (Ty.ms.mono (fun _ _ e=>by cases e) HS.o) _ _ ?d1) ?d2 ?d3 ?_))
     case own=>exact((HOWN.o.mono (dO G2.o)).grow G2.o).grow ((Grow.refl _).alloc _)
     case d1=>first|rfl|simp
     case d2=>have:=FK.o;simp;omega
     case d3=>have:=HB.o.size;have:=G2.o.size;simp;omega
     intro a9 c9 w9 fB eF gI;have jL:Hid (Grow w1 w9):=η (bn (w0:=w1) ((HB.o.trans G2.o).alloc _) eF (fun q hq=>(HOWN.o.lt q hq).1));have iF:=η ((fB.mono (dO ((Grow.refl w2).alloc (.cells #[ι 4,ι o.deed,ι n,()] 85)))).mono (pF eF (gI.imp_right fun⟨g,e,hge⟩=>⟨g,e,by simpa using hge⟩)));clear fB eF gI;go_wp2;go_roundw
     case rel=>exact⟨k+1,δ,by go_num,jL.o,by rw [HT.o];exact iF.o⟩
     case measure=>simp [intOf];omega
   ·have hd':o.dec=false:=by simpa using hd
    have HCM:Hid (gV o n=⟨1,o.deed,n,jF o.parts n⟩):=η (by unfold gV;rw [if_neg hd]);rw [hd'] at c2;have HDE:=η hd';clear hd hd';go_wp2_with fail
    refine(sB.o n _ (GW.o.alloc _)).mono ?_;rintro e w5 ⟨v5,rfl,kJ,hb5⟩;obtain⟨a5,c5,rfl⟩:=kJ.form;have l9:=η kJ;have G5:=η (((Grow.refl wx).alloc _).trans hb5);have R5:=η (aj (aF wx (.cells #[ι 4,ι o.deed,ι n,()] 85)) hb5);have MV:Hid (∀q,(Value.slice a5 (jF o.parts n).length c5).ownBlock=some q->wx.heap.size+1<=q):=η (fun q hq=>by have:=(kJ.lt q hq).1;simpa using this);have NL:=η (HAT.o.grow (GW.o.trans G5.o));clear kJ hb5 c0 c1 c2 c3 x0;generalize jF o.parts n=pl at*;obtain⟨r0,r1,r2,r3⟩:=cells4 R5.o;obtain⟨c0,c1,c2,c3,-,-,-⟩:=NL.o;have zb5:b<w5.heap.size:=World.block_lt_of_cell? w5 _ c0;have og:Hid (b≠wx.heap.size):=η δ;have z1:wx.heap.size<w5:=(γ R5.o);go_wp2_with (first|(refine aN rfl (.tmp 34) _ (v:=ι 1) (new:=#[ι 1,ι o.deed,ι n,()]) rfl rfl ρ ρ R5.o oQ σ ρ ρ ?_))
    intro w6 r6 g6;have R6:=η r6;have QD:=η g6;clear r0 r1 r2 r3 c0 c1 c2 c3 z1 zb zb5 r6 g6;obtain⟨r0,r1,r2,r3⟩:=cells4 R6.o;have z1:wx.heap.size<w6:=(γ R6.o);go_wp2_with (first|(refine aN rfl (.tmp 35) (.tmp 33) (v:=ς a5 pl.length c5) (new:=#[ι 1,ι o.deed,ι n,ς a5 pl.length c5]) rfl rfl ρ ρ R6.o Ig σ ρ ρ ?_))
    intro w7 r7 g7;have R7:=η r7;have G7:Hid (Grow wx w7):=η ((G5.o.grown QD.o (fun q hq=>by have:=Option.some.inj hq;omega)).grown g7 (fun q hq=>by have:=Option.some.inj hq;omega));have uU:=η ((l9.o.kept QD.o (lu (fun q hq=>by have:=MV.o q hq;omega))).kept g7 (lu (fun q hq=>by have:=MV.o q hq;omega)));clear r0 r1 r2 r3 z1 r7 g7;obtain⟨r0,r1,r2,r3⟩:=cells4 R7.o;obtain⟨c0,c1,c2,c3,-,-,hh7⟩:=HAT.o.grow (GW.o.trans G7.o);have z1:wx.heap.size<w7:=(γ R7.o);have zb7:b<w7.heap.size:=World.block_lt_of_cell? w7 _ c0;clear hh7;go_wp2_with fail
    refine(sS.o n _ (GW.o.trans G7.o)).mono ?_;rintro e w2 ⟨rfl,hb2⟩;have G2:=η (G7.o.trans hb2);have R2:=η (aj R7.o hb2);have ql:=η (uU.o.grow hb2);clear hb2 c0 c1 c2 c3 r0 r1 r2 r3 z1 zb7;obtain⟨r0,r1,r2,r3⟩:=cells4 R2.o;have z1:wx.heap.size<w2:=(γ R2.o);by_cases hq:n∈o.heard
    ·have WJ:decide (n∈o.heard)=true:=decide_eq_true hq
     have HT:=η kY.o;rw [if_neg (by show¬qC o n=true;simp [qC,hq])] at HT;rw [WJ];clear hq;go_wp2;go_roundw
     case rel=>exact⟨k+1,δ,by go_num,HB.o.trans G2.o,by rw [HT.o];exact(HOWN.o.mono (dO G2.o)).grow G2.o⟩
     case measure=>simp [intOf];omega
    ·have WJ:decide (n∈o.heard)=false:=decide_eq_false hq
     have HT:=η kY.o;rw [if_pos (by show qC o n=true;simp [qC,hq]),HCM.o] at HT;rw [WJ];clear hq;go_wp2_with (first|(at_builtin;refine aZ (c:=fr w1 (w2.alloc (.cells #[ι 1,ι o.deed,ι n,ς a5 pl.length c5] 85)) [(Value.slice av ms.length cv).ownBlock]) (base:=w1.heap.size) (l:=ms) (m:=[⟨1,o.deed,n,pl⟩]) tN rfl kU ε rfl (.tmp 43) (.tmp 45) rfl rfl ?own rfl (Src.bQ (T:=Ty.ms) (x:=⟨1,o.deed,n,pl⟩) (cs:=#[ι 1,ι o.deed,ι n,ς a5 pl.length c5]) ?d0 _ _ ?d1) ?d2 ?d3 ?_))
     case own=>exact((HOWN.o.mono (dO (G2.o.alloc _))).grow (G2.o.alloc _))
     case d0=>exact⟨_,rfl,(show I64 1 from by unfold I64;decide),HI0.o,OY.o,(ql.o.grow ((Grow.refl _).alloc _)).slb ε (fun a v e=>by cases e) fun a ha=>gy (by have:=MV.o _ ha;have:=HB.o.size;omega) (by
      simp only [List.mem_singleton];intro e;have:=(HOWN.o.lt _ e.symm).2;have:=MV.o _ ha;omega)⟩
     case d1=>first|rfl|simp
     case d2=>have:=FK.o;simp;omega
     case d3=>have:=HB.o.size;have:=G2.o.size;simp;omega
     intro a9 c9 w9 fB eF gI;have jL:Hid (Grow w1 w9):=η (bn (w0:=w1) ((HB.o.trans G2.o).alloc _) eF (fun q hq=>(HOWN.o.lt q hq).1));have iF:=η (fB.mono (pF eF (gI.imp_right fun⟨g,e,hge⟩=>⟨g,e,by simpa using hge⟩)));clear fB eF gI;go_wp2;go_roundw
     case rel=>exact⟨k+1,δ,by go_num,jL.o,by rw [HT.o];exact iF.o⟩
     case measure=>simp [intOf];omega
  ·have HOWN:=η hown
   have HB:=η hb;clear hown hb hel;go_wp2;go_ret;have h9:=HOWN.o;rw [List.take_of_length_le δ,gE.o] at h9;exact⟨_,rfl,(h9.mono (xP G1.o.size)).base G1.o.size,G1.o.trans HB.o⟩
theorem JE {w W W2 w':World} {A:Nat} (hg:Grow w W) (hA:A<W.heap.size) (h2:W2.grownBy w' (some A)) (_:Grow W W2):Sub (ov (fun _=>none) W W2) (ov (fun _=>none) w w'):=fun a v e=>by
 have hs:=hg.size;unfold ov at e;split at e
 ·cases e
 ·rw [bH δ,dh h2 (World.block_lt_of_cell? W2 a e) δ];exact e
theorem Ur (w:World):Calls Tryz.prog 37 #[] w fun e w'=>∃v',e=.returned v'/\Of Ty.hd (ov (fun _=>none) w w') v' (bT [⟨4,0,[]⟩])/\Grow w w':=by
 obtain⟨wz,hwz⟩:∃y:World,y=w.alloc (.cells #[(),ι 0,ι 0,()] 29):=⟨_,rfl⟩;have R1:Hid (wz.heap[w.heap.size]? =some (.cells #[(),ι 0,ι 0,()] 29 (0,0))):=η (by rw [hwz];exact aF _ _);have G1:Hid (Grow w wz):=η (by rw [hwz];exact(Grow.refl w).alloc _);have sI:=η (Ho (wz.alloc (.cells #[ι 4,ι 0,()] 79)) (l:=[⟨4,0,[]⟩]) ((vC (c:=fun _=>none) wz (Nat.le_refl _)).slc (d:=(wz.alloc (.cells #[ι 4,ι 0,()] 79)).cell?) ε (fun _ _ e=>by cases e) fun _ _=>rfl) ε σ);go_enter Tryz.func37,Tryz.ntmps37;go_upto_region 1 with fail
 rw [<-hwz];clear hwz;go_wp2_with fail
 refine sI.o.mono ?_;rintro e w1 ⟨v1,rfl,hx,hb1⟩;obtain⟨al,cl,ar,cr,rfl⟩:=hx.dS;have R2:=η (aj (aj R1.o ((Grow.refl _).alloc _)) hb1);have HX:=η hx;have GB:=η hb1;clear hx hb1;go_wp2_with (first|(refine wpList_store_row rfl (.tmp 0) (.tmp 3) rfl rfl rfl R2.o bU rfl rfl ?_))
 intro w7 r7 g7;obtain⟨p0,p1,p2,p3⟩:=cells4 r7;go_wp2;refine bodyPost_ret (v:=.agg #[ς al (bT [⟨4,0,[]⟩]).log.length cl,ι (bT [⟨4,0,[]⟩]).aG,ι (bT [⟨4,0,[]⟩]).next,ς ar (bT [⟨4,0,[]⟩]).opn.length cr]) (by simp [results,Tryz.results37,go_sem,p0,p1,p2,p3]) rfl ?_;have z1:=(γ R1.o);exact⟨_,rfl,HX.o.mono (JE (G1.o.alloc _) (by simp;omega) g7 GB.o),((G1.o.alloc _).trans GB.o).grown g7 (fun q hq=>by have:=Option.some.inj hq;omega)⟩
theorem PE {v:Value} {h:Hd} (w:World) (hv:Of Ty.hd w.cell? v h) (hk:yR h) (hr:∀o∈h.opn,F9 o.parts):
  Calls Tryz.prog 84 #[v] w fun e w'=>∃v',e=.returned v'/\aI Ty.ms (fr w w' [v'.ownBlock]) w' w.heap.size 85 v' (pG h)/\Grow w w':=by
 obtain⟨al,cl,ar,cr,rfl⟩:=hv.dS;obtain⟨IK,IL,he,h1,h2,-,hel⟩:=(Of.lq hv).2;obtain⟨rfl,rfl⟩:ar=IK/\cr=IL:=by simpa using he
 unfold maxLen at h2;have zo:=η hr;have h12:=hk.opn;clear hk he hv hr;obtain⟨wz,hwz⟩:∃y:World,y=w.alloc (.cells #[ς al h.log.length cl,ι h.aG,ι h.next,ς ar h.opn.length cr] 29):=⟨_,rfl⟩;have R1:Hid (wz.heap[w.heap.size]? =some (.cells #[ς al h.log.length cl,ι h.aG,ι h.next,ς ar h.opn.length cr] 29 (0,0))):=η (by rw [hwz];exact aF _ _);have G1:Hid (Grow w wz):=η (by rw [hwz];exact(Grow.refl w).alloc _);go_enter Tryz.func84,Tryz.ntmps84;go_upto_region 2 with fail
 rw [<-hwz];clear hwz;obtain⟨c0,c1,c2,c3⟩:=cells4 R1.o;have z1:w.heap.size<wz:=(γ R1.o);go_wp2;clear c0 c1 c2 c3 z1;go_loopw [3,8] (fun s3 i wr=>∃k:Nat,k<=h.opn.length/\i=ι k/\Grow wz wr/\aI Ty.ms (fr wz wr [s3.ownBlock]) wr wz.heap.size 85 s3 ((h.opn.take k).flatMap gG)) (fun _ i _=>h.opn.length - (intOf i).toNat)
 case atStart=>exact⟨0,δ,rfl,Grow.refl _,aI.nil _ _ _ _ _⟩
 case round=>
  obtain⟨k,hk',rfl,hb,hown⟩:=hrel;by_cases hlt:k<h.opn.length
  ·obtain⟨b,o,vp,vh,rfl,c0,c1,c2,c3,i0,hP,hH⟩:=Ci.at_ hel k hlt
   obtain⟨ap,cp,rfl,-⟩:=id hP;obtain⟨ah,ch,rfl,-⟩:=id hH;have GW:=η (G1.o.trans hb);have HAS:=η (fun(W:World) (hW:Grow w W)=>Ar (o:=h.opn[k]) W ⟨hW.sub _ _ c0,hW.sub _ _ c1,hW.sub _ _ c2,hW.sub _ _ c3,i0,hP.mono hW.sub,hH.mono hW.sub⟩ (zo.o _ (List.getElem_mem hlt)));have kY:=η (H_ gG hlt);have FK:=η (show((h.opn.take k).flatMap gG).length<=36 by have:=pY tC (h.opn.take k);rw [List.length_take] at this;omega);have EM:=η (tC h.opn[k]);have HOWN:=η hown;have HB:=η hb;obtain⟨av,cv,rfl⟩:=hown.form;have R2:=η (aj R1.o hb);clear hel hP hH hown hb i0 c0 c1 c2 c3;generalize h.opn[k]=q at*;generalize (h.opn.take k).flatMap gG=ms at*;obtain⟨d0,d1,d2,d3⟩:=cells4 R2.o;have z1:w.heap.size<wr:=(γ R2.o);go_wp2_with fail
   refine(HAS.o _ GW.o).mono ?_;rintro e w4 ⟨v4,rfl,pO,hb4⟩;obtain⟨a4,c4,rfl⟩:=pO.form;have G4:=η hb4;have uq:=η (Rk (w:=wz) (row:=(Value.slice av ms.length cv).ownBlock) ε HB.o (fun q hq=>(HOWN.o.lt q hq).2) pO);have FB:=η ((HOWN.o.mono (dO G4.o)).grow G4.o);clear pO hb4 d0 d1 d2 d3 z1;generalize gG q=aq at*;go_wp2_with (first|(at_builtin;refine aZ (c:=fr wz w4 [(Value.slice av ms.length cv).ownBlock]) (base:=wz.heap.size) (l:=ms) (m:=aq) tN rfl kU ε rfl (.tmp 11) (.tmp 16) rfl rfl FB.o rfl uq.o ?d2 ?d3 ?_))
   case d2=>have:=FK.o;have:=EM.o;omega
   case d3=>have:=HB.o.size;have:=G4.o.size;omega
   intro a9 c9 w9 fB eF gI;have jL:Hid (Grow wz w9):=η (bn (w0:=wz) (HB.o.trans G4.o) eF (fun q hq=>(HOWN.o.lt q hq).1));have iF:=η (fB.mono (pF eF (gI.imp_right fun⟨g,e,hge⟩=>⟨g,e,by simpa using hge⟩)));clear fB eF gI;go_wp2;go_roundw
   case rel=>exact⟨k+1,δ,by go_num,jL.o,by rw [kY.o];exact iF.o⟩
   case measure=>simp [intOf];omega
  ·have HOWN:=η hown
   have HB:=η hb;clear hel hown hb;go_wp2;go_ret;have h9:=HOWN.o;rw [List.take_of_length_le δ] at h9;exact⟨_,rfl,(h9.mono (xP G1.o.size)).base G1.o.size,G1.o.trans HB.o⟩
theorem HR.head {w W:World} {B:Nat} {vl vo:Value} {h:Hd} {L:List vW} (b:HR w W B vl vo h.log L) (hl:L.map (·.1)=h.opn) (h1:I64 h.aG) (h2:I64 h.next):Of Ty.hd (ov (fun _=>none) w W) (.agg #[vl,ι h.aG,ι h.next,vo]) h:=by
 have e:=b.of h1 h2;rw [hl] at e;exact e
theorem HR.form {w W:World} {B:Nat} {vl vo:Value} {lg:List Rc} {L:List vW} (b:HR w W B vl vo lg L):∃al cl ao co,vl=ς al lg.length cl/\vo=ς ao L.length co:=by
 obtain⟨al,cl,rfl⟩:=b.log.form;obtain⟨ao,co,rfl⟩:=b.opn.form;exact⟨_,_,_,_,rfl,rfl⟩
theorem PG {v:Value} {h:Hd} (w:World) (hv:Of Ty.hd w.cell? v h) (hk:yR h) (hp:∀r∈h.log,r.parts.length*24<=140737488355328):
  Calls Tryz.prog 83 #[v] w fun e w'=>∃v',e=.returned (.tuple #[v',ι (ou h)])/\Of Ty.hd (ov (fun _=>none) w w') v' (jA h)/\Grow w w':=by
 obtain⟨al,cl,ar,cr,rfl⟩:=hv.dS;have nG:Hid (I64 h.aG/\I64 h.next):=η (by obtain⟨cs,he,_,_,rfl,_,h1,h2,_⟩:=hv;exact⟨h1,h2⟩);have HOW:=η (fun(W:World) (hW:Grow w W)=>vF W (hv.mono hW.sub) hk hp);have CG:=η (fun(W:World) (hW:Grow w W)=>yA W ((Of.lq hv).1.mono hW.sub) (τ hk.log) hp);have hll:=hk.log;have HP:=η hp;obtain⟨hb0,hb1⟩:=hk.aG;clear hk hv hp;obtain⟨wa,cO⟩:∃y:World,y=w.alloc (.cells #[ς al h.log.length cl,ι h.aG,ι h.next,ς ar h.opn.length cr] 29):=⟨_,rfl⟩;obtain⟨wz,hwz⟩:∃y:World,y=wa.alloc (.cells #[(),ι 0,ι 0,()] 29):=⟨_,rfl⟩;have hsz:wa.heap.size=w.heap.size+1:=by rw [cO];simp
 have R1:Hid (wz.heap[w.heap.size]? =some (.cells #[ς al h.log.length cl,ι h.aG,ι h.next,ς ar h.opn.length cr] 29 (0,0))):=η (by rw [hwz,cO];exact aB (aF _ _) _);have R2:Hid (wz.heap[w.heap.size+1]? =some (.cells #[(),ι 0,ι 0,()] 29 (0,0))):=η (by rw [hwz,<-hsz];exact aF _ _);have G1:Hid (Grow w wz):=η (by rw [hwz,cO];exact((Grow.refl w).alloc _).alloc _);have HZ:Hid (wz.heap.size=w.heap.size+2):=η (by rw [hwz,cO];simp);by_cases hb:19<h.aG
 ·have F5:Hid (jA h=h):=η (by unfold jA;rw [if_pos hb])
  have HE2:Hid (ou h=5):=η (by unfold ou;rw [if_pos hb]);have hb':20<=h.aG:=by omega
  go_enter Tryz.func83,Tryz.ntmps83;go_upto_region 1 with fail
  rw [<-cO];try rw [hsz]
  rw [<-hwz];clear cO hwz hsz;obtain⟨c0,c1,c2,c3⟩:=cells4 R1.o;have z1:w.heap.size<wz:=(γ R1.o);go_wp2_with fail
  refine(HOW.o _ G1.o).mono ?_;rintro e w1 ⟨vl,vo,B,L,rfl,hl,hr⟩;obtain⟨eU,eX,kN,kP,rfl,rfl⟩:=hr.form;have HRR:=η hr;have HL:=η hl;have R3:=η (aj R2.o hr.grow);clear hr hl c0 c1 c2 c3 z1;go_wp2_with (first|(refine wpList_store_row rfl (.tmp 2) (.tmp 8) rfl rfl rfl R3.o bU rfl rfl ?_))
  intro w7 r7 g7;obtain⟨p0,p1,p2,p3⟩:=cells4 r7;go_wp2;refine bodyPost_ret (v:=.tuple #[.agg #[ς eU h.log.length eX,ι h.aG,ι h.next,ς kN L.length kP],ι 5]) (by simp [results,Tryz.results83,go_sem,p0,p1,p2,p3]) rfl ?_;have hx:=HRR.o.past G1.o g7 (τ HZ.o);rw [F5.o,HE2.o];exact⟨_,rfl,hx.head HL.o nG.o.1 nG.o.2,hx.grow⟩
 ·have F5:Hid (jA h=bT (h.log++ [⟨4,0,[]⟩])):=η (by unfold jA;rw [if_neg hb])
  have HE2:Hid (ou h=0):=η (by unfold ou;rw [if_neg hb]);have hb':¬20<=h.aG:=by omega
  have NN:Hid (∀r∈h.log++ [(⟨4,0,[]⟩:Rc)],r.parts.length*24<=140737488355328):=η (fun r hr=>by
   rcases List.mem_append.1 hr with hr|hr
   ·exact HP.o r hr
   ·obtain rfl:=List.mem_singleton.1 hr;decide)
  have Am:Hid ((h.log++ [(⟨4,0,[]⟩:Rc)]).length=h.log.length+1):=η σ;go_enter Tryz.func83,Tryz.ntmps83;go_upto_region 1 with fail
  rw [<-cO];try rw [hsz]
  rw [<-hwz];clear cO hwz hsz;obtain⟨c0,c1,c2,c3⟩:=cells4 R1.o;have z1:w.heap.size<wz:=(γ R1.o);go_wp2_with fail
  refine(CG.o _ G1.o).mono ?_;rintro e w1 ⟨vl,rfl,hol,hb1⟩;obtain⟨a3,c3',rfl⟩:=hol.form;have HOL:=η hol;have G3:=η hb1;clear hol hb1 c0 c1 c2 c3 z1;go_wp2_with (first|(at_builtin;refine aZ (c:=fr wz w1 [(Value.slice a3 h.log.length c3').ownBlock]) (base:=wz.heap.size) (l:=h.log) (m:=[⟨4,0,[]⟩]) jv rfl eY ε rfl (.tmp 11) (.tmp 13) rfl rfl (HOL.o.grow ((Grow.refl _).alloc _)) rfl (Src.bQ (T:=Ty.rc) (x:=⟨4,0,[]⟩) (cs:=#[ι 4,ι 0,()]) ⟨_,rfl,(show I64 4 from by unfold I64;decide),fP,Sl.nil _ _⟩ _ _ ?d1) ?d2 ?d3 ?_))
  case d1=>first|rfl|simp
  case d2=>(try simp);omega
  case d3=>have:=G3.o.size;(try simp);omega
  intro a9 c9 w9 fB eF gI;have G9:=η (bn (w0:=wz) (G3.o.alloc _) eF (fun q hq=>(HOL.o.lt q hq).1));have MH:=η ((fB.mono ((dO ((Grow.refl w1).alloc (.cells #[ι 4,ι 0,()] 79))).trans (pF eF (gI.imp_right fun⟨g,e,hge⟩=>⟨g,e,by simpa using hge⟩)))).slc (d:=w9.cell?) ε (fF _ _ _) fun _ _=>rfl);have C_:=η (aj R2.o G9.o);clear fB eF gI;generalize h.log++ [(⟨4,0,[]⟩:Rc)]=lg at*;go_wp2_with fail
  refine(Ho (l:=lg) w9 ?hl (by rw [Am.o];omega) NN.o).mono ?_
  case hl=>first|exact MH.o|(have h9:=MH.o;rw [Am.o] at h9;simpa using h9)
  rintro e w10 ⟨v10,rfl,hx,iL⟩;obtain⟨eU,eX,kG,kH,rfl⟩:=hx.dS;have EN:=η (aj C_.o iL);have HX:=η hx;have gH:=η iL;have jc:=η (G9.o.trans iL);clear hx iL;go_wp2_with (first|(refine wpList_store_row rfl (.tmp 2) (.tmp 15) rfl rfl rfl EN.o bU rfl rfl ?_))
  intro w7 r7 g7;obtain⟨p0,p1,p2,p3⟩:=cells4 r7;go_wp2;refine bodyPost_ret (v:=.tuple #[.agg #[ς eU (bT lg).log.length eX,ι (bT lg).aG,ι (bT lg).next,ς kG (bT lg).opn.length kH],ι 0]) (by simp [results,Tryz.results83,go_sem,p0,p1,p2,p3]) rfl ?_;rw [F5.o,HE2.o];refine⟨_,rfl,?_,(G1.o.trans jc.o).grown g7 (fun q hq=>by simp at hq;omega)⟩;exact HX.o.mono (JE (G1.o.trans G9.o) (by have:=G9.o.size;have:=HZ.o;omega) g7 gH.o)
theorem Ih:(Tryz.prog.info? 58).map (·.size)=some 4:=by kernel_rfl
theorem MW {v vp:Value} {h:Hd} {P:List Pt} (w:World) (hv:Of Ty.hd w.cell? v h) (hp:m_ w.cell? vp P) (hk:yR h) (hlp:∀r∈h.log,r.parts.length*24<=140737488355328) (hP:F9 P):
  Calls Tryz.prog 77 #[v,vp] w fun e w'=>∃v1 v2,e=.returned (.tuple #[v1,v2,ι (nZ h)])/\Of Ty.hd (ov (fun _=>none) w w') v1 (iH h P)/\Sl Ty.ms (ov (fun _=>none) w w') v2 (jK h P)/\Grow w w':=by
 obtain⟨al,cl,ar,cr,rfl⟩:=hv.dS;obtain⟨ap,cp,rfl,-⟩:=id hp;have nG:Hid (I64 h.aG/\I64 h.next):=η (by obtain⟨cs,he,_,_,rfl,_,h1,h2,_⟩:=hv;exact⟨h1,h2⟩);have HOW:=η (fun(W:World) (hW:Grow w W)=>vF W (hv.mono hW.sub) hk hlp);have CS:=η (fun(W:World) (hW:Grow w W)=>pz W (hp.mono hW.sub) (τ hP.len));have wT:=η (m_.ok hp);have zo:=η hP;have h12:=hk.opn;obtain⟨hb0,hb1⟩:=hk.aG;obtain⟨hn0,hn1⟩:=hk.next;clear hk hv hp hP hlp;obtain⟨wa,cO⟩:∃y:World,y=w.alloc (.cells #[ς al h.log.length cl,ι h.aG,ι h.next,ς ar h.opn.length cr] 29):=⟨_,rfl⟩;obtain⟨wz,hwz⟩:∃y:World,y=wa.alloc (.cells #[(),ι 0,ι 0,()] 29):=⟨_,rfl⟩;have hsz:wa.heap.size=w.heap.size+1:=by rw [cO];simp
 have R1:Hid (wz.heap[w.heap.size]? =some (.cells #[ς al h.log.length cl,ι h.aG,ι h.next,ς ar h.opn.length cr] 29 (0,0))):=η (by rw [hwz,cO];exact aB (aF _ _) _);have R2:Hid (wz.heap[w.heap.size+1]? =some (.cells #[(),ι 0,ι 0,()] 29 (0,0))):=η (by rw [hwz,<-hsz];exact aF _ _);have G1:Hid (Grow w wz):=η (by rw [hwz,cO];exact((Grow.refl w).alloc _).alloc _);have HZ:Hid (wz.heap.size=w.heap.size+2):=η (by rw [hwz,cO];simp);go_enter Tryz.func77,Tryz.ntmps77;go_upto_region 1 with fail
 rw [<-cO];try rw [hsz]
 rw [<-hwz];clear cO hwz hsz;obtain⟨c0,c1,c2,c3⟩:=cells4 R1.o;have z1:w.heap.size<wz:=(γ R1.o);go_wp2_with fail
 refine(HOW.o _ G1.o).mono ?_;rintro e w1 ⟨vl,vo,B0,L,rfl,hl,hr0⟩;obtain⟨ag,cg,ao,co,rfl,rfl⟩:=hr0.form;have HL:=η hl;have HR0:=η hr0;clear hr0 hl c0 c1 c2 c3 z1;obtain⟨w2,hw2⟩:∃y:World,y=w1.alloc (.cells #[ς ag h.log.length cg,ι h.aG,ι h.next,ς ao L.length co] 29):=⟨_,rfl⟩;obtain⟨B7,yL⟩:∃y,y=w1.heap.size:=⟨_,rfl⟩;have R7:Hid (w2.heap[B7]? =some (.cells #[ς ag h.log.length cg,ι h.aG,ι h.next,ς ao L.length co] 29 (0,0))):=η (by rw [hw2,yL];exact aF _ _);have HRR:Hid (HR wz w2 B7 (ς ag h.log.length cg) (ς ao L.length co) h.log L):=η (HR0.o.MR (by rw [hw2];exact(Grow.refl _).alloc _) δ (by rw [hw2,yL];simp));have wP:Hid (L.length=h.opn.length):=η (by rw [<-HL.o];simp);have R12:=η (aj R1.o HRR.o.grow);have Gf:=η (aj R2.o HRR.o.grow);go_upto_region 2 with fail
 rw [<-hw2,<-yL];clear hw2 yL;obtain⟨c0,c1,c2,c3'⟩:=cells4 R12.o;obtain⟨d0,d1,d2,d3⟩:=cells4 R7.o;have z1:w.heap.size<w2:=(γ R12.o);have z7:B7<w2.heap.size:=(γ R7.o);have zr:w.heap.size+1<w2:=(γ Gf.o);by_cases hf1:11<h.opn.length
 ·obtain⟨e1,e2,e3⟩:=mX (P:=P) (show oz h=true from decide_eq_true (.inl hf1))
  have F5:=η e1;have HE2:=η e2;have IX:=η e3;have Uj:(12:Int)<=(h.opn.length:Int):=by omega
  clear e1 e2 e3 hf1;go_wp2_with (first|(refine wpList_store_row rfl (.tmp 4) (.tmp 20) rfl rfl rfl Gf.o bU rfl rfl ?_))
  intro w7 r7 g7;obtain⟨p0,p1,p2,p3⟩:=cells4 r7;go_wp2;refine bodyPost_ret (v:=.tuple #[.agg #[ς ag h.log.length cg,ι h.aG,ι h.next,ς ao L.length co],(),ι 9]) (by simp [results,Tryz.results77,go_sem,p0,p1,p2,p3]) rfl ?_;have hx:=HRR.o.past G1.o g7 (τ HZ.o);rw [F5.o,HE2.o,IX.o];exact⟨_,_,rfl,hx.head HL.o nG.o.1 nG.o.2,Sl.nil _ _,hx.grow⟩
 by_cases hf2:63<h.next
 ·obtain⟨e1,e2,e3⟩:=mX (P:=P) (show oz h=true from decide_eq_true (.inr hf2))
  have F5:=η e1;have HE2:=η e2;have IX:=η e3;have Uj:¬(12:Int)<=(h.opn.length:Int):=by omega
  have xD:(64:Int)<=h.next:=by omega
  clear e1 e2 e3 hf1 hf2;go_wp2_with (first|(refine wpList_store_row rfl (.tmp 4) (.tmp 20) rfl rfl rfl Gf.o bU rfl rfl ?_))
  intro w7 r7 g7;obtain⟨p0,p1,p2,p3⟩:=cells4 r7;go_wp2;refine bodyPost_ret (v:=.tuple #[.agg #[ς ag h.log.length cg,ι h.aG,ι h.next,ς ao L.length co],(),ι 9]) (by simp [results,Tryz.results77,go_sem,p0,p1,p2,p3]) rfl ?_;have hx:=HRR.o.past G1.o g7 (τ HZ.o);rw [F5.o,HE2.o,IX.o];exact⟨_,_,rfl,hx.head HL.o nG.o.1 nG.o.2,Sl.nil _ _,hx.grow⟩
 obtain⟨e1,e2,e3⟩:=MI (P:=P) (show oz h=false from decide_eq_false δ);have F5:=η e1;have HE2:=η e2;have IX:=η e3;have Uj:¬(12:Int)<=(h.opn.length:Int):=by omega
 have xD:¬(64:Int)<=h.next:=by omega
 have hw1:IntKind.i64.wrap (64*h.aG)=64*h.aG:=IntWalk.i64_in _ δ;have hw2:IntKind.i64.wrap (64*h.aG+h.next)=64*h.aG+h.next:=IntWalk.i64_in _ δ;have hw3:IntKind.i64.wrap (h.next+1)=h.next+1:=IntWalk.i64_in _ δ;have WR:Hid (I64 (64*h.aG+h.next)):=η (iW δ δ);have OY:Hid (I64 (h.next+1)):=η (iW δ δ);have Js:Hid (h.opn.length<=11):=η δ;clear e1 e2 e3 hf1 hf2;have HS:Hid (∀W,Grow w2 W->W.cell? ⟨w.heap.size,1,none⟩=some (ι h.aG)/\W.cell? ⟨w.heap.size,2,none⟩=some (ι h.next)):=fun W hW=>by
  obtain⟨-,j1,j2,-⟩:=cells4 (aj R12.o hW);exact⟨j1,j2⟩
 go_upto_region 4 with fail
 clear c0 c1 c2 c3' d0 d1 d2 d3 z1 z7 zr Uj xD;go_cut [8] from 21 (fun s8 wc=>∃B8 a8 c8 dd,dd=64*h.aG+h.next/\s8=.pointer (some ⟨B8,0,none⟩)/\wc.heap[B8]? =some (.cells #[ι dd,ς a8 P.length c8,.bool false,()] 58 (0,0))/\aI Ty.pt (fun _=>none) wc w2.heap.size 111 (ς a8 P.length c8) P/\w2.heap.size<=B8/\Grow w2 wc)
 case first=>
  refine Cm (fun w'=>w'.cell? ⟨w.heap.size,1,none⟩=some (ι h.aG)/\w'.cell? ⟨w.heap.size,2,none⟩=some (ι h.next)) [10] κ ?_;intro wd GD zD;have ZD:=η zD;clear zD;refine lY [0,1,2,3,4,5,6] 13 κ (fun _ _ _ _ _ h=>h) (HS.o _ GD) ?_;repeat (refine gq ?_;try simp only [aK])
  refine lZ ?_;refine eE 7 9 κ rfl rfl ?_ ?_
  ·intro K HK
   try simp only [aV]
   go_simp;go_at_call 73
   refine(CS.o _ (G1.o.trans (HRR.o.grow.trans GD))).mono ?_;rintro e w5 ⟨v5,rfl,kJ,hb5⟩;obtain⟨a8,c8,rfl⟩:=aY kJ;have l9:=η (aI.pts (c:=fun _=>none) kJ wT.o);have UM:=η hb5;have G5:=η (Grow.trans GD hb5);clear kJ hb5;refine HK.o _ _ ⟨.inr (HS.o _ G5.o),?_⟩;clear HK K;try simp only [aK]
   refine lY [8] 13 κ (fun _ _ _ _ _ h=>h) (HS.o _ G5.o) ?_;repeat (refine gq ?_;try simp only [aK])
   refine lZ ?_;refine iR 9 κ rfl ?_;intro K HK;try simp only [aV]
   go_simp;obtain⟨w6,hw6⟩:∃y:World,y=w5.alloc (.cells #[ι 0,(),.bool false,()] 58):=⟨_,rfl⟩;obtain⟨B8,Rq⟩:∃B,B=w5.heap.size:=⟨_,rfl⟩;rw [<-hw6,<-Rq];have R8:Hid (w6.heap[B8]? =some (.cells #[ι 0,(),.bool false,()] 58 (0,0))):=η (by rw [hw6,Rq];exact aF _ _);have G6:Hid (Grow w5 w6):=η (by rw [hw6];exact(Grow.refl _).alloc _);have b9:=η Rq;have pC:Hid (w6.heap.size=B8+1):=η (by rw [hw6,Rq];simp);have Xn:=η (Grow.trans G5.o G6.o);clear hw6 Rq;refine HK.o _ _ ⟨.inr (HS.o _ Xn.o),?_⟩;clear HK K;try simp only [aK]
   refine iR 10 κ rfl ?_;intro K HK;refine aC rfl ?_;try simp only [aV]
   refine wp_store_row (.tmp 8) (.tmp 29) rfl rfl rfl R8.o Ih rfl rfl ?_;intro wc rc gc;refine HK.o _ _ ⟨.inl ε,?_⟩;clear HK K;try simp only [aK]
   refine wO κ ?_;go_wp2;go_meet
   case rel=>
    have z2:=ZD.o;have z3:=b9.o;have z5:=UM.o.size;have z6:=pC.o;exact⟨B8,a8,c8,_,rfl,rfl,rc,((l9.o.grow G6.o).kept gc (lu fun q hq=>by have:=l9.o.lt q hq;omega)).base δ,δ,(Xn.o).grown gc (fun q hq=>by have:=Option.some.inj hq;omega)⟩
  ·intro K HK
   try simp only [aV]
   go_simp;obtain⟨w6,hw6⟩:∃y:World,y=wd.alloc (.cells #[ι 0,(),.bool false,()] 58):=⟨_,rfl⟩;obtain⟨B8,Rq⟩:∃B,B=wd.heap.size:=⟨_,rfl⟩;rw [<-hw6,<-Rq];have R8:Hid (w6.heap[B8]? =some (.cells #[ι 0,(),.bool false,()] 58 (0,0))):=η (by rw [hw6,Rq];exact aF _ _);have G6:Hid (Grow wd w6):=η (by rw [hw6];exact(Grow.refl _).alloc _);have b9:=η Rq;have pC:Hid (w6.heap.size=B8+1):=η (by rw [hw6,Rq];simp);have Xn:=η (Grow.trans GD G6.o);clear hw6 Rq;refine HK.o _ _ ⟨.inr (HS.o _ Xn.o),?_⟩;clear HK K;try simp only [aK]
   refine iR 7 κ rfl ?_;intro K HK;try simp only [aV]
   go_simp;go_at_call 73
   refine(CS.o _ (G1.o.trans (HRR.o.grow.trans Xn.o))).mono ?_;rintro e w5 ⟨v5,rfl,kJ,hb5⟩;obtain⟨a8,c8,rfl⟩:=aY kJ;have l9:=η (aI.pts (c:=fun _=>none) kJ wT.o);have UM:=η hb5;have G5:=η (Grow.trans Xn.o hb5);clear kJ hb5;have R85:=η (aj R8.o UM.o);refine HK.o _ _ ⟨.inr (HS.o _ G5.o),?_⟩;clear HK K;try simp only [aK]
   refine lY [8] 13 κ (fun _ _ _ _ _ h=>h) (HS.o _ G5.o) ?_;repeat (refine gq ?_;try simp only [aK])
   refine lZ ?_;refine iR 10 κ rfl ?_;intro K HK;refine aC rfl ?_;try simp only [aV]
   refine wp_store_row (.tmp 8) (.tmp 29) rfl rfl rfl R85.o Ih rfl rfl ?_;intro wc rc gc;refine HK.o _ _ ⟨.inl ε,?_⟩;clear HK K;try simp only [aK]
   refine wO κ ?_;go_wp2;go_meet
   case rel=>
    have z2:=ZD.o;have z3:=b9.o;have z5:=UM.o.size;have z6:=pC.o;exact⟨B8,a8,c8,_,rfl,rfl,rc,(l9.o.kept gc (lu fun q hq=>by have:=l9.o.lt q hq;omega)).base δ,δ,(G5.o).grown gc (fun q hq=>by have:=Option.some.inj hq;omega)⟩
 case rest=>
 obtain⟨B8,a8,c8,dd,hdd,rfl,r8,o8,Rq,gx⟩:=hcut;obtain⟨w4,rfl⟩:∃y:World,y=wc:=⟨_,rfl⟩;rw [<-hdd] at WR;have UK:=η hdd;have R8:=η r8;have O8:=η o8;have b9:=η Rq;have GX:=η gx;have HR4:=η (HRR.o.later gx);have Yj:=η (aj R7.o gx);have pD:=η (γ R7.o);clear HS hdd r8 o8 Rq gx hw1 hw2;have HS:Hid (∀W:World,W.heap[B7]? =w4.heap[B7]?->W.heap[B8]? =w4.heap[B8]?->W.cell? ⟨B7,2,none⟩=some (ι h.next)/\W.cell? ⟨B8,0,none⟩=some (ι dd)/\W.cell? ⟨B8,1,none⟩=some (ς a8 P.length c8)/\W.cell? ⟨B8,2,none⟩=some (.bool false)/\W.cell? ⟨B8,3,none⟩=some (ς none 0 0)):=fun W e7 e8=>by
  obtain⟨-,-,j2,-⟩:=cells4 (e7.trans Yj.o);obtain⟨k0,k1,k2,k3⟩:=cells4 (e8.trans R8.o);exact⟨j2,k0,k1,k2,k3⟩
 have NQ:Hid (∀W,Grow w4 W->W.cell? ⟨B7,2,none⟩=some (ι h.next)/\W.cell? ⟨B8,0,none⟩=some (ι dd)/\W.cell? ⟨B8,1,none⟩=some (ς a8 P.length c8)/\W.cell? ⟨B8,2,none⟩=some (.bool false)/\W.cell? ⟨B8,3,none⟩=some (ς none 0 0)):=fun W hW=>
  HS.o W (hW.block _ (γ Yj.o)) (hW.block _ (γ R8.o))
 go_upto_region 5 with fail
 go_cut [] from 30 (fun wc=>∃a9 c9,wc.heap[B7]? =some (.cells #[ς ag h.log.length cg,ι h.aG,ι (h.next+1),ς a9 (L.length+1) c9] 29 (0,0))/\HR wz wc B7 (ς ag h.log.length cg) (ς a9 (L.length+1) c9) h.log (L++ [((⟨dd,P,false,[]⟩:Opn),ς none 0 0)])/\MS wc B8 0 (⟨dd,P,false,[]⟩:Opn) a8 c8 none 0)
 case first=>
  refine Cm (fun w'=>w'.cell? ⟨B7,2,none⟩=some (ι h.next)/\w'.cell? ⟨B8,0,none⟩=some (ι dd)/\w'.cell? ⟨B8,1,none⟩=some (ς a8 P.length c8)/\w'.cell? ⟨B8,2,none⟩=some (.bool false)/\w'.cell? ⟨B8,3,none⟩=some (ς none 0 0)) [11] κ ?_;intro wd GD zD;have ZD:=η zD;clear zD;refine lY [0,2,5,6,7] 14 κ (fun _ _ _ _ _ h=>h) (NQ.o _ GD) ?_;repeat (refine gq ?_;try simp only [aK])
  refine lZ ?_;refine eE 1 3 κ rfl rfl ?_ ?_
  ·intro K HK
   try simp only [aV]
   obtain⟨-,-,-,d3⟩:=cells4 (aj Yj.o GD);have z7:B7<wd.heap.size:=World.block_lt_of_cell? _ _ d3;go_simp;clear d3 z7;refine HK.o _ _ ⟨.inr (NQ.o _ GD),?_⟩;clear HK K;try simp only [aK]
   refine iR 3 κ rfl ?_;intro K HK;try simp only [aV]
   go_simp;obtain⟨w6,hw6⟩:∃y:World,y=wd.alloc (.cells #[ι dd,ς a8 P.length c8,.bool false,()] 58):=⟨_,rfl⟩;have G6:Hid (Grow w4 w6):=η (by rw [hw6];exact GD.alloc _);have Dc:=η (HR4.o.ahead (r:=none) G6.o (fun q hq=>by cases hq));have uq:Hid (Src Ty.J_ (fr wz w6 (none::hro B7 (ς ag h.log.length cg) (ς ao L.length co) L)) w6 (ς (some ⟨wd.heap.size,0,none⟩) 1 1) [((⟨dd,P,false,[]⟩:Opn),ς none 0 0)]):=η (by
    have z2:=HRR.o.grow.size;have hsl:Sl Ty.pt (fr wz w6 (none::hro B7 (ς ag h.log.length cg) (ς ao L.length co) L)) (ς a8 P.length c8) P:=(O8.o.grow G6.o).slb ε (fun a v e=>by cases e) fun a ha=>gy (τ (O8.o.lt _ ha)) (fun hm=>by
     rcases List.mem_cons.1 hm with e|hm
     ·cases e
     ·have:=(HRR.o.ok.lt _ hm).2;have:=O8.o.lt _ ha;omega)
    rw [hw6] at hsl ⊢;exact Src.bQ (T:=Ty.J_) (x:=((⟨dd,P,false,[]⟩:Opn),ς none 0 0)) (cs:=#[ι dd,ς a8 P.length c8,.bool false,()]) ⟨_,rfl,WR.o,hsl,rfl⟩ _ _ rfl)
   rw [<-hw6];clear hw6;refine HK.o _ _ ⟨.inr (NQ.o _ G6.o),?_⟩;clear HK K;try simp only [aK]
   refine iR 4 κ rfl ?_;intro K HK;refine aC rfl ?_;try simp only [aV]
   refine dD (c:=fr wz w6 (none::hro B7 (ς ag h.log.length cg) (ς ao L.length co) L)) (base:=wz.heap.size) (l:=L) (m:=[((⟨dd,P,false,[]⟩:Opn),ς none 0 0)]) (v:=ς ao L.length co) h_ rfl yS ε (.tmp 31) (.tmp 33) rfl rfl ((HR4.o.opn.mono Dc.o.2).grow G6.o) rfl uq.o (by have:=Js.o;have:=wP.o;simp;omega) (by have:=HR4.o.grow.size;have:=G6.o.size;omega) ?_;intro a9 c9 w7 r_ su hb7;have NO:Hid (some B7≠(Value.slice ao L.length co).ownBlock):=η (by rcases HR4.o.ok.off (i:=0) (j:=2) rfl rfl ε with e|e;exact absurd e σ;exact e);have NX:Hid (some B8≠(Value.slice ao L.length co).ownBlock):=η (fun e=>by have:=(HRR.o.opn.lt _ e.symm).2;have:=b9.o;omega);have WU:=η (HR4.o.snoc (jZ:=ς a9 (L.length+1) c9) (x:=((⟨dd,P,false,[]⟩:Opn),ς none 0 0)) G6.o (aI.nil _ _ _ _ _) su hb7 r_);have Zt:=η (aH (aj Yj.o G6.o) su NO.o);have hU:=η (aH (aj R8.o G6.o) su NX.o);have N0:=η ((O8.o.grow G6.o).kept su (by cases e:(Value.slice a8 P.length c8).ownBlock with|none=>exact .inl rfl|some q=>exact .inr fun e2=>by have:=(O8.o.lt q e).1;have:=(HRR.o.opn.lt q e2.symm).2;omega));clear r_ su hb7;refine HK.o _ _ ⟨.inr (HS.o _ (Zt.o.trans Yj.o.symm) (hU.o.trans R8.o.symm)),?_⟩;clear HK K;try simp only [aK]
   refine lY [8] 14 κ (fun _ _ _ _ _ h=>h) (HS.o _ (Zt.o.trans Yj.o.symm) (hU.o.trans R8.o.symm)) ?_;repeat (refine gq ?_;try simp only [aK])
   refine lZ ?_;refine iR 9 κ rfl ?_;intro K HK;refine aC rfl ?_;try simp only [aV]
   refine aU (.tmp 38) (.tmp 34) (v:=ς a9 (L.length+1) c9) (new:=#[ς ag h.log.length cg,ι h.aG,ι h.next,ς a9 (L.length+1) c9]) rfl rfl ρ ρ Zt.o eH σ ρ ρ ?_;intro w8 r8 g8;have OZ:=η (WU.o.box g8);have NY:=η r8;have Xo:Hid (B8≠B7):=η (by have:=b9.o;have:=pD.o;omega);have hV:=η (aH hU.o g8 (fun e=>Xo.o (Option.some.inj e)));have N6:=η (N0.o.kept g8 (lu fun q hq=>by have:=(O8.o.lt q hq).1;have:=pD.o;omega));clear r8 g8;refine HK.o _ _ ⟨.inr (by obtain⟨-,-,j2,-⟩:=cells4 NY.o;obtain⟨k0,k1,k2,k3⟩:=cells4 hV.o;exact⟨j2,k0,k1,k2,k3⟩),?_⟩;clear HK K;try simp only [aK]
   refine lY [10] 14 κ (fun _ _ _ _ _ h=>h) (by obtain⟨-,-,j2,-⟩:=cells4 NY.o;obtain⟨k0,k1,k2,k3⟩:=cells4 hV.o;exact⟨j2,k0,k1,k2,k3⟩) ?_;repeat (refine gq ?_;try simp only [aK])
   refine lZ ?_;refine iR 11 κ rfl ?_;intro K HK;refine aC rfl ?_;try simp only [aV]
   refine aU (.tmp 39) (.tmp 37) (v:=ι (h.next+1)) (new:=#[ς ag h.log.length cg,ι h.aG,ι (h.next+1),ς a9 (L.length+1) c9]) rfl rfl ρ ρ NY.o oQ σ ρ ρ ?_;intro w9 r9 g9;refine HK.o _ _ ⟨.inl ε,?_⟩;clear HK K;try simp only [aK]
   refine wO κ ?_;go_wp2;go_meet
   case rel=>
    obtain⟨k0,k1,k2,k3⟩:=cells4 (aH hV.o g9 (fun e=>Xo.o (Option.some.inj e)));exact⟨a9,c9,r9,OZ.o.box g9,⟨k0,k1,k2,k3,WR.o,(N6.o.kept g9 (lu fun q hq=>by have:=(O8.o.lt q hq).1;have:=pD.o;omega)).slc ε (fun _ _ e=>by cases e) fun _ _=>rfl,Sl.nil _ _⟩⟩
  ·intro K HK
   try simp only [aV]
   go_simp;obtain⟨w6,hw6⟩:∃y:World,y=wd.alloc (.cells #[ι dd,ς a8 P.length c8,.bool false,()] 58):=⟨_,rfl⟩;have G6:Hid (Grow w4 w6):=η (by rw [hw6];exact GD.alloc _);have Dc:=η (HR4.o.ahead (r:=none) G6.o (fun q hq=>by cases hq));have uq:Hid (Src Ty.J_ (fr wz w6 (none::hro B7 (ς ag h.log.length cg) (ς ao L.length co) L)) w6 (ς (some ⟨wd.heap.size,0,none⟩) 1 1) [((⟨dd,P,false,[]⟩:Opn),ς none 0 0)]):=η (by
    have z2:=HRR.o.grow.size;have hsl:Sl Ty.pt (fr wz w6 (none::hro B7 (ς ag h.log.length cg) (ς ao L.length co) L)) (ς a8 P.length c8) P:=(O8.o.grow G6.o).slb ε (fun a v e=>by cases e) fun a ha=>gy (τ (O8.o.lt _ ha)) (fun hm=>by
     rcases List.mem_cons.1 hm with e|hm
     ·cases e
     ·have:=(HRR.o.ok.lt _ hm).2;have:=O8.o.lt _ ha;omega)
    rw [hw6] at hsl ⊢;exact Src.bQ (T:=Ty.J_) (x:=((⟨dd,P,false,[]⟩:Opn),ς none 0 0)) (cs:=#[ι dd,ς a8 P.length c8,.bool false,()]) ⟨_,rfl,WR.o,hsl,rfl⟩ _ _ rfl)
   rw [<-hw6];clear hw6;refine HK.o _ _ ⟨.inr (NQ.o _ G6.o),?_⟩;clear HK K;try simp only [aK]
   refine iR 1 κ rfl ?_;intro K HK;try simp only [aV]
   obtain⟨-,-,-,d3⟩:=cells4 (aj Yj.o G6.o);have z7:B7<w6.heap.size:=World.block_lt_of_cell? _ _ d3;go_simp;clear d3 z7;refine HK.o _ _ ⟨.inr (NQ.o _ G6.o),?_⟩;clear HK K;try simp only [aK]
   refine iR 4 κ rfl ?_;intro K HK;refine aC rfl ?_;try simp only [aV]
   refine dD (c:=fr wz w6 (none::hro B7 (ς ag h.log.length cg) (ς ao L.length co) L)) (base:=wz.heap.size) (l:=L) (m:=[((⟨dd,P,false,[]⟩:Opn),ς none 0 0)]) (v:=ς ao L.length co) h_ rfl yS ε (.tmp 31) (.tmp 33) rfl rfl ((HR4.o.opn.mono Dc.o.2).grow G6.o) rfl uq.o (by have:=Js.o;have:=wP.o;simp;omega) (by have:=HR4.o.grow.size;have:=G6.o.size;omega) ?_;intro a9 c9 w7 r_ su hb7;have NO:Hid (some B7≠(Value.slice ao L.length co).ownBlock):=η (by rcases HR4.o.ok.off (i:=0) (j:=2) rfl rfl ε with e|e;exact absurd e σ;exact e);have NX:Hid (some B8≠(Value.slice ao L.length co).ownBlock):=η (fun e=>by have:=(HRR.o.opn.lt _ e.symm).2;have:=b9.o;omega);have WU:=η (HR4.o.snoc (jZ:=ς a9 (L.length+1) c9) (x:=((⟨dd,P,false,[]⟩:Opn),ς none 0 0)) G6.o (aI.nil _ _ _ _ _) su hb7 r_);have Zt:=η (aH (aj Yj.o G6.o) su NO.o);have hU:=η (aH (aj R8.o G6.o) su NX.o);have N0:=η ((O8.o.grow G6.o).kept su (by cases e:(Value.slice a8 P.length c8).ownBlock with|none=>exact .inl rfl|some q=>exact .inr fun e2=>by have:=(O8.o.lt q e).1;have:=(HRR.o.opn.lt q e2.symm).2;omega));clear r_ su hb7;refine HK.o _ _ ⟨.inr (HS.o _ (Zt.o.trans Yj.o.symm) (hU.o.trans R8.o.symm)),?_⟩;clear HK K;try simp only [aK]
   refine lY [8] 14 κ (fun _ _ _ _ _ h=>h) (HS.o _ (Zt.o.trans Yj.o.symm) (hU.o.trans R8.o.symm)) ?_;repeat (refine gq ?_;try simp only [aK])
   refine lZ ?_;refine iR 9 κ rfl ?_;intro K HK;refine aC rfl ?_;try simp only [aV]
   refine aU (.tmp 38) (.tmp 34) (v:=ς a9 (L.length+1) c9) (new:=#[ς ag h.log.length cg,ι h.aG,ι h.next,ς a9 (L.length+1) c9]) rfl rfl ρ ρ Zt.o eH σ ρ ρ ?_;intro w8 r8 g8;have OZ:=η (WU.o.box g8);have NY:=η r8;have Xo:Hid (B8≠B7):=η (by have:=b9.o;have:=pD.o;omega);have hV:=η (aH hU.o g8 (fun e=>Xo.o (Option.some.inj e)));have N6:=η (N0.o.kept g8 (lu fun q hq=>by have:=(O8.o.lt q hq).1;have:=pD.o;omega));clear r8 g8;refine HK.o _ _ ⟨.inr (by obtain⟨-,-,j2,-⟩:=cells4 NY.o;obtain⟨k0,k1,k2,k3⟩:=cells4 hV.o;exact⟨j2,k0,k1,k2,k3⟩),?_⟩;clear HK K;try simp only [aK]
   refine lY [10] 14 κ (fun _ _ _ _ _ h=>h) (by obtain⟨-,-,j2,-⟩:=cells4 NY.o;obtain⟨k0,k1,k2,k3⟩:=cells4 hV.o;exact⟨j2,k0,k1,k2,k3⟩) ?_;repeat (refine gq ?_;try simp only [aK])
   refine lZ ?_;refine iR 11 κ rfl ?_;intro K HK;refine aC rfl ?_;try simp only [aV]
   refine aU (.tmp 39) (.tmp 37) (v:=ι (h.next+1)) (new:=#[ς ag h.log.length cg,ι h.aG,ι (h.next+1),ς a9 (L.length+1) c9]) rfl rfl ρ ρ NY.o oQ σ ρ ρ ?_;intro w9 r9 g9;refine HK.o _ _ ⟨.inl ε,?_⟩;clear HK K;try simp only [aK]
   refine wO κ ?_;go_wp2;go_meet
   case rel=>
    obtain⟨k0,k1,k2,k3⟩:=cells4 (aH hV.o g9 (fun e=>Xo.o (Option.some.inj e)));exact⟨a9,c9,r9,OZ.o.box g9,⟨k0,k1,k2,k3,WR.o,(N6.o.kept g9 (lu fun q hq=>by have:=(O8.o.lt q hq).1;have:=pD.o;omega)).slc ε (fun _ _ e=>by cases e) fun _ _=>rfl,Sl.nil _ _⟩⟩
 case rest=>
 obtain⟨a9,c9,r9,gF,hat⟩:=hcut;obtain⟨w9,rfl⟩:∃y:World,y=wc:=⟨_,rfl⟩;have R9:=η r9;have dT:=η gF;have HAT:=η hat;have C_:=η (aj R2.o gF.grow);clear HS NQ r9 gF hat;have HS:Hid (∀W,Grow w9 W->W.cell? ⟨B7,0,none⟩=some (ς ag h.log.length cg)/\W.cell? ⟨B7,1,none⟩=some (ι h.aG)/\W.cell? ⟨B7,2,none⟩=some (ι (h.next+1))/\W.cell? ⟨B7,3,none⟩=some (ς a9 (L.length+1) c9)):=fun W hW=>cells4 (aj R9.o hW);go_upto_region 6 with fail
 refine Cm (fun w'=>w'.cell? ⟨B7,0,none⟩=some (ς ag h.log.length cg)/\w'.cell? ⟨B7,1,none⟩=some (ι h.aG)/\w'.cell? ⟨B7,2,none⟩=some (ι (h.next+1))/\w'.cell? ⟨B7,3,none⟩=some (ς a9 (L.length+1) c9)) [2,3,4] κ ?_;intro wd GD zD;have ZD:=η zD;clear zD;refine lY [0] 7 κ (fun _ _ _ _ _ h=>h) (HS.o _ GD) ?_;repeat (refine gq ?_;try simp only [aK])
 refine lZ ?_;refine iR 1 κ rfl ?_;intro K HK;try simp only [aV]
 go_simp;go_at_call 113
 refine(Ar (o:=(⟨dd,P,false,[]⟩:Opn)) _ (HAT.o.grow GD) zo.o).mono ?_;rintro e w10 ⟨v10,rfl,kL,iL⟩;obtain⟨a10,c10,rfl⟩:=kL.form;have HM:=η (aI.Ub ε kL);have GM:=η iL;have GB:=η (Grow.trans GD iL);clear kL iL;generalize hms:gG (⟨dd,P,false,[]⟩:Opn)=ms at*;have lM:=η hms;clear hms;refine HK.o _ _ ⟨.inr (HS.o _ GB.o),?_⟩;clear HK K;try simp only [aK]
 refine iR 2 κ rfl ?_;intro K HK;refine aC rfl ?_;try simp only [aV]
 refine wp_store_row (.tmp 4) (.tmp 40) rfl rfl rfl (aj C_.o GB.o) bU rfl rfl ?_;intro w7 r7 g7;obtain⟨p0,p1,p2,p3⟩:=cells4 r7;refine HK.o _ _ ⟨.inl ε,?_⟩;clear HK K;try simp only [aK]
 refine iR 3 κ rfl ?_;intro K HK;try simp only [aV]
 go_simp;refine HK.o _ _ ⟨.inl ε,?_⟩;clear HK K;try simp only [aK]
 refine iR 4 κ rfl ?_;intro K HK;try simp only [aV]
 go_simp;refine HK.o _ _ ⟨.inl ε,?_⟩;clear HK K;try simp only [aK]
 refine wO κ ?_;go_wp2;refine bodyPost_ret (v:=.tuple #[.agg #[ς ag h.log.length cg,ι h.aG,ι (h.next+1),ς a9 (L.length+1) c9],ς a10 ms.length c10,ι 0]) (by simp [results,Tryz.results77,go_sem,p0,p1,p2,p3]) rfl ?_;have z:=HZ.o;have hx:=(dT.o.later GB.o).past G1.o g7 δ;have hy:=hx.of nG.o.1 OY.o;rw [List.map_append,HL.o] at hy;rw [F5.o,HE2.o,IX.o];have e9:qV h P=(⟨dd,P,false,[]⟩:Opn):=by unfold qV;rw [UK.o]
 rw [e9,lM.o];have hgm:=dT.o.grow.size;have:=GD.size;exact⟨_,_,rfl,by simpa using hy,HM.o.mono (JE (G1.o.trans (dT.o.grow.trans GD)) δ g7 GM.o),hx.grow⟩
theorem Xp {w0 w W wf:World} {X:List (Option Nat)} (h:w0.heap.size<=w.heap.size) (hb:∀k,k<W.heap.size->w.heap.size<=k->some k∉X->wf.heap[k]? =W.heap[k]?):Sub (fr w W X) (ov (fun _=>none) w0 wf):=fun a v e=>by
 have hlt:=World.block_lt_of_cell? W a (fF _ _ _ _ _ e);unfold fr at e;split at e
 ·cases e
 ·rename_i hn
  have h1:¬a.block<w.heap.size:=fun hx=>hn (.inl hx);rw [bH δ,World.cell?_of_block (hb a.block hlt δ (fun hx=>hn (.inr hx)))];exact e
section
variable {w W:World} {B:Nat} {vl vo:Value} {lg:List Rc} {L:List vW}
theorem HR.xF (_:HR w W B vl vo lg L):Sub (fr w W (hro B vl vo L)) (fr w W [some B,vo.ownBlock]):=gZ fun k _ _ hx=>⟨rfl,fun hm=>hx (by
 simp only [List.mem_cons,List.not_mem_nil,or_false] at hm;unfold hro;simp only [List.mem_cons];rcases hm with h|h
 ·exact .inl h
 ·exact .inr (.inr (.inl h)))⟩
theorem HR.no2 (b:HR w W B vl vo lg L) {i:Nat} {v:Value} (hi:(hro B vl vo L)[i]? =some v.ownBlock) (h0:i≠0) (h2:i≠2) {q:Nat} (hq:v.ownBlock=some q):some q∉ [some B,vo.ownBlock]:=by
 simp only [List.mem_cons,List.not_mem_nil,or_false,not_or];rw [hq] at hi;refine⟨fun e=>?_,fun e=>?_⟩
 ·rcases b.ok.off hi (j:=0) rfl h0 with h|h
  ·cases h
  ·exact h e
 ·rcases b.ok.off hi (j:=2) rfl h2 with h|h
  ·cases h
  ·exact h e
theorem HR.OF (b:HR w W B vl vo lg L):Sl Ty.rc (fr w W [some B,vo.ownBlock]) vl lg:=
 b.log.slb ε b.xF fun a ha=>gy (b.log.lt _ ha).1 (b.no2 (i:=1) rfl ε ε ha)
theorem HR.OK (b:HR w W B vl vo lg L):aI Ty.opn (fr w W [some B,vo.ownBlock]) W w.heap.size 58 vo (L.map (·.1)):=
 b.opn.Xm b.xF fun x hx=>by
  obtain⟨i,hi,rfl⟩:=List.mem_iff_getElem.1 hx;exact(b.heard _ hx).slb ε (fun a v e=>by cases e) fun a ha=>gy ((b.heard _ hx).lt _ ha).1 (b.no2 (HR.iQ (List.getElem?_eq_getElem hi)) δ δ ha)
end
theorem PI (w:World) (row:Option Nat) (l:List Opn):z_ Tryz.prog Ty.opn lQ w row 88 #[] l (fun o=>!o.dec) where
 ent:=fun args w=>by kernel_rfl
 say:=fun wx cs x hg _ hR=>by
  obtain⟨vp,vh,rfl,-,hp,hh⟩:=hR;obtain⟨ap,cp,rfl,-⟩:=hp;obtain⟨ah,ch,rfl,-⟩:=hh;show Calls _ _ #[.agg #[ι x.deed,ς ap x.parts.length cp,.bool x.dec,ς ah x.heard.length ch]] _ _;go_enter Tryz.func88,Tryz.ntmps88;go_wp2;go_ret;exact⟨rfl,gY⟩
theorem PK {v:Value} {h:Hd} (w:World) (hv:Of Ty.hd w.cell? v h) (hk:yR h) (hlp:∀r∈h.log,r.parts.length*24<=140737488355328) (hr:∀o∈h.opn,F9 o.parts):
  Calls Tryz.prog 47 #[v] w fun e w'=>∃v1 v2,e=.returned (.tuple #[v1,v2])/\Of Ty.hd (ov (fun _=>none) w w') v1 (kM h)/\Sl Ty.ms (ov (fun _=>none) w w') v2 (qH h)/\Grow w w':=by
 obtain⟨al,cl,ar,cr,rfl⟩:=hv.dS;obtain⟨IK,IL,he,h1,h2,-,hel⟩:=(Of.lq hv).2;obtain⟨rfl,rfl⟩:ar=IK/\cr=IL:=by simpa using he
 unfold maxLen at h2;have nG:Hid (I64 h.aG/\I64 h.next):=η (by obtain⟨cs,he,_,_,rfl,_,h1,h2,_⟩:=hv;exact⟨h1,h2⟩);have HOW:=η (fun(W:World) (hW:Grow w W)=>vF W (hv.mono hW.sub) hk hlp);have zo:=η hr;have h12:=hk.opn;clear hk hv hlp he hr;obtain⟨wa,cO⟩:∃y:World,y=w.alloc (.cells #[ς al h.log.length cl,ι h.aG,ι h.next,ς ar h.opn.length cr] 29):=⟨_,rfl⟩;obtain⟨wz,hwz⟩:∃y:World,y=wa.alloc (.cells #[(),ι 0,ι 0,()] 29):=⟨_,rfl⟩;have hsz:wa.heap.size=w.heap.size+1:=by rw [cO];simp
 have R1:Hid (wz.heap[w.heap.size]? =some (.cells #[ς al h.log.length cl,ι h.aG,ι h.next,ς ar h.opn.length cr] 29 (0,0))):=η (by rw [hwz,cO];exact aB (aF _ _) _);have R2:Hid (wz.heap[w.heap.size+1]? =some (.cells #[(),ι 0,ι 0,()] 29 (0,0))):=η (by rw [hwz,<-hsz];exact aF _ _);have G1:Hid (Grow w wz):=η (by rw [hwz,cO];exact((Grow.refl w).alloc _).alloc _);have HZ:Hid (wz.heap.size=w.heap.size+2):=η (by rw [hwz,cO];simp);go_enter Tryz.func47,Tryz.ntmps47;go_upto_region 1 with fail
 rw [<-cO];try rw [hsz]
 rw [<-hwz];clear cO hwz hsz;obtain⟨c0,c1,c2,c3⟩:=cells4 R1.o;have z1:w.heap.size<wz:=(γ R1.o);go_wp2_with fail
 refine(HOW.o _ G1.o).mono ?_;rintro e w1 ⟨vl,vo,B0,L,rfl,hl,hr0⟩;obtain⟨ag,cg,ao,co,rfl,rfl⟩:=hr0.form;have HL:=η hl;have HR0:=η hr0;clear hr0 hl c0 c1 c2 c3 z1;obtain⟨w2,hw2⟩:∃y:World,y=w1.alloc (.cells #[ς ag h.log.length cg,ι h.aG,ι h.next,ς ao L.length co] 29):=⟨_,rfl⟩;obtain⟨B7,yL⟩:∃y,y=w1.heap.size:=⟨_,rfl⟩;have R7:Hid (w2.heap[B7]? =some (.cells #[ς ag h.log.length cg,ι h.aG,ι h.next,ς ao L.length co] 29 (0,0))):=η (by rw [hw2,yL];exact aF _ _);have HRR:Hid (HR wz w2 B7 (ς ag h.log.length cg) (ς ao L.length co) h.log L):=η (HR0.o.MR (by rw [hw2];exact(Grow.refl _).alloc _) δ (by rw [hw2,yL];simp));have R12:=η (aj R1.o HRR.o.grow);have xY:=η (G1.o.trans HRR.o.grow);go_upto_region 3 with fail
 rw [<-hw2,<-yL];clear hw2 yL;obtain⟨c0,c1,c2,c3'⟩:=cells4 R12.o;have z1:w.heap.size<w2:=(γ R12.o);go_wp2;clear c0 c1 c2 c3' z1;go_loopw [5,13] (fun s5 i wr=>∃k:Nat,k<=h.opn.length/\i=ι k/\Grow w2 wr/\aI Ty.ms (fun _=>none) wr w2.heap.size 85 s5 (((h.opn.take k).filter fun o=>!o.dec).flatMap fun o=>dG o.deed o.parts)) (fun _ i _=>h.opn.length - (intOf i).toNat)
 case atStart=>exact⟨0,δ,rfl,Grow.refl _,aI.nil _ _ _ _ _⟩
 case round=>
  obtain⟨k,hk',rfl,hb,hown⟩:=hrel;by_cases hlt:k<h.opn.length
  ·obtain⟨b,o,vp,vh,rfl,c0,c1,c2,c3,i0,hP,hH⟩:=Ci.at_ hel k hlt
   obtain⟨ap,cp,rfl,-⟩:=id hP;obtain⟨ah,ch,rfl,-⟩:=id hH;have GW:=η (xY.o.trans hb);have HAB:=η (fun(W:World) (hW:Grow w W)=>BZ (d:=h.opn[k].deed) W (hP.mono hW.sub) i0 (zo.o _ (List.getElem_mem hlt)));have Yh:=η (EJ (fun o:Opn=>!o.dec) (fun o=>dG o.deed o.parts) hlt);have L0:=η (show(((h.opn.take k).filter fun o=>!o.dec).flatMap fun o=>dG o.deed o.parts).length<=36 by
    have h8:=pY (fun o:Opn=>oL o.deed o.parts) ((h.opn.take k).filter fun o=>!o.dec);have h9:((h.opn.take k).filter fun o=>!o.dec).length<=12:=Nat.le_trans (List.length_filter_le _ _) (by simp;omega);omega)
   have EM:=η (oL h.opn[k].deed h.opn[k].parts);have HOWN:=η hown;have HB:=η hb;obtain⟨av,cv,rfl⟩:=hown.form;replace c0:=GW.o.sub _ _ c0;replace c1:=GW.o.sub _ _ c1;replace c2:=GW.o.sub _ _ c2;replace c3:=GW.o.sub _ _ c3;clear hel hP hH hown hb i0;generalize h.opn[k]=q at*;generalize ((h.opn.take k).filter fun o=>!o.dec).flatMap (fun o=>dG o.deed o.parts)=ms at*;obtain⟨t,ht⟩:∃t,t=q.dec:=⟨_,rfl⟩;rw [<-ht] at c2 Yh;clear ht;cases t with
   |true=>
    have HF:=η Yh.o;rw [if_neg σ] at HF;clear Yh;go_wp2;go_roundw
    case rel=>exact⟨k+1,δ,by go_num,HB.o.alloc _,by rw [HF.o];exact HOWN.o.grow ((Grow.refl _).alloc _)⟩
    case measure=>simp [intOf];omega
   |false=>
    have HF:=η Yh.o;rw [if_pos σ] at HF;clear Yh;go_wp2_with fail
    refine(HAB.o _ (GW.o.alloc _)).mono ?_;rintro e w4 ⟨v4,rfl,pO,hb4⟩;obtain⟨a4,c4,rfl⟩:=pO.form;have G4:=η (((Grow.refl wr).alloc _).trans hb4);have uq:Hid (Src Ty.ms (fun _=>none) w4 (ς a4 (dG q.deed q.parts).length c4) (dG q.deed q.parts)):=η pO.vQ;have FB:=η (HOWN.o.grow G4.o);clear pO hb4 c0 c1 c2 c3;generalize dG q.deed q.parts=aq at*;go_wp2_with (first|(at_builtin;refine aZ (c:=fun _=>none) (base:=w2.heap.size) (l:=ms) (m:=aq) tN rfl kU ε rfl (.tmp 20) (.tmp 25) rfl rfl FB.o rfl uq.o ?d2 ?d3 ?_))
    case d2=>have:=L0.o;have:=EM.o;omega
    case d3=>have:=HB.o.size;have:=G4.o.size;omega
    intro a9 c9 w9 fB eF gI;have jL:Hid (Grow w2 w9):=η (bn (w0:=w2) (HB.o.trans G4.o) eF (fun q hq=>(HOWN.o.lt q hq).1));have iF:=η fB;clear fB eF gI;go_wp2;go_roundw
    case rel=>exact⟨k+1,δ,by go_num,jL.o,by rw [HF.o];exact iF.o⟩
    case measure=>simp [intOf];omega
  ·have HF2:Hid (((h.opn.take k).filter fun o=>!o.dec).flatMap (fun o=>dG o.deed o.parts)=qH h):=η (by rw [List.take_of_length_le δ];rfl)
   have HOWN:=η hown;have HB:=η hb;have NT:=η (HRR.o.later hb);have ON:=η (aj R7.o hb);have R2L:=η (aj R2.o NT.o.grow);obtain⟨av,cv,rfl⟩:=hown.form;clear hel hown hb;generalize ((h.opn.take k).filter fun o=>!o.dec).flatMap (fun o=>dG o.deed o.parts)=ms at*;obtain⟨d0,d1,d2,d3⟩:=cells4 ON.o;have z7:B7<wr.heap.size:=(γ ON.o);have zr:w.heap.size+1<wr:=(γ R2L.o);go_wp2_with fail
   refine(rM (p:=fun o=>!o.dec) (c:=fr wz wr [some B7,(Value.slice ao L.length co).ownBlock]) ?_ NT.o.OK (PI _ _ _)).mono ?_
   ·intro a u e
    unfold fr at e;split at e
    ·cases e
    ·rename_i hn
     unfold mM;rw [if_neg (fun e=>hn (.inr (by simp [e])))];exact e
   rintro e w7 ⟨v7,rfl,r_,su,hb7⟩;obtain⟨a7,c7,rfl⟩:=r_.form;have hne:some B7≠(Value.slice ao L.length co).ownBlock:=by
    rcases NT.o.ok.off (i:=0) (j:=2) rfl rfl ε with e|e
    ·exact absurd e σ
    ·exact e
   have Zt:=η (aH ON.o su hne);have FE:=η (aH R2L.o su (fun e=>by have:=(NT.o.opn.lt _ e.symm).1;have:=HZ.o;omega));have kE:=η su;have uU:=η r_;have Yk:Hid ((L.map (·.1)).filter (fun x=>!(fun o:Opn=>!o.dec) x)=(kM h).opn):=η (by rw [HL.o];simp [kM]);have wZ:=η hb7;clear d0 d1 d2 d3 z7 zr su r_ hb7 hne;rw [Yk.o] at uU;rw [Yk.o];go_wp2_with (first|(refine aN rfl (.tmp 31) (.tmp 30) (v:=ς a7 (kM h).opn.length c7) (new:=#[ς ag h.log.length cg,ι h.aG,ι h.next,ς a7 (kM h).opn.length c7]) rfl rfl ρ ρ Zt.o eH σ ρ ρ ?_))
   intro w8 r8 g8;have F6:=η (aH FE.o g8 (fun e=>by have:=Option.some.inj e;have:=NT.o.ok.lt B7 (by simp [hro]);have:=HZ.o;omega));have oU:=η g8;have NY:=η r8;clear r8 g8;obtain⟨d0,d1,d2,d3⟩:=cells4 NY.o;have z7:B7<w8.heap.size:=(γ NY.o);go_wp2_with (first|(refine wpList_store_row rfl (.tmp 2) (.tmp 32) rfl rfl rfl F6.o bU rfl rfl ?_))
   intro wf rf gf;obtain⟨p0,p1,p2,p3⟩:=cells4 rf;go_wp2;refine bodyPost_ret (v:=.tuple #[.agg #[ς ag h.log.length cg,ι h.aG,ι h.next,ς a7 (kM h).opn.length c7],ς av ms.length cv]) (by simp [results,Tryz.results47,go_sem,p0,p1,p2,p3]) rfl ?_;have z2:=HZ.o;have z3:=kE.o.size;have z4:=oU.o.size;have z5:=gf.size;have z6:=NT.o.ok.lt B7 (by simp [hro]);have z8:=NT.o.opn.lt;have hbk:∀k,k<wr.heap.size->wz.heap.size<=k->some k∉ [some B7,(Value.slice ao L.length co).ownBlock]->wf.heap[k]? =wr.heap[k]?:=fun k h1 h2 h3=>by
    simp only [List.mem_cons,List.not_mem_nil,or_false,not_or] at h3;rw [gf.block k δ (fun e=>by have:=Option.some.inj e;omega),oU.o.block k δ h3.1,kE.o.block k h1 h3.2]
   have sub:=Xp (w0:=w) δ hbk;have OP:aI Ty.opn (ov (fun _=>none) w wf) wf wz.heap.size 58 (ς a7 (kM h).opn.length c7) (kM h).opn:=(uU.o.mono sub).block fun q hq=>by
    have hq1:=(uU.o.lt q hq);have hb8:(Value.slice a7 (kM h).opn.length c7).ownBlock=(Value.slice ao L.length co).ownBlock:=by cases a7<;>exact wZ.o
    rw [hb8] at hq;have h9:=z8 q hq;rw [gf.block q δ (fun e=>by have:=Option.some.inj e;omega),oU.o.block q δ (fun e=>by
     have e2:=Option.some.inj e;rcases NT.o.ok.off (i:=0) (j:=2) rfl rfl ε with e3|e3
     ·exact absurd e3 σ
     ·exact e3 (by rw [<-e2];exact hq.symm))]
   have hms:aI Ty.ms (fun _=>none) wf w2.heap.size 85 (ς av ms.length cv) ms:=HOWN.o.block fun q hq=>by
    have hq1:=HOWN.o.lt q hq;have zz:=HRR.o.ok.lt B7 (by simp [hro]);rw [gf.block q δ (fun e=>by have:=Option.some.inj e;omega),oU.o.block q δ (fun e=>by have:=Option.some.inj e;omega),kE.o.block q hq1.2 (fun e=>by have:=(HRR.o.opn.lt q e.symm).2;omega)]
   have zg:=HRR.o.grow.size;have hgr:Grow w wf:=((((xY.o.trans HB.o).grown kE.o (fun q hq=>by have:=(z8 q hq).1;omega)).grown oU.o (fun q hq=>by have:=Option.some.inj hq;omega)).grown gf (fun q hq=>by have:=Option.some.inj hq;omega));rw [<-HF2.o];exact⟨_,_,rfl,⟨_,rfl,_,_,rfl,NT.o.OF.mono sub,nG.o.1,nG.o.2,OP.slc ε (Sub.refl _) fun a ha=>bH δ⟩,hms.slc ε (fun _ _ e=>by cases e) fun a ha=>bH δ,hgr⟩
theorem HR.Zu {w W:World} {B:Nat} {vl:Value} {lg:List Rc} {L:List vW} {g cap k:Nat} {x:vW} (b:HR w W B vl (ς (some ⟨g,0,none⟩) L.length cap) lg (L.set k x)):aI Ty.J_ (fr w W (hro B vl (ς (some ⟨g,0,none⟩) L.length cap) (L.set k x))) W w.heap.size 58 (ς (some ⟨g,0,none⟩) (L.set k x).length cap) (L.set k x):=by
 rw [List.length_set];exact b.opn
theorem HR.free {w W:World} {B:Nat} {vl:Value} {lg:List Rc} {L:List vW} {g n cap:Nat} (b:HR w W B vl (ς (some ⟨g,0,none⟩) n cap) lg L) (p:Nat):W.frozen? ⟨g,p,none⟩=false:=by
 obtain⟨css,⟨-,⟨h,-⟩|⟨g',cap',cur,he,hg,hrow,-⟩⟩,-,-⟩:=b.opn
 ·cases h
 ·simp only [Value.slice.injEq,Option.some.injEq,Addr.mk.injEq,and_true] at he
  obtain⟨rfl,-⟩:=he;simp [World.frozen?,hrow]
def Xq (wz w:World) (B k:Nat) (aG next:Int) (lg:List Rc) (l:List Opn) (r:List Opn×List Rc×List Ms) (v':Value) (w':World):Prop:=
 ∃ED jZ L',w'.heap[B]? =some (.cells #[ED,ι aG,ι next,jZ] 29 (0,0))/\HR wz w' B ED jZ (lg++r.2.1) L'/\L'.map (·.1)=l.take k++(r.1++l.drop (k+1))/\Sl Ty.ms (ov (fun _=>none) w w') v' r.2.2/\w.heap.size<=w'.heap.size
def wF (o:Opn) (n:Int):List Opn×List Rc×List Ms:=
 if o.dec=false/\n∈aX o.parts/\n∉o.heard then
  (if o.heard.length+1=(aX o.parts).length then([⟨o.deed,o.parts,true,[]⟩],[⟨5,o.deed,o.parts⟩],gG ⟨o.deed,o.parts,true,[]⟩)
  else([⟨o.deed,o.parts,o.dec,o.heard++ [n]⟩],[],[]))
 else([o],[],[])
theorem Xr {wz:World} (w:World) {B k:Nat} {vl vo:Value} {lg:List Rc} {L:List vW} {x:vW} {aG next house:Int} (hr:HR wz w B vl vo lg L) (hrow:w.heap[B]? =some (.cells #[vl,ι aG,ι next,vo] 29 (0,0))) (hk:L[k]? =some x) (hp:F9 x.1.parts) (hh:I64 house) (UG:lg.length<=100000) (_:L.length<=12) (h3:x.1.heard.length<=3)
  (hle:house∈aX x.1.parts->house∉x.1.heard->x.1.heard.length+1<=(aX x.1.parts).length):
  Calls Tryz.prog 120 #[.pointer (some ⟨B,0,none⟩),ι k,ι house] w fun e w'=>∃v',e=.returned v'/\Xq wz w B k aG next lg (L.map (·.1)) (wF x.1 house) v' w':=by
 obtain⟨q,xv⟩:=x;dsimp only at hp h3 hle ⊢;obtain⟨al,cl,ao,co,rfl,rfl⟩:=hr.form;have hkl:=(List.getElem?_eq_some_iff.1 hk).1;obtain⟨g,vp,rfl,hg1,hg2,c0,c1,c2,c3,i0,hP,hH⟩:=hr.at_ rfl hk;obtain⟨ap,cp,rfl,-⟩:=id hP;dsimp only at c0 c1 c2 c3 i0 hP hH;obtain⟨ah,ch,rfl⟩:=hH.form;have xL:=η (hP.mono (fF _ _ _));have OR:Hid (Sl Ty.int w.cell? (ς ah q.heard.length ch) q.heard):=η (hH.slc ε (fun _ _ e=>by cases e) fun _ _=>rfl);have sS:=η (fun(W:World) (hW:Grow w W)=>fC (n:=house) W (OR.o.mono hW.sub));have uy:=η (fun(W:World) (hs:Sl Ty.pt W.cell? (ς ap q.parts.length cp) q.parts)=>jB W hs (τ hp.len) hp.ne hp.lt);have QW:=η hle;have HRR:=η hr;have HK:=η hk;have NZ:=η hkl;have HI0:=η i0;have HIH:=η hh;have NN:=η hP;have UN:=η hH;have zo:=η hp;have HRW:=η hrow;have kY:Hid ((L.map (·.1)).take k++([q]++(L.map (·.1)).drop (k+1))=L.map (·.1)):=η (by
  have e:(L.map (·.1))[k]? =some q:=by rw [List.getElem?_map,hk];rfl
  have hk2:k<(L.map (·.1)).length:=by simpa using hkl
  have e2:(L.map (·.1))[k]=q:=(List.getElem?_eq_some_iff.1 e).2;rw [<-e2,List.singleton_append,<-List.drop_eq_getElem_cons hk2,List.take_append_drop])
 obtain⟨b0,b1,b2,b3⟩:=cells4 hrow;have zB:B<w.heap.size:=(γ hrow);clear hp hle hr hk i0 hh hP hH hrow;obtain⟨t,ht⟩:∃t,t=q.dec:=⟨_,rfl⟩;rw [<-ht] at c2;have HT:=η ht;clear ht;cases t with
 |true=>
  have HF:Hid (wF q house=([q],[],[])):=η (by unfold wF;rw [if_neg (by rw [<-HT.o];simp)]);go_enter Tryz.func120,Tryz.ntmps120;go_wp2;go_ret;exact⟨_,rfl,_,_,L,HRW.o,by rw [HF.o,List.append_nil];exact HRR.o,by rw [HF.o];exact kY.o.symm,by rw [HF.o];exact Sl.nil _ _,Nat.le_refl _⟩
 |false=>
  by_cases hn:house∈q.heard
  ·have hnb:decide (house∈q.heard)=true:=decide_eq_true hn
   have HF:Hid (wF q house=([q],[],[])):=η (by unfold wF;rw [if_neg (by simp [hn])]);clear hn;go_enter Tryz.func120,Tryz.ntmps120;go_wp2_with fail
   refine(sS.o _ (Grow.refl _)).mono ?_;rintro e w1 ⟨rfl,hb1⟩;have G1:=η hb1;rw [hnb];clear hb1 hnb c0 c1 c2 c3 b0 b1 b2 b3;go_wp2;go_ret;exact⟨_,rfl,_,_,L,aj HRW.o G1.o,by rw [HF.o,List.append_nil];exact HRR.o.later G1.o,by rw [HF.o];exact kY.o.symm,by rw [HF.o];exact Sl.nil _ _,(G1.o).size⟩
  have hnb:decide (house∈q.heard)=false:=decide_eq_false hn;have TY:=η hn;clear hn;by_cases hm:house∈aX q.parts
  ·have xN:=η hm
   have hmb:decide (house∈aX q.parts)=true:=decide_eq_true hm;have wP:=η (QW.o hm TY.o);clear hm;go_enter Tryz.func120,Tryz.ntmps120;go_wp2_with fail
   refine(sS.o _ (Grow.refl _)).mono ?_;rintro e w1 ⟨rfl,hb1⟩;have G1:=η hb1;rw [hnb];replace c1:=hb1.sub _ _ c1;clear hb1 hnb c0 c2 c3 b0 b1 b2 b3;go_wp2_with fail
   refine(uy.o _ (xL.o.mono G1.o.sub)).mono ?_;rintro e w2 ⟨v2,rfl,ho2,hb2⟩;obtain⟨a2,c2',rfl⟩:=aY ho2;have HI2:=η (nD ho2 (jI q.parts));have G2:=η (G1.o.trans hb2);clear ho2 hb2 c1;go_wp2_with fail
   refine(fC (n:=house) _ HI2.o).mono ?_;rintro e w3 ⟨rfl,hb3⟩;have G3:=η (G2.o.trans hb3);rw [hmb];clear hb3 hmb HI2;have HR3:=η (HRR.o.later G3.o);have OS:=η (aj HRW.o G3.o);obtain⟨g',eI,e1,-,zg,c0,c1,c2,c3,-,hp3,-⟩:=HR3.o.at_ rfl HK.o;obtain rfl:g=g':=by simpa using e1
   dsimp only at c0 c2 c3;have sf:=HR3.o.free;clear e1 hp3 c1 c2 c0;go_wp2_with (first|(at_builtin;refine aZ (c:=fun _=>none) (base:=wz.heap.size) (l:=q.heard) (m:=[house]) (v:=ς ah q.heard.length ch) iM rfl jW ε rfl (.tmp 40) (.tmp 42) rfl rfl ?own rfl (Src.bQ (T:=Ty.int) (x:=house) (cs:=#[ι house]) ⟨rfl,HIH.o⟩ _ _ ?d1) ?d2 ?d3 ?_))
   case own=>exact UN.o.grow (G3.o.alloc _)
   case d1=>first|rfl|simp
   case d2=>simp;omega
   case d3=>have:=HR3.o.grow.size;simp;omega
   intro a5 c5 w5 kJ hg5 hb5;have rG:=η hg5;have JF:=η (HR3.o.later ((Grow.refl _).alloc (.cells #[ι house] 3)));have hoff:=JF.o.ok.off (HR.iQ HK.o) (j:=2) rfl δ;have PL:some g≠(Value.slice ah q.heard.length ch).ownBlock:=fun e=>by
    rcases hoff with h|h
    ·rw [h] at e;cases e
    ·exact h e.symm
   have O0:=η (aH (aj OS.o ((Grow.refl _).alloc (.cells #[ι house] 3))) hg5 (fun e=>by
    have h9:=JF.o.ok.off (HR.iQ HK.o) (j:=0) rfl δ;rcases h9 with h|h
    ·rw [h] at e;cases e
    ·exact h e.symm))
   have qI:=η (HR.hear JF.o rfl HK.o (W2:=w5) (v':=ς a5 (q.heard.length+1) c5) (l':=q.heard++ [house]) hg5 (hb5.imp_right fun⟨g,e,hge⟩=>⟨g,e,by simpa using hge⟩) kJ).1;have e3:w5.cell? ⟨g,k*4+3,none⟩=some (ς ah q.heard.length ch):=by
    rw [World.cell?_of_block (a:=⟨g,k*4+3,none⟩) (hg5.block g (by simp;omega) PL)];exact((Grow.refl w3).alloc _).sub _ _ c3
   have ef:∀p,w5.frozen? ⟨g,p,none⟩=false:=fun p=>by
    rw [World.frozen?_of_block (a:=⟨g,p,none⟩) (hg5.block g (by simp;omega) PL)];exact JF.o.free p
   have O2:g<w5.heap.size:=World.block_lt_of_cell? _ _ e3;clear sf kJ hg5 hb5 c3 zg hoff PL;go_upto_region 5 with fail
   obtain⟨w6,hw6⟩:∃y:World,y=w5.setCell ⟨g,k*4+3,none⟩ (ς a5 (q.heard.length+1) c5):=⟨_,rfl⟩;rw [<-hw6] at qI ⊢;have hY:Hid (w6.heap[B]? =some (.cells #[ς al lg.length cl,ι aG,ι next,ς (some ⟨g,0,none⟩) L.length co] 29 (0,0))):=η (aH O0.o (by rw [hw6];exact grownBy_setCell w5 ⟨g,k*4+3,none⟩ _) (fun e=>by
    rcases HRR.o.ok.off (i:=0) (j:=2) rfl rfl ε with h|h
    ·cases h
    ·exact h e))
   have xS:Hid (w.heap.size<=w6.heap.size):=η (by rw [hw6];have:=G3.o.size;have:=rG.o.size;simp at*;omega);clear hw6 e3 ef O2;have iA:Hid ((L.set k (⟨q.deed,q.parts,q.dec,q.heard++ [house]⟩,Value.slice a5 (q.heard.length+1) c5))[k]? =some (⟨q.deed,q.parts,q.dec,q.heard++ [house]⟩,Value.slice a5 (q.heard.length+1) c5)):=η (List.getElem?_set_self NZ.o);have xZ:Hid (HR wz w6 B (ς al lg.length cl) (ς (some ⟨g,0,none⟩) L.length co) lg (L.set k (⟨q.deed,q.parts,q.dec,q.heard++ [house]⟩,Value.slice a5 (q.heard.length+1) c5))):=η qI.o;clear qI;obtain⟨g6,vp6,e6,zU,O3,d0,d1,d2,d3,-,Xt,-⟩:=xZ.o.at_ σ iA.o;obtain rfl:g=g6:=by simpa using e6
   obtain⟨a6,c6,rfl,-⟩:=id Xt;dsimp only at d0 d1 d2 d3 Xt;have iB:=η (Xt.mono (fF _ _ _));have HPF:=η Xt;have HS:Hid (∀W,Grow w6 W->W.cell? ⟨g,k*4+3,none⟩=some (ς a5 (q.heard.length+1) c5)/\W.cell? ⟨g,k*4+1,none⟩=some (ς a6 q.parts.length c6)):=fun W hW=>⟨hW.sub _ _ d3,hW.sub _ _ d1⟩;have iN:Hid ((L.set k (⟨q.deed,q.parts,q.dec,q.heard++ [house]⟩,Value.slice a5 (q.heard.length+1) c5)).map (·.1)=(L.map (·.1)).take k++([⟨q.deed,q.parts,q.dec,q.heard++ [house]⟩]++(L.map (·.1)).drop (k+1))):=η (by rw [List.map_set,List.set_eq_take_append_cons_drop,if_pos (by simpa using NZ.o)];rfl);clear e6 zU O3 d0 d1 d2 d3 Xt;by_cases hall:q.heard.length+1=(aX q.parts).length
   ·have EM:=η hall
    have hdn:decide (q.heard.length+1<(aX q.parts).length)=false:=decide_eq_false δ;have hdi:¬(q.heard.length+1<(aX q.parts).length):=by omega
    clear hall;have PN:=η (fun(W:World) (hs:Sl Ty.pt W.cell? (ς a6 q.parts.length c6) q.parts)=>jB W hs (τ zo.o.len) zo.o.ne zo.o.lt);refine Cm (fun w'=>w'.cell? ⟨g,k*4+3,none⟩=some (ς a5 (q.heard.length+1) c5)/\w'.cell? ⟨g,k*4+1,none⟩=some (ς a6 q.parts.length c6)) [11] κ ?_;intro wd GD zD;have ZD:=η zD;clear zD;refine lY [0,1,2,3,4,5,6,7,8] 14 κ (fun _ _ _ _ _ h=>h) (HS.o _ GD) ?_;repeat (refine gq ?_;try simp only [aK])
    refine lZ ?_;refine iR 9 κ rfl ?_;intro K HK;try simp only [aV]
    go_simp;go_at_call 103
    refine(PN.o _ (iB.o.mono (GD).sub)).mono ?_;rintro e w8 ⟨v8,rfl,kV,hb8⟩;obtain⟨a8,c8,rfl⟩:=aY kV;have G8:=η (Grow.trans GD hb8);clear kV hb8;refine HK.o _ _ ⟨.inr (HS.o _ G8.o),?_⟩;clear HK K;try simp only [aK]
    refine lY [10] 14 κ (fun _ _ _ _ _ h=>h) (HS.o _ G8.o) ?_;repeat (refine gq ?_;try simp only [aK])
    refine lZ ?_;refine iR 11 κ rfl ?_;intro K HK;try simp only [aV]
    go_simp;refine HK.o _ _ ⟨.inl ε,?_⟩;clear HK K;try simp only [aK]
    refine wO κ ?_;have pE:=η (aj hY.o G8.o);have Xu:=η (xZ.o.later G8.o);obtain⟨e0,-,-,-⟩:=cells4 pE.o;obtain⟨g7,vp7,e7,-,-,d0,-,-,-,-,-,-⟩:=Xu.o.at_ σ iA.o;obtain rfl:g=g7:=by simpa using e7
    dsimp only at d0;have d1:=(HS.o _ G8.o).2;have Jt:Hid (∀W,Grow w8 W->W.cell? ⟨B,0,none⟩=some (ς al lg.length cl)/\W.cell? ⟨g,k*4,none⟩=some (ι q.deed)/\W.cell? ⟨g,k*4+1,none⟩=some (ς a6 q.parts.length c6)):=fun W hW=>⟨hW.sub _ _ e0,hW.sub _ _ d0,hW.sub _ _ d1⟩;clear e7 e0 d0 d1;go_upto_region 7 with fail
    refine Cm (fun w'=>w'.cell? ⟨B,0,none⟩=some (ς al lg.length cl)/\w'.cell? ⟨g,k*4,none⟩=some (ι q.deed)/\w'.cell? ⟨g,k*4+1,none⟩=some (ς a6 q.parts.length c6)) [19] κ ?_;intro wd GD zD;have ZD:=η zD;clear zD;refine lY [0,1,2,3,4,5,6,7,8,9,10,11,12] 22 κ (fun _ _ _ _ _ h=>h) (Jt.o _ GD) ?_;repeat (refine gq ?_;try simp only [aK])
    refine lZ ?_;refine iR 13 κ rfl ?_;intro K HK;try simp only [aV]
    go_simp;go_at_call 73
    refine(pz _ (iB.o.mono ((G8.o.trans GD).sub)) (τ zo.o.len)).mono ?_;rintro e w9 ⟨v9,rfl,fB,gI⟩;obtain⟨a7,c7,rfl⟩:=aY fB;have iF:=η (aI.pts (c:=fun _=>none) fB (m_.ok iB.o));have G9:=η (Grow.trans GD gI);clear fB gI;refine HK.o _ _ ⟨.inr (Jt.o _ G9.o),?_⟩;clear HK K;try simp only [aK]
    refine lY [14] 22 κ (fun _ _ _ _ _ h=>h) (Jt.o _ G9.o) ?_;repeat (refine gq ?_;try simp only [aK])
    refine lZ ?_;refine iR 15 κ rfl ?_;intro K HK;try simp only [aV]
    go_simp;obtain⟨w10,Gg⟩:∃y:World,y=w9.alloc (.cells #[ι 5,ι q.deed,ς a7 q.parts.length c7] 79):=⟨_,rfl⟩;have jc:Hid (Grow w8 w10):=η (by rw [Gg];exact(G9.o).alloc _);have JG:=η (xZ.o.later (G8.o.trans jc.o));have uq:Hid (Src Ty.rc (fr wz w10 (hro B (ς al lg.length cl) (ς (some ⟨g,0,none⟩) L.length co) (L.set k (⟨q.deed,q.parts,q.dec,q.heard++ [house]⟩,Value.slice a5 (q.heard.length+1) c5)))) w10 (ς (some ⟨w9.heap.size,0,none⟩) 1 1) [(⟨5,q.deed,q.parts⟩:Rc)]):=η (by
     have hsl:Sl Ty.pt (fr wz w10 (hro B (ς al lg.length cl) (ς (some ⟨g,0,none⟩) L.length co) (L.set k (⟨q.deed,q.parts,q.dec,q.heard++ [house]⟩,Value.slice a5 (q.heard.length+1) c5)))) (ς a7 q.parts.length c7) q.parts:=(iF.o.grow (w':=w10) (by rw [Gg];exact(Grow.refl _).alloc _)).slb ε (fun a v e=>by cases e) fun a ha=>by
      have h9:=(iF.o.lt _ ha).1;have h8:=GD.size;have h7:=G8.o.size;have h6:=xZ.o.grow.size;exact gy δ (fun hm=>by have:=(xZ.o.ok.lt _ hm).2;omega)
     rw [Gg] at hsl ⊢;exact Src.bQ (T:=Ty.rc) (x:=(⟨5,q.deed,q.parts⟩:Rc)) (cs:=#[ι 5,ι q.deed,ς a7 q.parts.length c7]) ⟨_,rfl,(show I64 5 from by unfold I64;decide),HI0.o,hsl⟩ _ _ rfl)
    rw [<-Gg];clear Gg;refine HK.o _ _ ⟨.inr (Jt.o _ jc.o),?_⟩;clear HK K;try simp only [aK]
    refine iR 16 κ rfl ?_;intro K HK;refine aC rfl ?_;try simp only [aV]
    refine dD (c:=(fr wz w10 (hro B (ς al lg.length cl) (ς (some ⟨g,0,none⟩) L.length co) (L.set k (⟨q.deed,q.parts,q.dec,q.heard++ [house]⟩,Value.slice a5 (q.heard.length+1) c5))))) (base:=wz.heap.size) (l:=lg) (m:=[(⟨5,q.deed,q.parts⟩:Rc)]) (v:=ς al lg.length cl) jv rfl eY ε (.tmp 62) (.tmp 73) rfl rfl JG.o.log rfl uq.o (by simp;omega) (by have:=xZ.o.grow.size;have:=G8.o.size;have:=jc.o.size;omega) ?_;intro a9 c9 ru Xv JH tH;have EX:=η (JG.o.logs JH tH Xv);have Gh:=η JH;have NB:Hid (some B≠(Value.slice al lg.length cl).ownBlock):=η (fun e=>by rcases xZ.o.ok.off (i:=0) (j:=1) rfl rfl ε with h|h;exact absurd h σ;exact h e);have iS:=η (aH (aj hY.o (G8.o.trans jc.o)) JH NB.o);have NG:Hid (some g≠(Value.slice al lg.length cl).ownBlock):=η (fun e=>by rcases xZ.o.ok.off (i:=2) (j:=1) rfl rfl ε with h|h;exact absurd h (by simp [Value.ownBlock]);exact h e);have Au:Hid (ru.cell? ⟨B,0,none⟩=some (ς al lg.length cl)/\ru.cell? ⟨g,k*4,none⟩=some (ι q.deed)/\ru.cell? ⟨g,k*4+1,none⟩=some (ς a6 q.parts.length c6)):=η (by
     have hs:=Jt.o w10 jc.o;exact⟨Gh.o.cell hs.1 NB.o,Gh.o.cell hs.2.1 NG.o,Gh.o.cell hs.2.2 NG.o⟩)
    clear Xv JH tH;refine HK.o _ _ ⟨.inr (Au.o),?_⟩;clear HK K;try simp only [aK]
    refine lY [17,18] 22 κ (fun _ _ _ _ _ h=>h) (Au.o) ?_;repeat (refine gq ?_;try simp only [aK])
    refine lZ ?_;refine iR 19 κ rfl ?_;intro K HK;refine aC rfl ?_;try simp only [aV]
    refine aU (.tmp 76) (.tmp 74) (v:=ς a9 (lg.length+1) c9) (new:=#[ς a9 (lg.length+1) c9,ι aG,ι next,ς (some ⟨g,0,none⟩) L.length co]) rfl rfl ρ ρ iS.o nT σ ρ ρ ?_;intro w12 r12 g12;refine HK.o _ _ ⟨.inl ε,?_⟩;clear HK K;try simp only [aK]
    refine wO κ ?_;have yT:=η (EX.o.box g12);have R12:=η r12;have iX:Hid (w.heap.size<=w12.heap.size):=η (by have:=xS.o;have:=G8.o.size;have:=jc.o.size;have:=Gh.o.size;have:=g12.size;omega);clear r12 g12;have HF:Hid (wF q house=([⟨q.deed,q.parts,true,[]⟩],[⟨5,q.deed,q.parts⟩],gG ⟨q.deed,q.parts,true,[]⟩)):=η (by unfold wF;rw [if_pos ⟨HT.o.symm,xN.o,TY.o⟩,if_pos EM.o]);obtain⟨g9,vp9,e9,eF,PA,d0,d1,d2,d3,-,Xw,-⟩:=yT.o.at_ σ iA.o;obtain rfl:g=g9:=by simpa using e9
    dsimp only at d0 d1 d2 d3 Xw;have sf:=yT.o.free;have Xx:=η (yT.o.decide σ iA.o);clear e9 eF d0 d1 Xw;go_upto_region 9 with fail
    obtain⟨sD,Zv⟩:∃y:World,y=(w12.setCell ⟨g,k*4+2,none⟩ (.bool true)).setCell ⟨g,k*4+3,none⟩ (ς none 0 0):=⟨_,rfl⟩;rw [<-Zv];rw [<-Zv] at Xx;have xT:Hid (w12.grownBy sD (some g)):=η (by rw [Zv];exact grownBy_trans (grownBy_setCell w12 ⟨g,k*4+2,none⟩ _) (grownBy_setCell _ ⟨g,k*4+3,none⟩ _));clear Zv d2 d3 sf PA;have PB:Hid (((L.set k (⟨q.deed,q.parts,q.dec,q.heard++ [house]⟩,Value.slice a5 (q.heard.length+1) c5)).set k (⟨q.deed,q.parts,true,[]⟩,Value.slice none 0 0))[k]? =some (⟨q.deed,q.parts,true,[]⟩,Value.slice none 0 0)):=η (List.getElem?_set_self (by simpa using NZ.o));obtain⟨g9,vp9,e9,eF,PA,d0,d1,d2,d3,i9,Xw,-⟩:=Xx.o.at_ σ PB.o;obtain rfl:g=g9:=by simpa using e9
    dsimp only at d0 d1 d2 d3 Xw i9;obtain⟨a9p,c9p,rfl,-⟩:=id Xw;have HAS:=η (Ar (o:=⟨q.deed,q.parts,true,[]⟩) (ah:=none) (ch:=0) sD ⟨d0,d1,d2,d3,i9,Xw.mono (fF _ _ _),Sl.nil _ _⟩ zo.o);have i5:=η (aH R12.o xT.o (fun e=>by rcases xZ.o.ok.off (i:=0) (j:=2) rfl rfl ε with h|h;exact absurd h σ;exact h e));clear e9 eF PA d0 d1 d2 d3 i9 Xw;go_wp2_with fail
    refine HAS.o.mono ?_;rintro e uF ⟨v14,rfl,i6,xV⟩;obtain⟨a14,c14,rfl⟩:=i6.form;have HM:=η (aI.Ub ε i6);have cA:=η xV;clear i6 xV;generalize hms:gG ⟨q.deed,q.parts,true,[]⟩=ms at*;have lM:=η hms;clear hms;go_wp2;go_ret;have z1:=iX.o;have z2:=xT.o.size;have z3:=cA.o.size;refine⟨_,rfl,_,_,_,aj i5.o cA.o,by rw [HF.o];exact Xx.o.later cA.o,?_,?_,δ⟩
    ·rw [HF.o,List.set_set,List.map_set,List.set_eq_take_append_cons_drop,if_pos (by simpa using NZ.o)];rfl
    ·rw [HF.o]
     dsimp only;refine Sl.mono (fun a v e=>?_) HM.o;unfold ov at e;split at e
     ·cases e
     ·rw [bH δ];exact e
   ·have x8:=η hall
    have hdn:decide (q.heard.length+1<(aX q.parts).length)=true:=decide_eq_true (τ wP.o);have hdi:q.heard.length+1<(aX q.parts).length:=by have:=wP.o;omega
    clear hall;have HF:Hid (wF q house=([⟨q.deed,q.parts,q.dec,q.heard++ [house]⟩],[],[])):=η (by unfold wF;rw [if_pos ⟨HT.o.symm,xN.o,TY.o⟩,if_neg x8.o]);have PN:=η (fun(W:World) (hs:Sl Ty.pt W.cell? (ς a6 q.parts.length c6) q.parts)=>jB W hs (τ zo.o.len) zo.o.ne zo.o.lt);refine Cm (fun w'=>w'.cell? ⟨g,k*4+3,none⟩=some (ς a5 (q.heard.length+1) c5)/\w'.cell? ⟨g,k*4+1,none⟩=some (ς a6 q.parts.length c6)) [11] κ ?_;intro wd GD zD;have ZD:=η zD;clear zD;refine lY [0,1,2,3,4,5,6,7,8] 14 κ (fun _ _ _ _ _ h=>h) (HS.o _ GD) ?_;repeat (refine gq ?_;try simp only [aK])
    refine lZ ?_;refine iR 9 κ rfl ?_;intro K HK;try simp only [aV]
    go_simp;go_at_call 103
    refine(PN.o _ (iB.o.mono (GD).sub)).mono ?_;rintro e w8 ⟨v8,rfl,kV,hb8⟩;obtain⟨a8,c8,rfl⟩:=aY kV;have G8:=η (Grow.trans GD hb8);clear kV hb8;refine HK.o _ _ ⟨.inr (HS.o _ G8.o),?_⟩;clear HK K;try simp only [aK]
    refine lY [10] 14 κ (fun _ _ _ _ _ h=>h) (HS.o _ G8.o) ?_;repeat (refine gq ?_;try simp only [aK])
    refine lZ ?_;refine iR 11 κ rfl ?_;intro K HK;try simp only [aV]
    go_simp;refine HK.o _ _ ⟨.inl ε,?_⟩;clear HK K;try simp only [aK]
    refine wO κ ?_;go_wp2;go_ret;exact⟨_,rfl,_,_,_,aj hY.o G8.o,by rw [HF.o,List.append_nil];exact xZ.o.later G8.o,by rw [HF.o];exact iN.o,by rw [HF.o];exact Sl.nil _ _,by have:=xS.o;have:=G8.o.size;omega⟩
  ·have hmb:decide (house∈aX q.parts)=false:=decide_eq_false hm
   have HF:Hid (wF q house=([q],[],[])):=η (by unfold wF;rw [if_neg (by simp [hm])]);clear hm;go_enter Tryz.func120,Tryz.ntmps120;go_wp2_with fail
   refine(sS.o _ (Grow.refl _)).mono ?_;rintro e w1 ⟨rfl,hb1⟩;have G1:=η hb1;rw [hnb];replace c1:=hb1.sub _ _ c1;clear hb1 hnb c0 c2 c3 b0 b1 b2 b3;go_wp2_with fail
   refine(uy.o _ (xL.o.mono G1.o.sub)).mono ?_;rintro e w2 ⟨v2,rfl,ho2,hb2⟩;obtain⟨a2,c2',rfl⟩:=aY ho2;have HI2:=η (nD ho2 (jI q.parts));have G2:=η (G1.o.trans hb2);clear ho2 hb2 c1;go_wp2_with fail
   refine(fC (n:=house) _ HI2.o).mono ?_;rintro e w3 ⟨rfl,hb3⟩;have G3:=η (G2.o.trans hb3);rw [hmb];clear hb3 hmb;go_wp2;go_ret;exact⟨_,rfl,_,_,L,aj HRW.o G3.o,by rw [HF.o,List.append_nil];exact HRR.o.later G3.o,by rw [HF.o];exact kY.o.symm,by rw [HF.o];exact Sl.nil _ _,(G3.o).size⟩
def vG (o:Opn) (n:Int):List Opn×List Rc×List Ms:=
 if o.dec=true/\n∈aX o.parts/\n∉o.heard then
  (if o.heard.length+1=(aX o.parts).length then([],[⟨6,o.deed,[]⟩],[]) else([⟨o.deed,o.parts,o.dec,o.heard++ [n]⟩],[],[]))
 else([o],[],[])
theorem Xy {wz:World} (w:World) {B k:Nat} {vl vo:Value} {lg:List Rc} {L:List vW} {x:vW} {aG next house:Int} (hr:HR wz w B vl vo lg L) (hrow:w.heap[B]? =some (.cells #[vl,ι aG,ι next,vo] 29 (0,0))) (hk:L[k]? =some x) (hp:F9 x.1.parts) (hh:I64 house) (UG:lg.length<=100000) (hL:L.length<=12) (h3:x.1.heard.length<=3)
  (hle:house∈aX x.1.parts->house∉x.1.heard->x.1.heard.length+1<=(aX x.1.parts).length):
  Calls Tryz.prog 122 #[.pointer (some ⟨B,0,none⟩),ι k,ι house] w fun e w'=>e=.returned (.tuple #[])/\Xq wz w B k aG next lg (L.map (·.1)) (vG x.1 house) (ς none 0 0) w':=by
 obtain⟨q,xv⟩:=x;dsimp only at hp h3 hle ⊢;obtain⟨al,cl,ao,co,rfl,rfl⟩:=hr.form;have hkl:=(List.getElem?_eq_some_iff.1 hk).1;obtain⟨g,vp,rfl,hg1,hg2,c0,c1,c2,c3,i0,hP,hH⟩:=hr.at_ rfl hk;obtain⟨ap,cp,rfl,-⟩:=id hP;dsimp only at c0 c1 c2 c3 i0 hP hH;obtain⟨ah,ch,rfl⟩:=hH.form;have xL:=η (hP.mono (fF _ _ _));have OR:Hid (Sl Ty.int w.cell? (ς ah q.heard.length ch) q.heard):=η (hH.slc ε (fun _ _ e=>by cases e) fun _ _=>rfl);have sS:=η (fun(W:World) (hW:Grow w W)=>fC (n:=house) W (OR.o.mono hW.sub));have uy:=η (fun(W:World) (hs:Sl Ty.pt W.cell? (ς ap q.parts.length cp) q.parts)=>jB W hs (τ hp.len) hp.ne hp.lt);have QW:=η hle;have HRR:=η hr;have HK:=η hk;have NZ:=η hkl;have HI0:=η i0;have HIH:=η hh;have NN:=η hP;have UN:=η hH;have zo:=η hp;have HRW:=η hrow;have kY:Hid ((L.map (·.1)).take k++([q]++(L.map (·.1)).drop (k+1))=L.map (·.1)):=η (by
  have e:(L.map (·.1))[k]? =some q:=by rw [List.getElem?_map,hk];rfl
  have hk2:k<(L.map (·.1)).length:=by simpa using hkl
  have e2:(L.map (·.1))[k]=q:=(List.getElem?_eq_some_iff.1 e).2;rw [<-e2,List.singleton_append,<-List.drop_eq_getElem_cons hk2,List.take_append_drop])
 obtain⟨b0,b1,b2,b3⟩:=cells4 hrow;have zB:B<w.heap.size:=(γ hrow);clear hp hle hr hk i0 hh hP hH hrow;obtain⟨t,ht⟩:∃t,t=q.dec:=⟨_,rfl⟩;rw [<-ht] at c2;have HT:=η ht;clear ht;cases t with
 |false=>
  have HF:Hid (vG q house=([q],[],[])):=η (by unfold vG;rw [if_neg (by rw [<-HT.o];simp)]);go_enter Tryz.func122,Tryz.ntmps122;go_wp2;refine bodyPost_ret (v:=.tuple #[]) (by simp [results,Tryz.results122,go_sem]) rfl ?_;exact⟨rfl,_,_,L,HRW.o,by rw [HF.o,List.append_nil];exact HRR.o,by rw [HF.o];exact kY.o.symm,by rw [HF.o];exact Sl.nil _ _,Nat.le_refl _⟩
 |true=>
  by_cases hn:house∈q.heard
  ·have hnb:decide (house∈q.heard)=true:=decide_eq_true hn
   have HF:Hid (vG q house=([q],[],[])):=η (by unfold vG;rw [if_neg (by simp [hn])]);clear hn;go_enter Tryz.func122,Tryz.ntmps122;go_wp2_with fail
   refine(sS.o _ (Grow.refl _)).mono ?_;rintro e w1 ⟨rfl,hb1⟩;have G1:=η hb1;rw [hnb];clear hb1 hnb c0 c1 c2 c3 b0 b1 b2 b3;go_wp2;refine bodyPost_ret (v:=.tuple #[]) (by simp [results,Tryz.results122,go_sem]) rfl ?_;exact⟨rfl,_,_,L,aj HRW.o G1.o,by rw [HF.o,List.append_nil];exact HRR.o.later G1.o,by rw [HF.o];exact kY.o.symm,by rw [HF.o];exact Sl.nil _ _,(G1.o).size⟩
  have hnb:decide (house∈q.heard)=false:=decide_eq_false hn;have TY:=η hn;clear hn;by_cases hm:house∈aX q.parts
  ·have xN:=η hm
   have hmb:decide (house∈aX q.parts)=true:=decide_eq_true hm;have wP:=η (QW.o hm TY.o);clear hm;go_enter Tryz.func122,Tryz.ntmps122;go_wp2_with fail
   refine(sS.o _ (Grow.refl _)).mono ?_;rintro e w1 ⟨rfl,hb1⟩;have G1:=η hb1;rw [hnb];replace c1:=hb1.sub _ _ c1;clear hb1 hnb c0 c2 c3 b0 b1 b2 b3;go_wp2_with fail
   refine(uy.o _ (xL.o.mono G1.o.sub)).mono ?_;rintro e w2 ⟨v2,rfl,ho2,hb2⟩;obtain⟨a2,c2',rfl⟩:=aY ho2;have HI2:=η (nD ho2 (jI q.parts));have G2:=η (G1.o.trans hb2);clear ho2 hb2 c1;go_wp2_with fail
   refine(fC (n:=house) _ HI2.o).mono ?_;rintro e w3 ⟨rfl,hb3⟩;have G3:=η (G2.o.trans hb3);rw [hmb];clear hb3 hmb HI2;have HR3:=η (HRR.o.later G3.o);have OS:=η (aj HRW.o G3.o);obtain⟨g',eI,e1,-,zg,c0,c1,c2,c3,-,hp3,-⟩:=HR3.o.at_ rfl HK.o;obtain rfl:g=g':=by simpa using e1
   dsimp only at c0 c2 c3;have sf:=HR3.o.free;clear e1 hp3 c1 c2 c0;go_wp2_with (first|(at_builtin;refine aZ (c:=fun _=>none) (base:=wz.heap.size) (l:=q.heard) (m:=[house]) (v:=ς ah q.heard.length ch) iM rfl jW ε rfl (.tmp 40) (.tmp 42) rfl rfl ?own rfl (Src.bQ (T:=Ty.int) (x:=house) (cs:=#[ι house]) ⟨rfl,HIH.o⟩ _ _ ?d1) ?d2 ?d3 ?_))
   case own=>exact UN.o.grow (G3.o.alloc _)
   case d1=>first|rfl|simp
   case d2=>simp;omega
   case d3=>have:=HR3.o.grow.size;simp;omega
   intro a5 c5 w5 kJ hg5 hb5;have rG:=η hg5;have JF:=η (HR3.o.later ((Grow.refl _).alloc (.cells #[ι house] 3)));have hoff:=JF.o.ok.off (HR.iQ HK.o) (j:=2) rfl δ;have PL:some g≠(Value.slice ah q.heard.length ch).ownBlock:=fun e=>by
    rcases hoff with h|h
    ·rw [h] at e;cases e
    ·exact h e.symm
   have O0:=η (aH (aj OS.o ((Grow.refl _).alloc (.cells #[ι house] 3))) hg5 (fun e=>by
    have h9:=JF.o.ok.off (HR.iQ HK.o) (j:=0) rfl δ;rcases h9 with h|h
    ·rw [h] at e;cases e
    ·exact h e.symm))
   have qI:=η (HR.hear JF.o rfl HK.o (W2:=w5) (v':=ς a5 (q.heard.length+1) c5) (l':=q.heard++ [house]) hg5 (hb5.imp_right fun⟨g,e,hge⟩=>⟨g,e,by simpa using hge⟩) kJ).1;have e3:w5.cell? ⟨g,k*4+3,none⟩=some (ς ah q.heard.length ch):=by
    rw [World.cell?_of_block (a:=⟨g,k*4+3,none⟩) (hg5.block g (by simp;omega) PL)];exact((Grow.refl w3).alloc _).sub _ _ c3
   have ef:∀p,w5.frozen? ⟨g,p,none⟩=false:=fun p=>by
    rw [World.frozen?_of_block (a:=⟨g,p,none⟩) (hg5.block g (by simp;omega) PL)];exact JF.o.free p
   have O2:g<w5.heap.size:=World.block_lt_of_cell? _ _ e3;clear sf kJ hg5 hb5 c3 zg hoff PL;go_upto_region 3 with fail
   obtain⟨w6,hw6⟩:∃y:World,y=w5.setCell ⟨g,k*4+3,none⟩ (ς a5 (q.heard.length+1) c5):=⟨_,rfl⟩;rw [<-hw6] at qI ⊢;have hY:Hid (w6.heap[B]? =some (.cells #[ς al lg.length cl,ι aG,ι next,ς (some ⟨g,0,none⟩) L.length co] 29 (0,0))):=η (aH O0.o (by rw [hw6];exact grownBy_setCell w5 ⟨g,k*4+3,none⟩ _) (fun e=>by
    rcases HRR.o.ok.off (i:=0) (j:=2) rfl rfl ε with h|h
    ·cases h
    ·exact h e))
   have xS:Hid (w.heap.size<=w6.heap.size):=η (by rw [hw6];have:=G3.o.size;have:=rG.o.size;simp at*;omega);clear hw6 e3 ef O2;have iA:Hid ((L.set k (⟨q.deed,q.parts,q.dec,q.heard++ [house]⟩,Value.slice a5 (q.heard.length+1) c5))[k]? =some (⟨q.deed,q.parts,q.dec,q.heard++ [house]⟩,Value.slice a5 (q.heard.length+1) c5)):=η (List.getElem?_set_self NZ.o);have xZ:Hid (HR wz w6 B (ς al lg.length cl) (ς (some ⟨g,0,none⟩) L.length co) lg (L.set k (⟨q.deed,q.parts,q.dec,q.heard++ [house]⟩,Value.slice a5 (q.heard.length+1) c5))):=η qI.o;clear qI;obtain⟨g6,vp6,e6,zU,O3,d0,d1,d2,d3,-,Xt,-⟩:=xZ.o.at_ σ iA.o;obtain rfl:g=g6:=by simpa using e6
   obtain⟨a6,c6,rfl,-⟩:=id Xt;dsimp only at d0 d1 d2 d3 Xt;have iB:=η (Xt.mono (fF _ _ _));have HPF:=η Xt;have HS:Hid (∀W,Grow w6 W->W.cell? ⟨g,k*4+3,none⟩=some (ς a5 (q.heard.length+1) c5)/\W.cell? ⟨g,k*4+1,none⟩=some (ς a6 q.parts.length c6)):=fun W hW=>⟨hW.sub _ _ d3,hW.sub _ _ d1⟩;have iN:Hid ((L.set k (⟨q.deed,q.parts,q.dec,q.heard++ [house]⟩,Value.slice a5 (q.heard.length+1) c5)).map (·.1)=(L.map (·.1)).take k++([⟨q.deed,q.parts,q.dec,q.heard++ [house]⟩]++(L.map (·.1)).drop (k+1))):=η (by rw [List.map_set,List.set_eq_take_append_cons_drop,if_pos (by simpa using NZ.o)];rfl);clear e6 zU O3 d0 d1 d2 d3 Xt;by_cases hall:q.heard.length+1=(aX q.parts).length
   ·have EM:=η hall
    have hdn:(q.heard.length+1==(aX q.parts).length)=true:=by simp [hall]
    have hdi:((q.heard.length:Int)+1==((aX q.parts).length:Int))=true:=by simp;omega
    clear hall;have PN:=η (fun(W:World) (hs:Sl Ty.pt W.cell? (ς a6 q.parts.length c6) q.parts)=>jB W hs (τ zo.o.len) zo.o.ne zo.o.lt);refine Cm (fun w'=>w'.cell? ⟨g,k*4+3,none⟩=some (ς a5 (q.heard.length+1) c5)/\w'.cell? ⟨g,k*4+1,none⟩=some (ς a6 q.parts.length c6)) [11] κ ?_;intro wd GD zD;have ZD:=η zD;clear zD;refine lY [0,1,2,3,4,5,6,7,8] 14 κ (fun _ _ _ _ _ h=>h) (HS.o _ GD) ?_;repeat (refine gq ?_;try simp only [aK])
    refine lZ ?_;refine iR 9 κ rfl ?_;intro K HK;try simp only [aV]
    go_simp;go_at_call 103
    refine(PN.o _ (iB.o.mono (GD).sub)).mono ?_;rintro e w8 ⟨v8,rfl,kV,hb8⟩;obtain⟨a8,c8,rfl⟩:=aY kV;have G8:=η (Grow.trans GD hb8);clear kV hb8;refine HK.o _ _ ⟨.inr (HS.o _ G8.o),?_⟩;clear HK K;try simp only [aK]
    refine lY [10] 14 κ (fun _ _ _ _ _ h=>h) (HS.o _ G8.o) ?_;repeat (refine gq ?_;try simp only [aK])
    refine lZ ?_;refine iR 11 κ rfl ?_;intro K HK;try simp only [aV]
    go_simp;refine HK.o _ _ ⟨.inl ε,?_⟩;clear HK K;try simp only [aK]
    refine wO κ ?_;have pE:=η (aj hY.o G8.o);have Xu:=η (xZ.o.later G8.o);obtain⟨e0,-,-,-⟩:=cells4 pE.o;obtain⟨g7,vp7,e7,-,-,d0,-,-,-,-,-,-⟩:=Xu.o.at_ σ iA.o;obtain rfl:g=g7:=by simpa using e7
    dsimp only at d0;have d1:=(HS.o _ G8.o).2;have Jt:Hid (∀W,Grow w8 W->W.cell? ⟨B,0,none⟩=some (ς al lg.length cl)/\W.cell? ⟨g,k*4,none⟩=some (ι q.deed)):=fun W hW=>⟨hW.sub _ _ e0,hW.sub _ _ d0⟩;clear e7 e0 d0 d1;go_upto_region 4 with fail
    refine Cm (fun w'=>w'.cell? ⟨B,0,none⟩=some (ς al lg.length cl)/\w'.cell? ⟨g,k*4,none⟩=some (ι q.deed)) [14] κ ?_;intro wd GD zD;have ZD:=η zD;clear zD;refine lY [0,1,2,3,4,5,6,7,8] 17 κ (fun _ _ _ _ _ h=>h) (Jt.o _ GD) ?_;repeat (refine gq ?_;try simp only [aK])
    refine lZ ?_;refine lY [9] 17 κ (fun _ _ _ _ _ h=>h) (Jt.o _ GD) ?_;repeat (refine gq ?_;try simp only [aK])
    refine lZ ?_;refine iR 10 κ rfl ?_;intro K HK;try simp only [aV]
    go_simp;obtain⟨w10,Gg⟩:∃y:World,y=wd.alloc (.cells #[ι 6,ι q.deed,()] 79):=⟨_,rfl⟩;have jc:Hid (Grow w8 w10):=η (by rw [Gg];exact(GD).alloc _);have JG:=η (xZ.o.later (G8.o.trans jc.o));have uq:Hid (Src Ty.rc (fr wz w10 (hro B (ς al lg.length cl) (ς (some ⟨g,0,none⟩) L.length co) (L.set k (⟨q.deed,q.parts,q.dec,q.heard++ [house]⟩,Value.slice a5 (q.heard.length+1) c5)))) w10 (ς (some ⟨wd.heap.size,0,none⟩) 1 1) [(⟨6,q.deed,[]⟩:Rc)]):=η (by rw [Gg];exact Src.bQ (T:=Ty.rc) (x:=(⟨6,q.deed,[]⟩:Rc)) (cs:=#[ι 6,ι q.deed,()]) ⟨_,rfl,(show I64 6 from by unfold I64;decide),HI0.o,Sl.nil _ _⟩ _ _ rfl);rw [<-Gg];clear Gg;refine HK.o _ _ ⟨.inr (Jt.o _ jc.o),?_⟩;clear HK K;try simp only [aK]
    refine iR 11 κ rfl ?_;intro K HK;refine aC rfl ?_;try simp only [aV]
    refine dD (c:=(fr wz w10 (hro B (ς al lg.length cl) (ς (some ⟨g,0,none⟩) L.length co) (L.set k (⟨q.deed,q.parts,q.dec,q.heard++ [house]⟩,Value.slice a5 (q.heard.length+1) c5))))) (base:=wz.heap.size) (l:=lg) (m:=[(⟨6,q.deed,[]⟩:Rc)]) (v:=ς al lg.length cl) jv rfl eY ε (.tmp 62) (.tmp 68) rfl rfl JG.o.log rfl uq.o (by simp;omega) (by have:=xZ.o.grow.size;have:=G8.o.size;have:=jc.o.size;omega) ?_;intro a9 c9 ru Xv JH tH;have EX:=η (JG.o.logs JH tH Xv);have Gh:=η JH;have NB:Hid (some B≠(Value.slice al lg.length cl).ownBlock):=η (fun e=>by rcases xZ.o.ok.off (i:=0) (j:=1) rfl rfl ε with h|h;exact absurd h σ;exact h e);have iS:=η (aH (aj hY.o (G8.o.trans jc.o)) JH NB.o);have NG:Hid (some g≠(Value.slice al lg.length cl).ownBlock):=η (fun e=>by rcases xZ.o.ok.off (i:=2) (j:=1) rfl rfl ε with h|h;exact absurd h (by simp [Value.ownBlock]);exact h e);have Au:Hid (ru.cell? ⟨B,0,none⟩=some (ς al lg.length cl)/\ru.cell? ⟨g,k*4,none⟩=some (ι q.deed)):=η (by
     have hs:=Jt.o w10 jc.o;exact⟨Gh.o.cell hs.1 NB.o,Gh.o.cell hs.2 NG.o⟩)
    clear Xv JH tH;refine HK.o _ _ ⟨.inr (Au.o),?_⟩;clear HK K;try simp only [aK]
    refine lY [12,13] 17 κ (fun _ _ _ _ _ h=>h) (Au.o) ?_;repeat (refine gq ?_;try simp only [aK])
    refine lZ ?_;refine iR 14 κ rfl ?_;intro K HK;refine aC rfl ?_;try simp only [aV]
    refine aU (.tmp 71) (.tmp 69) (v:=ς a9 (lg.length+1) c9) (new:=#[ς a9 (lg.length+1) c9,ι aG,ι next,ς (some ⟨g,0,none⟩) L.length co]) rfl rfl ρ ρ iS.o nT σ ρ ρ ?_;intro w12 r12 g12;refine HK.o _ _ ⟨.inl ε,?_⟩;clear HK K;try simp only [aK]
    refine wO κ ?_;have yT:=η (EX.o.box g12);have R12:=η r12;have iX:Hid (w.heap.size<=w12.heap.size):=η (by have:=xS.o;have:=G8.o.size;have:=jc.o.size;have:=Gh.o.size;have:=g12.size;omega);clear r12 g12;have HF:Hid (vG q house=([],[⟨6,q.deed,[]⟩],[])):=η (by unfold vG;rw [if_pos ⟨HT.o.symm,xN.o,TY.o⟩,if_pos EM.o]);have FP:=η (EW (k:=k) yT.o.Zu (by simpa using NZ.o));rw [List.length_set,List.eraseIdx_set_eq] at FP;have hk12:(k:Int)+1<=13:=by have:=NZ.o;omega
    have hw1:IntKind.i64.wrap ((k:Int)+1)=(k:Int)+1:=IntWalk.i64_in _ δ;obtain⟨e0,e1,e2,e3⟩:=cells4 R12.o;have zB:B<w12.heap.size:=(γ R12.o);go_wp2_with fail
    refine FP.o.mono ?_;rintro e sD ⟨rfl,x_,Zw⟩;have Xx:=η (yT.o.erase (k:=k) (jZ:=ς (some ⟨g,0,none⟩) (L.length - 1) co) Zw rfl (by rw [List.eraseIdx_set_eq];exact x_));have i5:=η (aH R12.o Zw (fun e=>by rcases xZ.o.ok.off (i:=0) (j:=2) rfl rfl ε with h|h;exact absurd h σ;exact h e));have PC:Hid (w.heap.size<=sD.heap.size):=η (by have:=iX.o;have:=Zw.size;omega);clear x_ Zw e0 e1 e2 e3 zB FP hw1 hk12;go_wp2_with (first|(refine aN rfl (.tmp 82) (.tmp 80) (v:=ς (some ⟨g,0,none⟩) (L.length - 1) co) (new:=#[ς a9 (lg.length+1) c9,ι aG,ι next,ς (some ⟨g,0,none⟩) (L.length - 1) co]) rfl rfl ρ ρ i5.o eH σ ρ ρ ?_))
    intro uF i7 g14;go_wp2;go_end0;have z1:=PC.o;have z2:=g14.size;refine⟨rfl,_,_,_,i7,by rw [HF.o];exact Xx.o.box g14,?_,by rw [HF.o];exact Sl.nil _ _,δ⟩;rw [HF.o,List.eraseIdx_set_eq,List.eraseIdx_eq_take_drop_succ,List.map_append,List.map_take,List.map_drop];rfl
   ·have x8:=η hall
    have hdn:(q.heard.length+1==(aX q.parts).length)=false:=by simp [hall]
    have hdi:((q.heard.length:Int)+1==((aX q.parts).length:Int))=false:=by simp;omega
    clear hall;have HF:Hid (vG q house=([⟨q.deed,q.parts,q.dec,q.heard++ [house]⟩],[],[])):=η (by unfold vG;rw [if_pos ⟨HT.o.symm,xN.o,TY.o⟩,if_neg x8.o]);have PN:=η (fun(W:World) (hs:Sl Ty.pt W.cell? (ς a6 q.parts.length c6) q.parts)=>jB W hs (τ zo.o.len) zo.o.ne zo.o.lt);refine Cm (fun w'=>w'.cell? ⟨g,k*4+3,none⟩=some (ς a5 (q.heard.length+1) c5)/\w'.cell? ⟨g,k*4+1,none⟩=some (ς a6 q.parts.length c6)) [11] κ ?_;intro wd GD zD;have ZD:=η zD;clear zD;refine lY [0,1,2,3,4,5,6,7,8] 14 κ (fun _ _ _ _ _ h=>h) (HS.o _ GD) ?_;repeat (refine gq ?_;try simp only [aK])
    refine lZ ?_;refine iR 9 κ rfl ?_;intro K HK;try simp only [aV]
    go_simp;go_at_call 103
    refine(PN.o _ (iB.o.mono (GD).sub)).mono ?_;rintro e w8 ⟨v8,rfl,kV,hb8⟩;obtain⟨a8,c8,rfl⟩:=aY kV;have G8:=η (Grow.trans GD hb8);clear kV hb8;refine HK.o _ _ ⟨.inr (HS.o _ G8.o),?_⟩;clear HK K;try simp only [aK]
    refine lY [10] 14 κ (fun _ _ _ _ _ h=>h) (HS.o _ G8.o) ?_;repeat (refine gq ?_;try simp only [aK])
    refine lZ ?_;refine iR 11 κ rfl ?_;intro K HK;try simp only [aV]
    go_simp;refine HK.o _ _ ⟨.inl ε,?_⟩;clear HK K;try simp only [aK]
    refine wO κ ?_;go_wp2;go_end0;exact⟨rfl,_,_,_,aj hY.o G8.o,by rw [HF.o,List.append_nil];exact xZ.o.later G8.o,by rw [HF.o];exact iN.o,by rw [HF.o];exact Sl.nil _ _,by have:=xS.o;have:=G8.o.size;omega⟩
  ·have hmb:decide (house∈aX q.parts)=false:=decide_eq_false hm
   have HF:Hid (vG q house=([q],[],[])):=η (by unfold vG;rw [if_neg (by simp [hm])]);clear hm;go_enter Tryz.func122,Tryz.ntmps122;go_wp2_with fail
   refine(sS.o _ (Grow.refl _)).mono ?_;rintro e w1 ⟨rfl,hb1⟩;have G1:=η hb1;rw [hnb];replace c1:=hb1.sub _ _ c1;clear hb1 hnb c0 c2 c3 b0 b1 b2 b3;go_wp2_with fail
   refine(uy.o _ (xL.o.mono G1.o.sub)).mono ?_;rintro e w2 ⟨v2,rfl,ho2,hb2⟩;obtain⟨a2,c2',rfl⟩:=aY ho2;have HI2:=η (nD ho2 (jI q.parts));have G2:=η (G1.o.trans hb2);clear ho2 hb2 c1;go_wp2_with fail
   refine(fC (n:=house) _ HI2.o).mono ?_;rintro e w3 ⟨rfl,hb3⟩;have G3:=η (G2.o.trans hb3);rw [hmb];clear hb3 hmb;go_wp2;refine bodyPost_ret (v:=.tuple #[]) (by simp [results,Tryz.results122,go_sem]) rfl ?_;exact⟨rfl,_,_,L,aj HRW.o G3.o,by rw [HF.o,List.append_nil];exact HRR.o.later G3.o,by rw [HF.o];exact kY.o.symm,by rw [HF.o];exact Sl.nil _ _,(G3.o).size⟩
theorem Ii {m:Ms}:∀{l:List Opn},l.findIdx? (fun o=>o.deed==m.deed)=none->jP m l=none
 | [],_=>rfl
 |o::l,h=>by
  rw [List.findIdx?_cons] at h;split at h
  ·cases h
  ·rename_i hn
   rw [jP,if_neg (fun e=>hn (by simp [e])),Ii (by simpa using h)];rfl
theorem Ij {m:Ms}:∀{l:List Opn} {k:Nat} {q:Opn},l.findIdx? (fun o=>o.deed==m.deed)=some k->l[k]? =some q->jP m l=some (l.take k++((dJ q m).1++l.drop (k+1)),(dJ q m).2)/\q.deed=m.deed
 | [],_,_,h,_=>by simp at h
 |o::l,k,q,h,hq=>by
  rw [List.findIdx?_cons] at h;split at h
  ·rename_i he
   obtain rfl:=Option.some.inj h;obtain rfl:=Option.some.inj hq;have he':o.deed=m.deed:=by simpa using he
   exact⟨by rw [jP,if_pos he'];rfl,he'⟩
  ·rename_i hn
   cases k with
   |zero=>simp at h
   |succ k=>
    have h':l.findIdx? (fun o=>o.deed==m.deed)=some k:=by simpa using h
    obtain⟨e1,e2⟩:=Ij h' (by simpa using hq);exact⟨by rw [jP,if_neg (fun e=>hn (by simp [e])),e1];rfl,e2⟩
theorem Us {o:Opn} {m:Ms} (h:m.kind=2):dJ o m=wF o m.house:=by
 unfold dJ wF;rw [h];by_cases hd:o.dec=true
 ·simp [hd]
 ·have hd':o.dec=false:=by simpa using hd
  simp [hd'];try (split<;>rfl)
theorem Ut {o:Opn} {m:Ms} (h:m.kind=6):dJ o m=vG o m.house:=by
 unfold dJ vG;rw [h];by_cases hd:o.dec=true
 ·simp [hd]
  try (split<;>rfl)
 ·have hd':o.dec=false:=by simpa using hd
  simp [hd']
theorem Df {c:CM} {k d n:Int} (hk:I64 k) (hd:I64 d) (hn:I64 n) (w:World) {b:Nat} (hb:b<=w.heap.size):aI Ty.ms c (w.alloc (.cells #[ι k,ι d,ι n,()] 85)) b 85 (ς (some ⟨w.heap.size,0,none⟩) 1 1) [⟨k,d,n,[]⟩]:=
 ⟨[[ι k,ι d,ι n,()]],World.ownsRow_lit w #[ι k,ι d,ι n,()] 1 hb ε rfl,rfl,fun i cs x a b=>by
  match i with
  |0=>
   simp only [List.getElem?_cons_zero,Option.some.injEq] at a b;subst a;subst b;exact⟨_,rfl,hk,hd,hn,Sl.nil _ _⟩
  |i+1=>simp at a⟩
theorem Uu (o:Opn) (n:Int):(vG o n).2.2=[]:=by
 unfold vG;split
 ·split<;>rfl
 ·rfl
theorem MX (w:World) (B:Nat) (d:Int) (l:List Opn) (hc:w.cell? ⟨B,1,none⟩=some (ι d)) (hB:B<w.heap.size):qF Tryz.prog Ty.opn lQ w 119 #[.pointer (some ⟨B,0,none⟩)] l (fun o=>o.deed==d) where
 ent:=fun args w=>by kernel_rfl
 say:=fun wx cs x hg _ hR=>by
  obtain⟨vp,vh,rfl,-,hp,hh⟩:=hR;obtain⟨ap,cp,rfl,-⟩:=hp;obtain⟨ah,ch,rfl,-⟩:=hh;have hBx:B<wx.heap.size:=Nat.lt_of_lt_of_le hB hg.size;have hc2:wx.cell? ⟨B,1,none⟩=some (ι d):=hg.sub _ _ hc;clear hc;show Calls _ _ #[.agg #[ι x.deed,ς ap x.parts.length cp,.bool x.dec,ς ah x.heard.length ch],.pointer (some ⟨B,0,none⟩)] _ _;go_enter Tryz.func119,Tryz.ntmps119;go_wp2;go_ret;exact⟨rfl,gY⟩
def MZ (w:World) (h:Hd) (m:Ms) (v1 v2:Value) (w':World):Prop:=Of Ty.hd (ov (fun _=>none) w w') v1 (f_ h m)/\Sl Ty.ms (ov (fun _=>none) w w') v2 (fG h m)/\Grow w w'
theorem HR.fin {w W:World} {B:Nat} {vl vo v2:Value} {h:Hd} {m:Ms} {lg:List Rc} {L:List vW} (b:HR w W B vl vo lg L) (h1:I64 h.aG) (h2:I64 h.next) (he:f_ h m=⟨lg,h.aG,h.next,L.map (·.1)⟩) (hm:Sl Ty.ms (ov (fun _=>none) w W) v2 (fG h m)):MZ w h m (.agg #[vl,ι h.aG,ι h.next,vo]) v2 W:=
 ⟨by rw [he];exact b.of h1 h2,hm,b.grow⟩
structure Rt (h:Hd):Prop where
 parts:∀o∈h.opn,F9 o.parts
 few:∀o∈h.opn,∀n,n∈aX o.parts->n∉o.heard->o.heard.length+1<=(aX o.parts).length
 logp:∀r∈h.log,r.parts.length*24<=140737488355328
theorem PO {v vm:Value} {h:Hd} {m:Ms} (w:World) (hv:Of Ty.hd w.cell? v h) (hm:Of Ty.ms w.cell? vm m) (hk:yR h) (hi:Rt h):
  Calls Tryz.prog 79 #[v,vm] w fun e w'=>∃v1 v2,e=.returned (.tuple #[v1,v2])/\MZ w h m v1 v2 w':=by
 obtain⟨al,cl,ar,cr,rfl⟩:=hv.dS;have yU:Hid (I64 m.kind/\I64 m.deed/\I64 m.house):=η (by obtain⟨cs,he,vp,rfl,i0,i1,i2,-⟩:=hm;exact⟨i0,i1,i2⟩);obtain⟨ap,cp,rfl⟩:=hm.fQ;have nG:Hid (I64 h.aG/\I64 h.next):=η (by obtain⟨cs,he,_,_,rfl,_,h1,h2,_⟩:=hv;exact⟨h1,h2⟩);have HOW:=η (fun(W:World) (hW:Grow w W)=>vF W (hv.mono hW.sub) hk hi.logp);have HKK:=η hk;have d8:=η hi;clear hk hv hi hm;obtain⟨wa,cO⟩:∃y:World,y=w.alloc (.cells #[ς al h.log.length cl,ι h.aG,ι h.next,ς ar h.opn.length cr] 29):=⟨_,rfl⟩;obtain⟨wb,hwb⟩:∃y:World,y=wa.alloc (.cells #[ι m.kind,ι m.deed,ι m.house,ς ap m.parts.length cp] 85):=⟨_,rfl⟩;obtain⟨wz,hwz⟩:∃y:World,y=wb.alloc (.cells #[(),ι 0,ι 0,()] 29):=⟨_,rfl⟩;have hsa:wa.heap.size=w.heap.size+1:=by rw [cO];simp
 have hsb:wb.heap.size=w.heap.size+2:=by rw [hwb];simp [hsa]
 have R1:Hid (wz.heap[w.heap.size]? =some (.cells #[ς al h.log.length cl,ι h.aG,ι h.next,ς ar h.opn.length cr] 29 (0,0))):=η (by rw [hwz,hwb,cO];exact aB (aB (aF _ _) _) _);have RM:Hid (wz.heap[w.heap.size+1]? =some (.cells #[ι m.kind,ι m.deed,ι m.house,ς ap m.parts.length cp] 85 (0,0))):=η (by rw [hwz,hwb,<-hsa];exact aB (aF _ _) _);have R4:Hid (wz.heap[w.heap.size+2]? =some (.cells #[(),ι 0,ι 0,()] 29 (0,0))):=η (by rw [hwz,<-hsb];exact aF _ _);have G1:Hid (Grow w wz):=η (by rw [hwz,hwb,cO];exact(((Grow.refl w).alloc _).alloc _).alloc _);have HZ:Hid (wz.heap.size=w.heap.size+3):=η (by rw [hwz];simp [hsb]);go_enter Tryz.func79,Tryz.ntmps79;go_upto_region 1 with fail
 rw [<-cO];try rw [hsa]
 rw [<-hwb];try rw [hsb]
 rw [<-hwz];clear cO hwb hwz hsa hsb;obtain⟨c0,c1,c2,c3⟩:=cells4 R1.o;have z1:w.heap.size<wz:=(γ R1.o);go_wp2_with fail
 refine(HOW.o _ G1.o).mono ?_;rintro e w1 ⟨vl,vo,B0,L,rfl,hl,hr0⟩;obtain⟨ag,cg,ao,co,rfl,rfl⟩:=hr0.form;have HL:=η hl;have HR0:=η hr0;clear hr0 hl c0 c1 c2 c3 z1;obtain⟨w2,hw2⟩:∃y:World,y=w1.alloc (.cells #[ς ag h.log.length cg,ι h.aG,ι h.next,ς ao L.length co] 29):=⟨_,rfl⟩;obtain⟨B6,Jc⟩:∃y,y=w1.heap.size:=⟨_,rfl⟩;have R6:Hid (w2.heap[B6]? =some (.cells #[ς ag h.log.length cg,ι h.aG,ι h.next,ς ao L.length co] 29 (0,0))):=η (by rw [hw2,Jc];exact aF _ _);have HRR:Hid (HR wz w2 B6 (ς ag h.log.length cg) (ς ao L.length co) h.log L):=η (HR0.o.MR (by rw [hw2];exact(Grow.refl _).alloc _) δ (by rw [hw2,Jc];simp));have i8:=η (aj RM.o HRR.o.grow);go_upto_region 2 with fail
 rw [<-hw2,<-Jc];clear hw2 Jc;obtain⟨d0,d1,d2,d3⟩:=cells4 R6.o;obtain⟨m0,m1,m2,m3⟩:=cells4 i8.o;have z6:B6<w2.heap.size:=(γ R6.o);have zm:w.heap.size+1<w2:=(γ i8.o);have i_:=η (wJ (p:=fun o=>o.deed==m.deed) w2 (HRR.o.Lj.slc (d:=w2.cell?) ε (fun a v e=>by unfold ov at e;split at e;cases e;exact e) fun _ _=>rfl) (MX w2 (w.heap.size+1) m.deed _ m1 zm));rw [HL.o] at i_;go_wp2_with fail
 refine i_.o.mono ?_;rintro e w3 ⟨rfl,hb3⟩;have HR3:=η (HRR.o.later hb3);have Yl:=η (aj R6.o hb3);have jN:=η (aj i8.o hb3);have UO:=η (aj R4.o HR3.o.grow);have PF:=η RM.o;clear hb3 d0 d1 d2 d3 m0 m1 m2 m3 z6 zm i_ R6 i8 HRR HR0 R1 RM;have HS:Hid (∀W,Grow w3 W->W.cell? ⟨B6,0,none⟩=some (ς ag h.log.length cg)/\W.cell? ⟨B6,1,none⟩=some (ι h.aG)/\W.cell? ⟨B6,2,none⟩=some (ι h.next)/\W.cell? ⟨B6,3,none⟩=some (ς ao L.length co)/\W.cell? ⟨w.heap.size+1,1,none⟩=some (ι m.deed)/\W.cell? ⟨w.heap.size+1,2,none⟩=some (ι m.house)):=fun W hW=>by
  obtain⟨j0,j1,j2,j3⟩:=cells4 (aj Yl.o hW);obtain⟨-,k1,k2,-⟩:=cells4 (aj jN.o hW);exact⟨j0,j1,j2,j3,k1,k2⟩
 have Bz:Hid (wz.heap.size<=B6/\B6<w3.heap.size):=η (HR3.o.ok.lt B6 (by simp [hro]));obtain⟨d0,d1,d2,d3⟩:=cells4 Yl.o;obtain⟨m0,m1,m2,m3⟩:=cells4 jN.o;have z6:B6<w3.heap.size:=(γ Yl.o);have zm:w.heap.size+1<w3:=(γ jN.o);have zr:w.heap.size+2<w3:=(γ UO.o);cases hfi:h.opn.findIdx? (fun o=>o.deed==m.deed) with
 |none=>
  have hx:idxOf (fun o:Opn=>o.deed==m.deed) h.opn= -1:=by rw [idxOf,hfi]
  have wP:=η (Ii hfi);have HE:Hid (f_ h m=⟨h.log,h.aG,h.next,L.map (·.1)⟩):=η (by unfold f_;rw [wP.o,HL.o]);rw [hx];clear hx hfi;by_cases hkd:m.kind=7
  ·have lM:Hid (fG h m=[⟨5,m.deed,m.house,[]⟩]):=η (by unfold fG;rw [wP.o,if_pos hkd])
   have hk2:(m.kind==2)=false:=by simp [hkd]
   have hk3:(m.kind==3)=false:=by simp [hkd]
   have hk6:(m.kind==6)=false:=by simp [hkd]
   have pH:(m.kind==7)=true:=by simp [hkd]
   clear hkd;go_upto_region 13 with fail
   clear d0 d1 d2 d3 m0 m1 m2 m3 z6 zm zr;refine Cm (fun w'=>w'.cell? ⟨B6,0,none⟩=some (ς ag h.log.length cg)/\w'.cell? ⟨B6,1,none⟩=some (ι h.aG)/\w'.cell? ⟨B6,2,none⟩=some (ι h.next)/\w'.cell? ⟨B6,3,none⟩=some (ς ao L.length co)/\w'.cell? ⟨w.heap.size+1,1,none⟩=some (ι m.deed)/\w'.cell? ⟨w.heap.size+1,2,none⟩=some (ι m.house)) [8] κ ?_;intro wd GD zD;have ZD:=η zD;clear zD;refine lY [0,1,2,3,4,5] 11 κ (fun _ _ _ _ _ h=>h) (HS.o _ GD) ?_;repeat (refine gq ?_;try simp only [aK])
   refine lZ ?_;refine eE 6 7 κ rfl rfl ?_ ?_
   ·intro K HK
    try simp only [aV]
    go_simp;obtain⟨wy,hwy⟩:∃y:World,y=wd.alloc (.cells #[ι 5,ι m.deed,ι m.house,()] 85):=⟨_,rfl⟩;obtain⟨BY,PS⟩:∃y,y=wd.heap.size:=⟨_,rfl⟩;have Ik:Hid (aI Ty.ms (fun _=>none) wy wz.heap.size 85 (ς (some ⟨BY,0,none⟩) 1 1) [⟨5,m.deed,m.house,[]⟩]):=η (by rw [hwy,PS];exact Df (by unfold I64;decide) yU.o.2.1 yU.o.2.2 _ (by have:=Bz.o;have:=GD.size;omega));have GY:Grow wd wy:=by rw [hwy];exact(Grow.refl _).alloc _
    rw [<-hwy,<-PS];clear hwy PS;refine HK.o _ _ ⟨.inr (HS.o _ (GD.trans GY)),?_⟩;clear HK K;try simp only [aK]
    refine iR 7 κ rfl ?_;intro K HK;refine aC rfl ?_;try simp only [aV]
    refine wp_store_row (.tmp 4) (.tmp 85) rfl rfl rfl (aj UO.o (GD.trans GY)) bU rfl rfl ?_;intro w7 r7 g7;have M_:=η ((HR3.o.later (GD.trans GY)).past G1.o g7 (τ HZ.o));have Zx:=η (aH (aj Yl.o (GD.trans GY)) g7 (fun e=>by have:=Option.some.inj e;have:=Bz.o;have:=HZ.o;omega));have Zy:=η (aH (aj jN.o (GD.trans GY)) g7 (fun e=>by have:=Option.some.inj e;omega));have j6:=η (Ik.o.kept g7 (lu fun q hq=>by have:=(Ik.o.lt q hq).1;have:=HZ.o;omega));obtain⟨p0,p1,p2,p3⟩:=cells4 r7;refine HK.o _ _ ⟨.inr (by obtain⟨j0,j1,j2,j3⟩:=cells4 Zx.o;obtain⟨-,k1,k2,-⟩:=cells4 Zy.o;exact⟨j0,j1,j2,j3,k1,k2⟩),?_⟩;clear HK K;try simp only [aK]
    refine iR 8 κ rfl ?_;intro K HK;try simp only [aV]
    go_simp;refine HK.o _ _ ⟨.inl ε,?_⟩;clear HK K;try simp only [aK]
    refine wO κ ?_;go_wp2;refine bodyPost_ret (v:=.tuple #[.agg #[ς ag h.log.length cg,ι h.aG,ι h.next,ς ao L.length co],ς (some ⟨BY,0,none⟩) 1 1]) (by simp [results,Tryz.results79,go_sem,p0,p1,p2,p3]) rfl ?_;exact⟨_,_,rfl,M_.o.fin nG.o.1 nG.o.2 HE.o (by rw [lM.o];exact j6.o.slc ε (fun _ _ e=>by cases e) fun a ha=>bH (τ HZ.o))⟩
   ·intro K HK
    refine aC rfl ?_;try simp only [aV]
    refine wp_store_row (.tmp 4) (.tmp 85) rfl rfl rfl (aj UO.o GD) bU rfl rfl ?_;intro w7 r7 g7;have M_:=η ((HR3.o.later GD).past G1.o g7 (τ HZ.o));have Zx:=η (aH (aj Yl.o GD) g7 (fun e=>by have:=Option.some.inj e;have:=Bz.o;have:=HZ.o;omega));have Zy:=η (aH (aj jN.o GD) g7 (fun e=>by have:=Option.some.inj e;omega));refine HK.o _ _ ⟨.inr (by obtain⟨j0,j1,j2,j3⟩:=cells4 Zx.o;obtain⟨-,k1,k2,-⟩:=cells4 Zy.o;exact⟨j0,j1,j2,j3,k1,k2⟩),?_⟩;clear HK K;try simp only [aK]
    refine iR 6 κ rfl ?_;intro K HK;try simp only [aV]
    go_simp;obtain⟨wy,hwy⟩:∃y:World,y=w7.alloc (.cells #[ι 5,ι m.deed,ι m.house,()] 85):=⟨_,rfl⟩;obtain⟨BY,PS⟩:∃y,y=w7.heap.size:=⟨_,rfl⟩;have Ik:Hid (aI Ty.ms (fun _=>none) wy wz.heap.size 85 (ς (some ⟨BY,0,none⟩) 1 1) [⟨5,m.deed,m.house,[]⟩]):=η (by rw [hwy,PS];exact Df (by unfold I64;decide) yU.o.2.1 yU.o.2.2 _ (by have:=Bz.o;have:=GD.size;have:=g7.size;omega));have GY:Grow w7 wy:=by rw [hwy];exact(Grow.refl _).alloc _
    rw [<-hwy,<-PS];clear hwy PS;have MH:=η (M_.o.later GY);obtain⟨p0,p1,p2,p3⟩:=cells4 (aj r7 GY);refine HK.o _ _ ⟨.inr (by obtain⟨j0,j1,j2,j3⟩:=cells4 (aj Zx.o GY);obtain⟨-,k1,k2,-⟩:=cells4 (aj Zy.o GY);exact⟨j0,j1,j2,j3,k1,k2⟩),?_⟩;clear HK K;try simp only [aK]
    refine iR 8 κ rfl ?_;intro K HK;try simp only [aV]
    go_simp;refine HK.o _ _ ⟨.inl ε,?_⟩;clear HK K;try simp only [aK]
    refine wO κ ?_;go_wp2;refine bodyPost_ret (v:=.tuple #[.agg #[ς ag h.log.length cg,ι h.aG,ι h.next,ς ao L.length co],ς (some ⟨BY,0,none⟩) 1 1]) (by simp [results,Tryz.results79,go_sem,p0,p1,p2,p3]) rfl ?_;exact⟨_,_,rfl,MH.o.fin nG.o.1 nG.o.2 HE.o (by rw [lM.o];exact Ik.o.slc ε (fun _ _ e=>by cases e) fun a ha=>bH (τ HZ.o))⟩
  ·have lM:Hid (fG h m=[]):=η (by unfold fG;rw [wP.o,if_neg hkd])
   have pH:(m.kind==7)=false:=by simp [hkd]
   have hcs:m.kind=2∨m.kind=3∨m.kind=6∨(m.kind≠2/\m.kind≠3/\m.kind≠6):=by omega
   obtain⟨b2,b3,b6,hk2,hk3,hk6,hb⟩:∃b2 b3 b6:Bool,(m.kind==2)=b2/\(m.kind==3)=b3/\(m.kind==6)=b6/\((b2=true/\b3=false/\b6=false)∨(b2=false/\b3=true/\b6=false)∨(b2=false/\b3=false/\b6=true)∨(b2=false/\b3=false/\b6=false)):=
    ⟨_,_,_,rfl,rfl,rfl,by rcases hcs with h|h|h|⟨h,h',h''⟩<;>simp [*]⟩
   clear hkd hcs;rcases hb with⟨rfl,rfl,rfl⟩|⟨rfl,rfl,rfl⟩|⟨rfl,rfl,rfl⟩|⟨rfl,rfl,rfl⟩
   all_goals
    go_upto_region 16 with fail
    go_wp2_with (first|(refine wpList_store_row rfl (.tmp 4) (.tmp 111) rfl rfl rfl UO.o bU rfl rfl ?_))
    intro w7 r7 g7;obtain⟨p0,p1,p2,p3⟩:=cells4 r7;go_wp2;refine bodyPost_ret (v:=.tuple #[.agg #[ς ag h.log.length cg,ι h.aG,ι h.next,ς ao L.length co],()]) (by simp [results,Tryz.results79,go_sem,p0,p1,p2,p3]) rfl ?_;exact⟨_,_,rfl,(HR3.o.past G1.o g7 (τ HZ.o)).fin nG.o.1 nG.o.2 HE.o (by rw [lM.o];exact Sl.nil _ _)⟩
 |some k=>
  have hx:idxOf (fun o:Opn=>o.deed==m.deed) h.opn=k:=by rw [idxOf,hfi]
  have hkl:k<h.opn.length:=(List.findIdx?_eq_some_iff_getElem.1 hfi).1;have hLl:L.length=h.opn.length:=by rw [<-HL.o];simp
  obtain⟨x,hxk⟩:∃x,L[k]? =some x:=⟨_,List.getElem?_eq_getElem δ⟩;have hq:h.opn[k]? =some x.1:=by rw [<-HL.o,List.getElem?_map,hxk];rfl
  obtain⟨hln,hdd⟩:=Ij hfi hq;have gP:=η (List.mem_of_getElem? hq);have UN:Hid (f_ h m={ h with opn:=h.opn.take k++((dJ x.1 m).1++h.opn.drop (k+1)),log:=h.log++(dJ x.1 m).2.1 }):=η (by unfold f_;rw [hln]);have cB:Hid (fG h m=(dJ x.1 m).2.2):=η (by unfold fG;rw [hln]);have Na:Hid (h.opn.take k++([x.1]++h.opn.drop (k+1))=L.map (·.1)):=η (by
   have e2:h.opn[k]=x.1:=(List.getElem?_eq_some_iff.1 hq).2;rw [<-e2,List.singleton_append,<-List.drop_eq_getElem_cons hkl,List.take_append_drop,HL.o])
  have PH:=η hxk;have UK:=η hdd;have NZ:=η hkl;have Am:=η hLl;have zo:=η (d8.o.parts _ gP.o);have cC:=η (d8.o.few _ gP.o m.house);have h12:=HKK.o.opn;rw [hx];clear hx hfi hq hln hdd hxk hLl;have hk0:(0:Int)<=(k:Int):=by omega
  by_cases hkd:m.kind=2
  ·have hk2:(m.kind==2)=true:=by simp [hkd]
   have hk3:(m.kind==3)=false:=by simp [hkd]
   have hk6:(m.kind==6)=false:=by simp [hkd]
   have pH:(m.kind==7)=false:=by simp [hkd]
   have Il:Hid (dJ x.1 m=wF x.1 m.house):=η (Us hkd);clear hkd;have j7:Hid (h.log.length<=100000):=η HKK.o.log;go_wp2_with fail
   refine(Xr (house:=m.house) w3 HR3.o Yl.o PH.o zo.o yU.o.2.2 j7.o (τ Am.o) (HKK.o.heard _ gP.o) cC.o).mono ?_;rintro e w4 ⟨v4,rfl,vl4,vo4,L4,r4,hr4,hmp,hms,hsz⟩;obtain⟨PJ,cg4,PM,PP,rfl,rfl⟩:=hr4.form;obtain⟨a4,c4,rfl,-⟩:=id hms;have HR4:=η hr4;have iN:=η hmp;have lM:=η hms;have Yb:=η hsz;have Zz:=η r4;have N8:=η (aj R4.o hr4.grow);clear hr4 hmp hms hsz r4;clear d0 d1 d2 d3 m0 m1 m2 m3 z6 zm zr;obtain⟨d0,d1,d2,d3⟩:=cells4 Zz.o;have z6:B6<w4.heap.size:=(γ Zz.o);have zr:w.heap.size+2<w4:=(γ N8.o);generalize UG:h.log++(wF x.1 m.house).2.1=PQ at*;have IU:=η UG;clear UG;generalize yW:(wF x.1 m.house).2.2=PR at*;have PT:=η yW;clear yW;go_wp2_with (first|(refine wpList_store_row rfl (.tmp 4) (.tmp 28) rfl rfl rfl N8.o bU rfl rfl ?_))
   intro w7 r7 g7;obtain⟨p0,p1,p2,p3⟩:=cells4 r7;go_wp2;refine bodyPost_ret (v:=.tuple #[.agg #[ς PJ PQ.length cg4,ι h.aG,ι h.next,ς PM L4.length PP],ς a4 PR.length c4]) (by simp [results,Tryz.results79,go_sem,p0,p1,p2,p3]) rfl ?_;have z:=HZ.o;have z2:=Bz.o;have z3:=Yb.o;refine⟨_,_,rfl,(HR4.o.past G1.o g7 δ).fin nG.o.1 nG.o.2 (by rw [UN.o,Il.o,IU.o,<-HL.o,<-iN.o]) ?_⟩;rw [cB.o,Il.o,PT.o];refine Sl.mono (fun a v e=>?_) lM.o;unfold ov at e;split at e
   ·cases e
   ·rw [bH δ,dh g7 (World.block_lt_of_cell? w4 a e) δ];exact e
  have j8:=hkd;clear hkd;by_cases hkd:m.kind=6
  ·have hk2:(m.kind==2)=false:=by simp [hkd]
   have hk3:(m.kind==3)=false:=by simp [hkd]
   have hk6:(m.kind==6)=true:=by simp [hkd]
   have pH:(m.kind==7)=false:=by simp [hkd]
   have Il:Hid (dJ x.1 m=vG x.1 m.house):=η (Ut hkd);clear hkd;have j7:Hid (h.log.length<=100000):=η HKK.o.log;go_wp2_with fail
   refine(Xy (house:=m.house) w3 HR3.o Yl.o PH.o zo.o yU.o.2.2 j7.o (τ Am.o) (HKK.o.heard _ gP.o) cC.o).mono ?_;rintro e w4 ⟨rfl,vl4,vo4,L4,r4,hr4,hmp,-,hsz⟩;obtain⟨PJ,cg4,PM,PP,rfl,rfl⟩:=hr4.form;have HR4:=η hr4;have iN:=η hmp;have Yb:=η hsz;have Zz:=η r4;have N8:=η (aj R4.o hr4.grow);have cD:Hid (w4.heap[w.heap.size+1]? =some (.cells #[ι m.kind,ι m.deed,ι m.house,ς ap m.parts.length cp] 85 (0,0))):=η (aj PF.o hr4.grow);clear hr4 hmp hsz r4;clear d0 d1 d2 d3 m0 m1 m2 m3 z6 zm zr;obtain⟨d0,d1,d2,d3⟩:=cells4 Zz.o;have z6:B6<w4.heap.size:=(γ Zz.o);have zr:w.heap.size+2<w4:=(γ N8.o);obtain⟨m0,m1,m2,m3⟩:=cells4 cD.o;have zm:w.heap.size+1<w4:=(γ cD.o);generalize UG:h.log++(vG x.1 m.house).2.1=PQ at*;have IU:=η UG;clear UG;go_upto_region 16 with fail
   go_wp2_with (first|(refine wpList_store_row rfl (.tmp 4) (.tmp 111) rfl rfl rfl N8.o bU rfl rfl ?_))
   intro w7 r7 g7;obtain⟨p0,p1,p2,p3⟩:=cells4 r7;go_wp2;refine bodyPost_ret (v:=.tuple #[.agg #[ς PJ PQ.length cg4,ι h.aG,ι h.next,ς PM L4.length PP],()]) (by simp [results,Tryz.results79,go_sem,p0,p1,p2,p3]) rfl ?_;have z:=HZ.o;have z2:=Bz.o;have z3:=Yb.o;refine⟨_,_,rfl,(HR4.o.past G1.o g7 δ).fin nG.o.1 nG.o.2 (by rw [UN.o,Il.o,IU.o,<-HL.o,<-iN.o]) ?_⟩;rw [cB.o,Il.o,Uu];exact Sl.nil _ _
  obtain⟨q,xv⟩:=x;dsimp only at gP UN cB Na UK zo cC;obtain⟨g,vp,e1,hg1,hg2,g0,g1,g2,g3,-,hP,-⟩:=HR3.o.at_ rfl PH.o;subst e1;obtain⟨a7,c7,rfl,-⟩:=id hP;dsimp only at g0 g1 g2 g3 hP;have HP:=η hP;have j9:=η j8;have kA:=η hkd;have hk2:(m.kind==2)=false:=by simp [j8]
  have hk6:(m.kind==6)=false:=by simp [hkd]
  obtain⟨t,ht⟩:∃t,t=q.dec:=⟨_,rfl⟩;rw [<-ht] at g2;have HT:=η ht;have P0:k<L.length:=by have:=Am.o;have:=NZ.o;omega
  clear ht j8 g0 g3 hP;clear hkd;by_cases hkd:m.kind=3
  ·have hk3:(m.kind==3)=true:=by simp [hkd]
   have pH:(m.kind==7)=false:=by simp [hkd]
   cases t with
   |true=>
    have Il:Hid (dJ q m=([q],[],[])):=η (by unfold dJ;rw [if_neg (by rw [hkd];simp),if_neg (by rw [<-HT.o];simp),if_neg (by rw [hkd];simp),if_neg (by rw [hkd];simp)]);have HE:Hid (f_ h m=⟨h.log,h.aG,h.next,L.map (·.1)⟩):=η (by rw [UN.o,Il.o,List.append_nil,Na.o]);have lM:Hid (fG h m=[]):=η (by rw [cB.o,Il.o]);clear hkd g1;go_upto_region 16 with fail
    go_wp2_with (first|(refine wpList_store_row rfl (.tmp 4) (.tmp 111) rfl rfl rfl UO.o bU rfl rfl ?_))
    intro w7 r7 g7;obtain⟨p0,p1,p2,p3⟩:=cells4 r7;go_wp2;refine bodyPost_ret (v:=.tuple #[.agg #[ς ag h.log.length cg,ι h.aG,ι h.next,ς (some ⟨g,0,none⟩) L.length co],()]) (by simp [results,Tryz.results79,go_sem,p0,p1,p2,p3]) rfl ?_;exact⟨_,_,rfl,(HR3.o.past G1.o g7 (τ HZ.o)).fin nG.o.1 nG.o.2 HE.o (by rw [lM.o];exact Sl.nil _ _)⟩
   |false=>
    have Il:Hid (dJ q m=([],[],dG q.deed q.parts)):=η (by unfold dJ;rw [if_neg (by rw [hkd];simp),if_pos ⟨hkd,HT.o.symm⟩]);have FP:=η (EW (k:=k) HR3.o.opn (by have:=Am.o;have:=NZ.o;omega));have hk12:(k:Int)+1<=13:=by have:=NZ.o;omega
    have hw1:IntKind.i64.wrap ((k:Int)+1)=(k:Int)+1:=IntWalk.i64_in _ δ;clear hkd;go_upto_region 8 with fail
    go_wp2_with fail
    (with_reducible refine FP.o.mono ?_)
    rintro e w4 ⟨rfl,pO,hg4⟩;have HN4:=η (HR3.o.erase (k:=k) (jZ:=ς (some ⟨g,0,none⟩) (L.length - 1) co) hg4 rfl pO);have og:Hid (some B6≠some g):=η (fun e=>by rcases HR3.o.ok.off (i:=0) (j:=2) rfl rfl ε with h|h;exact absurd h σ;exact h e);have Zz:=η (aH Yl.o hg4 og.o);have cD:=η (aj PF.o HN4.o.grow);have HP4:=η (HP.o.mono (gZ fun p hp h0 hx=>⟨hg4.block p hp (fun e=>hx (by rw [e];simp [hro,Value.ownBlock])),hx⟩));clear pO hg4 FP hw1 hk12 P0 d0 d1 d2 d3 m0 m1 m2 m3 z6 zm zr g1 g2;obtain⟨d0,d1,d2,d3⟩:=cells4 Zz.o;have z6:B6<w4.heap.size:=(γ Zz.o);go_wp2_with (first|(refine aN rfl (.tmp 59) (.tmp 58) (v:=ς (some ⟨g,0,none⟩) (L.length - 1) co) (new:=#[ς ag h.log.length cg,ι h.aG,ι h.next,ς (some ⟨g,0,none⟩) (L.length - 1) co]) rfl rfl ρ ρ Zz.o eH σ ρ ρ ?_))
    intro w5 r5 g5;have FF:=η (HN4.o.box g5);have QP:=η r5;have pL:=η (aj PF.o FF.o.grow);have Gi:=η (aj R4.o FF.o.grow);have HP5:=η ((HP4.o.mono (gZ fun p hp h0 hx=>⟨g5.block p hp (fun e=>hx (by rw [e];simp [hro])),hx⟩)).mono (fF _ _ _));have HAB:=η (fun(W:World) (hW:Grow w5 W)=>BZ (d:=m.deed) W (HP5.o.mono hW.sub) yU.o.2.1 zo.o);clear HS r5 g5 d0 d1 d2 d3 z6;have HS:Hid (∀W,Grow w5 W->W.cell? ⟨B6,0,none⟩=some (ς ag h.log.length cg)/\W.cell? ⟨B6,1,none⟩=some (ι h.aG)/\W.cell? ⟨B6,2,none⟩=some (ι h.next)/\W.cell? ⟨B6,3,none⟩=some (ς (some ⟨g,0,none⟩) (L.length - 1) co)/\W.cell? ⟨w.heap.size+1,1,none⟩=some (ι m.deed)):=fun W hW=>by
     obtain⟨j0,j1,j2,j3⟩:=cells4 (aj QP.o hW);obtain⟨-,k1,-,-⟩:=cells4 (aj pL.o hW);exact⟨j0,j1,j2,j3,k1⟩
    go_upto_region 9 with fail
    refine Cm (fun w'=>w'.cell? ⟨B6,0,none⟩=some (ς ag h.log.length cg)/\w'.cell? ⟨B6,1,none⟩=some (ι h.aG)/\w'.cell? ⟨B6,2,none⟩=some (ι h.next)/\w'.cell? ⟨B6,3,none⟩=some (ς (some ⟨g,0,none⟩) (L.length - 1) co)/\w'.cell? ⟨w.heap.size+1,1,none⟩=some (ι m.deed)) [5,6] κ ?_;intro wd GD zD;have ZD:=η zD;clear zD;refine lY [0,1,2,3] 9 κ (fun _ _ _ _ _ h=>h) (HS.o _ GD) ?_;repeat (refine gq ?_;try simp only [aK])
    refine lZ ?_;refine iR 4 κ rfl ?_;intro K HK;try simp only [aV]
    go_simp;go_at_call 86
    refine(HAB.o _ GD).mono ?_;rintro e w6 ⟨v6,rfl,tX,hb6⟩;obtain⟨a6,c6,rfl⟩:=tX.form;have Bl:=η tX;have G6:=η (Grow.trans GD hb6);clear tX hb6;generalize yW:dG m.deed q.parts=PR at*;have PT:=η yW;clear yW;refine HK.o _ _ ⟨.inr (HS.o _ G6.o),?_⟩;clear HK K;try simp only [aK]
    refine iR 5 κ rfl ?_;intro K HK;refine aC rfl ?_;try simp only [aV]
    refine wp_store_row (.tmp 4) (.tmp 60) rfl rfl rfl (aj Gi.o G6.o) bU rfl rfl ?_;intro w7 r7 g7;obtain⟨p0,p1,p2,p3⟩:=cells4 r7;refine HK.o _ _ ⟨.inl ε,?_⟩;clear HK K;try simp only [aK]
    refine iR 6 κ rfl ?_;intro K HK;try simp only [aV]
    go_simp;refine HK.o _ _ ⟨.inl ε,?_⟩;clear HK K;try simp only [aK]
    refine wO κ ?_;go_wp2;refine bodyPost_ret (v:=.tuple #[.agg #[ς ag h.log.length cg,ι h.aG,ι h.next,ς (some ⟨g,0,none⟩) (L.length - 1) co],ς a6 PR.length c6]) (by simp [results,Tryz.results79,go_sem,p0,p1,p2,p3]) rfl ?_;have z:=HZ.o;refine⟨_,_,rfl,((FF.o.later G6.o).past G1.o g7 δ).fin nG.o.1 nG.o.2 ?_ ?_⟩
    ·rw [UN.o,Il.o,List.append_nil,List.eraseIdx_eq_take_drop_succ,List.map_append,List.map_take,List.map_drop,HL.o];rfl
    ·rw [cB.o,Il.o,UK.o,PT.o]
     have z5:=FF.o.grow.size;have z6:=GD.size;exact(Bl.o.kept g7 (lu fun p hp=>by have:=(Bl.o.lt p hp).1;omega)).slc ε (fun _ _ e=>by cases e) fun a ha=>bH δ
  have hk3:(m.kind==3)=false:=by simp [hkd]
  have kB:=η hkd;clear hkd;by_cases hkd:m.kind=7
  ·have pH:(m.kind==7)=true:=by simp [hkd]
   cases t with
   |true=>
    have Il:Hid (dJ q m=([q],[],[⟨4,m.deed,m.house,[]⟩])):=η (by unfold dJ;rw [if_neg (fun e=>j9.o e.1),if_neg (fun e=>kB.o e.1),if_neg (fun e=>kA.o e.1),if_pos ⟨hkd,HT.o.symm⟩]);have HE:Hid (f_ h m=⟨h.log,h.aG,h.next,L.map (·.1)⟩):=η (by rw [UN.o,Il.o,List.append_nil,Na.o]);have lM:Hid (fG h m=[⟨4,m.deed,m.house,[]⟩]):=η (by rw [cB.o,Il.o]);clear hkd g1;go_upto_region 15 with fail
    clear g2 hg1 hg2;clear d0 d1 d2 d3 m0 m1 m2 m3 z6 zm zr;refine Cm (fun w'=>w'.cell? ⟨B6,0,none⟩=some (ς ag h.log.length cg)/\w'.cell? ⟨B6,1,none⟩=some (ι h.aG)/\w'.cell? ⟨B6,2,none⟩=some (ι h.next)/\w'.cell? ⟨B6,3,none⟩=some (ς (some ⟨g,0,none⟩) L.length co)/\w'.cell? ⟨w.heap.size+1,1,none⟩=some (ι m.deed)/\w'.cell? ⟨w.heap.size+1,2,none⟩=some (ι m.house)) [8] κ ?_;intro wd GD zD;have ZD:=η zD;clear zD;refine lY [0,1,2,3,4,5] 11 κ (fun _ _ _ _ _ h=>h) (HS.o _ GD) ?_;repeat (refine gq ?_;try simp only [aK])
    refine lZ ?_;refine eE 6 7 κ rfl rfl ?_ ?_
    ·intro K HK
     try simp only [aV]
     go_simp;obtain⟨wy,hwy⟩:∃y:World,y=wd.alloc (.cells #[ι 4,ι m.deed,ι m.house,()] 85):=⟨_,rfl⟩;obtain⟨BY,PS⟩:∃y,y=wd.heap.size:=⟨_,rfl⟩;have Ik:Hid (aI Ty.ms (fun _=>none) wy wz.heap.size 85 (ς (some ⟨BY,0,none⟩) 1 1) [⟨4,m.deed,m.house,[]⟩]):=η (by rw [hwy,PS];exact Df (by unfold I64;decide) yU.o.2.1 yU.o.2.2 _ (by have:=Bz.o;have:=GD.size;omega));have GY:Grow wd wy:=by rw [hwy];exact(Grow.refl _).alloc _
     rw [<-hwy,<-PS];clear hwy PS;refine HK.o _ _ ⟨.inr (HS.o _ (GD.trans GY)),?_⟩;clear HK K;try simp only [aK]
     refine iR 7 κ rfl ?_;intro K HK;refine aC rfl ?_;try simp only [aV]
     refine wp_store_row (.tmp 4) (.tmp 104) rfl rfl rfl (aj UO.o (GD.trans GY)) bU rfl rfl ?_;intro w7 r7 g7;have M_:=η ((HR3.o.later (GD.trans GY)).past G1.o g7 (τ HZ.o));have Zx:=η (aH (aj Yl.o (GD.trans GY)) g7 (fun e=>by have:=Option.some.inj e;have:=Bz.o;have:=HZ.o;omega));have Zy:=η (aH (aj jN.o (GD.trans GY)) g7 (fun e=>by have:=Option.some.inj e;omega));have j6:=η (Ik.o.kept g7 (lu fun q hq=>by have:=(Ik.o.lt q hq).1;have:=HZ.o;omega));obtain⟨p0,p1,p2,p3⟩:=cells4 r7;refine HK.o _ _ ⟨.inr (by obtain⟨j0,j1,j2,j3⟩:=cells4 Zx.o;obtain⟨-,k1,k2,-⟩:=cells4 Zy.o;exact⟨j0,j1,j2,j3,k1,k2⟩),?_⟩;clear HK K;try simp only [aK]
     refine iR 8 κ rfl ?_;intro K HK;try simp only [aV]
     go_simp;refine HK.o _ _ ⟨.inl ε,?_⟩;clear HK K;try simp only [aK]
     refine wO κ ?_;go_wp2;refine bodyPost_ret (v:=.tuple #[.agg #[ς ag h.log.length cg,ι h.aG,ι h.next,ς (some ⟨g,0,none⟩) L.length co],ς (some ⟨BY,0,none⟩) 1 1]) (by simp [results,Tryz.results79,go_sem,p0,p1,p2,p3]) rfl ?_;exact⟨_,_,rfl,M_.o.fin nG.o.1 nG.o.2 HE.o (by rw [lM.o];exact j6.o.slc ε (fun _ _ e=>by cases e) fun a ha=>bH (τ HZ.o))⟩
    ·intro K HK
     refine aC rfl ?_;try simp only [aV]
     refine wp_store_row (.tmp 4) (.tmp 104) rfl rfl rfl (aj UO.o GD) bU rfl rfl ?_;intro w7 r7 g7;have M_:=η ((HR3.o.later GD).past G1.o g7 (τ HZ.o));have Zx:=η (aH (aj Yl.o GD) g7 (fun e=>by have:=Option.some.inj e;have:=Bz.o;have:=HZ.o;omega));have Zy:=η (aH (aj jN.o GD) g7 (fun e=>by have:=Option.some.inj e;omega));refine HK.o _ _ ⟨.inr (by obtain⟨j0,j1,j2,j3⟩:=cells4 Zx.o;obtain⟨-,k1,k2,-⟩:=cells4 Zy.o;exact⟨j0,j1,j2,j3,k1,k2⟩),?_⟩;clear HK K;try simp only [aK]
     refine iR 6 κ rfl ?_;intro K HK;try simp only [aV]
     go_simp;obtain⟨wy,hwy⟩:∃y:World,y=w7.alloc (.cells #[ι 4,ι m.deed,ι m.house,()] 85):=⟨_,rfl⟩;obtain⟨BY,PS⟩:∃y,y=w7.heap.size:=⟨_,rfl⟩;have Ik:Hid (aI Ty.ms (fun _=>none) wy wz.heap.size 85 (ς (some ⟨BY,0,none⟩) 1 1) [⟨4,m.deed,m.house,[]⟩]):=η (by rw [hwy,PS];exact Df (by unfold I64;decide) yU.o.2.1 yU.o.2.2 _ (by have:=Bz.o;have:=GD.size;have:=g7.size;omega));have GY:Grow w7 wy:=by rw [hwy];exact(Grow.refl _).alloc _
     rw [<-hwy,<-PS];clear hwy PS;have MH:=η (M_.o.later GY);obtain⟨p0,p1,p2,p3⟩:=cells4 (aj r7 GY);refine HK.o _ _ ⟨.inr (by obtain⟨j0,j1,j2,j3⟩:=cells4 (aj Zx.o GY);obtain⟨-,k1,k2,-⟩:=cells4 (aj Zy.o GY);exact⟨j0,j1,j2,j3,k1,k2⟩),?_⟩;clear HK K;try simp only [aK]
     refine iR 8 κ rfl ?_;intro K HK;try simp only [aV]
     go_simp;refine HK.o _ _ ⟨.inl ε,?_⟩;clear HK K;try simp only [aK]
     refine wO κ ?_;go_wp2;refine bodyPost_ret (v:=.tuple #[.agg #[ς ag h.log.length cg,ι h.aG,ι h.next,ς (some ⟨g,0,none⟩) L.length co],ς (some ⟨BY,0,none⟩) 1 1]) (by simp [results,Tryz.results79,go_sem,p0,p1,p2,p3]) rfl ?_;exact⟨_,_,rfl,MH.o.fin nG.o.1 nG.o.2 HE.o (by rw [lM.o];exact Ik.o.slc ε (fun _ _ e=>by cases e) fun a ha=>bH (τ HZ.o))⟩
   |false=>
    have Il:Hid (dJ q m=([q],[],[])):=η (by unfold dJ;rw [if_neg (fun e=>j9.o e.1),if_neg (fun e=>kB.o e.1),if_neg (fun e=>kA.o e.1),if_neg (fun e=>by have:=e.2;rw [<-HT.o] at this;cases this)]);have HE:Hid (f_ h m=⟨h.log,h.aG,h.next,L.map (·.1)⟩):=η (by rw [UN.o,Il.o,List.append_nil,Na.o]);have lM:Hid (fG h m=[]):=η (by rw [cB.o,Il.o]);clear hkd g1;go_upto_region 16 with fail
    go_wp2_with (first|(refine wpList_store_row rfl (.tmp 4) (.tmp 111) rfl rfl rfl UO.o bU rfl rfl ?_))
    intro w7 r7 g7;obtain⟨p0,p1,p2,p3⟩:=cells4 r7;go_wp2;refine bodyPost_ret (v:=.tuple #[.agg #[ς ag h.log.length cg,ι h.aG,ι h.next,ς (some ⟨g,0,none⟩) L.length co],()]) (by simp [results,Tryz.results79,go_sem,p0,p1,p2,p3]) rfl ?_;exact⟨_,_,rfl,(HR3.o.past G1.o g7 (τ HZ.o)).fin nG.o.1 nG.o.2 HE.o (by rw [lM.o];exact Sl.nil _ _)⟩
  have pH:(m.kind==7)=false:=by simp [hkd]
  have Il:Hid (dJ q m=([q],[],[])):=η (by unfold dJ;rw [if_neg (fun e=>j9.o e.1),if_neg (fun e=>kB.o e.1),if_neg (fun e=>kA.o e.1),if_neg (fun e=>hkd e.1)]);have HE:Hid (f_ h m=⟨h.log,h.aG,h.next,L.map (·.1)⟩):=η (by rw [UN.o,Il.o,List.append_nil,Na.o]);have lM:Hid (fG h m=[]):=η (by rw [cB.o,Il.o]);clear hkd g1 g2;go_upto_region 16 with fail
  go_wp2_with (first|(refine wpList_store_row rfl (.tmp 4) (.tmp 111) rfl rfl rfl UO.o bU rfl rfl ?_))
  intro w7 r7 g7;obtain⟨p0,p1,p2,p3⟩:=cells4 r7;go_wp2;refine bodyPost_ret (v:=.tuple #[.agg #[ς ag h.log.length cg,ι h.aG,ι h.next,ς (some ⟨g,0,none⟩) L.length co],()]) (by simp [results,Tryz.results79,go_sem,p0,p1,p2,p3]) rfl ?_;exact⟨_,_,rfl,(HR3.o.past G1.o g7 (τ HZ.o)).fin nG.o.1 nG.o.2 HE.o (by rw [lM.o];exact Sl.nil _ _)⟩
def PU (l:List Rc):Prop:=∀r∈l,r.kind=5∨r.parts=[]
theorem PU.app {l t:List Rc} (h:PU l) (k:PU t):PU (l++t):=fun r hr=>(List.mem_append.1 hr).elim (h r) (k r)
theorem A0F (o:Opn) (m:Ms):PU (dJ o m).2.1:=by
 intro r hr;unfold dJ at hr;split at hr
 ·split at hr
  ·simp only [List.mem_singleton] at hr;rw [hr];exact .inl rfl
  ·simp at hr
 ·split at hr
  ·simp at hr
  ·split at hr
   ·split at hr
    ·simp only [List.mem_singleton] at hr;rw [hr];exact .inr rfl
    ·simp at hr
   ·split at hr<;>simp at hr
theorem A0B {m:Ms}:∀{l:List Opn} {x:List Opn×List Rc×List Ms},jP m l=some x->PU x.2.1
 | [],x,h=>by simp [jP] at h
 |o::l,x,h=>by
  rw [jP] at h;split at h
  ·rw [<-Option.some.inj h];exact A0F o m
  ·cases e:jP m l with
   |none=>rw [e] at h;cases h
   |some y=>
    rw [e] at h;rw [<-Option.some.inj h];have h9:=A0B e;exact h9
theorem A0G {h:Hd} (m:Ms) (hk:PU h.log):PU (f_ h m).log:=by
 unfold f_;split
 ·exact hk
 ·rename_i x e
  exact hk.app (A0B e)
theorem A0H {h:Hd} (hk:PU h.log):PU (jA h).log:=by
 unfold jA;split
 ·exact hk
 ·rw [Hz]
  exact hk.app fun r hr=>by simp only [List.mem_singleton] at hr;rw [hr];exact .inr rfl
theorem A0I {w:AW} (m:Ms) (h:PU w.head.log):PU (iY w m).head.log:=by
 unfold iY;split
 ·exact h
 ·split
  ·exact h
  ·exact A0G m h
theorem A0C {w:AW} (h:PU w.head.log) (s:St):PU (iD w s).head.log:=by
 unfold iD;split
 ·split
  ·show PU (iH w.head s.parts).log
   rw [Ug];exact h
  ·exact h
 ·split
  ·split
   ·exact A0I _ h
   ·exact h
  ·split
   ·split<;>exact h
   ·split
    ·split<;>exact h
    ·split
     ·split
      ·exact A0H h
      ·exact h
     ·split
      ·split
       ·unfold rH
        split
        ·exact h
        ·split<;>exact h
       ·exact h
      ·split<;>exact h
theorem A0D:∀(l:List St) {w:AW},PU w.head.log->PU (jG w l).head.log
 | [],_,h=>h
 |s::l,_,h=>A0D l (A0C h s)
theorem A0E (n:Nat):PU (pI n).head.log:=by
 show PU (bT _).log;rw [Hz];intro r hr;simp only [List.mem_singleton] at hr;rw [hr];exact .inr rfl
theorem Xz {n:Nat} {G:Reg} {x:AW} (i:WI n G x) (h:PU x.head.log):∀r∈x.head.log,r.parts.length<=4:=fun r hr=>by
 rcases h r hr with h5|h0
 ·exact(eP (i.core.reg.ok _ (i.core.dec.reg ⟨r.deed,r.parts⟩ (List.mem_map.2 ⟨r,List.mem_filter.2 ⟨hr,by simp [h5]⟩,rfl⟩))).2).2.1
 ·rw [h0];simp
theorem Ru {l:List Pt} {n:Nat} (hn:n<=3) (h:bD l n=0):F9 l where
 ne:=fun e=>by have:=(eP h).1;rw [e] at this;simp at this
 lt:=fun p hp=>by have:=(eP h).2.2.1 p hp;omega
 len:=(eP h).2.1
theorem WI.yV {n:Nat} {G:Reg} {x:AW} (i:WI n G x) (h:PU x.head.log):Rt x.head where
 parts:=fun o ho=>Ru i.core.n3.2 (i.core.reg.ok _ (i.core.nO o ho)).2
 few:=fun o ho k _ _=>(i.core.onew o ho).2.2
 logp:=fun r hr=>by have:=Xz i h r hr;omega
theorem PV {w W W':World} {X:List (Option Nat)} (hg:Grow w W) (hX:∀q,some q∈X->q<W.heap.size):Sub (ov (fun _=>none) W W') (fr w W' X):=fun a v e=>by
 have hs:=hg.size;unfold ov at e;split at e
 ·cases e
 ·rw [gy δ (fun hm=>by have:=hX _ hm;omega)]
  exact e
theorem XA {w W W':World} {X:List (Option Nat)} {q:Nat} (hg:W.grownBy W' (some q)) (hq:some q∈X):Sub (fr w W X) (fr w W' X):=
 gZ fun k hk _ hx=>⟨hg.block k hk fun e=>hx (e▸hq),hx⟩
end Go.Proofs.YtocnmkefmgmkbaaGreat
