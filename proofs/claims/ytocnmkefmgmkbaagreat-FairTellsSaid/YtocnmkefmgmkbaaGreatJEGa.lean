/- Parts of proofs, joined: G1, G2, G3, G4, G5, G6, G7, G8, G9, G10, G11, U28, U29, G12p. No condition beside those that each theorem names. -/
import Derived.Deep.DeepCutAuto
import Derived.Shelf.Slices.In.SortNone
import Derived.Test.YtocnmkefmgmkbaaGreatJE1b
import Derived.Test.YtocnmkefmgmkbaaGreatJE6a
import Derived.Test.YtocnmkefmgmkbaaGreatJE4b
import Derived.Test.YtocnmkefmgmkbaaGreatJE2a
set_option maxRecDepth 100000
set_option maxHeartbeats 40000000
namespace Go.Proofs.YtocnmkefmgmkbaaGreat
open Go.RowKit
def Ty.S9:Ty (Opn×Value) where
 size:=4
 R:=fun c cs x=>∃vp:Value,cs=[J x.1.aJ,vp,.bool x.1.dec,x.2]/\I64 x.1.aJ/\Sl Ty.pt c vp x.1.aH/\x.2.oneCell'=true
 len:=by rintro c cs x ⟨_,rfl,_⟩;rfl
 mono:=by rintro c c' cs x h ⟨a,rfl,N,Y,h3⟩;exact⟨a,rfl,N,Y.mono h,h3⟩
abbrev AQ:=Opn×Value
theorem F7:EX Ty.S9:=by
 rintro c cs x ⟨v,rfl,-,h,h'⟩ u hu;simp only [List.mem_cons,List.not_mem_nil,or_false] at hu;rcases hu with rfl|rfl|rfl|rfl
 ·rfl
 ·exact lJ h
 ·rfl
 ·exact h'
def P8 (a b:Option Nat):Prop:=a=none∨a≠b
theorem P8.symm {a b:Option Nat} (h:P8 a b):P8 b a:=by
 rcases h with rfl|h
 ·cases b with
  |none=>exact .inl rfl
  |some q=>exact .inr σ
 ·exact .inr fun e=>h e.symm
structure mP (w W:World) (X:List (Option Nat)):Prop where
 pw:X.Pairwise P8
 lt:∀q,some q∈X->w.heap.size<=q/\q<W.heap.size
theorem mP.off {w W:World} {X:List (Option Nat)} (h:mP w W X) {i j:Nat} {a b:Option Nat} (hi:X[i]? =some a) (hj:X[j]? =some b) (hne:i≠j):P8 a b:=by
 obtain⟨hi1,rfl⟩:=List.getElem?_eq_some_iff.1 hi;obtain⟨hj1,rfl⟩:=List.getElem?_eq_some_iff.1 hj;rcases Nat.lt_or_gt_of_ne hne with N|N
 ·exact List.pairwise_iff_getElem.1 h.pw i j hi1 hj1 N
 ·exact(List.pairwise_iff_getElem.1 h.pw j i hj1 hi1 N).symm
theorem mP.dL {w W W2:World} {X:List (Option Nat)} (h:mP w W X) (hs:W.heap.size<=W2.heap.size):mP w W2 X:=⟨h.pw,fun q O=>by have:=h.lt q O;omega⟩
theorem mP.step {w W W2:World} {X:List (Option Nat)} {i:Nat} {r r':Option Nat} (h:mP w W X) (hi:X[i]? =some r) (hg:W.grownBy W2 r) (hb:r'=r∨∃g,r'=some g/\W.heap.size<=g) (hl:∀q,r'=some q->w.heap.size<=q/\q<W2.heap.size):
  mP w W2 (X.set i r')/\Sub (fr w W X) (fr w W2 (X.set i r')):=by
 have hs:=hg.size;refine⟨⟨?_,fun q O=>?_⟩,jV fun k hk h0 Z=>⟨hg.block k hk fun e=>Z (e▸List.mem_of_getElem? hi),fun hx'=>?_⟩⟩
 ·rw [List.pairwise_iff_getElem]
  intro a b ha hb' hab;rw [List.length_set] at ha hb';have hv':∀j u,j≠i->X[j]? =some u->P8 r' u:=fun j u hj hu=>by
   rcases hb with rfl|⟨g,rfl,hge⟩
   ·exact h.off hi hu (Ne.symm hj)
   ·refine .inr fun e=>?_
    have:=(h.lt g (e▸List.mem_of_getElem? hu)).2;omega
  rw [List.getElem_set,List.getElem_set];by_cases N:i=a
  ·rw [bC N,aV V]
   exact hv' b _ V (dM hb')
  ·rw [aV N]
   by_cases Y:i=b
   ·rw [bC Y]
    exact(hv' a _ V (dM ha)).symm
   ·rw [aV Y]
    exact List.pairwise_iff_getElem.1 h.pw a b ha hb' hab
 ·rcases List.mem_or_eq_of_mem_set O with O|O
  ·have:=h.lt q O;omega
  ·exact hl q O.symm
 ·rcases List.mem_or_eq_of_mem_set hx' with hu|e
  ·exact Z hu
  ·rcases hb with rfl|⟨g,rfl,hge⟩
   ·exact Z (e▸List.mem_of_getElem? hi)
   ·have:=bI e
    omega
theorem mP.less {w W:World} {X aC:List (Option Nat)} (h:mP w W X) (hp:aC.Pairwise P8) (hs:∀q,some q∈aC->some q∈X):mP w W aC/\Sub (fr w W X) (fr w W aC):=
 ⟨⟨hp,fun q O=>h.lt q (hs q O)⟩,jV fun _ _ _ Z=>⟨rfl,fun hy=>Z (hs _ hy)⟩⟩
def hro (B:Nat) (vl vo:Value) (L:List AQ):List (Option Nat):=some B::vl.ownBlock::vo.ownBlock::L.map (·.2.ownBlock)
structure HR (w W:World) (B:Nat) (vl vo:Value) (lg:List Rc) (L:List AQ):Prop where
 bg:bK Ty.rc (fr w W (hro B vl vo L)) W w.heap.size 79 vl lg
 bG:bK Ty.S9 (fr w W (hro B vl vo L)) W w.heap.size 58 vo L
 aZ:∀x∈L,bK Ty.int (fun _=>none) W w.heap.size 3 x.2 x.1.aZ
 ok:mP w W (hro B vl vo L)
 grow:aK w W
theorem bK.sI {c d:CM} {w:World} {base e:Nat} {v:Value} {L:List AQ} (h:bK Ty.S9 c w base e v L) (hs:Sub c d) (hh:∀x∈L,Sl Ty.int d x.2 x.1.aZ):bK Ty.bG d w base e v (L.map (·.1)):=by
 obtain⟨css,N,Y,h3⟩:=h;refine⟨css,by rw [List.length_map];exact N,by simp [Y],fun i cs x a b=>?_⟩;rw [List.getElem?_map] at b;cases hL:L[i]? with
 |none=>rw [hL] at b;cases b
 |some y=>
  rw [hL] at b;obtain rfl:=bI b;obtain⟨vp,he,hi,hp,-⟩:=h3 i cs y a hL;exact⟨vp,y.2,he,hi,hp.mono hs,hh y (List.mem_of_getElem? hL)⟩
section
variable {w W:World} {B:Nat} {vl vo:Value} {lg:List Rc} {L:List AQ}
theorem HR.IP (b:HR w W B vl vo lg L) (x:AQ) (Z:x∈L):Sl Ty.int (ov (fun _=>none) w W) x.2 x.1.aZ:=
 (b.aZ x Z).slc ε (fun a v e=>by cases e) fun a ha=>dY ha
theorem HR.TW (b:HR w W B vl vo lg L):bK Ty.bG (ov (fun _=>none) w W) W w.heap.size 58 vo (L.map (·.1)):=b.bG.sI (Yp (fun _=>none) _ _ _) b.IP
theorem HR.of (b:HR w W B vl vo lg L) {aW next:Int} (N:I64 aW) (Y:I64 next):Of Ty.hd (ov (fun _=>none) w W) (.agg #[vl,J aW,J next,vo]) ⟨lg,aW,next,L.map (·.1)⟩:=
 ⟨_,rfl,vl,vo,rfl,b.bg.slc ε (Yp _ _ _ _) fun a ha=>dY ha,N,Y,b.TW.slc ε (Sub.refl _) fun a ha=>dY ha⟩
theorem HR.dL {W2:World} (b:HR w W B vl vo lg L) (hg:aK W W2):HR w W2 B vl vo lg L where
 bg:=(b.bg.mono (fH hg)).grow hg
 bG:=(b.bG.mono (fH hg)).grow hg
 aZ:=fun x Z=>(b.aZ x Z).grow hg
 ok:=b.ok.dL hg.size
 grow:=b.grow.trans hg
theorem HR.lH {k:Nat} {x:AQ} (hk:L[k]? =some x):(hro B vl vo L)[k+3]? =some x.2.ownBlock:=by
 simp [hro,List.getElem?_map,hk]
theorem nX {v:Value} {r:Option Nat} (h:P8 v.ownBlock r):v.ownBlock=none∨v.ownBlock≠r:=h
theorem HR.box {W2:World} (b:HR w W B vl vo lg L) (hg:W.grownBy W2 (some B)):HR w W2 B vl vo lg L:=by
 have h0:(hro B vl vo L)[0]? =some (some B):=rfl;obtain⟨k1,k2⟩:=b.ok.step h0 hg (.inl rfl) (fun q O=>by have:=b.ok.lt q (O▸List.mem_of_getElem? h0);have:=hg.size;omega);have e:(hro B vl vo L).set 0 (some B)=hro B vl vo L:=rfl;rw [e] at k1 k2;refine⟨(b.bg.mono k2).kept hg (nX (b.ok.off (i:=1) (j:=0) rfl h0 ε)),(b.bG.mono k2).kept hg (nX (b.ok.off (i:=2) (j:=0) rfl h0 ε)),fun x Z=>?_,k1,b.grow.grown hg (fun k hk=>(b.ok.lt k (hk▸List.mem_of_getElem? h0)).1)⟩;obtain⟨i,hi,rfl⟩:=List.mem_iff_getElem.1 Z;exact(b.aZ _ Z).kept hg (nX (b.ok.off (HR.lH (dM hi)) h0 V))
theorem HR.logs {W2:World} {Md:Value} {lg':List Rc} (b:HR w W B vl vo lg L) (hg:W.grownBy W2 vl.ownBlock) (hb:Md.ownBlock=vl.ownBlock∨∃g,Md.ownBlock=some g/\W.heap.size<=g)
  (ho:bK Ty.rc (fr w W (hro B vl vo L)) W2 w.heap.size 79 Md lg'):HR w W2 B Md vo lg' L:=by
 have h0:(hro B vl vo L)[1]? =some vl.ownBlock:=rfl;obtain⟨k1,k2⟩:=b.ok.step h0 hg hb ho.lt;have e:(hro B vl vo L).set 1 Md.ownBlock=hro B Md vo L:=rfl;rw [e] at k1 k2;refine⟨ho.mono k2,(b.bG.mono k2).kept hg (nX (b.ok.off (i:=2) (j:=1) rfl h0 ε)),fun x Z=>?_,k1,b.grow.grown hg (fun k hk=>(b.bg.lt k hk).1)⟩;obtain⟨i,hi,rfl⟩:=List.mem_iff_getElem.1 Z;exact(b.aZ _ Z).kept hg (nX (b.ok.off (HR.lH (dM hi)) h0 V))
theorem HR.put {W2:World} {oH:Value} {L':List AQ} (b:HR w W B vl vo lg L) (hg:W.grownBy W2 vo.ownBlock) (hb:oH.ownBlock=vo.ownBlock∨∃g,oH.ownBlock=some g/\W.heap.size<=g)
  (ho:bK Ty.S9 (fr w W (hro B vl vo L)) W2 w.heap.size 58 oH L') (hh:∀x∈L',x∈L∨x.2=U none 0 0/\x.1.aZ=[]) (hp:(L'.map (·.2.ownBlock)).Pairwise P8):HR w W2 B vl oH lg L':=by
 have h0:(hro B vl vo L)[2]? =some vo.ownBlock:=rfl;obtain⟨k1,k2⟩:=b.ok.step h0 hg hb ho.lt;have e:(hro B vl vo L).set 2 oH.ownBlock=hro B vl oH L:=rfl;rw [e] at k1 k2;have hin:∀q,some q∈L'.map (·.2.ownBlock)->some q∈L.map (·.2.ownBlock):=fun q O=>by
  obtain⟨x,Z,e⟩:=List.mem_map.1 O;rcases hh x Z with h|⟨h,-⟩
  ·exact List.mem_map.2 ⟨x,h,e⟩
  ·rw [h] at e;cases e
 have hsub:∀q,some q∈hro B vl oH L'->some q∈hro B vl oH L:=fun q O=>by
  unfold hro at O ⊢;rcases List.mem_cons.1 O with h|O
  ·exact List.mem_cons.2 (.inl h)
  rcases List.mem_cons.1 O with h|O
  ·exact List.mem_cons.2 (.inr (List.mem_cons.2 (.inl h)))
  rcases List.mem_cons.1 O with h|O
  ·exact List.mem_cons.2 (.inr (List.mem_cons.2 (.inr (List.mem_cons.2 (.inl h)))))
  ·exact List.mem_cons.2 (.inr (List.mem_cons.2 (.inr (List.mem_cons.2 (.inr (hin q O))))))
 have hpw:(hro B vl oH L').Pairwise P8:=by
  have p:=k1.pw;unfold hro at p ⊢;simp only [List.pairwise_cons] at p ⊢;have up:∀a:Option Nat,(∀c∈L.map (·.2.ownBlock),P8 a c)->∀c∈L'.map (·.2.ownBlock),P8 a c:=fun a ha c hc=>by
   cases c with
   |none=>exact P8.symm (.inl rfl)
   |some q=>exact ha _ (hin q hc)
  refine⟨fun c hc=>?_,fun c hc=>?_,up _ p.2.2.1,hp⟩
  ·rcases List.mem_cons.1 hc with rfl|hc
   ·exact p.1 _ σ
   ·rcases List.mem_cons.1 hc with rfl|hc
    ·exact p.1 _ σ
    ·exact up _ (fun c hc=>p.1 c (by simp at hc ⊢;exact .inr (.inr hc))) c hc
  ·rcases List.mem_cons.1 hc with rfl|hc
   ·exact p.2.1 _ σ
   ·exact up _ (fun c hc=>p.2.1 c (by simp at hc ⊢;exact .inr hc)) c hc
 obtain⟨k3,k4⟩:=k1.less hpw hsub;have k5:=k2.trans k4;refine⟨(b.bg.mono k5).kept hg (nX (b.ok.off (i:=1) (j:=2) rfl h0 ε)),ho.mono k5,fun x Z=>?_,k3,b.grow.grown hg (fun k hk=>(b.bG.lt k hk).1)⟩;rcases hh x Z with h|⟨N,Y⟩
 ·obtain⟨i,hi,rfl⟩:=List.mem_iff_getElem.1 h
  exact(b.aZ _ h).kept hg (nX (b.ok.off (HR.lH (dM hi)) h0 V))
 ·rw [N,Y];exact bK.nil _ _ _ _ _
end
theorem bK.Ry {α:Type} {T:Ty α} {c:CM} {w:World} {base e g n cap:Nat} {l:List α} (h:bK T c w base e (U (some ⟨g,0,none⟩) n cap) l) (hn:n=l.length) {i j:Nat} {x x':α} (hi:l[i]? =some x) (hj:j<T.size) {u:Value}
  (hR:∀cs,T.R c cs x->T.R c (cs.set j u) x'):bK T c (w.setCell ⟨g,i*T.size+j,none⟩ u) base e (U (some ⟨g,0,none⟩) n cap) (l.set i x'):=by
 obtain⟨css,N,Y,h3⟩:=h;subst hn;have hil:=(List.getElem?_eq_some_iff.1 hi).1;have hcl:=nN Y h3;have hcx:css[i]? =some css[i]:=dM V;have hci:=h3 i css[i] x hcx hi;have k2:=(N.stored (i*T.size+j) u).1;have e1:(css.set i (css[i].set j u)).flatten=css.flatten.set (i*T.size+j) u:=by
  have h0:0<T.size:=by omega
  have hcl':∀cs∈css.set i (css[i].set j u),cs.length=T.size:=fun cs hcs=>by
   rcases List.mem_or_eq_of_mem_set hcs with h|rfl
   ·exact hcl cs h
   ·rw [List.length_set];exact T.len hci
  apply List.ext_getElem?;intro q;rw [lI h0 _ hcl',List.getElem?_set,List.getElem?_set,lI h0 css hcl];by_cases O:i=q/T.size
  ·rw [bC O]
   subst O;rw [bC V,hcx];simp only [Option.bind_some,List.getElem?_set];have hdm:=Nat.div_add_mod q T.size;rw [Nat.mul_comm] at hdm;by_cases hj2:j=q % T.size
   ·rw [bC hj2,bC (by rw [T.len hci];exact hj),bC V,bC (by
     rw [ou css hcl,Y];have:(q/T.size+1)*T.size<=l.length*T.size:=Nat.mul_le_mul_right _ V;rw [Nat.add_mul] at this;omega)]
   ·rw [aV hj2,aV V]
  ·rw [aV O,aV (fun e=>O (by
    rw [<-e,Nat.mul_comm,Nat.mul_add_div h0,Nat.div_eq_of_lt hj,Nat.add_zero]))]
 refine⟨css.set i (css[i].set j u),by rw [e1];simpa using k2,by simp [Y],fun q cs y a b=>?_⟩;rw [List.getElem?_set] at a b;by_cases O:i=q
 ·rw [bC O,bC V] at a b
  obtain rfl:=bI a;obtain rfl:=bI b;exact hR _ hci
 ·rw [aV O] at a b
  exact h3 q cs y a b
theorem HR.hear {w W W2:World} {B:Nat} {vl:Value} {lg:List Rc} {L:List AQ} {g n cap k:Nat} {x:AQ} {v':Value} {l':List Int} (b:HR w W B vl (U (some ⟨g,0,none⟩) n cap) lg L) (hn:n=L.length) (hk:L[k]? =some x)
  (hg:W.grownBy W2 x.2.ownBlock) (hb:v'.ownBlock=x.2.ownBlock∨∃q,v'.ownBlock=some q/\W.heap.size<=q) (ho:bK Ty.int (fun _=>none) W2 w.heap.size 3 v' l'):
  HR w (W2.setCell ⟨g,k*4+3,none⟩ v') B vl (U (some ⟨g,0,none⟩) n cap) lg (L.set k (⟨x.1.aJ,x.1.aH,x.1.dec,l'⟩,v'))/\W.cell? ⟨g,k*4,none⟩=some (J x.1.aJ)/\∃vp,W.cell? ⟨g,k*4+1,none⟩=some vp:=by
 have hkl:=(List.getElem?_eq_some_iff.1 hk).1;have h0:=HR.lH (B:=B) (vl:=vl) (vo:=U (some ⟨g,0,none⟩) n cap) hk;obtain⟨k1,k2⟩:=b.ok.step h0 hg hb ho.lt;have e:(hro B vl (U (some ⟨g,0,none⟩) n cap) L).set (k+3) v'.ownBlock=hro B vl (U (some ⟨g,0,none⟩) n cap) (L.set k (⟨x.1.aJ,x.1.aH,x.1.dec,l'⟩,v')):=by
  unfold hro;simp [List.map_set]
 rw [e] at k1 k2;have Y:∀aj:List AQ,(hro B vl (U (some ⟨g,0,none⟩) n cap) aj)[2]? =some (some g):=fun _=>rfl;have gs:W2.grownBy (W2.setCell ⟨g,k*4+3,none⟩ v') (some g):=dS W2 ⟨g,k*4+3,none⟩ v';obtain⟨k3,k4⟩:=k1.step (Y _) gs (.inl rfl) (fun q O=>by
  have:=k1.lt q (by rw [<-O];exact List.mem_of_getElem? (Y _));have:=gs.size;omega)
 have e2:(hro B vl (U (some ⟨g,0,none⟩) n cap) (L.set k (⟨x.1.aJ,x.1.aH,x.1.dec,l'⟩,v'))).set 2 (some g)=hro B vl (U (some ⟨g,0,none⟩) n cap) (L.set k (⟨x.1.aJ,x.1.aH,x.1.dec,l'⟩,v')):=rfl;rw [e2] at k3 k4;have hsub:=k2.trans k4;have o1:=(b.bG.kept hg (nX (b.ok.off (i:=2) (j:=k+3) (Y _) h0 V)));have o2:=bK.Ry (T:=Ty.S9) (x':=(⟨x.1.aJ,x.1.aH,x.1.dec,l'⟩,v')) o1 hn hk (j:=3) ε (u:=v') (fun cs hR=>by
  obtain⟨vp,rfl,N,Y,-⟩:=hR;exact⟨vp,rfl,N,Y,by obtain⟨a',c',rfl⟩:=ho.form;rfl⟩)
 refine⟨⟨((b.bg.kept hg (nX (b.ok.off (i:=1) (j:=k+3) rfl h0 V))).mono hsub).kept gs (nX (b.ok.off (i:=1) (j:=2) rfl (Y _) ε)),o2.mono hsub,fun y hy=>?_,k3,(b.grow.grown hg (fun q O=>(b.ok.lt q (O▸List.mem_of_getElem? h0)).1)).grown gs (fun q O=>(b.ok.lt q (by rw [<-O];exact List.mem_of_getElem? (Y _))).1)⟩,?_⟩
 ·obtain⟨i,hi,rfl⟩:=List.mem_iff_getElem.1 hy
  rw [List.length_set] at hi;have hoff:P8 ((hro B vl (U (some ⟨g,0,none⟩) n cap) (L.set k (⟨x.1.aJ,x.1.aH,x.1.dec,l'⟩,v')))[i+3]?.getD none) (some g):=by
   have h9:=HR.lH (B:=B) (vl:=vl) (vo:=U (some ⟨g,0,none⟩) n cap) (L:=L.set k (⟨x.1.aJ,x.1.aH,x.1.dec,l'⟩,v')) (k:=i) (dM (by rw [List.length_set];exact hi));rw [h9];exact k1.off h9 (Y _) V
  have h9:=HR.lH (B:=B) (vl:=vl) (vo:=U (some ⟨g,0,none⟩) n cap) (L:=L.set k (⟨x.1.aJ,x.1.aH,x.1.dec,l'⟩,v')) (k:=i) (dM (by rw [List.length_set];exact hi));rw [h9] at hoff;refine bK.kept ?_ gs (nX hoff);by_cases hki:k=i
  ·subst hki
   simp only [List.getElem_set_self];exact ho
  ·rw [List.getElem_set_ne hki]
   exact(b.aZ _ (List.getElem_mem _)).kept hg (nX (b.ok.off (HR.lH (dM hi)) h0 V))
 ·have o:=b.bG
  rw [hn] at o;obtain⟨g',cs,hg',hR,hA⟩:=o.get ε k hkl;obtain rfl:g=g':=by simpa using hg'
  obtain⟨vp,rfl,-,-,-⟩:=hR;have Z:L[k]=x:=by rw [dM hkl] at hk;exact bI hk
  have c0:=hA 0 _ rfl;have c1:=hA 1 _ rfl;rw [Z] at c0;exact⟨c0,vp,c1⟩
theorem HR.at_ {w W:World} {B:Nat} {vl:Value} {lg:List Rc} {L:List AQ} {a:Option Addr} {n cap k:Nat} {x:AQ} (b:HR w W B vl (U a n cap) lg L) (hn:n=L.length) (hk:L[k]? =some x):
  ∃g vp,a=some ⟨g,0,none⟩/\w.heap.size<=g/\g<W.heap.size/\W.cell? ⟨g,k*4,none⟩=some (J x.1.aJ)/\W.cell? ⟨g,k*4+1,none⟩=some vp/\W.cell? ⟨g,k*4+2,none⟩=some (.bool x.1.dec)/\W.cell? ⟨g,k*4+3,none⟩=some x.2/\I64 x.1.aJ/\
   Sl Ty.pt (fr w W (hro B vl (U a n cap) L)) vp x.1.aH/\bK Ty.int (fun _=>none) W w.heap.size 3 x.2 x.1.aZ:=by
 have hkl:=(List.getElem?_eq_some_iff.1 hk).1;have o:=b.bG;rw [hn] at o;obtain⟨g',cs,rfl,hR,hA⟩:=o.get ε k hkl;have Z:L[k]=x:=by rw [dM hkl] at hk;exact bI hk
 rw [Z] at hR;obtain⟨vp,rfl,hi,hp,-⟩:=hR;have hl:=b.bG.lt g' rfl;refine⟨g',vp,rfl,hl.1,hl.2,hA 0 _ rfl,hA 1 _ rfl,hA 2 _ rfl,hA 3 _ rfl,hi,?_,b.aZ x (List.mem_of_getElem? hk)⟩;rw [hn];exact hp
theorem HR.decide {w W:World} {B:Nat} {vl:Value} {lg:List Rc} {L:List AQ} {g n cap k:Nat} {x:AQ} (b:HR w W B vl (U (some ⟨g,0,none⟩) n cap) lg L) (hn:n=L.length) (hk:L[k]? =some x):
  HR w ((W.setCell ⟨g,k*4+2,none⟩ (.bool true)).setCell ⟨g,k*4+3,none⟩ (U none 0 0)) B vl (U (some ⟨g,0,none⟩) n cap) lg (L.set k (⟨x.1.aJ,x.1.aH,true,[]⟩,U none 0 0)):=by
 have gs:W.grownBy ((W.setCell ⟨g,k*4+2,none⟩ (.bool true)).setCell ⟨g,k*4+3,none⟩ (U none 0 0)) (some g):=bD (dS W ⟨g,k*4+2,none⟩ _) (dS _ ⟨g,k*4+3,none⟩ _);have hkl:=(List.getElem?_eq_some_iff.1 hk).1;have o1:=bK.Ry (T:=Ty.S9) (x':=(⟨x.1.aJ,x.1.aH,true,x.1.aZ⟩,x.2)) b.bG hn hk (j:=2) ε (u:=.bool true) (fun cs hR=>by
  obtain⟨vp,rfl,N,Y,h3⟩:=hR;exact⟨vp,rfl,N,Y,h3⟩)
 have KF:(L.set k (⟨x.1.aJ,x.1.aH,true,x.1.aZ⟩,x.2))[k]? =some (⟨x.1.aJ,x.1.aH,true,x.1.aZ⟩,x.2):=by rw [List.getElem?_set_self hkl]
 have o2:=bK.Ry (T:=Ty.S9) (x':=(⟨x.1.aJ,x.1.aH,true,[]⟩,U none 0 0)) o1 (by rw [List.length_set];exact hn) KF (j:=3) ε (u:=U none 0 0) (fun cs hR=>by
  obtain⟨vp,rfl,N,Y,-⟩:=hR;exact⟨vp,rfl,N,Y,rfl⟩)
 rw [List.set_set] at o2;refine b.put (oH:=U (some ⟨g,0,none⟩) n cap) gs (.inl rfl) o2 (fun y hy=>?_) ?_
 ·rcases List.mem_or_eq_of_mem_set hy with h|rfl
  ·exact .inl h
  ·exact .inr ⟨rfl,rfl⟩
 ·rw [List.map_set]
  have p:(L.map (·.2.ownBlock)).Pairwise P8:=by
   have p:=b.ok.pw;unfold hro at p;simp only [List.pairwise_cons] at p;exact p.2.2.2
  rw [List.pairwise_iff_getElem];intro i j hi hj hij;rw [List.getElem_set,List.getElem_set];by_cases N:k=i
  ·rw [bC N];exact .inl rfl
  ·rw [aV N]
   by_cases Y:k=j
   ·rw [bC Y];exact P8.symm (.inl rfl)
   ·rw [aV Y]
    rw [List.length_set] at hi hj;exact List.pairwise_iff_getElem.1 p i j hi hj hij
theorem Nw {c:CM} {w:World} {base g cap k:Nat} {L:List AQ} (h:bK Ty.S9 c w base 58 (U (some ⟨g,0,none⟩) L.length cap) L) (hk:k<L.length):
  Calls Tryz.prog 121 #[U (some ⟨g,0,none⟩) L.length cap,J k,J ((k:Int)+1)] w fun e w'=>e=.returned (U (some ⟨g,0,none⟩) (L.length - 1) cap)/\bK Ty.S9 c w' base 58 (U (some ⟨g,0,none⟩) (L.length - 1) cap) (L.eraseIdx k)/\w.grownBy w' (some g):=by
 obtain⟨css,N,Y,h3⟩:=h;refine(Wp (i:=k) N hk (fun u hu=>?_)).mono ?_
 ·obtain⟨cs,hcs,huc⟩:=List.mem_flatten.1 hu
  obtain⟨i,hi,rfl⟩:=List.mem_iff_getElem.1 hcs;exact F7 _ _ _ (h3 i css[i] L[i] σ σ) u huc
 ·rintro e w' ⟨rfl,ho,hg⟩
  exact⟨rfl,bK.erase (T:=Ty.S9) Y h3 (Sub.refl _) hk ho,hg⟩
theorem HR.erase {w W W2:World} {B:Nat} {vl oH:Value} {lg:List Rc} {L:List AQ} {g n cap k:Nat} (b:HR w W B vl (U (some ⟨g,0,none⟩) n cap) lg L) (hg:W.grownBy W2 (some g)) (hv:oH.ownBlock=some g)
  (ho:bK Ty.S9 (fr w W (hro B vl (U (some ⟨g,0,none⟩) n cap) L)) W2 w.heap.size 58 oH (L.eraseIdx k)):HR w W2 B vl oH lg (L.eraseIdx k):=by
 refine b.put (oH:=oH) hg (.inl hv) ho (fun y hy=>.inl (List.mem_of_mem_eraseIdx hy)) ?_;have p:=b.ok.pw;unfold hro at p;simp only [List.pairwise_cons] at p;exact p.2.2.2.sublist ((List.eraseIdx_sublist _ _).map _)
theorem mP.perm {w W:World} {X aC:List (Option Nat)} (h:mP w W X) (hp:X.Perm aC):mP w W aC/\Sub (fr w W X) (fr w W aC):=
 h.less ((List.Perm.pairwise_iff (fun h=>P8.symm h) hp).1 h.pw) fun _ O=>hp.mem_iff.2 O
theorem mP.cons {w W:World} {X:List (Option Nat)} {r:Option Nat} (h:mP w W X) (hr:∀q,r=some q->w.heap.size<=q/\q<W.heap.size/\some q∉X):mP w W (r::X):=by
 refine⟨List.pairwise_cons.2 ⟨fun u hu=>?_,h.pw⟩,fun q O=>?_⟩
 ·cases r with
  |none=>exact .inl rfl
  |some q=>exact .inr fun e=>(hr q rfl).2.2 (e▸hu)
 ·rcases List.mem_cons.1 O with e|O
  ·have:=hr q e.symm;omega
  ·exact h.lt q O
theorem HR.ahead {w W0 W:World} {B:Nat} {vl vo:Value} {lg:List Rc} {L:List AQ} {r:Option Nat} (b:HR w W0 B vl vo lg L) (h0:aK W0 W) (hr:∀q,r=some q->W0.heap.size<=q/\q<W.heap.size):
  mP w W (r::hro B vl vo L)/\Sub (fr w W0 (hro B vl vo L)) (fr w W (r::hro B vl vo L)):=by
 have hs:=h0.size;have hw:=b.grow.size;refine⟨(b.ok.dL hs).cons fun q O=>⟨by have:=hr q O;omega,(hr q O).2,fun hm=>by have:=(b.ok.lt q hm).2;have:=hr q O;omega⟩,jV fun k hk _ Z=>⟨h0.block k hk,fun hm=>?_⟩⟩;rcases List.mem_cons.1 hm with e|hm
 ·have:=(hr k e.symm).1;omega
 ·exact Z hm
theorem HR.snoc {w W0 W W2:World} {B:Nat} {vl vo oH:Value} {lg:List Rc} {L:List AQ} {x:AQ} (b:HR w W0 B vl vo lg L) (h0:aK W0 W) (Z:bK Ty.int (fun _=>none) W W0.heap.size 3 x.2 x.1.aZ)
  (hg:W.grownBy W2 vo.ownBlock) (hb:oH.ownBlock=vo.ownBlock∨∃g,oH.ownBlock=some g/\W.heap.size<=g)
  (ho:bK Ty.S9 (fr w W (x.2.ownBlock::hro B vl vo L)) W2 w.heap.size 58 oH (L++ [x])):HR w W2 B vl oH lg (L++ [x]):=by
 obtain⟨j1,j2⟩:=b.ahead h0 Z.lt;have hvo:(x.2.ownBlock::hro B vl vo L)[3]? =some vo.ownBlock:=rfl;obtain⟨k1,k2⟩:=j1.step hvo hg hb ho.lt;have e:(x.2.ownBlock::hro B vl vo L).set 3 oH.ownBlock=x.2.ownBlock::hro B vl oH L:=rfl;rw [e] at k1 k2;have hp:(x.2.ownBlock::hro B vl oH L).Perm (hro B vl oH (L++ [x])):=by
  have e2:hro B vl oH (L++ [x])=hro B vl oH L++ [x.2.ownBlock]:=by simp [hro]
  rw [e2];exact(List.perm_append_singleton _ _).symm
 obtain⟨m1,m2⟩:=k1.perm hp;have s:=k2.trans m2;have sz:=h0.size;refine⟨((((b.bg.grow h0).kept hg (nX (b.ok.off (i:=1) (j:=2) rfl rfl ε))).mono j2).mono s),ho.mono s,fun y hy=>?_,m1,(b.grow.trans h0).grown hg (fun k hk=>(b.bG.lt k hk).1)⟩;rcases List.mem_append.1 hy with hy|hy
 ·obtain⟨i,hi,rfl⟩:=List.mem_iff_getElem.1 hy
  exact((b.aZ _ hy).grow h0).kept hg (nX (b.ok.off (HR.lH (dM hi)) (j:=2) rfl V))
 ·obtain rfl:=List.mem_singleton.1 hy
  refine(Z.base b.grow.size).kept hg ?_;cases h9:y.2.ownBlock with
  |none=>exact .inl rfl
  |some q=>
   refine .inr fun e9=>?_;have N:=(Z.lt q h9).1;have Y:=(b.ok.lt q (by rw [e9];exact List.mem_of_getElem? (i:=2) rfl)).2;omega
theorem HR.start {w wc w1 W:World} {B:Nat} {vl:Value} {lg:List Rc} (h:bK Ty.rc (fr wc w1 [vl.ownBlock]) w1 wc.heap.size 79 vl lg) (hw:w.heap.size<=wc.heap.size) (hs:w1.heap.size<=W.heap.size)
  (hb:∀k,k<w1.heap.size->wc.heap.size<=k->k≠B/\W.heap[k]? =w1.heap[k]?) (hB:w.heap.size<=B/\B<W.heap.size) (hg:aK w W):HR w W B vl (U none 0 0) lg []:=by
 have hl:=h.lt;have hsub:Sub (fr wc w1 [vl.ownBlock]) (fr w W (hro B vl (U none 0 0) [])):=fun a v e=>by
  have hlt:=eH w1 a (iO _ _ _ _ _ e);unfold fr at e;split at e
  ·cases e
  ·rename_i hn
   have N:¬a.block<wc.heap.size:=fun Z=>hn (.inl Z);have Y:some a.block≠vl.ownBlock:=fun Z=>hn (.inr (by rw [Z];simp));obtain⟨h3,h4⟩:=hb a.block hlt V;rw [jh V (by
    unfold hro;simp only [List.map_nil,List.mem_cons,List.not_mem_nil,or_false,not_or];exact⟨fun e=>h3 (bI e),Y,by simp [Value.ownBlock]⟩),World.cell?_of_block h4]
   exact e
 refine⟨((h.mono hsub).block fun k hk=>(hb k (hl k hk).2 (hl k hk).1).2).base hw,bK.nil _ _ _ _ _,fun x Z=>(by cases Z),⟨?_,fun q O=>?_⟩,hg⟩
 ·unfold hro
  simp only [List.map_nil,List.pairwise_cons,List.mem_cons,List.not_mem_nil,or_false,List.Pairwise.nil,and_true,forall_eq,forall_eq_or_imp];refine⟨⟨P8.symm ?_,P8.symm (.inl rfl)⟩,P8.symm (.inl rfl),fun _ h=>by cases h⟩;cases h9:vl.ownBlock with
  |none=>exact .inl rfl
  |some q=>exact .inr fun e=>(hb q (hl q h9).2 (hl q h9).1).1 (bI e)
 ·unfold hro at O
  simp only [List.map_nil,List.mem_cons,List.not_mem_nil,or_false] at O;rcases O with e|e|e
  ·have:=bI e;omega
  ·have:=hl q e.symm;omega
  ·cases e
theorem HR.Vx {w W W2:World} {B B':Nat} {vl vo:Value} {lg:List Rc} {L:List AQ} (b:HR w W B vl vo lg L) (hg:aK W W2) (N:W.heap.size<=B') (Y:B'<W2.heap.size):HR w W2 B' vl vo lg L:=by
 have hw:=b.grow.size;have hsub:Sub (fr w W (hro B vl vo L)) (fr w W2 (hro B' vl vo L)):=jV fun k hk _ Z=>⟨hg.block k hk,fun hm=>by
  unfold hro at Z hm;rcases List.mem_cons.1 hm with e|hm
  ·have:=bI e;omega
  ·exact Z (List.mem_cons.2 (.inr hm))⟩
 refine⟨(b.bg.mono hsub).grow hg,(b.bG.mono hsub).grow hg,fun x Z=>(b.aZ x Z).grow hg,?_,b.grow.trans hg⟩;have p:=b.ok.pw;have l:=b.ok.lt;have sz:=hg.size;unfold hro at p l ⊢;rw [List.pairwise_cons] at p;refine mP.cons ⟨p.2,fun q O=>?_⟩ fun q O=>?_
 ·have:=l q (List.mem_cons.2 (.inr O));omega
 ·obtain rfl:=bI O
  exact⟨V,Y,fun hm=>by have:=(l B' (List.mem_cons.2 (.inr hm))).2;omega⟩
theorem bK.slb {α:Type} {T:Ty α} {c d:CM} (h0:0<T.size) {w:World} {base e:Nat} {v:Value} {l:List α} (h:bK T c w base e v l) (hs:Sub c d) (hd:∀a:Addr,v.ownBlock=some a.block->d a=w.cell? a):Sl T d v l:=by
 obtain⟨css,⟨hl,hs'⟩,Y,h3⟩:=h;have hcl:=nN Y h3;rcases hs' with⟨rfl,hn⟩|⟨g,cap,cur,rfl,hg,hrow,hnc,hcm,hcs,htake⟩
 ·have:l=[]:=List.eq_nil_of_length_eq_zero hn
  subst this;exact⟨none,0,rfl,Nat.le_refl _,Nat.zero_le _,fun _=>rfl,fun i x e=>by simp at e⟩
 ·refine⟨some ⟨g,0,none⟩,cap,rfl,hnc,hcm,σ,fun i x e=>?_⟩
  have hi:i<l.length:=(List.getElem?_eq_some_iff.1 e).1;have hc:css[i]? =some css[i]:=dM V;refine⟨g,0,css[i],rfl,T.mono hs (h3 i _ x hc e),fun j u hu=>?_⟩;have hj:j<T.size:=by rw [<-hcl css[i] (List.getElem_mem _)];exact(List.getElem?_eq_some_iff.1 hu).1
  have Z:css.flatten[i*T.size+j]? =some u:=by
   rw [lI h0 css hcl,Nat.mul_comm,Nat.mul_add_div h0,Nat.div_eq_of_lt hj,Nat.add_zero,hc,Nat.mul_add_mod,Nat.mod_eq_of_lt hj];exact hu
  rw [<-htake,List.getElem?_take] at Z;rw [hd _ ρ];split at Z
  ·simp only [World.cell?,hrow];simpa using Z
  ·cases Z
theorem HR.past {w0 w W W2:World} {B A:Nat} {vl vo:Value} {lg:List Rc} {L:List AQ} (b:HR w W B vl vo lg L) (h:aK w0 w) (hg:W.grownBy W2 (some A)) (hA:w0.heap.size<=A/\A<w.heap.size):HR w0 W2 B vl vo lg L:=by
 have hs:=h.size;have ne:∀q,some q∈hro B vl vo L->q≠A:=fun q O=>by have:=b.ok.lt q O;omega
 have sub:Sub (fr w W (hro B vl vo L)) (fr w0 W2 (hro B vl vo L)):=(jV (W0:=w) (w':=W2) (X':=hro B vl vo L) fun k hk h0 Z=>⟨hg.block k hk iP,Z⟩).trans (kG hs);have off:∀{v:Value} {i:Nat},(hro B vl vo L)[i]? =some v.ownBlock->v.ownBlock=none∨v.ownBlock≠some A:=fun {v i} hi=>by
  cases e:v.ownBlock with
  |none=>exact .inl rfl
  |some q=>exact .inr fun e2=>ne q (by rw [<-e];exact List.mem_of_getElem? hi) (bI e2)
 refine⟨((b.bg.mono sub).base hs).kept hg (off (i:=1) rfl),((b.bG.mono sub).base hs).kept hg (off (i:=2) rfl),fun x Z=>?_,⟨b.ok.pw,fun q O=>by have:=b.ok.lt q O;have:=hg.size;omega⟩,(h.trans b.grow).grown hg (fun q O=>by have:=bI O;omega)⟩;obtain⟨i,hi,rfl⟩:=List.mem_iff_getElem.1 Z;exact((b.aZ _ Z).base hs).kept hg (off (HR.lH (dM hi)))
theorem P9:(Tryz.prog.info? 23).map (·.size)=some 1:=by kernel_rfl
theorem qj {v:Value} {B:Nat} (h:∀q,v.ownBlock=some q->q≠B):v.ownBlock=none∨v.ownBlock≠some B:=by
 cases e:v.ownBlock with
 |none=>exact .inl rfl
 |some q=>exact .inr fun e2=>h q e (bI e2)
theorem IR {c:CM} {v:Value} {l:List Int} (h:Sl Ty.int c v l):∀x∈l,I64 x:=fun x Z=>by
 obtain⟨a,cap,rfl,-,-,-,hel⟩:=h;obtain⟨i,hi,rfl⟩:=List.mem_iff_getElem.1 Z;obtain⟨b,o,cs,-,⟨-,h9⟩,-⟩:=hel i _ (dM hi);exact h9
theorem BK {v:Value} {h:Hd} (w:World) (hv:Of Ty.hd w.cell? v h) (hk:FK h) (hp:∀r∈h.bg,r.aH.length*24<=140737488355328):
  Calls Tryz.prog 60 #[v] w fun e w'=>∃vl vo B L,e=.returned (.agg #[vl,J h.aW,J h.next,vo])/\L.map (·.1)=h.bG/\HR w w' B vl vo h.bg L:=by
 obtain⟨al,cl,ar,cr,rfl⟩:=hv.iw;obtain⟨Oi,Oj,he,N,Y,-,hel⟩:=(Of.lM hv).2;obtain⟨rfl,rfl⟩:ar=Oi/\cr=Oj:=by simpa using he
 unfold maxLen at Y;have Gt:=I (fun(W:World) (hW:aK w W)=>E5 W ((Of.lM hv).1.mono hW.sub) (τ hk.bg) hp);have Ux:=I hk.aH;have HHE:=I hk.aZ;have T9:=hk.bG;clear hk he hv hp;obtain⟨wa,fZ⟩:=χ (w.alloc (.cells #[U al h.bg.length cl,J h.aW,J h.next,U ar h.bG.length cr] 29));obtain⟨wz,hwz⟩:=χ (wa.alloc (.cells #[(),J 0,J 0,()] 29));have hsz:wa.heap.size=w.heap.size+1:=by rw [fZ];simp
 have R1:Hid (wz.heap[w.heap.size]? =some (.cells #[U al h.bg.length cl,J h.aW,J h.next,U ar h.bG.length cr] 29 (0,0))):=I (by rw [hwz,fZ];exact bQ (bn _ _) _);have R2:Hid (wz.heap[w.heap.size+1]? =some (.cells #[(),J 0,J 0,()] 29 (0,0))):=I (by rw [hwz,<-hsz];exact bn _ _);have G1:Hid (aK w wz):=I (by rw [hwz,fZ];exact((aG w).alloc _).alloc _);have HZ:Hid (wz.heap.size=w.heap.size+2):=I (by rw [hwz,fZ];simp);have HS:Hid (∀W,aK wz W->W.cell? ⟨w,0,none⟩=some (U al h.bg.length cl)/\W.cell? ⟨w,1,none⟩=some (J h.aW)/\W.cell? ⟨w,2,none⟩=some (J h.next)):=fun W hW=>by
  obtain⟨j0,j1,j2,-⟩:=aT (aF R1.o hW);exact⟨j0,j1,j2⟩
 go_enter Tryz.func60,Tryz.ntmps60;go_upto_region 1 with fail
 rw [<-fZ];try rw [hsz]
 rw [<-hwz];clear fZ hwz hsz;go_cut [3,36] from 6 (fun s3 s36 wc=>s36=undef/\∃B3 a3 c3,s3=.pointer (some ⟨B3,0,none⟩)/\wc.heap[B3]? =some (.cells #[U a3 h.bg.length c3,J h.aW,J h.next,()] 29 (0,0))/\HR wz wc B3 (U a3 h.bg.length c3) (U none 0 0) h.bg [])
 case first=>
  refine Gq (fun w'=>w'.cell? ⟨w,0,none⟩=some (U al h.bg.length cl)/\w'.cell? ⟨w,1,none⟩=some (J h.aW)/\w'.cell? ⟨w,2,none⟩=some (J h.next)) [9] κ ?_;intro wd GD zD;have ZD:=I zD;clear zD;refine pF [0,1,3,4,5,6] 12 κ (fun _ _ _ _ _ h=>h) (HS.o _ GD) ?_;repeat (refine jm ?_;try simp only [bT])
  refine pG ?_;refine RE 2 8 κ rfl rfl ?_ ?_
  ·intro K M
   try simp only [dD]
   go_simp;go_at_call 71
   refine(Gt.o _ (G1.o.trans GD)).mono ?_;rintro e w1 ⟨vl,rfl,hol,dZ⟩;obtain⟨a3,c3,rfl⟩:=hol.form;have HOL:=I hol;have G2:=I (aK.trans GD dZ);have GB1:=I dZ;clear hol dZ;refine ψ M (.inr (HS.o _ G2.o)) ?_;try simp only [bT]
   refine pF [7] 12 κ (fun _ _ _ _ _ h=>h) (HS.o _ G2.o) ?_;repeat (refine jm ?_;try simp only [bT])
   refine pG ?_;refine kS 8 κ rfl ?_;intro K M;try simp only [dD]
   go_simp;obtain⟨w8,Df⟩:=χ (w1.alloc (.cells #[(),J 0,J 0,()] 29));obtain⟨B3,F8⟩:=χ w1.heap.size;rw [<-Df,<-F8];have R3:Hid (w8.heap[B3]? =some (.cells #[(),J 0,J 0,()] 29 (0,0))):=I (by rw [Df,F8];exact bn _ _);have G8:Hid (aK w1 w8):=I (by rw [Df];exact(aG _).alloc _);have lU:=I F8;have OS:Hid (w8.heap.size=B3+1):=I (by rw [Df,F8];simp);have OO:=I (aK.trans G2.o G8.o);clear Df F8;refine ψ M (.inr (HS.o _ OO.o)) ?_;try simp only [bT]
   refine kS 9 κ rfl ?_;intro K M;refine aY rfl ?_;try simp only [dD]
   refine b_ (.tmp 3) (.tmp 13) rfl rfl rfl R3.o eY rfl rfl ?_;intro wc rc gc;refine ψ M (.inl ε) ?_;try simp only [bT]
   refine Bf κ ?_;go_wp2;go_meet
   case rel=>
    have z1:=HZ.o;have z2:=ZD.o;have z3:=OS.o;have z4:=lU.o;have z5:=(OO.o).size;have z6:=gc.size;have z7:=GB1.o.size;have GC:aK wz wc:=(OO.o).grown gc (fun q O=>by have:=bI O;omega);exact⟨rfl,B3,a3,c3,rfl,rc,HR.start HOL.o (τ ((GD).size)) V (fun k N Y=>⟨V,by rw [gc.block k V iP,G8.o.block k V]⟩) V GC⟩
  ·intro K M
   try simp only [dD]
   go_simp;obtain⟨w8,Df⟩:=χ (wd.alloc (.cells #[(),J 0,J 0,()] 29));obtain⟨B3,F8⟩:=χ wd.heap.size;rw [<-Df,<-F8];have R3:Hid (w8.heap[B3]? =some (.cells #[(),J 0,J 0,()] 29 (0,0))):=I (by rw [Df,F8];exact bn _ _);have G8:Hid (aK wd w8):=I (by rw [Df];exact(aG _).alloc _);have lU:=I F8;have OS:Hid (w8.heap.size=B3+1):=I (by rw [Df,F8];simp);have OO:=I (aK.trans GD G8.o);clear Df F8;refine ψ M (.inr (HS.o _ OO.o)) ?_;try simp only [bT]
   refine kS 2 κ rfl ?_;intro K M;try simp only [dD]
   go_simp;go_at_call 71
   refine(Gt.o _ (G1.o.trans OO.o)).mono ?_;rintro e w1 ⟨vl,rfl,hol,dZ⟩;obtain⟨a3,c3,rfl⟩:=hol.form;have HOL:=I hol;have G2:=I (aK.trans OO.o dZ);have GB1:=I dZ;clear hol dZ;have R31:=I (aF R3.o GB1.o);refine ψ M (.inr (HS.o _ G2.o)) ?_;try simp only [bT]
   refine pF [7] 12 κ (fun _ _ _ _ _ h=>h) (HS.o _ G2.o) ?_;repeat (refine jm ?_;try simp only [bT])
   refine pG ?_;refine kS 9 κ rfl ?_;intro K M;refine aY rfl ?_;try simp only [dD]
   refine b_ (.tmp 3) (.tmp 13) rfl rfl rfl R31.o eY rfl rfl ?_;intro wc rc gc;refine ψ M (.inl ε) ?_;try simp only [bT]
   refine Bf κ ?_;go_wp2;go_meet
   case rel=>
    have z1:=HZ.o;have z2:=ZD.o;have z3:=OS.o;have z4:=lU.o;have z5:=(G2.o).size;have z6:=gc.size;have z7:=GB1.o.size;have GC:aK wz wc:=(G2.o).grown gc (fun q O=>by have:=bI O;omega);exact⟨rfl,B3,a3,c3,rfl,rc,HR.start HOL.o (τ ((OO.o).size)) V (fun k N Y=>⟨V,gc.block k V iP⟩) V GC⟩
 case rest=>
 obtain⟨rfl,B3,a3,c3,rfl,r3,hr⟩:=hcut;have GC:=I hr.grow;have R1C:=I (aF R1.o GC.o);obtain⟨c0,c1,c2,c4⟩:=aT R1C.o;have z1:w.heap.size<wc:=(γ R1C.o);have R3:=I r3;have NV:=I hr;clear HS r3 hr;go_wp2;clear c0 c1 c2 c4 z1;go_loopw [17] (fun i wr=>∃(ao:Option Addr) (co:Nat) (L:List AQ),L.length<=h.bG.length/\i=J L.length/\L.map (·.1)=h.bG.take L.length/\wr.heap[B3]? =some (.cells #[U a3 h.bg.length c3,J h.aW,J h.next,U ao L.length co] 29 (0,0))/\HR wz wr B3 (U a3 h.bg.length c3) (U ao L.length co) h.bg L) (fun i _=>h.bG.length - (intOf i).toNat)
 case atStart=>exact⟨none,0,[],σ,rfl,rfl,R3.o,NV.o⟩
 case round=>
  obtain⟨ao,co,L,hk',rfl,hL,hrow,hr⟩:=hrel;have HG:=I hr.grow;have HRW:=I hrow;have HRR:=I hr;have rA:=I hL;clear hrow hr hL;have GW:=I (G1.o.trans HG.o);by_cases hlt:L.length<h.bG.length
  ·have nK:Hid (h.bG.take (L.length+1)=h.bG.take L.length++ [h.bG[L.length]]):=I (by rw [List.take_succ_eq_append_getElem hlt])
   obtain⟨b,o,vp,vh,rfl,c0,c1,c2,c3',i0,hP,hH⟩:=EP.at_ hel L.length hlt;obtain⟨ap,cp,rfl,-⟩:=id hP;obtain⟨ah,ch,rfl,-⟩:=id hH;have HPO:=I (pX.ok (c:=w.cell?) hP);have HIO:=I (IR hH);have HC1:=I (fun(W:World) (hW:aK w W)=>sZ W (hP.mono hW.sub) (τ (Ux.o _ (List.getElem_mem hlt))));have HC2:=I (fun(W:World) (hW:aK w W)=>Zz W (hH.mono hW.sub) (τ (HHE.o _ (List.getElem_mem hlt))));have HI0:=I i0;replace c0:=GW.o.sub _ _ c0;replace c1:=GW.o.sub _ _ c1;replace c2:=GW.o.sub _ _ c2;replace c3':=GW.o.sub _ _ c3';clear hel hP hH i0;generalize h.bG[L.length]=q at*;obtain⟨wx,rfl⟩:=χ wr;obtain⟨wo,hwo⟩:=χ (wx.alloc (.cells #[J q.aJ,U ap q.aH.length cp,.bool q.dec,U ah q.aZ.length ch] 58));have GO:Hid (aK wx wo):=I (by rw [hwo];exact(aG _).alloc _);have SJ:Hid (wo.heap.size=wx.heap.size+1):=I (by rw [hwo];simp);obtain⟨BO,Aq⟩:=χ wx.heap.size;have RO:Hid (wo.heap[BO]? =some (.cells #[J q.aJ,U ap q.aH.length cp,.bool q.dec,U ah q.aZ.length ch] 58 (0,0))):=I (by rw [hwo,Aq];exact bn _ _);have fT:Hid (BO=wx.heap.size):=I Aq;have HS:Hid (∀W,aK wo W->W.cell? ⟨BO,1,none⟩=some (U ap q.aH.length cp)/\W.cell? ⟨BO,3,none⟩=some (U ah q.aZ.length ch)):=fun W hW=>by
    obtain⟨-,j1,-,j3⟩:=aT (aF RO.o hW);exact⟨j1,j3⟩
   go_upto_region 5 with fail
   rw [<-hwo,<-Aq];clear hwo Aq c0 c1 c2 c3';go_cut [36] from 21 (fun s36 wc=>s36=undef/\∃a5 c5 a6 c6,wc.heap[BO]? =some (.cells #[J q.aJ,U a5 q.aH.length c5,.bool q.dec,U a6 q.aZ.length c6] 58 (0,0))/\bK Ty.pt (fun _=>none) wc wo.heap.size 111 (U a5 q.aH.length c5) q.aH/\bK Ty.int (fun _=>none) wc wo.heap.size 3 (U a6 q.aZ.length c6) q.aZ/\(∀g,(Value.slice a6 q.aZ.length c6).ownBlock=some g->(Value.slice a5 q.aH.length c5).ownBlock≠some g)/\aK wx wc)
   case first=>
    refine Gq (fun w'=>w'.cell? ⟨BO,1,none⟩=some (U ap q.aH.length cp)/\w'.cell? ⟨BO,3,none⟩=some (U ah q.aZ.length ch)) [7,8,9] κ ?_;intro wd GD zD;have ZD:=I zD;clear zD;refine pF [0,1,3,4] 12 κ (fun _ _ _ _ _ h=>h) (HS.o _ GD) ?_;repeat (refine jm ?_;try simp only [bT])
    refine pG ?_;refine kS 2 κ rfl ?_;intro K M;try simp only [dD]
    go_simp;go_at_call 73
    refine(HC1.o _ (GW.o.trans (GO.o.trans GD))).mono ?_;rintro e w5 ⟨v5,rfl,mW,iY⟩;obtain⟨a5,c5,rfl⟩:=dG mW;have oQ:=I mW;have G5:=I (aK.trans GD iY);clear mW iY;refine ψ M (.inr (HS.o _ G5.o)) ?_;try simp only [bT]
    refine pF [6] 12 κ (fun _ _ _ _ _ h=>h) (HS.o _ G5.o) ?_;repeat (refine jm ?_;try simp only [bT])
    refine pG ?_;refine kS 5 κ rfl ?_;intro K M;try simp only [dD]
    go_simp;go_at_call 101
    refine(HC2.o _ (GW.o.trans (GO.o.trans G5.o))).mono ?_;rintro e w6 ⟨v6,rfl,tZ,nS⟩;obtain⟨a6,c6,rfl⟩:=dG tZ;have Gm:=I tZ;have GB6:=I nS;have G6:=I (aK.trans G5.o nS);clear tZ nS;refine ψ M (.inr (HS.o _ G6.o)) ?_;try simp only [bT]
    refine kS 7 κ rfl ?_;intro K M;refine aY rfl ?_;try simp only [dD]
    refine dF (.tmp 27) (.tmp 23) (v:=U a5 q.aH.length c5) (new:=#[J q.aJ,U a5 q.aH.length c5,.bool q.dec,U ah q.aZ.length ch]) rfl rfl ρ ρ (aF RO.o G6.o) P9 σ ρ ρ ?_;intro w7 r7 g7;have Xd:=I r7;have pq:=I g7;clear r7 g7;refine ψ M (.inl ε) ?_;try simp only [bT]
    refine kS 8 κ rfl ?_;intro K M;try simp only [dD]
    go_simp;refine ψ M (.inl ε) ?_;try simp only [bT]
    refine kS 9 κ rfl ?_;intro K M;refine aY rfl ?_;try simp only [dD]
    refine dF (.tmp 28) (.tmp 26) (v:=U a6 q.aZ.length c6) (new:=#[J q.aJ,U a5 q.aH.length c5,.bool q.dec,U a6 q.aZ.length c6]) rfl rfl ρ ρ Xd.o CY σ ρ ρ ?_;intro w9 r9 g9;refine ψ M (.inl ε) ?_;try simp only [bT]
    refine Bf κ ?_;go_wp2;go_meet
    case rel=>
     have z2:=ZD.o;have z3:=SJ.o;have z4:=fT.o;have z6:=G6.o.size;have z9:=G5.o.size;have GX:aK wx w9:=((GO.o.trans G6.o).grown pq.o (fun q O=>by have:=bI O;omega)).grown g9 (fun q O=>by have:=bI O;omega);have o5:=bK.pts (c:=fun _=>none) (kE oQ.o GB6.o) HPO.o;have o6:=bK.ints (c:=fun _=>none) Gm.o HIO.o;have n5:∀q,(Value.slice a5 _ c5).ownBlock=some q->q≠BO:=fun q O=>by have:=(o5.lt q O).1;omega
     have n6:∀q,(Value.slice a6 _ c6).ownBlock=some q->q≠BO:=fun q O=>by have:=(o6.lt q O).1;omega
     have k5:=(o5.kept pq.o (qj n5)).kept g9 (qj n5);have k6:=(o6.kept pq.o (qj n6)).kept g9 (qj n6);exact⟨rfl,a5,c5,a6,c6,r9,k5.base V,k6.base V,fun q O e=>by have:=(o6.lt q O).1;have h5:=(bK.pts (c:=fun _=>none) oQ.o HPO.o).lt q e;omega,GX⟩
   case rest=>
   obtain⟨rfl,a5,c5,a6,c6,r9,o5,o6,hne,gx⟩:=hcut;have R9:=I r9;have O5:=I o5;have O6:=I o6;have rE:=I hne;have GX:=I gx;have RB:=I (aF HRW.o GX.o);have zB:B3<wc.heap.size:=(γ RB.o);have zO:BO<wc.heap.size:=(γ R9.o);obtain⟨d0,d1,d2,d3⟩:=aT RB.o;obtain⟨e0,e1,e2,e3⟩:=aT R9.o;clear HS r9 o5 o6 hne gx;go_wp2_with (first|(at_builtin;refine cO (c:=fr wz (wc.alloc (.cells #[J q.aJ,U a5 q.aH.length c5,.bool q.dec,U a6 q.aZ.length c6] 58)) ((Value.slice a6 q.aZ.length c6).ownBlock::hro B3 (U a3 h.bg.length c3) (U ao L.length co) L)) (base:=wz.heap.size) (l:=L) (m:=[(q,U a6 q.aZ.length c6)]) kF rfl F7 ε rfl (.tmp 30) (.tmp 32) rfl rfl ?own rfl (Src.dU (T:=Ty.S9) (x:=(q,U a6 q.aZ.length c6)) (cs:=#[J q.aJ,U a5 q.aH.length c5,.bool q.dec,U a6 q.aZ.length c6]) ?d0 _ _ ?d1) ?d2 ?d3 ?_))
   case own=>exact HRR.o.bG.mono (HRR.o.ahead (W:=wc.alloc (.cells #[J q.aJ,U a5 q.aH.length c5,.bool q.dec,U a6 q.aZ.length c6] 58)) (r:=(Value.slice a6 q.aZ.length c6).ownBlock) (GX.o.alloc _) (fun p hp=>by have:=O6.o.lt p hp;have:=SJ.o;simp;omega)).2|>.grow (GX.o.alloc _)
   case d0=>exact⟨_,rfl,HI0.o,(O5.o.grow ((aG _).alloc _)).slb ε (fun a v e=>by cases e) (fun a ha=>jh (by have:=O5.o.lt _ ha;have:=HG.o.size;have:=SJ.o;omega) (fun hm=>by
     rcases List.mem_cons.1 hm with e|hm
     ·exact rE.o _ e.symm ha
     ·have h8:=(HRR.o.ok.lt _ hm).2
      have:=(O5.o.lt _ ha).1;have:=SJ.o;omega)),rfl⟩
   case d1=>first|rfl|simp
   case d2=>simp;omega
   case d3=>have:=HG.o.size;have:=GX.o.size;simp;omega
   intro a9 c9 w9 gX fV iE;have HRN:=I (HRR.o.snoc (GX.o.alloc (.cells #[J q.aJ,U a5 q.aH.length c5,.bool q.dec,U a6 q.aZ.length c6] 58)) ((O6.o.base (τ SJ.o)).grow ((aG _).alloc _)) fV (iE.imp_right fun⟨g,e,hge⟩=>⟨g,e,by simpa using hge⟩) gX);have yM:=I (bJ (aF RB.o ((aG _).alloc (.cells #[J q.aJ,U a5 q.aH.length c5,.bool q.dec,U a6 q.aZ.length c6] 58))) fV (fun e=>by
    have:=HRR.o.ok.off (i:=0) (j:=2) rfl rfl ε;rcases this with e2|e2
    ·cases e2
    ·exact e2 e))
   clear gX fV iE d0 d1 d2 d3 e0 e1 e2 e3 zB zO;go_wp2_with (first|(refine bY rfl (.tmp 34) (.tmp 33) (v:=U a9 (L.length+1) c9) (new:=#[U a3 h.bg.length c3,J h.aW,J h.next,U a9 (L.length+1) c9]) rfl rfl ρ ρ yM.o iW σ ρ ρ ?_))
   intro wn rn gn;have cW:=I (HRN.o.box gn);have RZ:=I rn;clear rn gn;go_wp2;go_roundw
   case rel=>
    have hl:(L++ [((q:Opn),Value.slice a6 q.aZ.length c6)]).length=L.length+1:=by simp
    refine⟨a9,c9,L++ [(q,U a6 q.aZ.length c6)],by rw [hl];omega,by rw [hl];go_num,?_,by rw [hl];exact RZ.o,by rw [hl];exact cW.o⟩;rw [hl,nK.o,List.map_append,rA.o];rfl
   case measure=>simp [intOf];omega
  ·have R2W:=I (aF R2.o HG.o)
   obtain⟨d0,d1,d2,d3⟩:=aT HRW.o;have zB:B3<wr.heap.size:=(γ HRW.o);have zR:w.heap.size+1<wr:=(γ R2W.o);clear hel;go_wp2_with (first|(refine aQ rfl (.tmp 2) (.tmp 36) rfl rfl rfl R2W.o eY rfl rfl ?_))
   intro wf rf gf;obtain⟨p0,p1,p2,p3⟩:=aT rf;go_wp2;refine dw (v:=.agg #[U a3 h.bg.length c3,J h.aW,J h.next,U ao L.length co]) (by simp [results,Tryz.results60,go_sem,p0,p1,p2,p3]) rfl ?_;have hlm:=rA.o;rw [eG V] at hlm;exact⟨_,_,B3,L,rfl,hlm,HRR.o.past G1.o gf (τ HZ.o)⟩
structure OQ (l:List Pt):Prop where
 ne:l≠ []
 lt:∀p∈l,0<=p.h/\p.h<3
 len:l.length<=4
theorem JC {d:Int} {v:Value} {l:List Pt} (w:World) (hv:pX w.cell? v l) (hd:I64 d) (hr:OQ l):
  Calls Tryz.prog 86 #[J d,v] w fun e w'=>∃v',e=.returned v'/\bK Ty.ms (fun _=>none) w' w.heap.size 85 v' (fU d l)/\aK w w':=by
 have AL:=I (lG w hv (τ hr.len) hr.ne hr.lt);obtain⟨ap,cp,rfl,-⟩:=id hv;have HD:=I hd;clear hv hd hr;go_enter Tryz.func86,Tryz.ntmps86;go_wp2_with fail
 refine AL.o.mono ?_;rintro e w1 ⟨v1,rfl,MI,dZ⟩;obtain⟨a1,c1,rfl⟩:=dG MI;have hix:=sU MI (mJ l);have G1:=I dZ;have HL:=I (jJ l);have AD:Hid ((dB l).map (fun n=>(⟨5,d,n,[]⟩:Ms))=fU d l):=I rfl;clear MI dZ;generalize dB l=hs at*;obtain⟨a1',c1',he1,-,-,-,hel⟩:=hix;obtain⟨rfl,rfl⟩:a1=a1'/\c1=c1':=by simpa using he1
 clear he1;go_wp2;go_loopw [5,11] (fun s5 i wr=>∃k:Nat,k<=hs.length/\i=J k/\aK w1 wr/\bK Ty.ms (fun _=>none) wr w1.heap.size 85 s5 ((hs.take k).map (fun n=>(⟨5,d,n,[]⟩:Ms)))) (fun _ i _=>hs.length - (intOf i).toNat)
 case atStart=>exact⟨0,V,rfl,aG _,bK.nil _ _ _ _ _⟩
 case round=>
  obtain⟨k,hk',rfl,hb,bU⟩:=hrel;have hl3:=HL.o;by_cases hlt:k<hs.length
  ·have nK:=I (FI (fun n=>(⟨5,d,n,[]⟩:Ms)) hlt)
   have CB:=I (show((hs.take k).map (fun n=>(⟨5,d,n,[]⟩:Ms))).length<=3 by rw [List.length_map,List.length_take];omega);obtain⟨bx,ox,rfl,x0,hni⟩:=xu hel k hlt;replace x0:=hb.sub _ _ x0;have Xc:=I hni;have dX:=I bU;have HB:=I hb;obtain⟨av,cv,rfl⟩:=bU.form;clear bU hb hel hni;generalize hs[k]=n at*;generalize (hs.take k).map (fun n=>(⟨5,d,n,[]⟩:Ms))=ms at*;go_wp2_with (first|(at_builtin;refine cO (c:=fun _=>none) (base:=w1.heap.size) (l:=ms) (m:=[⟨5,d,n,[]⟩]) Ah rfl pR ε rfl (.tmp 15) (.tmp 19) rfl rfl ?own rfl (Src.dU (T:=Ty.ms) (x:=⟨5,d,n,[]⟩) (cs:=#[J 5,J d,J n,()]) ⟨_,rfl,(show I64 5 from by unfold I64;decide),HD.o,Xc.o,Sl.nil _ _⟩ _ _ ?d1) ?d2 ?d3 ?_))
   case own=>exact dX.o.grow ((aG _).alloc _)
   case d1=>first|rfl|simp
   case d2=>have:=CB.o;simp;omega
   case d3=>have:=HB.o.size;simp;omega
   intro a9 c9 w9 gX fV iE;have kR:Hid (aK w1 w9):=I (dI (w0:=w1) (HB.o.alloc _) fV (fun q O=>(dX.o.lt q O).1));have jE:=I gX;clear gX fV iE;go_wp2;go_roundw
   case rel=>exact⟨k+1,V,by go_num,kR.o,by rw [nK.o];exact jE.o⟩
   case measure=>simp [intOf];omega
  ·have dX:=I bU
   have HB:=I hb;clear bU hb hel;go_wp2;go_ret;have h9:=dX.o;rw [eG V,AD.o] at h9;exact⟨_,rfl,h9.base G1.o.size,G1.o.trans HB.o⟩
structure Vy (w:World) (b p:Nat) (o:Opn) (ap:Option Addr) (cp:Nat) (ah:Option Addr) (ch:Nat):Prop where
 c0:w.cell? ⟨b,p,none⟩=some (J o.aJ)
 c1:w.cell? ⟨b,p+1,none⟩=some (U ap o.aH.length cp)
 c2:w.cell? ⟨b,p+2,none⟩=some (.bool o.dec)
 c3:w.cell? ⟨b,p+3,none⟩=some (U ah o.aZ.length ch)
 i0:I64 o.aJ
 aH:Sl Ty.pt w.cell? (U ap o.aH.length cp) o.aH
 aZ:Sl Ty.int w.cell? (U ah o.aZ.length ch) o.aZ
theorem Vy.grow {w W:World} {b p:Nat} {o:Opn} {ap:Option Addr} {cp:Nat} {ah:Option Addr} {ch:Nat} (h:Vy w b p o ap cp ah ch) (hg:aK w W):Vy W b p o ap cp ah ch:=
 ⟨hg.sub _ _ h.c0,hg.sub _ _ h.c1,hg.sub _ _ h.c2,hg.sub _ _ h.c3,h.i0,h.aH.mono hg.sub,h.aZ.mono hg.sub⟩
theorem IZ {b p:Nat} {o:Opn} {ap:Option Addr} {cp:Nat} {ah:Option Addr} {ch:Nat} (w:World) (ho:Vy w b p o ap cp ah ch) (hr:OQ o.aH):
  Calls Tryz.prog 113 #[.pointer (some ⟨b,p,none⟩)] w fun e w'=>∃v',e=.returned v'/\bK Ty.ms (fr w w' [v'.ownBlock]) w' w.heap.size 85 v' (jD o)/\aK w w':=by
 have AL:=I (lG w ho.aH (τ hr.len) hr.ne hr.lt);have CT:=I (fun(n:Int) (W:World) (hW:aK w W)=>YD (n:=n) W (ho.aH.mono hW.sub) (τ hr.len));have yF:=I (fun(n:Int) (W:World) (hW:aK w W)=>iV (n:=n) W (ho.aZ.mono hW.sub));have HAT:=I ho;obtain⟨c0,c1,c2,c3,-,-,-⟩:=ho;clear hr;go_enter Tryz.func113,Tryz.ntmps113;go_wp2_with fail
 refine AL.o.mono ?_;rintro e w1 ⟨v1,rfl,MI,dZ⟩;obtain⟨a1,c1',rfl⟩:=dG MI;have hix:=sU MI (mJ o.aH);have G1:=I dZ;have HL:=I (jJ o.aH);have AD:Hid (((dB o.aH).filter (w_ o)).map (jI o)=jD o):=I rfl;clear MI dZ c0 c1 c2 c3;generalize dB o.aH=hs at*;obtain⟨a1',d1',he1,-,-,-,hel⟩:=hix;obtain⟨rfl,rfl⟩:a1=a1'/\c1'=d1':=by simpa using he1
 clear he1;go_wp2;go_loopw [3,13] (fun s3 i wr=>∃k:Nat,k<=hs.length/\i=J k/\aK w1 wr/\bK Ty.ms (fr w1 wr [s3.ownBlock]) wr w1.heap.size 85 s3 (((hs.take k).filter (w_ o)).map (jI o))) (fun _ i _=>hs.length - (intOf i).toNat)
 case atStart=>exact⟨0,V,rfl,aG _,bK.nil _ _ _ _ _⟩
 case round=>
  obtain⟨k,hk',rfl,hb,bU⟩:=hrel;have hl3:=HL.o;by_cases hlt:k<hs.length
  ·have nK:=I (Ij (w_ o) (jI o) hlt)
   have CB:=I (show(((hs.take k).filter (w_ o)).map (jI o)).length<=3 by rw [List.length_map];exact Nat.le_trans (List.length_filter_le _ _) (by simp;omega));obtain⟨bx,ox,rfl,x0,hni⟩:=xu hel k hlt;replace x0:=hb.sub _ _ x0;have Xc:=I hni;have dX:=I bU;have HB:=I hb;have GW:=I (G1.o.trans hb);obtain⟨av,cv,rfl⟩:=bU.form;clear bU hb hel hni;generalize hs[k]=n at*;generalize ((hs.take k).filter (w_ o)).map (jI o)=ms at*;obtain⟨wx,rfl⟩:=χ wr;obtain⟨c0,c1,c2,c3,i0,-,-⟩:=HAT.o.grow GW.o;have HI0:=I i0;have zb:b<wx.heap.size:=eH wx _ c0;clear i0;by_cases hd:o.dec=true
   ·have HCM:Hid (jI o n=⟨4,o.aJ,n,[]⟩):=I (by unfold jI;rw [bC hd])
    rw [hd] at c2;have HS:Hid (Ty.ms.R (fun _=>none) [J 4,J o.aJ,J n,()] ⟨4,o.aJ,n,[]⟩):=I ⟨_,rfl,(show I64 4 from by unfold I64;decide),HI0.o,Xc.o,Sl.nil _ _⟩;clear hd;go_wp2_with fail
    refine(yF.o n _ (GW.o.alloc _)).mono ?_;rintro e w2 ⟨rfl,gB⟩;have G2:=I (((aG wx).alloc _).trans gB);have R5:=I (aF (bn wx (.cells #[J 4,J o.aJ,J n,()] 85)) gB);clear gB c0 c1 c2 c3 x0;obtain⟨r0,r1,r2,r3⟩:=aT R5.o;have z1:wx.heap.size<w2:=(γ R5.o);by_cases O:n∈o.aZ
    ·have m9:decide (n∈o.aZ)=true:=decide_eq_true O
     have HT:=I nK.o;rw [aV (by show¬w_ o n=true;simp [w_,O])] at HT;rw [m9];clear O;go_wp2;go_roundw
     case rel=>exact⟨k+1,V,by go_num,HB.o.trans G2.o,by rw [HT.o];exact(dX.o.mono (fH G2.o)).grow G2.o⟩
     case measure=>simp [intOf];omega
    ·have m9:decide (n∈o.aZ)=false:=decide_eq_false O
     have HT:=I nK.o;rw [bC (by show w_ o n=true;simp [w_,O]),HCM.o] at HT;rw [m9];clear O;go_wp2_with (first|(at_builtin;refine cO (c:=fr w1 w2 [(Value.slice av ms.length cv).ownBlock]) (base:=w1.heap.size) (l:=ms) (m:=[⟨4,o.aJ,n,[]⟩]) Ah rfl pR ε rfl (.tmp 43) (.tmp 45) rfl rfl ?own rfl (Src.dU (T:=Ty.ms) (x:=⟨4,o.aJ,n,[]⟩) (cs:=#[J 4,J o.aJ,J n,()]) (Ty.ms.mono (fun _ _ e=>by cases e) HS.o) _ _ ?d1) ?d2 ?d3 ?_))
     case own=>exact((dX.o.mono (fH G2.o)).grow G2.o).grow ((aG _).alloc _)
     case d1=>first|rfl|simp
     case d2=>have:=CB.o;simp;omega
     case d3=>have:=HB.o.size;have:=G2.o.size;simp;omega
     intro a9 c9 w9 gX fV iE;have kR:Hid (aK w1 w9):=I (dI (w0:=w1) ((HB.o.trans G2.o).alloc _) fV (fun q O=>(dX.o.lt q O).1));have jE:=I ((gX.mono (fH ((aG w2).alloc (.cells #[J 4,J o.aJ,J n,()] 85)))).mono (uy fV (iE.imp_right fun⟨g,e,hge⟩=>⟨g,e,by simpa using hge⟩)));clear gX fV iE;go_wp2;go_roundw
     case rel=>exact⟨k+1,V,by go_num,kR.o,by rw [HT.o];exact jE.o⟩
     case measure=>simp [intOf];omega
   ·have hd':o.dec=false:=by simpa using hd
    have HCM:Hid (jI o n=⟨1,o.aJ,n,jT o.aH n⟩):=I (by unfold jI;rw [aV hd]);rw [hd'] at c2;clear hd hd';go_wp2_with fail
    refine(CT.o n _ (GW.o.alloc _)).mono ?_;rintro e w5 ⟨v5,rfl,mW,iY⟩;obtain⟨a5,c5,rfl⟩:=mW.form;have oQ:=I mW;have G5:=I (((aG wx).alloc _).trans iY);have R5:=I (aF (bn wx (.cells #[J 4,J o.aJ,J n,()] 85)) iY);have JV:Hid (∀q,(Value.slice a5 (jT o.aH n).length c5).ownBlock=some q->wx.heap.size+1<=q):=I (fun q O=>by have:=(mW.lt q O).1;simpa using this);have A23:=I (HAT.o.grow (GW.o.trans G5.o));clear mW iY c0 c1 c2 c3 x0;generalize jT o.aH n=pl at*;obtain⟨r0,r1,r2,r3⟩:=aT R5.o;obtain⟨c0,c1,c2,c3,-,-,-⟩:=A23.o;have zb5:b<w5.heap.size:=eH w5 _ c0;have z1:wx.heap.size<w5:=(γ R5.o);go_wp2_with (first|(refine bY rfl (.tmp 34) _ (v:=J 1) (new:=#[J 1,J o.aJ,J n,()]) rfl rfl ρ ρ R5.o vF σ ρ ρ ?_))
    intro w6 r6 g6;have R6:=I r6;have MM:=I g6;clear r0 r1 r2 r3 c0 c1 c2 c3 z1 zb zb5 r6 g6;obtain⟨r0,r1,r2,r3⟩:=aT R6.o;have z1:wx.heap.size<w6:=(γ R6.o);go_wp2_with (first|(refine bY rfl (.tmp 35) (.tmp 33) (v:=U a5 pl.length c5) (new:=#[J 1,J o.aJ,J n,U a5 pl.length c5]) rfl rfl ρ ρ R6.o P9 σ ρ ρ ?_))
    intro w7 r7 g7;have R7:=I r7;have G7:Hid (aK wx w7):=I ((G5.o.grown MM.o (fun q O=>by have:=bI O;omega)).grown g7 (fun q O=>by have:=bI O;omega));have zN:=I ((oQ.o.kept MM.o (qj (fun q O=>by have:=JV.o q O;omega))).kept g7 (qj (fun q O=>by have:=JV.o q O;omega)));clear r0 r1 r2 r3 z1 r7 g7;obtain⟨r0,r1,r2,r3⟩:=aT R7.o;obtain⟨c0,c1,c2,c3,-,-,hh7⟩:=HAT.o.grow (GW.o.trans G7.o);have z1:wx.heap.size<w7:=(γ R7.o);have zb7:b<w7.heap.size:=eH w7 _ c0;clear hh7;go_wp2_with fail
    refine(yF.o n _ (GW.o.trans G7.o)).mono ?_;rintro e w2 ⟨rfl,gB⟩;have G2:=I (G7.o.trans gB);have R2:=I (aF R7.o gB);have pI:=I (zN.o.grow gB);clear gB c0 c1 c2 c3 r0 r1 r2 r3 z1 zb7;obtain⟨r0,r1,r2,r3⟩:=aT R2.o;have z1:wx.heap.size<w2:=(γ R2.o);by_cases O:n∈o.aZ
    ·have m9:decide (n∈o.aZ)=true:=decide_eq_true O
     have HT:=I nK.o;rw [aV (by show¬w_ o n=true;simp [w_,O])] at HT;rw [m9];clear O;go_wp2;go_roundw
     case rel=>exact⟨k+1,V,by go_num,HB.o.trans G2.o,by rw [HT.o];exact(dX.o.mono (fH G2.o)).grow G2.o⟩
     case measure=>simp [intOf];omega
    ·have m9:decide (n∈o.aZ)=false:=decide_eq_false O
     have HT:=I nK.o;rw [bC (by show w_ o n=true;simp [w_,O]),HCM.o] at HT;rw [m9];clear O;go_wp2_with (first|(at_builtin;refine cO (c:=fr w1 (w2.alloc (.cells #[J 1,J o.aJ,J n,U a5 pl.length c5] 85)) [(Value.slice av ms.length cv).ownBlock]) (base:=w1.heap.size) (l:=ms) (m:=[⟨1,o.aJ,n,pl⟩]) Ah rfl pR ε rfl (.tmp 43) (.tmp 45) rfl rfl ?own rfl (Src.dU (T:=Ty.ms) (x:=⟨1,o.aJ,n,pl⟩) (cs:=#[J 1,J o.aJ,J n,U a5 pl.length c5]) ?d0 _ _ ?d1) ?d2 ?d3 ?_))
     case own=>exact((dX.o.mono (fH (G2.o.alloc _))).grow (G2.o.alloc _))
     case d0=>exact⟨_,rfl,(show I64 1 from by unfold I64;decide),HI0.o,Xc.o,(pI.o.grow ((aG _).alloc _)).slb ε (fun a v e=>by cases e) fun a ha=>jh (by have:=JV.o _ ha;have:=HB.o.size;omega) (by
      simp only [List.mem_singleton];intro e;have:=(dX.o.lt _ e.symm).2;have:=JV.o _ ha;omega)⟩
     case d1=>first|rfl|simp
     case d2=>have:=CB.o;simp;omega
     case d3=>have:=HB.o.size;have:=G2.o.size;simp;omega
     intro a9 c9 w9 gX fV iE;have kR:Hid (aK w1 w9):=I (dI (w0:=w1) ((HB.o.trans G2.o).alloc _) fV (fun q O=>(dX.o.lt q O).1));have jE:=I (gX.mono (uy fV (iE.imp_right fun⟨g,e,hge⟩=>⟨g,e,by simpa using hge⟩)));clear gX fV iE;go_wp2;go_roundw
     case rel=>exact⟨k+1,V,by go_num,kR.o,by rw [HT.o];exact jE.o⟩
     case measure=>simp [intOf];omega
  ·have dX:=I bU
   have HB:=I hb;clear bU hb hel;go_wp2;go_ret;have h9:=dX.o;rw [eG V,AD.o] at h9;exact⟨_,rfl,(h9.mono (kG G1.o.size)).base G1.o.size,G1.o.trans HB.o⟩
theorem Rz {w W W2 w':World} {A:Nat} (hg:aK w W) (hA:A<W.heap.size) (Y:W2.grownBy w' (some A)) (_:aK W W2):Sub (ov (fun _=>none) W W2) (ov (fun _=>none) w w'):=fun a v e=>by
 have hs:=hg.size;unfold ov at e;split at e
 ·cases e
 ·rw [dY V,fM Y (eH W2 a e) V];exact e
theorem cX (w:World):Calls Tryz.prog 37 #[] w fun e w'=>∃v',e=.returned v'/\Of Ty.hd (ov (fun _=>none) w w') v' (fA [⟨4,0,[]⟩])/\aK w w':=by
 obtain⟨wz,hwz⟩:=χ (w.alloc (.cells #[(),J 0,J 0,()] 29));have R1:Hid (wz.heap[w.heap.size]? =some (.cells #[(),J 0,J 0,()] 29 (0,0))):=I (by rw [hwz];exact bn _ _);have G1:Hid (aK w wz):=I (by rw [hwz];exact(aG w).alloc _);have HLH:=I (Ph (wz.alloc (.cells #[J 4,J 0,()] 79)) (l:=[⟨4,0,[]⟩]) ((MO (c:=fun _=>none) wz (Nat.le_refl _)).slc (d:=(wz.alloc (.cells #[J 4,J 0,()] 79)).cell?) ε (fun _ _ e=>by cases e) fun _ _=>rfl) ε σ);go_enter Tryz.func37,Tryz.ntmps37;go_upto_region 1 with fail
 rw [<-hwz];clear hwz;go_wp2_with fail
 refine HLH.o.mono ?_;rintro e w1 ⟨v1,rfl,Z,dZ⟩;obtain⟨al,cl,ar,cr,rfl⟩:=Z.iw;have R2:=I (aF (aF R1.o ((aG _).alloc _)) dZ);have HX:=I Z;have GB:=I dZ;clear Z dZ;go_wp2_with (first|(refine aQ rfl (.tmp 0) (.tmp 3) rfl rfl rfl R2.o eY rfl rfl ?_))
 intro w7 r7 g7;obtain⟨p0,p1,p2,p3⟩:=aT r7;go_wp2;refine dw (v:=.agg #[U al (fA [⟨4,0,[]⟩]).bg.length cl,J (fA [⟨4,0,[]⟩]).aW,J (fA [⟨4,0,[]⟩]).next,U ar (fA [⟨4,0,[]⟩]).bG.length cr]) (by simp [results,Tryz.results37,go_sem,p0,p1,p2,p3]) rfl ?_;have z1:=(γ R1.o);exact⟨_,rfl,HX.o.mono (Rz (G1.o.alloc _) (by simp;omega) g7 GB.o),((G1.o.alloc _).trans GB.o).grown g7 (fun q O=>by have:=bI O;omega)⟩
theorem Xx {v:Value} {h:Hd} (w:World) (hv:Of Ty.hd w.cell? v h) (hk:FK h) (hr:∀o∈h.bG,OQ o.aH):
  Calls Tryz.prog 84 #[v] w fun e w'=>∃v',e=.returned v'/\bK Ty.ms (fr w w' [v'.ownBlock]) w' w.heap.size 85 v' (qO h)/\aK w w':=by
 obtain⟨al,cl,ar,cr,rfl⟩:=hv.iw;obtain⟨Oi,Oj,he,N,Y,-,hel⟩:=(Of.lM hv).2;obtain⟨rfl,rfl⟩:ar=Oi/\cr=Oj:=by simpa using he
 unfold maxLen at Y;have Dk:=I hr;have T9:=hk.bG;clear hk he hv hr;obtain⟨wz,hwz⟩:=χ (w.alloc (.cells #[U al h.bg.length cl,J h.aW,J h.next,U ar h.bG.length cr] 29));have R1:Hid (wz.heap[w.heap.size]? =some (.cells #[U al h.bg.length cl,J h.aW,J h.next,U ar h.bG.length cr] 29 (0,0))):=I (by rw [hwz];exact bn _ _);have G1:Hid (aK w wz):=I (by rw [hwz];exact(aG w).alloc _);go_enter Tryz.func84,Tryz.ntmps84;go_upto_region 2 with fail
 rw [<-hwz];clear hwz;obtain⟨c0,c1,c2,c3⟩:=aT R1.o;have z1:w.heap.size<wz:=(γ R1.o);go_wp2;clear c0 c1 c2 c3 z1;go_loopw [3,8] (fun s3 i wr=>∃k:Nat,k<=h.bG.length/\i=J k/\aK wz wr/\bK Ty.ms (fr wz wr [s3.ownBlock]) wr wz.heap.size 85 s3 ((h.bG.take k).flatMap jD)) (fun _ i _=>h.bG.length - (intOf i).toNat)
 case atStart=>exact⟨0,V,rfl,aG _,bK.nil _ _ _ _ _⟩
 case round=>
  obtain⟨k,hk',rfl,hb,bU⟩:=hrel;by_cases hlt:k<h.bG.length
  ·obtain⟨b,o,vp,vh,rfl,c0,c1,c2,c3,i0,hP,hH⟩:=EP.at_ hel k hlt
   obtain⟨ap,cp,rfl,-⟩:=id hP;obtain⟨ah,ch,rfl,-⟩:=id hH;have GW:=I (G1.o.trans hb);have HAS:=I (fun(W:World) (hW:aK w W)=>IZ (o:=h.bG[k]) W ⟨hW.sub _ _ c0,hW.sub _ _ c1,hW.sub _ _ c2,hW.sub _ _ c3,i0,hP.mono hW.sub,hH.mono hW.sub⟩ (Dk.o _ (List.getElem_mem hlt)));have nK:=I (CX jD hlt);have CB:=I (show((h.bG.take k).flatMap jD).length<=36 by have:=qg zT (h.bG.take k);rw [List.length_take] at this;omega);have MJ:=I (zT h.bG[k]);have dX:=I bU;have HB:=I hb;obtain⟨av,cv,rfl⟩:=bU.form;have R2:=I (aF R1.o hb);clear hel hP hH bU hb i0 c0 c1 c2 c3;generalize h.bG[k]=q at*;generalize (h.bG.take k).flatMap jD=ms at*;obtain⟨d0,d1,d2,d3⟩:=aT R2.o;have z1:w.heap.size<wr:=(γ R2.o);go_wp2_with fail
   refine(HAS.o _ GW.o).mono ?_;rintro e w4 ⟨v4,rfl,vO,qW⟩;obtain⟨a4,c4,rfl⟩:=vO.form;have G4:=I qW;have yD:=I (YO (w:=wz) (row:=(Value.slice av ms.length cv).ownBlock) ε HB.o (fun q O=>(dX.o.lt q O).2) vO);have NW:=I ((dX.o.mono (fH G4.o)).grow G4.o);clear vO qW d0 d1 d2 d3 z1;generalize jD q=aq at*;go_wp2_with (first|(at_builtin;refine cO (c:=fr wz w4 [(Value.slice av ms.length cv).ownBlock]) (base:=wz.heap.size) (l:=ms) (m:=aq) Ah rfl pR ε rfl (.tmp 11) (.tmp 16) rfl rfl NW.o rfl yD.o ?d2 ?d3 ?_))
   case d2=>have:=CB.o;have:=MJ.o;omega
   case d3=>have:=HB.o.size;have:=G4.o.size;omega
   intro a9 c9 w9 gX fV iE;have kR:Hid (aK wz w9):=I (dI (w0:=wz) (HB.o.trans G4.o) fV (fun q O=>(dX.o.lt q O).1));have jE:=I (gX.mono (uy fV (iE.imp_right fun⟨g,e,hge⟩=>⟨g,e,by simpa using hge⟩)));clear gX fV iE;go_wp2;go_roundw
   case rel=>exact⟨k+1,V,by go_num,kR.o,by rw [nK.o];exact jE.o⟩
   case measure=>simp [intOf];omega
  ·have dX:=I bU
   have HB:=I hb;clear hel bU hb;go_wp2;go_ret;have h9:=dX.o;rw [eG V] at h9;exact⟨_,rfl,(h9.mono (kG G1.o.size)).base G1.o.size,G1.o.trans HB.o⟩
theorem HR.aN {w W:World} {B:Nat} {vl vo:Value} {h:Hd} {L:List AQ} (b:HR w W B vl vo h.bg L) (hl:L.map (·.1)=h.bG) (N:I64 h.aW) (Y:I64 h.next):Of Ty.hd (ov (fun _=>none) w W) (.agg #[vl,J h.aW,J h.next,vo]) h:=by
 have e:=b.of N Y;rw [hl] at e;exact e
theorem HR.form {w W:World} {B:Nat} {vl vo:Value} {lg:List Rc} {L:List AQ} (b:HR w W B vl vo lg L):∃al cl ao co,vl=U al lg.length cl/\vo=U ao L.length co:=by
 obtain⟨al,cl,rfl⟩:=b.bg.form;obtain⟨ao,co,rfl⟩:=b.bG.form;exact⟨_,_,_,_,rfl,rfl⟩
theorem Xy {v:Value} {h:Hd} (w:World) (hv:Of Ty.hd w.cell? v h) (hk:FK h) (hp:∀r∈h.bg,r.aH.length*24<=140737488355328):
  Calls Tryz.prog 83 #[v] w fun e w'=>∃v',e=.returned (.tuple #[v',J (uH h)])/\Of Ty.hd (ov (fun _=>none) w w') v' (lV h)/\aK w w':=by
 obtain⟨al,cl,ar,cr,rfl⟩:=hv.iw;have rG:Hid (I64 h.aW/\I64 h.next):=I (by obtain⟨cs,he,_,_,rfl,_,N,Y,_⟩:=hv;exact⟨N,Y⟩);have HOW:=I (fun(W:World) (hW:aK w W)=>BK W (hv.mono hW.sub) hk hp);have Gt:=I (fun(W:World) (hW:aK w W)=>E5 W ((Of.lM hv).1.mono hW.sub) (τ hk.bg) hp);have hll:=hk.bg;have HP:=I hp;obtain⟨zi,dZ⟩:=hk.aW;clear hk hv hp;obtain⟨wa,fZ⟩:=χ (w.alloc (.cells #[U al h.bg.length cl,J h.aW,J h.next,U ar h.bG.length cr] 29));obtain⟨wz,hwz⟩:=χ (wa.alloc (.cells #[(),J 0,J 0,()] 29));have hsz:wa.heap.size=w.heap.size+1:=by rw [fZ];simp
 have R1:Hid (wz.heap[w.heap.size]? =some (.cells #[U al h.bg.length cl,J h.aW,J h.next,U ar h.bG.length cr] 29 (0,0))):=I (by rw [hwz,fZ];exact bQ (bn _ _) _);have R2:Hid (wz.heap[w.heap.size+1]? =some (.cells #[(),J 0,J 0,()] 29 (0,0))):=I (by rw [hwz,<-hsz];exact bn _ _);have G1:Hid (aK w wz):=I (by rw [hwz,fZ];exact((aG w).alloc _).alloc _);have HZ:Hid (wz.heap.size=w.heap.size+2):=I (by rw [hwz,fZ];simp);by_cases hb:19<h.aW
 ·have MK:Hid (lV h=h):=I (by unfold lV;rw [bC hb])
  have lC:Hid (uH h=5):=I (by unfold uH;rw [bC hb]);have hb':20<=h.aW:=by omega
  go_enter Tryz.func83,Tryz.ntmps83;go_upto_region 1 with fail
  rw [<-fZ];try rw [hsz]
  rw [<-hwz];clear fZ hwz hsz;obtain⟨c0,c1,c2,c3⟩:=aT R1.o;have z1:w.heap.size<wz:=(γ R1.o);go_wp2_with fail
  refine(HOW.o _ G1.o).mono ?_;rintro e w1 ⟨vl,vo,B,L,rfl,hl,hr⟩;obtain⟨iC,iD,lY,lZ,rfl,rfl⟩:=hr.form;have HRR:=I hr;have HL:=I hl;have R3:=I (aF R2.o hr.grow);clear hr hl c0 c1 c2 c3 z1;go_wp2_with (first|(refine aQ rfl (.tmp 2) (.tmp 8) rfl rfl rfl R3.o eY rfl rfl ?_))
  intro w7 r7 g7;obtain⟨p0,p1,p2,p3⟩:=aT r7;go_wp2;refine dw (v:=.tuple #[.agg #[U iC h.bg.length iD,J h.aW,J h.next,U lY L.length lZ],J 5]) (by simp [results,Tryz.results83,go_sem,p0,p1,p2,p3]) rfl ?_;have Z:=HRR.o.past G1.o g7 (τ HZ.o);rw [MK.o,lC.o];exact⟨_,rfl,Z.aN HL.o rG.o.1 rG.o.2,Z.grow⟩
 ·have MK:Hid (lV h=fA (h.bg++ [⟨4,0,[]⟩])):=I (by unfold lV;rw [aV hb])
  have lC:Hid (uH h=0):=I (by unfold uH;rw [aV hb]);have hb':¬20<=h.aW:=by omega
  have A3:Hid (∀r∈h.bg++ [(⟨4,0,[]⟩:Rc)],r.aH.length*24<=140737488355328):=I (fun r hr=>by
   rcases List.mem_append.1 hr with hr|hr
   ·exact HP.o r hr
   ·obtain rfl:=List.mem_singleton.1 hr;decide)
  have Et:Hid ((h.bg++ [(⟨4,0,[]⟩:Rc)]).length=h.bg.length+1):=I σ;go_enter Tryz.func83,Tryz.ntmps83;go_upto_region 1 with fail
  rw [<-fZ];try rw [hsz]
  rw [<-hwz];clear fZ hwz hsz;obtain⟨c0,c1,c2,c3⟩:=aT R1.o;have z1:w.heap.size<wz:=(γ R1.o);go_wp2_with fail
  refine(Gt.o _ G1.o).mono ?_;rintro e w1 ⟨vl,rfl,hol,dZ⟩;obtain⟨a3,c3',rfl⟩:=hol.form;have HOL:=I hol;have G3:=I dZ;clear hol dZ c0 c1 c2 c3 z1;go_wp2_with (first|(at_builtin;refine cO (c:=fr wz w1 [(Value.slice a3 h.bg.length c3').ownBlock]) (base:=wz.heap.size) (l:=h.bg) (m:=[⟨4,0,[]⟩]) mX rfl jc ε rfl (.tmp 11) (.tmp 13) rfl rfl (HOL.o.grow ((aG _).alloc _)) rfl (Src.dU (T:=Ty.rc) (x:=⟨4,0,[]⟩) (cs:=#[J 4,J 0,()]) ⟨_,rfl,(show I64 4 from by unfold I64;decide),gZ,Sl.nil _ _⟩ _ _ ?d1) ?d2 ?d3 ?_))
  case d1=>first|rfl|simp
  case d2=>(try simp);omega
  case d3=>have:=G3.o.size;(try simp);omega
  intro a9 c9 w9 gX fV iE;have G9:=I (dI (w0:=wz) (G3.o.alloc _) fV (fun q O=>(HOL.o.lt q O).1));have OE:=I ((gX.mono ((fH ((aG w1).alloc (.cells #[J 4,J 0,()] 79))).trans (uy fV (iE.imp_right fun⟨g,e,hge⟩=>⟨g,e,by simpa using hge⟩)))).slc (d:=w9.cell?) ε (iO _ _ _) fun _ _=>rfl);have J_:=I (aF R2.o G9.o);clear gX fV iE;generalize h.bg++ [(⟨4,0,[]⟩:Rc)]=lg at*;go_wp2_with fail
  refine(Ph (l:=lg) w9 ?hl (by rw [Et.o];omega) A3.o).mono ?_
  case hl=>first|exact OE.o|(have h9:=OE.o;rw [Et.o] at h9;simpa using h9)
  rintro e yt ⟨v10,rfl,Z,lQ⟩;obtain⟨iC,iD,oD,oG,rfl⟩:=Z.iw;have ML:=I (aF J_.o lQ);have HX:=I Z;have UB:=I lQ;have lX:=I (G9.o.trans lQ);clear Z lQ;go_wp2_with (first|(refine aQ rfl (.tmp 2) (.tmp 15) rfl rfl rfl ML.o eY rfl rfl ?_))
  intro w7 r7 g7;obtain⟨p0,p1,p2,p3⟩:=aT r7;go_wp2;refine dw (v:=.tuple #[.agg #[U iC (fA lg).bg.length iD,J (fA lg).aW,J (fA lg).next,U oD (fA lg).bG.length oG],J 0]) (by simp [results,Tryz.results83,go_sem,p0,p1,p2,p3]) rfl ?_;rw [MK.o,lC.o];refine⟨_,rfl,?_,(G1.o.trans lX.o).grown g7 (fun q O=>by simp at O;omega)⟩;exact HX.o.mono (Rz (G1.o.trans G9.o) (by have:=G9.o.size;have:=HZ.o;omega) g7 UB.o)
theorem P_:(Tryz.prog.info? 58).map (·.size)=some 4:=by kernel_rfl
theorem Vz {v vp:Value} {h:Hd} {P:List Pt} (w:World) (hv:Of Ty.hd w.cell? v h) (hp:pX w.cell? vp P) (hk:FK h) (hlp:∀r∈h.bg,r.aH.length*24<=140737488355328) (hP:OQ P):
  Calls Tryz.prog 77 #[v,vp] w fun e w'=>∃v1 v2,e=.returned (.tuple #[v1,v2,J (uD h)])/\Of Ty.hd (ov (fun _=>none) w w') v1 (kL h P)/\Sl Ty.ms (ov (fun _=>none) w w') v2 (nM h P)/\aK w w':=by
 obtain⟨al,cl,ar,cr,rfl⟩:=hv.iw;obtain⟨ap,cp,rfl,-⟩:=id hp;have rG:Hid (I64 h.aW/\I64 h.next):=I (by obtain⟨cs,he,_,_,rfl,_,N,Y,_⟩:=hv;exact⟨N,Y⟩);have HOW:=I (fun(W:World) (hW:aK w W)=>BK W (hv.mono hW.sub) hk hlp);have Je:=I (fun(W:World) (hW:aK w W)=>sZ W (hp.mono hW.sub) (τ hP.len));have HPO:=I (pX.ok hp);have Dk:=I hP;have T9:=hk.bG;obtain⟨zi,dZ⟩:=hk.aW;obtain⟨hn0,SE⟩:=hk.next;clear hk hv hp hP hlp;obtain⟨wa,fZ⟩:=χ (w.alloc (.cells #[U al h.bg.length cl,J h.aW,J h.next,U ar h.bG.length cr] 29));obtain⟨wz,hwz⟩:=χ (wa.alloc (.cells #[(),J 0,J 0,()] 29));have hsz:wa.heap.size=w.heap.size+1:=by rw [fZ];simp
 have R1:Hid (wz.heap[w.heap.size]? =some (.cells #[U al h.bg.length cl,J h.aW,J h.next,U ar h.bG.length cr] 29 (0,0))):=I (by rw [hwz,fZ];exact bQ (bn _ _) _);have R2:Hid (wz.heap[w.heap.size+1]? =some (.cells #[(),J 0,J 0,()] 29 (0,0))):=I (by rw [hwz,<-hsz];exact bn _ _);have G1:Hid (aK w wz):=I (by rw [hwz,fZ];exact((aG w).alloc _).alloc _);have HZ:Hid (wz.heap.size=w.heap.size+2):=I (by rw [hwz,fZ];simp);go_enter Tryz.func77,Tryz.ntmps77;go_upto_region 1 with fail
 rw [<-fZ];try rw [hsz]
 rw [<-hwz];clear fZ hwz hsz;obtain⟨c0,c1,c2,c3⟩:=aT R1.o;have z1:w.heap.size<wz:=(γ R1.o);go_wp2_with fail
 refine(HOW.o _ G1.o).mono ?_;rintro e w1 ⟨vl,vo,B0,L,rfl,hl,F9⟩;obtain⟨ag,cg,ao,co,rfl,rfl⟩:=F9.form;have HL:=I hl;have NV:=I F9;clear F9 hl c0 c1 c2 c3 z1;obtain⟨w2,rH⟩:=χ (w1.alloc (.cells #[U ag h.bg.length cg,J h.aW,J h.next,U ao L.length co] 29));obtain⟨B7,Fz⟩:=χ w1.heap.size;have R7:Hid (w2.heap[B7]? =some (.cells #[U ag h.bg.length cg,J h.aW,J h.next,U ao L.length co] 29 (0,0))):=I (by rw [rH,Fz];exact bn _ _);have HRR:Hid (HR wz w2 B7 (U ag h.bg.length cg) (U ao L.length co) h.bg L):=I (NV.o.Vx (by rw [rH];exact(aG _).alloc _) V (by rw [rH,Fz];simp));have Am:Hid (L.length=h.bG.length):=I (by rw [<-HL.o];simp);have Qa:=I (aF R1.o HRR.o.grow);have Gu:=I (aF R2.o HRR.o.grow);go_upto_region 2 with fail
 rw [<-rH,<-Fz];clear rH Fz;obtain⟨c0,c1,c2,c3'⟩:=aT Qa.o;obtain⟨d0,d1,d2,d3⟩:=aT R7.o;have z1:w.heap.size<w2:=(γ Qa.o);have z7:B7<w2.heap.size:=(γ R7.o);have zr:w.heap.size+1<w2:=(γ Gu.o);by_cases hf1:11<h.bG.length
 ·obtain⟨e1,e2,e3⟩:=sG (P:=P) (show uI h=true from decide_eq_true (.inl hf1))
  have MK:=I e1;have lC:=I e2;have Qx:=I e3;have cH:(12:Int)<=(h.bG.length:Int):=by omega
  clear e1 e2 e3 hf1;go_wp2_with (first|(refine aQ rfl (.tmp 4) (.tmp 20) rfl rfl rfl Gu.o eY rfl rfl ?_))
  intro w7 r7 g7;obtain⟨p0,p1,p2,p3⟩:=aT r7;go_wp2;refine dw (v:=.tuple #[.agg #[U ag h.bg.length cg,J h.aW,J h.next,U ao L.length co],(),J 9]) (by simp [results,Tryz.results77,go_sem,p0,p1,p2,p3]) rfl ?_;have Z:=HRR.o.past G1.o g7 (τ HZ.o);rw [MK.o,lC.o,Qx.o];exact⟨_,_,rfl,Z.aN HL.o rG.o.1 rG.o.2,Sl.nil _ _,Z.grow⟩
 by_cases hf2:63<h.next
 ·obtain⟨e1,e2,e3⟩:=sG (P:=P) (show uI h=true from decide_eq_true (.inr hf2))
  have MK:=I e1;have lC:=I e2;have Qx:=I e3;have cH:¬(12:Int)<=(h.bG.length:Int):=by omega
  have A11:(64:Int)<=h.next:=by omega
  clear e1 e2 e3 hf1 hf2;go_wp2_with (first|(refine aQ rfl (.tmp 4) (.tmp 20) rfl rfl rfl Gu.o eY rfl rfl ?_))
  intro w7 r7 g7;obtain⟨p0,p1,p2,p3⟩:=aT r7;go_wp2;refine dw (v:=.tuple #[.agg #[U ag h.bg.length cg,J h.aW,J h.next,U ao L.length co],(),J 9]) (by simp [results,Tryz.results77,go_sem,p0,p1,p2,p3]) rfl ?_;have Z:=HRR.o.past G1.o g7 (τ HZ.o);rw [MK.o,lC.o,Qx.o];exact⟨_,_,rfl,Z.aN HL.o rG.o.1 rG.o.2,Sl.nil _ _,Z.grow⟩
 obtain⟨e1,e2,e3⟩:=UM (P:=P) (show uI h=false from decide_eq_false V);have MK:=I e1;have lC:=I e2;have Qx:=I e3;have cH:¬(12:Int)<=(h.bG.length:Int):=by omega
 have A11:¬(64:Int)<=h.next:=by omega
 have WJ:IntKind.i64.wrap (64*h.aW)=64*h.aW:=IntWalk.i64_in _ V;have rH:IntKind.i64.wrap (64*h.aW+h.next)=64*h.aW+h.next:=IntWalk.i64_in _ V;have Pn:IntKind.i64.wrap (h.next+1)=h.next+1:=IntWalk.i64_in _ V;have UN:Hid (I64 (64*h.aW+h.next)):=I (ku V V);have Xc:Hid (I64 (h.next+1)):=I (ku V V);have QY:Hid (h.bG.length<=11):=I V;clear e1 e2 e3 hf1 hf2;have HS:Hid (∀W,aK w2 W->W.cell? ⟨w,1,none⟩=some (J h.aW)/\W.cell? ⟨w,2,none⟩=some (J h.next)):=fun W hW=>by
  obtain⟨-,j1,j2,-⟩:=aT (aF Qa.o hW);exact⟨j1,j2⟩
 go_upto_region 4 with fail
 clear c0 c1 c2 c3' d0 d1 d2 d3 z1 z7 zr cH A11;go_cut [8] from 21 (fun s8 wc=>∃B8 a8 c8 dd,dd=64*h.aW+h.next/\s8=.pointer (some ⟨B8,0,none⟩)/\wc.heap[B8]? =some (.cells #[J dd,U a8 P.length c8,.bool false,()] 58 (0,0))/\bK Ty.pt (fun _=>none) wc w2.heap.size 111 (U a8 P.length c8) P/\w2.heap.size<=B8/\aK w2 wc)
 case first=>
  refine Gq (fun w'=>w'.cell? ⟨w,1,none⟩=some (J h.aW)/\w'.cell? ⟨w,2,none⟩=some (J h.next)) [10] κ ?_;intro wd GD zD;have ZD:=I zD;clear zD;refine pF [0,1,2,3,4,5,6] 13 κ (fun _ _ _ _ _ h=>h) (HS.o _ GD) ?_;repeat (refine jm ?_;try simp only [bT])
  refine pG ?_;refine RE 7 9 κ rfl rfl ?_ ?_
  ·intro K M
   try simp only [dD]
   go_simp;go_at_call 73
   refine(Je.o _ (G1.o.trans (HRR.o.grow.trans GD))).mono ?_;rintro e w5 ⟨v5,rfl,mW,iY⟩;obtain⟨a8,c8,rfl⟩:=dG mW;have oQ:=I (bK.pts (c:=fun _=>none) mW HPO.o);have YX:=I iY;have G5:=I (aK.trans GD iY);clear mW iY;refine ψ M (.inr (HS.o _ G5.o)) ?_;try simp only [bT]
   refine pF [8] 13 κ (fun _ _ _ _ _ h=>h) (HS.o _ G5.o) ?_;repeat (refine jm ?_;try simp only [bT])
   refine pG ?_;refine kS 9 κ rfl ?_;intro K M;try simp only [dD]
   go_simp;obtain⟨w6,sF⟩:=χ (w5.alloc (.cells #[J 0,(),.bool false,()] 58));obtain⟨B8,Zc⟩:=χ w5.heap.size;rw [<-sF,<-Zc];have R8:Hid (w6.heap[B8]? =some (.cells #[J 0,(),.bool false,()] 58 (0,0))):=I (by rw [sF,Zc];exact bn _ _);have G6:Hid (aK w5 w6):=I (by rw [sF];exact(aG _).alloc _);have sL:=I Zc;have gD:Hid (w6.heap.size=B8+1):=I (by rw [sF,Zc];simp);have sM:=I (aK.trans G5.o G6.o);clear sF Zc;refine ψ M (.inr (HS.o _ sM.o)) ?_;try simp only [bT]
   refine kS 10 κ rfl ?_;intro K M;refine aY rfl ?_;try simp only [dD]
   refine b_ (.tmp 8) (.tmp 29) rfl rfl rfl R8.o P_ rfl rfl ?_;intro wc rc gc;refine ψ M (.inl ε) ?_;try simp only [bT]
   refine Bf κ ?_;go_wp2;go_meet
   case rel=>
    have z2:=ZD.o;have z3:=sL.o;have z5:=YX.o.size;have z6:=gD.o;exact⟨B8,a8,c8,_,rfl,rfl,rc,((oQ.o.grow G6.o).kept gc (qj fun q O=>by have:=oQ.o.lt q O;omega)).base V,V,(sM.o).grown gc (fun q O=>by have:=bI O;omega)⟩
  ·intro K M
   try simp only [dD]
   go_simp;obtain⟨w6,sF⟩:=χ (wd.alloc (.cells #[J 0,(),.bool false,()] 58));obtain⟨B8,Zc⟩:=χ wd.heap.size;rw [<-sF,<-Zc];have R8:Hid (w6.heap[B8]? =some (.cells #[J 0,(),.bool false,()] 58 (0,0))):=I (by rw [sF,Zc];exact bn _ _);have G6:Hid (aK wd w6):=I (by rw [sF];exact(aG _).alloc _);have sL:=I Zc;have gD:Hid (w6.heap.size=B8+1):=I (by rw [sF,Zc];simp);have sM:=I (aK.trans GD G6.o);clear sF Zc;refine ψ M (.inr (HS.o _ sM.o)) ?_;try simp only [bT]
   refine kS 7 κ rfl ?_;intro K M;try simp only [dD]
   go_simp;go_at_call 73
   refine(Je.o _ (G1.o.trans (HRR.o.grow.trans sM.o))).mono ?_;rintro e w5 ⟨v5,rfl,mW,iY⟩;obtain⟨a8,c8,rfl⟩:=dG mW;have oQ:=I (bK.pts (c:=fun _=>none) mW HPO.o);have YX:=I iY;have G5:=I (aK.trans sM.o iY);clear mW iY;have R85:=I (aF R8.o YX.o);refine ψ M (.inr (HS.o _ G5.o)) ?_;try simp only [bT]
   refine pF [8] 13 κ (fun _ _ _ _ _ h=>h) (HS.o _ G5.o) ?_;repeat (refine jm ?_;try simp only [bT])
   refine pG ?_;refine kS 10 κ rfl ?_;intro K M;refine aY rfl ?_;try simp only [dD]
   refine b_ (.tmp 8) (.tmp 29) rfl rfl rfl R85.o P_ rfl rfl ?_;intro wc rc gc;refine ψ M (.inl ε) ?_;try simp only [bT]
   refine Bf κ ?_;go_wp2;go_meet
   case rel=>
    have z2:=ZD.o;have z3:=sL.o;have z5:=YX.o.size;have z6:=gD.o;exact⟨B8,a8,c8,_,rfl,rfl,rc,(oQ.o.kept gc (qj fun q O=>by have:=oQ.o.lt q O;omega)).base V,V,(G5.o).grown gc (fun q O=>by have:=bI O;omega)⟩
 case rest=>
 obtain⟨B8,a8,c8,dd,hdd,rfl,r8,o8,Zc,gx⟩:=hcut;obtain⟨w4,rfl⟩:=χ wc;rw [<-hdd] at UN;have cI:=I hdd;have R8:=I r8;have O8:=I o8;have sL:=I Zc;have Eb:=I (HRR.o.dL gx);have A5:=I (aF R7.o gx);have HL7:=I (γ R7.o);clear HS hdd r8 o8 Zc gx WJ rH;have HS:Hid (∀W:World,W.heap[B7]? =w4.heap[B7]?->W.heap[B8]? =w4.heap[B8]?->W.cell? ⟨B7,2,none⟩=some (J h.next)/\W.cell? ⟨B8,0,none⟩=some (J dd)/\W.cell? ⟨B8,1,none⟩=some (U a8 P.length c8)/\W.cell? ⟨B8,2,none⟩=some (.bool false)/\W.cell? ⟨B8,3,none⟩=some (U none 0 0)):=fun W e7 e8=>by
  obtain⟨-,-,j2,-⟩:=aT (e7.trans A5.o);obtain⟨k0,k1,k2,k3⟩:=aT (e8.trans R8.o);exact⟨j2,k0,k1,k2,k3⟩
 have VZ:Hid (∀W,aK w4 W->W.cell? ⟨B7,2,none⟩=some (J h.next)/\W.cell? ⟨B8,0,none⟩=some (J dd)/\W.cell? ⟨B8,1,none⟩=some (U a8 P.length c8)/\W.cell? ⟨B8,2,none⟩=some (.bool false)/\W.cell? ⟨B8,3,none⟩=some (U none 0 0)):=fun W hW=>
  HS.o W (hW.block _ (γ A5.o)) (hW.block _ (γ R8.o))
 go_upto_region 5 with fail
 go_cut [] from 30 (fun wc=>∃a9 c9,wc.heap[B7]? =some (.cells #[U ag h.bg.length cg,J h.aW,J (h.next+1),U a9 (L.length+1) c9] 29 (0,0))/\HR wz wc B7 (U ag h.bg.length cg) (U a9 (L.length+1) c9) h.bg (L++ [((⟨dd,P,false,[]⟩:Opn),U none 0 0)])/\Vy wc B8 0 (⟨dd,P,false,[]⟩:Opn) a8 c8 none 0)
 case first=>
  refine Gq (fun w'=>w'.cell? ⟨B7,2,none⟩=some (J h.next)/\w'.cell? ⟨B8,0,none⟩=some (J dd)/\w'.cell? ⟨B8,1,none⟩=some (U a8 P.length c8)/\w'.cell? ⟨B8,2,none⟩=some (.bool false)/\w'.cell? ⟨B8,3,none⟩=some (U none 0 0)) [11] κ ?_;intro wd GD zD;have ZD:=I zD;clear zD;refine pF [0,2,5,6,7] 14 κ (fun _ _ _ _ _ h=>h) (VZ.o _ GD) ?_;repeat (refine jm ?_;try simp only [bT])
  refine pG ?_;refine RE 1 3 κ rfl rfl ?_ ?_
  ·intro K M
   try simp only [dD]
   obtain⟨-,-,-,d3⟩:=aT (aF A5.o GD);have z7:B7<wd.heap.size:=eH _ _ d3;go_simp;clear d3 z7;refine ψ M (.inr (VZ.o _ GD)) ?_;try simp only [bT]
   refine kS 3 κ rfl ?_;intro K M;try simp only [dD]
   go_simp;obtain⟨w6,sF⟩:=χ (wd.alloc (.cells #[J dd,U a8 P.length c8,.bool false,()] 58));have G6:Hid (aK w4 w6):=I (by rw [sF];exact GD.alloc _);have Kt:=I (Eb.o.ahead (r:=none) G6.o (fun q O=>by cases O));have yD:Hid (Src Ty.S9 (fr wz w6 (none::hro B7 (U ag h.bg.length cg) (U ao L.length co) L)) w6 (U (some ⟨wd,0,none⟩) 1 1) [((⟨dd,P,false,[]⟩:Opn),U none 0 0)]):=I (by
    have z2:=HRR.o.grow.size;have hsl:Sl Ty.pt (fr wz w6 (none::hro B7 (U ag h.bg.length cg) (U ao L.length co) L)) (U a8 P.length c8) P:=(O8.o.grow G6.o).slb ε (fun a v e=>by cases e) fun a ha=>jh (τ (O8.o.lt _ ha)) (fun hm=>by
     rcases List.mem_cons.1 hm with e|hm
     ·cases e
     ·have:=(HRR.o.ok.lt _ hm).2;have:=O8.o.lt _ ha;omega)
    rw [sF] at hsl ⊢;exact Src.dU (T:=Ty.S9) (x:=((⟨dd,P,false,[]⟩:Opn),U none 0 0)) (cs:=#[J dd,U a8 P.length c8,.bool false,()]) ⟨_,rfl,UN.o,hsl,rfl⟩ _ _ rfl)
   rw [<-sF];clear sF;refine ψ M (.inr (VZ.o _ G6.o)) ?_;try simp only [bT]
   refine kS 4 κ rfl ?_;intro K M;refine aY rfl ?_;try simp only [dD]
   refine fP (c:=fr wz w6 (none::hro B7 (U ag h.bg.length cg) (U ao L.length co) L)) (base:=wz.heap.size) (l:=L) (m:=[((⟨dd,P,false,[]⟩:Opn),U none 0 0)]) (v:=U ao L.length co) kF rfl F7 ε (.tmp 31) (.tmp 33) rfl rfl ((Eb.o.bG.mono Kt.o.2).grow G6.o) rfl yD.o (by have:=QY.o;have:=Am.o;simp;omega) (by have:=Eb.o.grow.size;have:=G6.o.size;omega) ?_;intro a9 c9 w7 yR AB jQ;have NB7:Hid (some B7≠(Value.slice ao L.length co).ownBlock):=I (by rcases Eb.o.ok.off (i:=0) (j:=2) rfl rfl ε with e|e;exact absurd e σ;exact e);have NB8:Hid (some B8≠(Value.slice ao L.length co).ownBlock):=I (fun e=>by have:=(HRR.o.bG.lt _ e.symm).2;have:=sL.o;omega);have Xd:=I (Eb.o.snoc (oH:=U a9 (L.length+1) c9) (x:=((⟨dd,P,false,[]⟩:Opn),U none 0 0)) G6.o (bK.nil _ _ _ _ _) AB jQ yR);have sP:=I (bJ (aF A5.o G6.o) AB NB7.o);have R87:=I (bJ (aF R8.o G6.o) AB NB8.o);have O87:=I ((O8.o.grow G6.o).kept AB (by cases e:(Value.slice a8 P.length c8).ownBlock with|none=>exact .inl rfl|some q=>exact .inr fun e2=>by have:=(O8.o.lt q e).1;have:=(HRR.o.bG.lt q e2.symm).2;omega));clear yR AB jQ;refine ψ M (.inr (HS.o _ (sP.o.trans A5.o.symm) (R87.o.trans R8.o.symm))) ?_;try simp only [bT]
   refine pF [8] 14 κ (fun _ _ _ _ _ h=>h) (HS.o _ (sP.o.trans A5.o.symm) (R87.o.trans R8.o.symm)) ?_;repeat (refine jm ?_;try simp only [bT])
   refine pG ?_;refine kS 9 κ rfl ?_;intro K M;refine aY rfl ?_;try simp only [dD]
   refine dF (.tmp 38) (.tmp 34) (v:=U a9 (L.length+1) c9) (new:=#[U ag h.bg.length cg,J h.aW,J h.next,U a9 (L.length+1) c9]) rfl rfl ρ ρ sP.o iW σ ρ ρ ?_;intro w8 r8 g8;have SI:=I (Xd.o.box g8);have V8:=I r8;have sR:Hid (B8≠B7):=I (by have:=sL.o;have:=HL7.o;omega);have R88:=I (bJ R87.o g8 (fun e=>sR.o (bI e)));have O88:=I (O87.o.kept g8 (qj fun q O=>by have:=(O8.o.lt q O).1;have:=HL7.o;omega));clear r8 g8;refine ψ M (.inr (by obtain⟨-,-,j2,-⟩:=aT V8.o;obtain⟨k0,k1,k2,k3⟩:=aT R88.o;exact⟨j2,k0,k1,k2,k3⟩)) ?_;try simp only [bT]
   refine pF [10] 14 κ (fun _ _ _ _ _ h=>h) (by obtain⟨-,-,j2,-⟩:=aT V8.o;obtain⟨k0,k1,k2,k3⟩:=aT R88.o;exact⟨j2,k0,k1,k2,k3⟩) ?_;repeat (refine jm ?_;try simp only [bT])
   refine pG ?_;refine kS 11 κ rfl ?_;intro K M;refine aY rfl ?_;try simp only [dD]
   refine dF (.tmp 39) (.tmp 37) (v:=J (h.next+1)) (new:=#[U ag h.bg.length cg,J h.aW,J (h.next+1),U a9 (L.length+1) c9]) rfl rfl ρ ρ V8.o vF σ ρ ρ ?_;intro w9 r9 g9;refine ψ M (.inl ε) ?_;try simp only [bT]
   refine Bf κ ?_;go_wp2;go_meet
   case rel=>
    obtain⟨k0,k1,k2,k3⟩:=aT (bJ R88.o g9 (fun e=>sR.o (bI e)));exact⟨a9,c9,r9,SI.o.box g9,⟨k0,k1,k2,k3,UN.o,(O88.o.kept g9 (qj fun q O=>by have:=(O8.o.lt q O).1;have:=HL7.o;omega)).slc ε (fun _ _ e=>by cases e) fun _ _=>rfl,Sl.nil _ _⟩⟩
  ·intro K M
   try simp only [dD]
   go_simp;obtain⟨w6,sF⟩:=χ (wd.alloc (.cells #[J dd,U a8 P.length c8,.bool false,()] 58));have G6:Hid (aK w4 w6):=I (by rw [sF];exact GD.alloc _);have Kt:=I (Eb.o.ahead (r:=none) G6.o (fun q O=>by cases O));have yD:Hid (Src Ty.S9 (fr wz w6 (none::hro B7 (U ag h.bg.length cg) (U ao L.length co) L)) w6 (U (some ⟨wd,0,none⟩) 1 1) [((⟨dd,P,false,[]⟩:Opn),U none 0 0)]):=I (by
    have z2:=HRR.o.grow.size;have hsl:Sl Ty.pt (fr wz w6 (none::hro B7 (U ag h.bg.length cg) (U ao L.length co) L)) (U a8 P.length c8) P:=(O8.o.grow G6.o).slb ε (fun a v e=>by cases e) fun a ha=>jh (τ (O8.o.lt _ ha)) (fun hm=>by
     rcases List.mem_cons.1 hm with e|hm
     ·cases e
     ·have:=(HRR.o.ok.lt _ hm).2;have:=O8.o.lt _ ha;omega)
    rw [sF] at hsl ⊢;exact Src.dU (T:=Ty.S9) (x:=((⟨dd,P,false,[]⟩:Opn),U none 0 0)) (cs:=#[J dd,U a8 P.length c8,.bool false,()]) ⟨_,rfl,UN.o,hsl,rfl⟩ _ _ rfl)
   rw [<-sF];clear sF;refine ψ M (.inr (VZ.o _ G6.o)) ?_;try simp only [bT]
   refine kS 1 κ rfl ?_;intro K M;try simp only [dD]
   obtain⟨-,-,-,d3⟩:=aT (aF A5.o G6.o);have z7:B7<w6.heap.size:=eH _ _ d3;go_simp;clear d3 z7;refine ψ M (.inr (VZ.o _ G6.o)) ?_;try simp only [bT]
   refine kS 4 κ rfl ?_;intro K M;refine aY rfl ?_;try simp only [dD]
   refine fP (c:=fr wz w6 (none::hro B7 (U ag h.bg.length cg) (U ao L.length co) L)) (base:=wz.heap.size) (l:=L) (m:=[((⟨dd,P,false,[]⟩:Opn),U none 0 0)]) (v:=U ao L.length co) kF rfl F7 ε (.tmp 31) (.tmp 33) rfl rfl ((Eb.o.bG.mono Kt.o.2).grow G6.o) rfl yD.o (by have:=QY.o;have:=Am.o;simp;omega) (by have:=Eb.o.grow.size;have:=G6.o.size;omega) ?_;intro a9 c9 w7 yR AB jQ;have NB7:Hid (some B7≠(Value.slice ao L.length co).ownBlock):=I (by rcases Eb.o.ok.off (i:=0) (j:=2) rfl rfl ε with e|e;exact absurd e σ;exact e);have NB8:Hid (some B8≠(Value.slice ao L.length co).ownBlock):=I (fun e=>by have:=(HRR.o.bG.lt _ e.symm).2;have:=sL.o;omega);have Xd:=I (Eb.o.snoc (oH:=U a9 (L.length+1) c9) (x:=((⟨dd,P,false,[]⟩:Opn),U none 0 0)) G6.o (bK.nil _ _ _ _ _) AB jQ yR);have sP:=I (bJ (aF A5.o G6.o) AB NB7.o);have R87:=I (bJ (aF R8.o G6.o) AB NB8.o);have O87:=I ((O8.o.grow G6.o).kept AB (by cases e:(Value.slice a8 P.length c8).ownBlock with|none=>exact .inl rfl|some q=>exact .inr fun e2=>by have:=(O8.o.lt q e).1;have:=(HRR.o.bG.lt q e2.symm).2;omega));clear yR AB jQ;refine ψ M (.inr (HS.o _ (sP.o.trans A5.o.symm) (R87.o.trans R8.o.symm))) ?_;try simp only [bT]
   refine pF [8] 14 κ (fun _ _ _ _ _ h=>h) (HS.o _ (sP.o.trans A5.o.symm) (R87.o.trans R8.o.symm)) ?_;repeat (refine jm ?_;try simp only [bT])
   refine pG ?_;refine kS 9 κ rfl ?_;intro K M;refine aY rfl ?_;try simp only [dD]
   refine dF (.tmp 38) (.tmp 34) (v:=U a9 (L.length+1) c9) (new:=#[U ag h.bg.length cg,J h.aW,J h.next,U a9 (L.length+1) c9]) rfl rfl ρ ρ sP.o iW σ ρ ρ ?_;intro w8 r8 g8;have SI:=I (Xd.o.box g8);have V8:=I r8;have sR:Hid (B8≠B7):=I (by have:=sL.o;have:=HL7.o;omega);have R88:=I (bJ R87.o g8 (fun e=>sR.o (bI e)));have O88:=I (O87.o.kept g8 (qj fun q O=>by have:=(O8.o.lt q O).1;have:=HL7.o;omega));clear r8 g8;refine ψ M (.inr (by obtain⟨-,-,j2,-⟩:=aT V8.o;obtain⟨k0,k1,k2,k3⟩:=aT R88.o;exact⟨j2,k0,k1,k2,k3⟩)) ?_;try simp only [bT]
   refine pF [10] 14 κ (fun _ _ _ _ _ h=>h) (by obtain⟨-,-,j2,-⟩:=aT V8.o;obtain⟨k0,k1,k2,k3⟩:=aT R88.o;exact⟨j2,k0,k1,k2,k3⟩) ?_;repeat (refine jm ?_;try simp only [bT])
   refine pG ?_;refine kS 11 κ rfl ?_;intro K M;refine aY rfl ?_;try simp only [dD]
   refine dF (.tmp 39) (.tmp 37) (v:=J (h.next+1)) (new:=#[U ag h.bg.length cg,J h.aW,J (h.next+1),U a9 (L.length+1) c9]) rfl rfl ρ ρ V8.o vF σ ρ ρ ?_;intro w9 r9 g9;refine ψ M (.inl ε) ?_;try simp only [bT]
   refine Bf κ ?_;go_wp2;go_meet
   case rel=>
    obtain⟨k0,k1,k2,k3⟩:=aT (bJ R88.o g9 (fun e=>sR.o (bI e)));exact⟨a9,c9,r9,SI.o.box g9,⟨k0,k1,k2,k3,UN.o,(O88.o.kept g9 (qj fun q O=>by have:=(O8.o.lt q O).1;have:=HL7.o;omega)).slc ε (fun _ _ e=>by cases e) fun _ _=>rfl,Sl.nil _ _⟩⟩
 case rest=>
 obtain⟨a9,c9,r9,RT,hat⟩:=hcut;obtain⟨w9,rfl⟩:=χ wc;have R9:=I r9;have ZM:=I RT;have HAT:=I hat;have J_:=I (aF R2.o RT.grow);clear HS VZ r9 RT hat;have HS:Hid (∀W,aK w9 W->W.cell? ⟨B7,0,none⟩=some (U ag h.bg.length cg)/\W.cell? ⟨B7,1,none⟩=some (J h.aW)/\W.cell? ⟨B7,2,none⟩=some (J (h.next+1))/\W.cell? ⟨B7,3,none⟩=some (U a9 (L.length+1) c9)):=fun W hW=>aT (aF R9.o hW);go_upto_region 6 with fail
 refine Gq (fun w'=>w'.cell? ⟨B7,0,none⟩=some (U ag h.bg.length cg)/\w'.cell? ⟨B7,1,none⟩=some (J h.aW)/\w'.cell? ⟨B7,2,none⟩=some (J (h.next+1))/\w'.cell? ⟨B7,3,none⟩=some (U a9 (L.length+1) c9)) [2,3,4] κ ?_;intro wd GD zD;have ZD:=I zD;clear zD;refine pF [0] 7 κ (fun _ _ _ _ _ h=>h) (HS.o _ GD) ?_;repeat (refine jm ?_;try simp only [bT])
 refine pG ?_;refine kS 1 κ rfl ?_;intro K M;try simp only [dD]
 go_simp;go_at_call 113
 refine(IZ (o:=(⟨dd,P,false,[]⟩:Opn)) _ (HAT.o.grow GD) Dk.o).mono ?_;rintro e yt ⟨v10,rfl,oV,lQ⟩;obtain⟨EL,EM,rfl⟩:=oV.form;have HM:=I (bK.YJ ε oV);have GM:=I lQ;have GB:=I (aK.trans GD lQ);clear oV lQ;generalize hms:jD (⟨dd,P,false,[]⟩:Opn)=ms at*;have vC:=I hms;clear hms;refine ψ M (.inr (HS.o _ GB.o)) ?_;try simp only [bT]
 refine kS 2 κ rfl ?_;intro K M;refine aY rfl ?_;try simp only [dD]
 refine b_ (.tmp 4) (.tmp 40) rfl rfl rfl (aF J_.o GB.o) eY rfl rfl ?_;intro w7 r7 g7;obtain⟨p0,p1,p2,p3⟩:=aT r7;refine ψ M (.inl ε) ?_;try simp only [bT]
 refine kS 3 κ rfl ?_;intro K M;try simp only [dD]
 go_simp;refine ψ M (.inl ε) ?_;try simp only [bT]
 refine kS 4 κ rfl ?_;intro K M;try simp only [dD]
 go_simp;refine ψ M (.inl ε) ?_;try simp only [bT]
 refine Bf κ ?_;go_wp2;refine dw (v:=.tuple #[.agg #[U ag h.bg.length cg,J h.aW,J (h.next+1),U a9 (L.length+1) c9],U EL ms.length EM,J 0]) (by simp [results,Tryz.results77,go_sem,p0,p1,p2,p3]) rfl ?_;have z:=HZ.o;have Z:=(ZM.o.dL GB.o).past G1.o g7 V;have hy:=Z.of rG.o.1 Xc.o;rw [List.map_append,HL.o] at hy;rw [MK.o,lC.o,Qx.o];have e9:xW h P=(⟨dd,P,false,[]⟩:Opn):=by unfold xW;rw [cI.o]
 rw [e9,vC.o];have hgm:=ZM.o.grow.size;have:=GD.size;exact⟨_,_,rfl,by simpa using hy,HM.o.mono (Rz (G1.o.trans (ZM.o.grow.trans GD)) V g7 GM.o),Z.grow⟩
theorem sT {w0 w W wf:World} {X:List (Option Nat)} (h:w0.heap.size<=w.heap.size) (hb:∀k,k<W.heap.size->w.heap.size<=k->some k∉X->wf.heap[k]? =W.heap[k]?):Sub (fr w W X) (ov (fun _=>none) w0 wf):=fun a v e=>by
 have hlt:=eH W a (iO _ _ _ _ _ e);unfold fr at e;split at e
 ·cases e
 ·rename_i hn
  have N:¬a.block<w.heap.size:=fun Z=>hn (.inl Z);rw [dY V,World.cell?_of_block (hb a.block hlt V (fun Z=>hn (.inr Z)))];exact e
section
variable {w W:World} {B:Nat} {vl vo:Value} {lg:List Rc} {L:List AQ}
theorem HR.A13 (_:HR w W B vl vo lg L):Sub (fr w W (hro B vl vo L)) (fr w W [some B,vo.ownBlock]):=jV fun k _ _ Z=>⟨rfl,fun hm=>Z (by
 simp only [List.mem_cons,List.not_mem_nil,or_false] at hm;unfold hro;simp only [List.mem_cons];rcases hm with h|h
 ·exact .inl h
 ·exact .inr (.inr (.inl h)))⟩
theorem HR.no2 (b:HR w W B vl vo lg L) {i:Nat} {v:Value} (hi:(hro B vl vo L)[i]? =some v.ownBlock) (h0:i≠0) (Y:i≠2) {q:Nat} (O:v.ownBlock=some q):some q∉ [some B,vo.ownBlock]:=by
 simp only [List.mem_cons,List.not_mem_nil,or_false,not_or];rw [O] at hi;refine⟨fun e=>?_,fun e=>?_⟩
 ·rcases b.ok.off hi (j:=0) rfl h0 with h|h
  ·cases h
  ·exact h e
 ·rcases b.ok.off hi (j:=2) rfl Y with h|h
  ·cases h
  ·exact h e
theorem HR.A24 (b:HR w W B vl vo lg L):Sl Ty.rc (fr w W [some B,vo.ownBlock]) vl lg:=
 b.bg.slb ε b.A13 fun a ha=>jh (b.bg.lt _ ha).1 (b.no2 (i:=1) rfl ε ε ha)
theorem HR.A25 (b:HR w W B vl vo lg L):bK Ty.bG (fr w W [some B,vo.ownBlock]) W w.heap.size 58 vo (L.map (·.1)):=
 b.bG.sI b.A13 fun x Z=>by
  obtain⟨i,hi,rfl⟩:=List.mem_iff_getElem.1 Z;exact(b.aZ _ Z).slb ε (fun a v e=>by cases e) fun a ha=>jh ((b.aZ _ Z).lt _ ha).1 (b.no2 (HR.lH (dM hi)) V V ha)
end
theorem Xz (w:World) (row:Option Nat) (l:List Opn):Hu Tryz.prog Ty.bG qH w row 88 #[] l (fun o=>!o.dec) where
 ent:=fun args w=>by kernel_rfl
 say:=fun wx cs x hg _ hR=>by
  obtain⟨vp,vh,rfl,-,hp,hh⟩:=hR;obtain⟨ap,cp,rfl,-⟩:=hp;obtain⟨ah,ch,rfl,-⟩:=hh;show Calls _ _ #[.agg #[J x.aJ,U ap x.aH.length cp,.bool x.dec,U ah x.aZ.length ch]] _ _;go_enter Tryz.func88,Tryz.ntmps88;go_wp2;go_ret;exact⟨rfl,je⟩
theorem XA {v:Value} {h:Hd} (w:World) (hv:Of Ty.hd w.cell? v h) (hk:FK h) (hlp:∀r∈h.bg,r.aH.length*24<=140737488355328) (hr:∀o∈h.bG,OQ o.aH):
  Calls Tryz.prog 47 #[v] w fun e w'=>∃v1 v2,e=.returned (.tuple #[v1,v2])/\Of Ty.hd (ov (fun _=>none) w w') v1 (oZ h)/\Sl Ty.ms (ov (fun _=>none) w w') v2 (xE h)/\aK w w':=by
 obtain⟨al,cl,ar,cr,rfl⟩:=hv.iw;obtain⟨Oi,Oj,he,N,Y,-,hel⟩:=(Of.lM hv).2;obtain⟨rfl,rfl⟩:ar=Oi/\cr=Oj:=by simpa using he
 unfold maxLen at Y;have rG:Hid (I64 h.aW/\I64 h.next):=I (by obtain⟨cs,he,_,_,rfl,_,N,Y,_⟩:=hv;exact⟨N,Y⟩);have HOW:=I (fun(W:World) (hW:aK w W)=>BK W (hv.mono hW.sub) hk hlp);have Dk:=I hr;have T9:=hk.bG;clear hk hv hlp he hr;obtain⟨wa,fZ⟩:=χ (w.alloc (.cells #[U al h.bg.length cl,J h.aW,J h.next,U ar h.bG.length cr] 29));obtain⟨wz,hwz⟩:=χ (wa.alloc (.cells #[(),J 0,J 0,()] 29));have hsz:wa.heap.size=w.heap.size+1:=by rw [fZ];simp
 have R1:Hid (wz.heap[w.heap.size]? =some (.cells #[U al h.bg.length cl,J h.aW,J h.next,U ar h.bG.length cr] 29 (0,0))):=I (by rw [hwz,fZ];exact bQ (bn _ _) _);have R2:Hid (wz.heap[w.heap.size+1]? =some (.cells #[(),J 0,J 0,()] 29 (0,0))):=I (by rw [hwz,<-hsz];exact bn _ _);have G1:Hid (aK w wz):=I (by rw [hwz,fZ];exact((aG w).alloc _).alloc _);have HZ:Hid (wz.heap.size=w.heap.size+2):=I (by rw [hwz,fZ];simp);go_enter Tryz.func47,Tryz.ntmps47;go_upto_region 1 with fail
 rw [<-fZ];try rw [hsz]
 rw [<-hwz];clear fZ hwz hsz;obtain⟨c0,c1,c2,c3⟩:=aT R1.o;have z1:w.heap.size<wz:=(γ R1.o);go_wp2_with fail
 refine(HOW.o _ G1.o).mono ?_;rintro e w1 ⟨vl,vo,B0,L,rfl,hl,F9⟩;obtain⟨ag,cg,ao,co,rfl,rfl⟩:=F9.form;have HL:=I hl;have NV:=I F9;clear F9 hl c0 c1 c2 c3 z1;obtain⟨w2,rH⟩:=χ (w1.alloc (.cells #[U ag h.bg.length cg,J h.aW,J h.next,U ao L.length co] 29));obtain⟨B7,Fz⟩:=χ w1.heap.size;have R7:Hid (w2.heap[B7]? =some (.cells #[U ag h.bg.length cg,J h.aW,J h.next,U ao L.length co] 29 (0,0))):=I (by rw [rH,Fz];exact bn _ _);have HRR:Hid (HR wz w2 B7 (U ag h.bg.length cg) (U ao L.length co) h.bg L):=I (NV.o.Vx (by rw [rH];exact(aG _).alloc _) V (by rw [rH,Fz];simp));have Qa:=I (aF R1.o HRR.o.grow);have EK:=I (G1.o.trans HRR.o.grow);go_upto_region 3 with fail
 rw [<-rH,<-Fz];clear rH Fz;obtain⟨c0,c1,c2,c3'⟩:=aT Qa.o;have z1:w.heap.size<w2:=(γ Qa.o);go_wp2;clear c0 c1 c2 c3' z1;go_loopw [5,13] (fun s5 i wr=>∃k:Nat,k<=h.bG.length/\i=J k/\aK w2 wr/\bK Ty.ms (fun _=>none) wr w2.heap.size 85 s5 (((h.bG.take k).filter fun o=>!o.dec).flatMap fun o=>fU o.aJ o.aH)) (fun _ i _=>h.bG.length - (intOf i).toNat)
 case atStart=>exact⟨0,V,rfl,aG _,bK.nil _ _ _ _ _⟩
 case round=>
  obtain⟨k,hk',rfl,hb,bU⟩:=hrel;by_cases hlt:k<h.bG.length
  ·obtain⟨b,o,vp,vh,rfl,c0,c1,c2,c3,i0,hP,hH⟩:=EP.at_ hel k hlt
   obtain⟨ap,cp,rfl,-⟩:=id hP;obtain⟨ah,ch,rfl,-⟩:=id hH;have GW:=I (EK.o.trans hb);have HAB:=I (fun(W:World) (hW:aK w W)=>JC (d:=h.bG[k].aJ) W (hP.mono hW.sub) i0 (Dk.o _ (List.getElem_mem hlt)));have AE:=I (MG (fun o:Opn=>!o.dec) (fun o=>fU o.aJ o.aH) hlt);have HL5:=I (show(((h.bG.take k).filter fun o=>!o.dec).flatMap fun o=>fU o.aJ o.aH).length<=36 by
    have h8:=qg (fun o:Opn=>uX o.aJ o.aH) ((h.bG.take k).filter fun o=>!o.dec);have h9:((h.bG.take k).filter fun o=>!o.dec).length<=12:=Nat.le_trans (List.length_filter_le _ _) (by simp;omega);omega)
   have MJ:=I (uX h.bG[k].aJ h.bG[k].aH);have dX:=I bU;have HB:=I hb;obtain⟨av,cv,rfl⟩:=bU.form;replace c0:=GW.o.sub _ _ c0;replace c1:=GW.o.sub _ _ c1;replace c2:=GW.o.sub _ _ c2;replace c3:=GW.o.sub _ _ c3;clear hel hP hH bU hb i0;generalize h.bG[k]=q at*;generalize ((h.bG.take k).filter fun o=>!o.dec).flatMap (fun o=>fU o.aJ o.aH)=ms at*;obtain⟨t,ht⟩:=χ q.dec;rw [<-ht] at c2 AE;clear ht;cases t with
   |true=>
    have HF:=I AE.o;rw [aV σ] at HF;clear AE;go_wp2;go_roundw
    case rel=>exact⟨k+1,V,by go_num,HB.o.alloc _,by rw [HF.o];exact dX.o.grow ((aG _).alloc _)⟩
    case measure=>simp [intOf];omega
   |false=>
    have HF:=I AE.o;rw [bC σ] at HF;clear AE;go_wp2_with fail
    refine(HAB.o _ (GW.o.alloc _)).mono ?_;rintro e w4 ⟨v4,rfl,vO,qW⟩;obtain⟨a4,c4,rfl⟩:=vO.form;have G4:=I (((aG wr).alloc _).trans qW);have yD:Hid (Src Ty.ms (fun _=>none) w4 (U a4 (fU q.aJ q.aH).length c4) (fU q.aJ q.aH)):=I vO.A1z;have NW:=I (dX.o.grow G4.o);clear vO qW c0 c1 c2 c3;generalize fU q.aJ q.aH=aq at*;go_wp2_with (first|(at_builtin;refine cO (c:=fun _=>none) (base:=w2.heap.size) (l:=ms) (m:=aq) Ah rfl pR ε rfl (.tmp 20) (.tmp 25) rfl rfl NW.o rfl yD.o ?d2 ?d3 ?_))
    case d2=>have:=HL5.o;have:=MJ.o;omega
    case d3=>have:=HB.o.size;have:=G4.o.size;omega
    intro a9 c9 w9 gX fV iE;have kR:Hid (aK w2 w9):=I (dI (w0:=w2) (HB.o.trans G4.o) fV (fun q O=>(dX.o.lt q O).1));have jE:=I gX;clear gX fV iE;go_wp2;go_roundw
    case rel=>exact⟨k+1,V,by go_num,kR.o,by rw [HF.o];exact jE.o⟩
    case measure=>simp [intOf];omega
  ·have HF2:Hid (((h.bG.take k).filter fun o=>!o.dec).flatMap (fun o=>fU o.aJ o.aH)=xE h):=I (by rw [eG V];rfl)
   have dX:=I bU;have HB:=I hb;have Lh:=I (HRR.o.dL hb);have R7L:=I (aF R7.o hb);have R2L:=I (aF R2.o Lh.o.grow);obtain⟨av,cv,rfl⟩:=bU.form;clear hel bU hb;generalize ((h.bG.take k).filter fun o=>!o.dec).flatMap (fun o=>fU o.aJ o.aH)=ms at*;obtain⟨d0,d1,d2,d3⟩:=aT R7L.o;have z7:B7<wr.heap.size:=(γ R7L.o);have zr:w.heap.size+1<wr:=(γ R2L.o);go_wp2_with fail
   refine(yG (p:=fun o=>!o.dec) (c:=fr wz wr [some B7,(Value.slice ao L.length co).ownBlock]) ?_ Lh.o.A25 (Xz _ _ _)).mono ?_
   ·intro a u e
    unfold fr at e;split at e
    ·cases e
    ·rename_i hn
     unfold rQ;rw [aV (fun e=>hn (.inr (by simp [e])))];exact e
   rintro e w7 ⟨v7,rfl,yR,AB,jQ⟩;obtain⟨a7,c7,rfl⟩:=yR.form;have hne:some B7≠(Value.slice ao L.length co).ownBlock:=by
    rcases Lh.o.ok.off (i:=0) (j:=2) rfl rfl ε with e|e
    ·exact absurd e σ
    ·exact e
   have sP:=I (bJ R7L.o AB hne);have R27:=I (bJ R2L.o AB (fun e=>by have:=(Lh.o.bG.lt _ e.symm).1;have:=HZ.o;omega));have pq:=I AB;have zN:=I yR;have AJ:Hid ((L.map (·.1)).filter (fun x=>!(fun o:Opn=>!o.dec) x)=(oZ h).bG):=I (by rw [HL.o];simp [oZ]);have Ai:=I jQ;clear d0 d1 d2 d3 z7 zr AB yR jQ hne;rw [AJ.o] at zN;rw [AJ.o];go_wp2_with (first|(refine bY rfl (.tmp 31) (.tmp 30) (v:=U a7 (oZ h).bG.length c7) (new:=#[U ag h.bg.length cg,J h.aW,J h.next,U a7 (oZ h).bG.length c7]) rfl rfl ρ ρ sP.o iW σ ρ ρ ?_))
   intro w8 r8 g8;have OG:=I (bJ R27.o g8 (fun e=>by have:=bI e;have:=Lh.o.ok.lt B7 (by simp [hro]);have:=HZ.o;omega));have vZ:=I g8;have V8:=I r8;clear r8 g8;obtain⟨d0,d1,d2,d3⟩:=aT V8.o;have z7:B7<w8.heap.size:=(γ V8.o);go_wp2_with (first|(refine aQ rfl (.tmp 2) (.tmp 32) rfl rfl rfl OG.o eY rfl rfl ?_))
   intro wf rf gf;obtain⟨p0,p1,p2,p3⟩:=aT rf;go_wp2;refine dw (v:=.tuple #[.agg #[U ag h.bg.length cg,J h.aW,J h.next,U a7 (oZ h).bG.length c7],U av ms.length cv]) (by simp [results,Tryz.results47,go_sem,p0,p1,p2,p3]) rfl ?_;have z2:=HZ.o;have z3:=pq.o.size;have z4:=vZ.o.size;have z5:=gf.size;have z6:=Lh.o.ok.lt B7 (by simp [hro]);have z8:=Lh.o.bG.lt;have hbk:∀k,k<wr.heap.size->wz.heap.size<=k->some k∉ [some B7,(Value.slice ao L.length co).ownBlock]->wf.heap[k]? =wr.heap[k]?:=fun k N Y h3=>by
    simp only [List.mem_cons,List.not_mem_nil,or_false,not_or] at h3;rw [gf.block k V iP,vZ.o.block k V h3.1,pq.o.block k N h3.2]
   have sub:=sT (w0:=w) V hbk;have A26:bK Ty.bG (ov (fun _=>none) w wf) wf wz.heap.size 58 (U a7 (oZ h).bG.length c7) (oZ h).bG:=(zN.o.mono sub).block fun q O=>by
    have Dw:=(zN.o.lt q O);have lD:(Value.slice a7 (oZ h).bG.length c7).ownBlock=(Value.slice ao L.length co).ownBlock:=by cases a7<;>exact Ai.o
    rw [lD] at O;have h9:=z8 q O;rw [gf.block q V iP,vZ.o.block q V (fun e=>by
     have e2:=bI e;rcases Lh.o.ok.off (i:=0) (j:=2) rfl rfl ε with e3|e3
     ·exact absurd e3 σ
     ·exact e3 (by rw [<-e2];exact O.symm))]
   have hms:bK Ty.ms (fun _=>none) wf w2.heap.size 85 (U av ms.length cv) ms:=dX.o.block fun q O=>by
    have Dw:=dX.o.lt q O;have zz:=HRR.o.ok.lt B7 (by simp [hro]);rw [gf.block q V iP,vZ.o.block q V iP,pq.o.block q Dw.2 (fun e=>by have:=(HRR.o.bG.lt q e.symm).2;omega)]
   have zg:=HRR.o.grow.size;have hgr:aK w wf:=((((EK.o.trans HB.o).grown pq.o (fun q O=>by have:=(z8 q O).1;omega)).grown vZ.o (fun q O=>by have:=bI O;omega)).grown gf (fun q O=>by have:=bI O;omega));rw [<-HF2.o];exact⟨_,_,rfl,⟨_,rfl,_,_,rfl,Lh.o.A24.mono sub,rG.o.1,rG.o.2,A26.slc ε (Sub.refl _) fun a ha=>dY V⟩,hms.slc ε (fun _ _ e=>by cases e) fun a ha=>dY V,hgr⟩
theorem HR.IS {w W:World} {B:Nat} {vl:Value} {lg:List Rc} {L:List AQ} {g cap k:Nat} {x:AQ} (b:HR w W B vl (U (some ⟨g,0,none⟩) L.length cap) lg (L.set k x)):bK Ty.S9 (fr w W (hro B vl (U (some ⟨g,0,none⟩) L.length cap) (L.set k x))) W w.heap.size 58 (U (some ⟨g,0,none⟩) (L.set k x).length cap) (L.set k x):=by
 rw [List.length_set];exact b.bG
theorem HR.free {w W:World} {B:Nat} {vl:Value} {lg:List Rc} {L:List AQ} {g n cap:Nat} (b:HR w W B vl (U (some ⟨g,0,none⟩) n cap) lg L) (p:Nat):W.frozen? ⟨g,p,none⟩=false:=by
 obtain⟨css,⟨-,⟨h,-⟩|⟨g',cap',cur,he,hg,hrow,-⟩⟩,-,-⟩:=b.bG
 ·cases h
 ·simp only [Value.slice.injEq,Option.some.injEq,Addr.mk.injEq,and_true] at he
  obtain⟨rfl,-⟩:=he;simp [World.frozen?,hrow]
def sX (wz w:World) (B k:Nat) (aW next:Int) (lg:List Rc) (l:List Opn) (r:List Opn×List Rc×List Ms) (v':Value) (w':World):Prop:=
 ∃Md oH L',w'.heap[B]? =some (.cells #[Md,J aW,J next,oH] 29 (0,0))/\HR wz w' B Md oH (lg++r.2.1) L'/\L'.map (·.1)=l.take k++(r.1++l.drop (k+1))/\Sl Ty.ms (ov (fun _=>none) w w') v' r.2.2/\w.heap.size<=w'.heap.size
def Du (o:Opn) (n:Int):List Opn×List Rc×List Ms:=
 if o.dec=false/\n∈dB o.aH/\n∉o.aZ then
  (if o.aZ.length+1=(dB o.aH).length then([⟨o.aJ,o.aH,true,[]⟩],[⟨5,o.aJ,o.aH⟩],jD ⟨o.aJ,o.aH,true,[]⟩)
  else([⟨o.aJ,o.aH,o.dec,o.aZ++ [n]⟩],[],[]))
 else([o],[],[])
theorem sY {wz:World} (w:World) {B k:Nat} {vl vo:Value} {lg:List Rc} {L:List AQ} {x:AQ} {aW next aU:Int} (hr:HR wz w B vl vo lg L) (hrow:w.heap[B]? =some (.cells #[vl,J aW,J next,vo] 29 (0,0))) (hk:L[k]? =some x) (hp:OQ x.1.aH) (hh:I64 aU) (e_:lg.length<=100000) (_:L.length<=12) (h3:x.1.aZ.length<=3)
  (hle:aU∈dB x.1.aH->aU∉x.1.aZ->x.1.aZ.length+1<=(dB x.1.aH).length):
  Calls Tryz.prog 120 #[.pointer (some ⟨B,0,none⟩),J k,J aU] w fun e w'=>∃v',e=.returned v'/\sX wz w B k aW next lg (L.map (·.1)) (Du x.1 aU) v' w':=by
 obtain⟨q,xv⟩:=x;dsimp only at hp h3 hle ⊢;obtain⟨al,cl,ao,co,rfl,rfl⟩:=hr.form;have hkl:=(List.getElem?_eq_some_iff.1 hk).1;obtain⟨g,vp,rfl,SM,Wu,c0,c1,c2,c3,i0,hP,hH⟩:=hr.at_ rfl hk;obtain⟨ap,cp,rfl,-⟩:=id hP;dsimp only at c0 c1 c2 c3 i0 hP hH;obtain⟨ah,ch,rfl⟩:=hH.form;have HPs:=I (hP.mono (iO _ _ _));have HHs:Hid (Sl Ty.int w.cell? (U ah q.aZ.length ch) q.aZ):=I (hH.slc ε (fun _ _ e=>by cases e) fun _ _=>rfl);have yF:=I (fun(W:World) (hW:aK w W)=>iV (n:=aU) W (HHs.o.mono hW.sub));have AL:=I (fun(W:World) (hs:Sl Ty.pt W.cell? (U ap q.aH.length cp) q.aH)=>lG W hs (τ hp.len) hp.ne hp.lt);have SL:=I hle;have HRR:=I hr;have M:=I hk;have Wh:=I hkl;have HI0:=I i0;have HIH:=I hh;have gE:=I hH;have Dk:=I hp;have HRW:=I hrow;have nK:Hid ((L.map (·.1)).take k++([q]++(L.map (·.1)).drop (k+1))=L.map (·.1)):=I (by
  have e:(L.map (·.1))[k]? =some q:=by rw [List.getElem?_map,hk];rfl
  have KF:k<(L.map (·.1)).length:=by simpa using hkl
  have e2:(L.map (·.1))[k]=q:=(List.getElem?_eq_some_iff.1 e).2;rw [<-e2,List.singleton_append,<-List.drop_eq_getElem_cons KF,List.take_append_drop])
 obtain⟨b0,b1,b2,b3⟩:=aT hrow;have zB:B<w.heap.size:=(γ hrow);clear hp hle hr hk i0 hh hP hH hrow;obtain⟨t,ht⟩:=χ q.dec;rw [<-ht] at c2;have HT:=I ht;clear ht;cases t with
 |true=>
  have HF:Hid (Du q aU=([q],[],[])):=I (by unfold Du;rw [aV (by rw [<-HT.o];simp)]);go_enter Tryz.func120,Tryz.ntmps120;go_wp2;go_ret;exact⟨_,rfl,_,_,L,HRW.o,by rw [HF.o,List.append_nil];exact HRR.o,by rw [HF.o];exact nK.o.symm,by rw [HF.o];exact Sl.nil _ _,Nat.le_refl _⟩
 |false=>
  by_cases hn:aU∈q.aZ
  ·have hnb:decide (aU∈q.aZ)=true:=decide_eq_true hn
   have HF:Hid (Du q aU=([q],[],[])):=I (by unfold Du;rw [aV (by simp [hn])]);clear hn;go_enter Tryz.func120,Tryz.ntmps120;go_wp2_with fail
   refine(yF.o _ (aG _)).mono ?_;rintro e w1 ⟨rfl,dZ⟩;have G1:=I dZ;rw [hnb];clear dZ hnb c0 c1 c2 c3 b0 b1 b2 b3;go_wp2;go_ret;exact⟨_,rfl,_,_,L,aF HRW.o G1.o,by rw [HF.o,List.append_nil];exact HRR.o.dL G1.o,by rw [HF.o];exact nK.o.symm,by rw [HF.o];exact Sl.nil _ _,(G1.o).size⟩
  have hnb:decide (aU∈q.aZ)=false:=decide_eq_false hn;have fR:=I hn;clear hn;by_cases hm:aU∈dB q.aH
  ·have HMM:=I hm
   have hmb:decide (aU∈dB q.aH)=true:=decide_eq_true hm;have Am:=I (SL.o hm fR.o);clear hm;go_enter Tryz.func120,Tryz.ntmps120;go_wp2_with fail
   refine(yF.o _ (aG _)).mono ?_;rintro e w1 ⟨rfl,dZ⟩;have G1:=I dZ;rw [hnb];replace c1:=dZ.sub _ _ c1;clear dZ hnb c0 c2 c3 b0 b1 b2 b3;go_wp2_with fail
   refine(AL.o _ (HPs.o.mono G1.o.sub)).mono ?_;rintro e w2 ⟨v2,rfl,wS,gB⟩;obtain⟨a2,c2',rfl⟩:=dG wS;have HI2:=I (sU wS (mJ q.aH));have G2:=I (G1.o.trans gB);clear wS gB c1;go_wp2_with fail
   refine(iV (n:=aU) _ HI2.o).mono ?_;rintro e w3 ⟨rfl,fB⟩;have G3:=I (G2.o.trans fB);rw [hmb];clear fB hmb HI2;have qF:=I (HRR.o.dL G3.o);have RB3:=I (aF HRW.o G3.o);obtain⟨g',mI,e1,-,zg,c0,c1,c2,c3,-,hp3,-⟩:=qF.o.at_ rfl M.o;obtain rfl:g=g':=by simpa using e1
   dsimp only at c0 c2 c3;have sf:=qF.o.free;clear e1 hp3 c1 c2 c0;go_wp2_with (first|(at_builtin;refine cO (c:=fun _=>none) (base:=wz.heap.size) (l:=q.aZ) (m:=[aU]) (v:=U ah q.aZ.length ch) jL rfl jX ε rfl (.tmp 40) (.tmp 42) rfl rfl ?own rfl (Src.dU (T:=Ty.int) (x:=aU) (cs:=#[J aU]) ⟨rfl,HIH.o⟩ _ _ ?d1) ?d2 ?d3 ?_))
   case own=>exact gE.o.grow (G3.o.alloc _)
   case d1=>first|rfl|simp
   case d2=>simp;omega
   case d3=>have:=qF.o.grow.size;simp;omega
   intro a5 c5 w5 mW uG iY;have wW:=I uG;have RF:=I (qF.o.dL ((aG _).alloc (.cells #[J aU] 3)));have hoff:=RF.o.ok.off (HR.lH M.o) (j:=2) rfl V;have XB:some g≠(Value.slice ah q.aZ.length ch).ownBlock:=fun e=>by
    rcases hoff with h|h
    ·rw [h] at e;cases e
    ·exact h e.symm
   have RB5:=I (bJ (aF RB3.o ((aG _).alloc (.cells #[J aU] 3))) uG (fun e=>by
    have h9:=RF.o.ok.off (HR.lH M.o) (j:=0) rfl V;rcases h9 with h|h
    ·rw [h] at e;cases e
    ·exact h e.symm))
   have og:=I (HR.hear RF.o rfl M.o (W2:=w5) (v':=U a5 (q.aZ.length+1) c5) (l':=q.aZ++ [aU]) uG (iY.imp_right fun⟨g,e,hge⟩=>⟨g,e,by simpa using hge⟩) mW).1;have e3:w5.cell? ⟨g,k*4+3,none⟩=some (U ah q.aZ.length ch):=by
    rw [World.cell?_of_block (a:=⟨g,k*4+3,none⟩) (uG.block g (by simp;omega) XB)];exact((aG w3).alloc _).sub _ _ c3
   have ef:∀p,w5.frozen? ⟨g,p,none⟩=false:=fun p=>by
    rw [World.frozen?_of_block (a:=⟨g,p,none⟩) (uG.block g (by simp;omega) XB)];exact RF.o.free p
   have zg5:g<w5.heap.size:=eH _ _ e3;clear sf mW uG iY c3 zg hoff XB;go_upto_region 5 with fail
   obtain⟨w6,sF⟩:=χ (w5.setCell ⟨g,k*4+3,none⟩ (U a5 (q.aZ.length+1) c5));rw [<-sF] at og ⊢;have RB6:Hid (w6.heap[B]? =some (.cells #[U al lg.length cl,J aW,J next,U (some ⟨g,0,none⟩) L.length co] 29 (0,0))):=I (bJ RB5.o (by rw [sF];exact dS w5 ⟨g,k*4+3,none⟩ _) (fun e=>by
    rcases HRR.o.ok.off (i:=0) (j:=2) rfl rfl ε with h|h
    ·cases h
    ·exact h e))
   have HZ6:Hid (w.heap.size<=w6.heap.size):=I (by rw [sF];have:=G3.o.size;have:=wW.o.size;simp at*;omega);clear sF e3 ef zg5;have HK6:Hid ((L.set k (⟨q.aJ,q.aH,q.dec,q.aZ++ [aU]⟩,Value.slice a5 (q.aZ.length+1) c5))[k]? =some (⟨q.aJ,q.aH,q.dec,q.aZ++ [aU]⟩,Value.slice a5 (q.aZ.length+1) c5)):=I (List.getElem?_set_self Wh.o);have EN:Hid (HR wz w6 B (U al lg.length cl) (U (some ⟨g,0,none⟩) L.length co) lg (L.set k (⟨q.aJ,q.aH,q.dec,q.aZ++ [aU]⟩,Value.slice a5 (q.aZ.length+1) c5))):=I og.o;clear og;obtain⟨g6,vp6,e6,JI,zg6,d0,d1,d2,d3,-,IT,-⟩:=EN.o.at_ σ HK6.o;obtain rfl:g=g6:=by simpa using e6
   obtain⟨a6,c6,rfl,-⟩:=id IT;dsimp only at d0 d1 d2 d3 IT;have HP6:=I (IT.mono (iO _ _ _));have HS:Hid (∀W,aK w6 W->W.cell? ⟨g,k*4+3,none⟩=some (U a5 (q.aZ.length+1) c5)/\W.cell? ⟨g,k*4+1,none⟩=some (U a6 q.aH.length c6)):=fun W hW=>⟨hW.sub _ _ d3,hW.sub _ _ d1⟩;have HMP:Hid ((L.set k (⟨q.aJ,q.aH,q.dec,q.aZ++ [aU]⟩,Value.slice a5 (q.aZ.length+1) c5)).map (·.1)=(L.map (·.1)).take k++([⟨q.aJ,q.aH,q.dec,q.aZ++ [aU]⟩]++(L.map (·.1)).drop (k+1))):=I (by rw [List.map_set,List.set_eq_take_append_cons_drop,bC (by simpa using Wh.o)];rfl);clear e6 JI zg6 d0 d1 d2 d3 IT;by_cases hall:q.aZ.length+1=(dB q.aH).length
   ·have MJ:=I hall
    have hdn:decide (q.aZ.length+1<(dB q.aH).length)=false:=decide_eq_false V;have hdi:¬(q.aZ.length+1<(dB q.aH).length):=by omega
    clear hall;have XC:=I (fun(W:World) (hs:Sl Ty.pt W.cell? (U a6 q.aH.length c6) q.aH)=>lG W hs (τ Dk.o.len) Dk.o.ne Dk.o.lt);refine Gq (fun w'=>w'.cell? ⟨g,k*4+3,none⟩=some (U a5 (q.aZ.length+1) c5)/\w'.cell? ⟨g,k*4+1,none⟩=some (U a6 q.aH.length c6)) [11] κ ?_;intro wd GD zD;clear zD;refine pF [0,1,2,3,4,5,6,7,8] 14 κ (fun _ _ _ _ _ h=>h) (HS.o _ GD) ?_;repeat (refine jm ?_;try simp only [bT])
    refine pG ?_;refine kS 9 κ rfl ?_;intro K M;try simp only [dD]
    go_simp;go_at_call 103
    refine(XC.o _ (HP6.o.mono (GD).sub)).mono ?_;rintro e w8 ⟨v8,rfl,nT,lD⟩;obtain⟨a8,c8,rfl⟩:=dG nT;have G8:=I (aK.trans GD lD);clear nT lD;refine ψ M (.inr (HS.o _ G8.o)) ?_;try simp only [bT]
    refine pF [10] 14 κ (fun _ _ _ _ _ h=>h) (HS.o _ G8.o) ?_;repeat (refine jm ?_;try simp only [bT])
    refine pG ?_;refine kS 11 κ rfl ?_;intro K M;try simp only [dD]
    go_simp;refine ψ M (.inl ε) ?_;try simp only [bT]
    refine Bf κ ?_;have RB8:=I (aF RB6.o G8.o);have AS:=I (EN.o.dL G8.o);obtain⟨e0,-,-,-⟩:=aT RB8.o;obtain⟨g7,vp7,e7,-,-,d0,-,-,-,-,-,-⟩:=AS.o.at_ σ HK6.o;obtain rfl:g=g7:=by simpa using e7
    dsimp only at d0;have d1:=(HS.o _ G8.o).2;have Ko:Hid (∀W,aK w8 W->W.cell? ⟨B,0,none⟩=some (U al lg.length cl)/\W.cell? ⟨g,k*4,none⟩=some (J q.aJ)/\W.cell? ⟨g,k*4+1,none⟩=some (U a6 q.aH.length c6)):=fun W hW=>⟨hW.sub _ _ e0,hW.sub _ _ d0,hW.sub _ _ d1⟩;clear e7 e0 d0 d1;go_upto_region 7 with fail
    refine Gq (fun w'=>w'.cell? ⟨B,0,none⟩=some (U al lg.length cl)/\w'.cell? ⟨g,k*4,none⟩=some (J q.aJ)/\w'.cell? ⟨g,k*4+1,none⟩=some (U a6 q.aH.length c6)) [19] κ ?_;intro wd GD zD;clear zD;refine pF [0,1,2,3,4,5,6,7,8,9,10,11,12] 22 κ (fun _ _ _ _ _ h=>h) (Ko.o _ GD) ?_;repeat (refine jm ?_;try simp only [bT])
    refine pG ?_;refine kS 13 κ rfl ?_;intro K M;try simp only [dD]
    go_simp;go_at_call 73
    refine(sZ _ (HP6.o.mono ((G8.o.trans GD).sub)) (τ Dk.o.len)).mono ?_;rintro e w9 ⟨v9,rfl,gX,iE⟩;obtain⟨a7,c7,rfl⟩:=dG gX;have jE:=I (bK.pts (c:=fun _=>none) gX (pX.ok HP6.o));have G9:=I (aK.trans GD iE);clear gX iE;refine ψ M (.inr (Ko.o _ G9.o)) ?_;try simp only [bT]
    refine pF [14] 22 κ (fun _ _ _ _ _ h=>h) (Ko.o _ G9.o) ?_;repeat (refine jm ?_;try simp only [bT])
    refine pG ?_;refine kS 15 κ rfl ?_;intro K M;try simp only [dD]
    go_simp;obtain⟨yt,OT⟩:=χ (w9.alloc (.cells #[J 5,J q.aJ,U a7 q.aH.length c7] 79));have lX:Hid (aK w8 yt):=I (by rw [OT];exact(G9.o).alloc _);have Rx:=I (EN.o.dL (G8.o.trans lX.o));have yD:Hid (Src Ty.rc (fr wz yt (hro B (U al lg.length cl) (U (some ⟨g,0,none⟩) L.length co) (L.set k (⟨q.aJ,q.aH,q.dec,q.aZ++ [aU]⟩,Value.slice a5 (q.aZ.length+1) c5)))) yt (U (some ⟨w9,0,none⟩) 1 1) [(⟨5,q.aJ,q.aH⟩:Rc)]):=I (by
     have hsl:Sl Ty.pt (fr wz yt (hro B (U al lg.length cl) (U (some ⟨g,0,none⟩) L.length co) (L.set k (⟨q.aJ,q.aH,q.dec,q.aZ++ [aU]⟩,Value.slice a5 (q.aZ.length+1) c5)))) (U a7 q.aH.length c7) q.aH:=(jE.o.grow (w':=yt) (by rw [OT];exact(aG _).alloc _)).slb ε (fun a v e=>by cases e) fun a ha=>by
      have h9:=(jE.o.lt _ ha).1;have h8:=GD.size;have h7:=G8.o.size;have h6:=EN.o.grow.size;exact jh V (fun hm=>by have:=(EN.o.ok.lt _ hm).2;omega)
     rw [OT] at hsl ⊢;exact Src.dU (T:=Ty.rc) (x:=(⟨5,q.aJ,q.aH⟩:Rc)) (cs:=#[J 5,J q.aJ,U a7 q.aH.length c7]) ⟨_,rfl,(show I64 5 from by unfold I64;decide),HI0.o,hsl⟩ _ _ rfl)
    rw [<-OT];clear OT;refine ψ M (.inr (Ko.o _ lX.o)) ?_;try simp only [bT]
    refine kS 16 κ rfl ?_;intro K M;refine aY rfl ?_;try simp only [dD]
    refine fP (c:=(fr wz yt (hro B (U al lg.length cl) (U (some ⟨g,0,none⟩) L.length co) (L.set k (⟨q.aJ,q.aH,q.dec,q.aZ++ [aU]⟩,Value.slice a5 (q.aZ.length+1) c5))))) (base:=wz.heap.size) (l:=lg) (m:=[(⟨5,q.aJ,q.aH⟩:Rc)]) (v:=U al lg.length cl) mX rfl jc ε (.tmp 62) (.tmp 73) rfl rfl Rx.o.bg rfl yD.o (by simp;omega) (by have:=EN.o.grow.size;have:=G8.o.size;have:=lX.o.size;omega) ?_;intro a9 c9 yT s_ RJ zY;have Nk:=I (Rx.o.logs RJ zY s_);have VA:=I RJ;have NB:Hid (some B≠(Value.slice al lg.length cl).ownBlock):=I (fun e=>by rcases EN.o.ok.off (i:=0) (j:=1) rfl rfl ε with h|h;exact absurd h σ;exact h e);have A0h:=I (bJ (aF RB6.o (G8.o.trans lX.o)) RJ NB.o);have NG:Hid (some g≠(Value.slice al lg.length cl).ownBlock):=I (fun e=>by rcases EN.o.ok.off (i:=2) (j:=1) rfl rfl ε with h|h;exact absurd h (by simp [Value.ownBlock]);exact h e);have IX:Hid (yT.cell? ⟨B,0,none⟩=some (U al lg.length cl)/\yT.cell? ⟨g,k*4,none⟩=some (J q.aJ)/\yT.cell? ⟨g,k*4+1,none⟩=some (U a6 q.aH.length c6)):=I (by
     have hs:=Ko.o yt lX.o;exact⟨VA.o.cell hs.1 NB.o,VA.o.cell hs.2.1 NG.o,VA.o.cell hs.2.2 NG.o⟩)
    clear s_ RJ zY;refine ψ M (.inr (IX.o)) ?_;try simp only [bT]
    refine pF [17,18] 22 κ (fun _ _ _ _ _ h=>h) (IX.o) ?_;repeat (refine jm ?_;try simp only [bT])
    refine pG ?_;refine kS 19 κ rfl ?_;intro K M;refine aY rfl ?_;try simp only [dD]
    refine dF (.tmp 76) (.tmp 74) (v:=U a9 (lg.length+1) c9) (new:=#[U a9 (lg.length+1) c9,J aW,J next,U (some ⟨g,0,none⟩) L.length co]) rfl rfl ρ ρ A0h.o tH σ ρ ρ ?_;intro NY Vl Ew;refine ψ M (.inl ε) ?_;try simp only [bT]
    refine Bf κ ?_;have FZ:=I (Nk.o.box Ew);have Qa:=I Vl;have A0i:Hid (w.heap.size<=NY.heap.size):=I (by have:=HZ6.o;have:=G8.o.size;have:=lX.o.size;have:=VA.o.size;have:=Ew.size;omega);clear Vl Ew;have HF:Hid (Du q aU=([⟨q.aJ,q.aH,true,[]⟩],[⟨5,q.aJ,q.aH⟩],jD ⟨q.aJ,q.aH,true,[]⟩)):=I (by unfold Du;rw [bC ⟨HT.o.symm,HMM.o,fR.o⟩,bC MJ.o]);obtain⟨g9,vp9,e9,fV,zg9,d0,d1,d2,d3,-,pD,-⟩:=FZ.o.at_ σ HK6.o;obtain rfl:g=g9:=by simpa using e9
    dsimp only at d0 d1 d2 d3 pD;have sf:=FZ.o.free;have tA:=I (FZ.o.decide σ HK6.o);clear e9 fV d0 d1 pD;go_upto_region 9 with fail
    obtain⟨yU,I0⟩:∃y:World,y=(NY.setCell ⟨g,k*4+2,none⟩ (.bool true)).setCell ⟨g,k*4+3,none⟩ (U none 0 0):=⟨_,rfl⟩;rw [<-I0];rw [<-I0] at tA;have A14:Hid (NY.grownBy yU (some g)):=I (by rw [I0];exact bD (dS NY ⟨g,k*4+2,none⟩ _) (dS _ ⟨g,k*4+3,none⟩ _));clear I0 d2 d3 sf zg9;have A27:Hid (((L.set k (⟨q.aJ,q.aH,q.dec,q.aZ++ [aU]⟩,Value.slice a5 (q.aZ.length+1) c5)).set k (⟨q.aJ,q.aH,true,[]⟩,Value.slice none 0 0))[k]? =some (⟨q.aJ,q.aH,true,[]⟩,Value.slice none 0 0)):=I (List.getElem?_set_self (by simpa using Wh.o));obtain⟨g9,vp9,e9,fV,zg9,d0,d1,d2,d3,i9,pD,-⟩:=tA.o.at_ σ A27.o;obtain rfl:g=g9:=by simpa using e9
    dsimp only at d0 d1 d2 d3 pD i9;obtain⟨a9p,c9p,rfl,-⟩:=id pD;have HAS:=I (IZ (o:=⟨q.aJ,q.aH,true,[]⟩) (ah:=none) (ch:=0) yU ⟨d0,d1,d2,d3,i9,pD.mono (iO _ _ _),Sl.nil _ _⟩ Dk.o);have A0j:=I (bJ Qa.o A14.o (fun e=>by rcases EN.o.ok.off (i:=0) (j:=2) rfl rfl ε with h|h;exact absurd h σ;exact h e));clear e9 fV zg9 d0 d1 d2 d3 i9 pD;go_wp2_with fail
    refine HAS.o.mono ?_;rintro e CZ ⟨v14,rfl,A0k,A15⟩;obtain⟨a14,c14,rfl⟩:=A0k.form;have HM:=I (bK.YJ ε A0k);have fW:=I A15;clear A0k A15;generalize hms:jD ⟨q.aJ,q.aH,true,[]⟩=ms at*;clear hms;go_wp2;go_ret;have z1:=A0i.o;have z2:=A14.o.size;have z3:=fW.o.size;refine⟨_,rfl,_,_,_,aF A0j.o fW.o,by rw [HF.o];exact tA.o.dL fW.o,?_,?_,V⟩
    ·rw [HF.o,List.set_set,List.map_set,List.set_eq_take_append_cons_drop,bC (by simpa using Wh.o)];rfl
    ·rw [HF.o]
     dsimp only;refine Sl.mono (fun a v e=>?_) HM.o;unfold ov at e;split at e
     ·cases e
     ·rw [dY V];exact e
   ·have HNA:=I hall
    have hdn:decide (q.aZ.length+1<(dB q.aH).length)=true:=decide_eq_true (τ Am.o);have hdi:q.aZ.length+1<(dB q.aH).length:=by have:=Am.o;omega
    clear hall;have HF:Hid (Du q aU=([⟨q.aJ,q.aH,q.dec,q.aZ++ [aU]⟩],[],[])):=I (by unfold Du;rw [bC ⟨HT.o.symm,HMM.o,fR.o⟩,aV HNA.o]);have XC:=I (fun(W:World) (hs:Sl Ty.pt W.cell? (U a6 q.aH.length c6) q.aH)=>lG W hs (τ Dk.o.len) Dk.o.ne Dk.o.lt);refine Gq (fun w'=>w'.cell? ⟨g,k*4+3,none⟩=some (U a5 (q.aZ.length+1) c5)/\w'.cell? ⟨g,k*4+1,none⟩=some (U a6 q.aH.length c6)) [11] κ ?_;intro wd GD zD;clear zD;refine pF [0,1,2,3,4,5,6,7,8] 14 κ (fun _ _ _ _ _ h=>h) (HS.o _ GD) ?_;repeat (refine jm ?_;try simp only [bT])
    refine pG ?_;refine kS 9 κ rfl ?_;intro K M;try simp only [dD]
    go_simp;go_at_call 103
    refine(XC.o _ (HP6.o.mono (GD).sub)).mono ?_;rintro e w8 ⟨v8,rfl,nT,lD⟩;obtain⟨a8,c8,rfl⟩:=dG nT;have G8:=I (aK.trans GD lD);clear nT lD;refine ψ M (.inr (HS.o _ G8.o)) ?_;try simp only [bT]
    refine pF [10] 14 κ (fun _ _ _ _ _ h=>h) (HS.o _ G8.o) ?_;repeat (refine jm ?_;try simp only [bT])
    refine pG ?_;refine kS 11 κ rfl ?_;intro K M;try simp only [dD]
    go_simp;refine ψ M (.inl ε) ?_;try simp only [bT]
    refine Bf κ ?_;go_wp2;go_ret;exact⟨_,rfl,_,_,_,aF RB6.o G8.o,by rw [HF.o,List.append_nil];exact EN.o.dL G8.o,by rw [HF.o];exact HMP.o,by rw [HF.o];exact Sl.nil _ _,by have:=HZ6.o;have:=G8.o.size;omega⟩
  ·have hmb:decide (aU∈dB q.aH)=false:=decide_eq_false hm
   have HF:Hid (Du q aU=([q],[],[])):=I (by unfold Du;rw [aV (by simp [hm])]);clear hm;go_enter Tryz.func120,Tryz.ntmps120;go_wp2_with fail
   refine(yF.o _ (aG _)).mono ?_;rintro e w1 ⟨rfl,dZ⟩;have G1:=I dZ;rw [hnb];replace c1:=dZ.sub _ _ c1;clear dZ hnb c0 c2 c3 b0 b1 b2 b3;go_wp2_with fail
   refine(AL.o _ (HPs.o.mono G1.o.sub)).mono ?_;rintro e w2 ⟨v2,rfl,wS,gB⟩;obtain⟨a2,c2',rfl⟩:=dG wS;have HI2:=I (sU wS (mJ q.aH));have G2:=I (G1.o.trans gB);clear wS gB c1;go_wp2_with fail
   refine(iV (n:=aU) _ HI2.o).mono ?_;rintro e w3 ⟨rfl,fB⟩;have G3:=I (G2.o.trans fB);rw [hmb];clear fB hmb;go_wp2;go_ret;exact⟨_,rfl,_,_,L,aF HRW.o G3.o,by rw [HF.o,List.append_nil];exact HRR.o.dL G3.o,by rw [HF.o];exact nK.o.symm,by rw [HF.o];exact Sl.nil _ _,(G3.o).size⟩
def BN (o:Opn) (n:Int):List Opn×List Rc×List Ms:=
 if o.dec=true/\n∈dB o.aH/\n∉o.aZ then
  (if o.aZ.length+1=(dB o.aH).length then([],[⟨6,o.aJ,[]⟩],[]) else([⟨o.aJ,o.aH,o.dec,o.aZ++ [n]⟩],[],[]))
 else([o],[],[])
theorem tB {wz:World} (w:World) {B k:Nat} {vl vo:Value} {lg:List Rc} {L:List AQ} {x:AQ} {aW next aU:Int} (hr:HR wz w B vl vo lg L) (hrow:w.heap[B]? =some (.cells #[vl,J aW,J next,vo] 29 (0,0))) (hk:L[k]? =some x) (hp:OQ x.1.aH) (hh:I64 aU) (e_:lg.length<=100000) (hL:L.length<=12) (h3:x.1.aZ.length<=3)
  (hle:aU∈dB x.1.aH->aU∉x.1.aZ->x.1.aZ.length+1<=(dB x.1.aH).length):
  Calls Tryz.prog 122 #[.pointer (some ⟨B,0,none⟩),J k,J aU] w fun e w'=>e=.returned (.tuple #[])/\sX wz w B k aW next lg (L.map (·.1)) (BN x.1 aU) (U none 0 0) w':=by
 obtain⟨q,xv⟩:=x;dsimp only at hp h3 hle ⊢;obtain⟨al,cl,ao,co,rfl,rfl⟩:=hr.form;have hkl:=(List.getElem?_eq_some_iff.1 hk).1;obtain⟨g,vp,rfl,SM,Wu,c0,c1,c2,c3,i0,hP,hH⟩:=hr.at_ rfl hk;obtain⟨ap,cp,rfl,-⟩:=id hP;dsimp only at c0 c1 c2 c3 i0 hP hH;obtain⟨ah,ch,rfl⟩:=hH.form;have HPs:=I (hP.mono (iO _ _ _));have HHs:Hid (Sl Ty.int w.cell? (U ah q.aZ.length ch) q.aZ):=I (hH.slc ε (fun _ _ e=>by cases e) fun _ _=>rfl);have yF:=I (fun(W:World) (hW:aK w W)=>iV (n:=aU) W (HHs.o.mono hW.sub));have AL:=I (fun(W:World) (hs:Sl Ty.pt W.cell? (U ap q.aH.length cp) q.aH)=>lG W hs (τ hp.len) hp.ne hp.lt);have HRR:=I hr;have M:=I hk;have Wh:=I hkl;have HI0:=I i0;have HIH:=I hh;have gE:=I hH;have Dk:=I hp;have HRW:=I hrow;have nK:Hid ((L.map (·.1)).take k++([q]++(L.map (·.1)).drop (k+1))=L.map (·.1)):=I (by
  have e:(L.map (·.1))[k]? =some q:=by rw [List.getElem?_map,hk];rfl
  have KF:k<(L.map (·.1)).length:=by simpa using hkl
  have e2:(L.map (·.1))[k]=q:=(List.getElem?_eq_some_iff.1 e).2;rw [<-e2,List.singleton_append,<-List.drop_eq_getElem_cons KF,List.take_append_drop])
 obtain⟨b0,b1,b2,b3⟩:=aT hrow;have zB:B<w.heap.size:=(γ hrow);clear hp hle hr hk i0 hh hP hH hrow;obtain⟨t,ht⟩:=χ q.dec;rw [<-ht] at c2;have HT:=I ht;clear ht;cases t with
 |false=>
  have HF:Hid (BN q aU=([q],[],[])):=I (by unfold BN;rw [aV (by rw [<-HT.o];simp)]);go_enter Tryz.func122,Tryz.ntmps122;go_wp2;refine dw (v:=.tuple #[]) (by simp [results,Tryz.results122,go_sem]) rfl ?_;exact⟨rfl,_,_,L,HRW.o,by rw [HF.o,List.append_nil];exact HRR.o,by rw [HF.o];exact nK.o.symm,by rw [HF.o];exact Sl.nil _ _,Nat.le_refl _⟩
 |true=>
  by_cases hn:aU∈q.aZ
  ·have hnb:decide (aU∈q.aZ)=true:=decide_eq_true hn
   have HF:Hid (BN q aU=([q],[],[])):=I (by unfold BN;rw [aV (by simp [hn])]);clear hn;go_enter Tryz.func122,Tryz.ntmps122;go_wp2_with fail
   refine(yF.o _ (aG _)).mono ?_;rintro e w1 ⟨rfl,dZ⟩;have G1:=I dZ;rw [hnb];clear dZ hnb c0 c1 c2 c3 b0 b1 b2 b3;go_wp2;refine dw (v:=.tuple #[]) (by simp [results,Tryz.results122,go_sem]) rfl ?_;exact⟨rfl,_,_,L,aF HRW.o G1.o,by rw [HF.o,List.append_nil];exact HRR.o.dL G1.o,by rw [HF.o];exact nK.o.symm,by rw [HF.o];exact Sl.nil _ _,(G1.o).size⟩
  have hnb:decide (aU∈q.aZ)=false:=decide_eq_false hn;have fR:=I hn;clear hn;by_cases hm:aU∈dB q.aH
  ·have HMM:=I hm
   have hmb:decide (aU∈dB q.aH)=true:=decide_eq_true hm;clear hm;go_enter Tryz.func122,Tryz.ntmps122;go_wp2_with fail
   refine(yF.o _ (aG _)).mono ?_;rintro e w1 ⟨rfl,dZ⟩;have G1:=I dZ;rw [hnb];replace c1:=dZ.sub _ _ c1;clear dZ hnb c0 c2 c3 b0 b1 b2 b3;go_wp2_with fail
   refine(AL.o _ (HPs.o.mono G1.o.sub)).mono ?_;rintro e w2 ⟨v2,rfl,wS,gB⟩;obtain⟨a2,c2',rfl⟩:=dG wS;have HI2:=I (sU wS (mJ q.aH));have G2:=I (G1.o.trans gB);clear wS gB c1;go_wp2_with fail
   refine(iV (n:=aU) _ HI2.o).mono ?_;rintro e w3 ⟨rfl,fB⟩;have G3:=I (G2.o.trans fB);rw [hmb];clear fB hmb HI2;have qF:=I (HRR.o.dL G3.o);have RB3:=I (aF HRW.o G3.o);obtain⟨g',mI,e1,-,zg,c0,c1,c2,c3,-,hp3,-⟩:=qF.o.at_ rfl M.o;obtain rfl:g=g':=by simpa using e1
   dsimp only at c0 c2 c3;have sf:=qF.o.free;clear e1 hp3 c1 c2 c0;go_wp2_with (first|(at_builtin;refine cO (c:=fun _=>none) (base:=wz.heap.size) (l:=q.aZ) (m:=[aU]) (v:=U ah q.aZ.length ch) jL rfl jX ε rfl (.tmp 40) (.tmp 42) rfl rfl ?own rfl (Src.dU (T:=Ty.int) (x:=aU) (cs:=#[J aU]) ⟨rfl,HIH.o⟩ _ _ ?d1) ?d2 ?d3 ?_))
   case own=>exact gE.o.grow (G3.o.alloc _)
   case d1=>first|rfl|simp
   case d2=>simp;omega
   case d3=>have:=qF.o.grow.size;simp;omega
   intro a5 c5 w5 mW uG iY;have wW:=I uG;have RF:=I (qF.o.dL ((aG _).alloc (.cells #[J aU] 3)));have hoff:=RF.o.ok.off (HR.lH M.o) (j:=2) rfl V;have XB:some g≠(Value.slice ah q.aZ.length ch).ownBlock:=fun e=>by
    rcases hoff with h|h
    ·rw [h] at e;cases e
    ·exact h e.symm
   have RB5:=I (bJ (aF RB3.o ((aG _).alloc (.cells #[J aU] 3))) uG (fun e=>by
    have h9:=RF.o.ok.off (HR.lH M.o) (j:=0) rfl V;rcases h9 with h|h
    ·rw [h] at e;cases e
    ·exact h e.symm))
   have og:=I (HR.hear RF.o rfl M.o (W2:=w5) (v':=U a5 (q.aZ.length+1) c5) (l':=q.aZ++ [aU]) uG (iY.imp_right fun⟨g,e,hge⟩=>⟨g,e,by simpa using hge⟩) mW).1;have e3:w5.cell? ⟨g,k*4+3,none⟩=some (U ah q.aZ.length ch):=by
    rw [World.cell?_of_block (a:=⟨g,k*4+3,none⟩) (uG.block g (by simp;omega) XB)];exact((aG w3).alloc _).sub _ _ c3
   have ef:∀p,w5.frozen? ⟨g,p,none⟩=false:=fun p=>by
    rw [World.frozen?_of_block (a:=⟨g,p,none⟩) (uG.block g (by simp;omega) XB)];exact RF.o.free p
   have zg5:g<w5.heap.size:=eH _ _ e3;clear sf mW uG iY c3 zg hoff XB;go_upto_region 3 with fail
   obtain⟨w6,sF⟩:=χ (w5.setCell ⟨g,k*4+3,none⟩ (U a5 (q.aZ.length+1) c5));rw [<-sF] at og ⊢;have RB6:Hid (w6.heap[B]? =some (.cells #[U al lg.length cl,J aW,J next,U (some ⟨g,0,none⟩) L.length co] 29 (0,0))):=I (bJ RB5.o (by rw [sF];exact dS w5 ⟨g,k*4+3,none⟩ _) (fun e=>by
    rcases HRR.o.ok.off (i:=0) (j:=2) rfl rfl ε with h|h
    ·cases h
    ·exact h e))
   have HZ6:Hid (w.heap.size<=w6.heap.size):=I (by rw [sF];have:=G3.o.size;have:=wW.o.size;simp at*;omega);clear sF e3 ef zg5;have HK6:Hid ((L.set k (⟨q.aJ,q.aH,q.dec,q.aZ++ [aU]⟩,Value.slice a5 (q.aZ.length+1) c5))[k]? =some (⟨q.aJ,q.aH,q.dec,q.aZ++ [aU]⟩,Value.slice a5 (q.aZ.length+1) c5)):=I (List.getElem?_set_self Wh.o);have EN:Hid (HR wz w6 B (U al lg.length cl) (U (some ⟨g,0,none⟩) L.length co) lg (L.set k (⟨q.aJ,q.aH,q.dec,q.aZ++ [aU]⟩,Value.slice a5 (q.aZ.length+1) c5))):=I og.o;clear og;obtain⟨g6,vp6,e6,JI,zg6,d0,d1,d2,d3,-,IT,-⟩:=EN.o.at_ σ HK6.o;obtain rfl:g=g6:=by simpa using e6
   obtain⟨a6,c6,rfl,-⟩:=id IT;dsimp only at d0 d1 d2 d3 IT;have HP6:=I (IT.mono (iO _ _ _));have HS:Hid (∀W,aK w6 W->W.cell? ⟨g,k*4+3,none⟩=some (U a5 (q.aZ.length+1) c5)/\W.cell? ⟨g,k*4+1,none⟩=some (U a6 q.aH.length c6)):=fun W hW=>⟨hW.sub _ _ d3,hW.sub _ _ d1⟩;have HMP:Hid ((L.set k (⟨q.aJ,q.aH,q.dec,q.aZ++ [aU]⟩,Value.slice a5 (q.aZ.length+1) c5)).map (·.1)=(L.map (·.1)).take k++([⟨q.aJ,q.aH,q.dec,q.aZ++ [aU]⟩]++(L.map (·.1)).drop (k+1))):=I (by rw [List.map_set,List.set_eq_take_append_cons_drop,bC (by simpa using Wh.o)];rfl);clear e6 JI zg6 d0 d1 d2 d3 IT;by_cases hall:q.aZ.length+1=(dB q.aH).length
   ·have MJ:=I hall
    have hdn:(q.aZ.length+1==(dB q.aH).length)=true:=by simp [hall]
    have hdi:((q.aZ.length:Int)+1==((dB q.aH).length:Int))=true:=by simp;omega
    clear hall;have XC:=I (fun(W:World) (hs:Sl Ty.pt W.cell? (U a6 q.aH.length c6) q.aH)=>lG W hs (τ Dk.o.len) Dk.o.ne Dk.o.lt);refine Gq (fun w'=>w'.cell? ⟨g,k*4+3,none⟩=some (U a5 (q.aZ.length+1) c5)/\w'.cell? ⟨g,k*4+1,none⟩=some (U a6 q.aH.length c6)) [11] κ ?_;intro wd GD zD;clear zD;refine pF [0,1,2,3,4,5,6,7,8] 14 κ (fun _ _ _ _ _ h=>h) (HS.o _ GD) ?_;repeat (refine jm ?_;try simp only [bT])
    refine pG ?_;refine kS 9 κ rfl ?_;intro K M;try simp only [dD]
    go_simp;go_at_call 103
    refine(XC.o _ (HP6.o.mono (GD).sub)).mono ?_;rintro e w8 ⟨v8,rfl,nT,lD⟩;obtain⟨a8,c8,rfl⟩:=dG nT;have G8:=I (aK.trans GD lD);clear nT lD;refine ψ M (.inr (HS.o _ G8.o)) ?_;try simp only [bT]
    refine pF [10] 14 κ (fun _ _ _ _ _ h=>h) (HS.o _ G8.o) ?_;repeat (refine jm ?_;try simp only [bT])
    refine pG ?_;refine kS 11 κ rfl ?_;intro K M;try simp only [dD]
    go_simp;refine ψ M (.inl ε) ?_;try simp only [bT]
    refine Bf κ ?_;have RB8:=I (aF RB6.o G8.o);have AS:=I (EN.o.dL G8.o);obtain⟨e0,-,-,-⟩:=aT RB8.o;obtain⟨g7,vp7,e7,-,-,d0,-,-,-,-,-,-⟩:=AS.o.at_ σ HK6.o;obtain rfl:g=g7:=by simpa using e7
    dsimp only at d0;have d1:=(HS.o _ G8.o).2;have Ko:Hid (∀W,aK w8 W->W.cell? ⟨B,0,none⟩=some (U al lg.length cl)/\W.cell? ⟨g,k*4,none⟩=some (J q.aJ)):=fun W hW=>⟨hW.sub _ _ e0,hW.sub _ _ d0⟩;clear e7 e0 d0 d1;go_upto_region 4 with fail
    refine Gq (fun w'=>w'.cell? ⟨B,0,none⟩=some (U al lg.length cl)/\w'.cell? ⟨g,k*4,none⟩=some (J q.aJ)) [14] κ ?_;intro wd GD zD;clear zD;refine pF [0,1,2,3,4,5,6,7,8] 17 κ (fun _ _ _ _ _ h=>h) (Ko.o _ GD) ?_;repeat (refine jm ?_;try simp only [bT])
    refine pG ?_;refine pF [9] 17 κ (fun _ _ _ _ _ h=>h) (Ko.o _ GD) ?_;repeat (refine jm ?_;try simp only [bT])
    refine pG ?_;refine kS 10 κ rfl ?_;intro K M;try simp only [dD]
    go_simp;obtain⟨yt,OT⟩:=χ (wd.alloc (.cells #[J 6,J q.aJ,()] 79));have lX:Hid (aK w8 yt):=I (by rw [OT];exact(GD).alloc _);have Rx:=I (EN.o.dL (G8.o.trans lX.o));have yD:Hid (Src Ty.rc (fr wz yt (hro B (U al lg.length cl) (U (some ⟨g,0,none⟩) L.length co) (L.set k (⟨q.aJ,q.aH,q.dec,q.aZ++ [aU]⟩,Value.slice a5 (q.aZ.length+1) c5)))) yt (U (some ⟨wd,0,none⟩) 1 1) [(⟨6,q.aJ,[]⟩:Rc)]):=I (by rw [OT];exact Src.dU (T:=Ty.rc) (x:=(⟨6,q.aJ,[]⟩:Rc)) (cs:=#[J 6,J q.aJ,()]) ⟨_,rfl,(show I64 6 from by unfold I64;decide),HI0.o,Sl.nil _ _⟩ _ _ rfl);rw [<-OT];clear OT;refine ψ M (.inr (Ko.o _ lX.o)) ?_;try simp only [bT]
    refine kS 11 κ rfl ?_;intro K M;refine aY rfl ?_;try simp only [dD]
    refine fP (c:=(fr wz yt (hro B (U al lg.length cl) (U (some ⟨g,0,none⟩) L.length co) (L.set k (⟨q.aJ,q.aH,q.dec,q.aZ++ [aU]⟩,Value.slice a5 (q.aZ.length+1) c5))))) (base:=wz.heap.size) (l:=lg) (m:=[(⟨6,q.aJ,[]⟩:Rc)]) (v:=U al lg.length cl) mX rfl jc ε (.tmp 62) (.tmp 68) rfl rfl Rx.o.bg rfl yD.o (by simp;omega) (by have:=EN.o.grow.size;have:=G8.o.size;have:=lX.o.size;omega) ?_;intro a9 c9 yT s_ RJ zY;have Nk:=I (Rx.o.logs RJ zY s_);have VA:=I RJ;have NB:Hid (some B≠(Value.slice al lg.length cl).ownBlock):=I (fun e=>by rcases EN.o.ok.off (i:=0) (j:=1) rfl rfl ε with h|h;exact absurd h σ;exact h e);have A0h:=I (bJ (aF RB6.o (G8.o.trans lX.o)) RJ NB.o);have NG:Hid (some g≠(Value.slice al lg.length cl).ownBlock):=I (fun e=>by rcases EN.o.ok.off (i:=2) (j:=1) rfl rfl ε with h|h;exact absurd h (by simp [Value.ownBlock]);exact h e);have IX:Hid (yT.cell? ⟨B,0,none⟩=some (U al lg.length cl)/\yT.cell? ⟨g,k*4,none⟩=some (J q.aJ)):=I (by
     have hs:=Ko.o yt lX.o;exact⟨VA.o.cell hs.1 NB.o,VA.o.cell hs.2 NG.o⟩)
    clear s_ RJ zY;refine ψ M (.inr (IX.o)) ?_;try simp only [bT]
    refine pF [12,13] 17 κ (fun _ _ _ _ _ h=>h) (IX.o) ?_;repeat (refine jm ?_;try simp only [bT])
    refine pG ?_;refine kS 14 κ rfl ?_;intro K M;refine aY rfl ?_;try simp only [dD]
    refine dF (.tmp 71) (.tmp 69) (v:=U a9 (lg.length+1) c9) (new:=#[U a9 (lg.length+1) c9,J aW,J next,U (some ⟨g,0,none⟩) L.length co]) rfl rfl ρ ρ A0h.o tH σ ρ ρ ?_;intro NY Vl Ew;refine ψ M (.inl ε) ?_;try simp only [bT]
    refine Bf κ ?_;have FZ:=I (Nk.o.box Ew);have Qa:=I Vl;have A0i:Hid (w.heap.size<=NY.heap.size):=I (by have:=HZ6.o;have:=G8.o.size;have:=lX.o.size;have:=VA.o.size;have:=Ew.size;omega);clear Vl Ew;have HF:Hid (BN q aU=([],[⟨6,q.aJ,[]⟩],[])):=I (by unfold BN;rw [bC ⟨HT.o.symm,HMM.o,fR.o⟩,bC MJ.o]);have Ou:=I (Nw (k:=k) FZ.o.IS (by simpa using Wh.o));rw [List.length_set,List.eraseIdx_set_eq] at Ou;have A0l:(k:Int)+1<=13:=by have:=Wh.o;omega
    have WJ:IntKind.i64.wrap ((k:Int)+1)=(k:Int)+1:=IntWalk.i64_in _ V;obtain⟨e0,e1,e2,e3⟩:=aT Qa.o;have zB:B<NY.heap.size:=(γ Qa.o);go_wp2_with fail
    refine Ou.o.mono ?_;rintro e yU ⟨rfl,A16,I1⟩;have tA:=I (FZ.o.erase (k:=k) (oH:=U (some ⟨g,0,none⟩) (L.length - 1) co) I1 rfl (by rw [List.eraseIdx_set_eq];exact A16));have A0j:=I (bJ Qa.o I1 (fun e=>by rcases EN.o.ok.off (i:=0) (j:=2) rfl rfl ε with h|h;exact absurd h σ;exact h e));have A28:Hid (w.heap.size<=yU.heap.size):=I (by have:=A0i.o;have:=I1.size;omega);clear A16 I1 e0 e1 e2 e3 zB Ou WJ A0l;go_wp2_with (first|(refine bY rfl (.tmp 82) (.tmp 80) (v:=U (some ⟨g,0,none⟩) (L.length - 1) co) (new:=#[U a9 (lg.length+1) c9,J aW,J next,U (some ⟨g,0,none⟩) (L.length - 1) co]) rfl rfl ρ ρ A0j.o iW σ ρ ρ ?_))
    intro CZ ZS AI;go_wp2;go_end0;have z1:=A28.o;have z2:=AI.size;refine⟨rfl,_,_,_,ZS,by rw [HF.o];exact tA.o.box AI,?_,by rw [HF.o];exact Sl.nil _ _,V⟩;rw [HF.o,List.eraseIdx_set_eq,List.eraseIdx_eq_take_drop_succ,List.map_append,List.map_take,List.map_drop];rfl
   ·have HNA:=I hall
    have hdn:(q.aZ.length+1==(dB q.aH).length)=false:=by simp [hall]
    have hdi:((q.aZ.length:Int)+1==((dB q.aH).length:Int))=false:=by simp;omega
    clear hall;have HF:Hid (BN q aU=([⟨q.aJ,q.aH,q.dec,q.aZ++ [aU]⟩],[],[])):=I (by unfold BN;rw [bC ⟨HT.o.symm,HMM.o,fR.o⟩,aV HNA.o]);have XC:=I (fun(W:World) (hs:Sl Ty.pt W.cell? (U a6 q.aH.length c6) q.aH)=>lG W hs (τ Dk.o.len) Dk.o.ne Dk.o.lt);refine Gq (fun w'=>w'.cell? ⟨g,k*4+3,none⟩=some (U a5 (q.aZ.length+1) c5)/\w'.cell? ⟨g,k*4+1,none⟩=some (U a6 q.aH.length c6)) [11] κ ?_;intro wd GD zD;clear zD;refine pF [0,1,2,3,4,5,6,7,8] 14 κ (fun _ _ _ _ _ h=>h) (HS.o _ GD) ?_;repeat (refine jm ?_;try simp only [bT])
    refine pG ?_;refine kS 9 κ rfl ?_;intro K M;try simp only [dD]
    go_simp;go_at_call 103
    refine(XC.o _ (HP6.o.mono (GD).sub)).mono ?_;rintro e w8 ⟨v8,rfl,nT,lD⟩;obtain⟨a8,c8,rfl⟩:=dG nT;have G8:=I (aK.trans GD lD);clear nT lD;refine ψ M (.inr (HS.o _ G8.o)) ?_;try simp only [bT]
    refine pF [10] 14 κ (fun _ _ _ _ _ h=>h) (HS.o _ G8.o) ?_;repeat (refine jm ?_;try simp only [bT])
    refine pG ?_;refine kS 11 κ rfl ?_;intro K M;try simp only [dD]
    go_simp;refine ψ M (.inl ε) ?_;try simp only [bT]
    refine Bf κ ?_;go_wp2;go_end0;exact⟨rfl,_,_,_,aF RB6.o G8.o,by rw [HF.o,List.append_nil];exact EN.o.dL G8.o,by rw [HF.o];exact HMP.o,by rw [HF.o];exact Sl.nil _ _,by have:=HZ6.o;have:=G8.o.size;omega⟩
  ·have hmb:decide (aU∈dB q.aH)=false:=decide_eq_false hm
   have HF:Hid (BN q aU=([q],[],[])):=I (by unfold BN;rw [aV (by simp [hm])]);clear hm;go_enter Tryz.func122,Tryz.ntmps122;go_wp2_with fail
   refine(yF.o _ (aG _)).mono ?_;rintro e w1 ⟨rfl,dZ⟩;have G1:=I dZ;rw [hnb];replace c1:=dZ.sub _ _ c1;clear dZ hnb c0 c2 c3 b0 b1 b2 b3;go_wp2_with fail
   refine(AL.o _ (HPs.o.mono G1.o.sub)).mono ?_;rintro e w2 ⟨v2,rfl,wS,gB⟩;obtain⟨a2,c2',rfl⟩:=dG wS;have HI2:=I (sU wS (mJ q.aH));have G2:=I (G1.o.trans gB);clear wS gB c1;go_wp2_with fail
   refine(iV (n:=aU) _ HI2.o).mono ?_;rintro e w3 ⟨rfl,fB⟩;have G3:=I (G2.o.trans fB);rw [hmb];clear fB hmb;go_wp2;refine dw (v:=.tuple #[]) (by simp [results,Tryz.results122,go_sem]) rfl ?_;exact⟨rfl,_,_,L,aF HRW.o G3.o,by rw [HF.o,List.append_nil];exact HRR.o.dL G3.o,by rw [HF.o];exact nK.o.symm,by rw [HF.o];exact Sl.nil _ _,(G3.o).size⟩
theorem Qb {m:Ms}:∀{l:List Opn},l.findIdx? (fun o=>o.aJ==m.aJ)=none->kV m l=none
 | [],_=>rfl
 |o::l,h=>by
  rw [List.findIdx?_cons] at h;split at h
  ·cases h
  ·rename_i hn
   rw [kV,aV (fun e=>hn (by simp [e])),Qb (by simpa using h)];rfl
theorem Qc {m:Ms}:∀{l:List Opn} {k:Nat} {q:Opn},l.findIdx? (fun o=>o.aJ==m.aJ)=some k->l[k]? =some q->kV m l=some (l.take k++((fK q m).1++l.drop (k+1)),(fK q m).2)/\q.aJ=m.aJ
 | [],_,_,h,_=>by simp at h
 |o::l,k,q,h,O=>by
  rw [List.findIdx?_cons] at h;split at h
  ·rename_i he
   obtain rfl:=bI h;obtain rfl:=bI O;have he':o.aJ=m.aJ:=by simpa using he
   exact⟨by rw [kV,bC he'];rfl,he'⟩
  ·rename_i hn
   cases k with
   |zero=>simp at h
   |succ k=>
    have h':l.findIdx? (fun o=>o.aJ==m.aJ)=some k:=by simpa using h
    obtain⟨e1,e2⟩:=Qc h' (by simpa using O);exact⟨by rw [kV,aV (fun e=>hn (by simp [e])),e1];rfl,e2⟩
theorem cY {o:Opn} {m:Ms} (h:m.aX=2):fK o m=Du o m.aU:=by
 unfold fK Du;rw [h];by_cases hd:o.dec=true
 ·simp [hd]
 ·have hd':o.dec=false:=by simpa using hd
  simp [hd'];try (split<;>rfl)
theorem c_ {o:Opn} {m:Ms} (h:m.aX=6):fK o m=BN o m.aU:=by
 unfold fK BN;rw [h];by_cases hd:o.dec=true
 ·simp [hd]
  try (split<;>rfl)
 ·have hd':o.dec=false:=by simpa using hd
  simp [hd']
theorem Ku {c:CM} {k d n:Int} (hk:I64 k) (hd:I64 d) (hn:I64 n) (w:World) {b:Nat} (hb:b<=w.heap.size):bK Ty.ms c (w.alloc (.cells #[J k,J d,J n,()] 85)) b 85 (U (some ⟨w,0,none⟩) 1 1) [⟨k,d,n,[]⟩]:=
 ⟨[[J k,J d,J n,()]],World.ownsRow_lit w #[J k,J d,J n,()] 1 hb ε rfl,rfl,fun i cs x a b=>by
  match i with
  |0=>
   simp only [List.getElem?_cons_zero,Option.some.injEq] at a b;subst a;subst b;exact⟨_,rfl,hk,hd,hn,Sl.nil _ _⟩
  |i+1=>simp at a⟩
theorem dC (o:Opn) (n:Int):(BN o n).2.2=[]:=by
 unfold BN;split
 ·split<;>rfl
 ·rfl
theorem VB (w:World) (B:Nat) (d:Int) (l:List Opn) (hc:w.cell? ⟨B,1,none⟩=some (J d)) (hB:B<w.heap.size):xw Tryz.prog Ty.bG qH w 119 #[.pointer (some ⟨B,0,none⟩)] l (fun o=>o.aJ==d) where
 ent:=fun args w=>by kernel_rfl
 say:=fun wx cs x hg _ hR=>by
  obtain⟨vp,vh,rfl,-,hp,hh⟩:=hR;obtain⟨ap,cp,rfl,-⟩:=hp;obtain⟨ah,ch,rfl,-⟩:=hh;have hBx:B<wx.heap.size:=Nat.lt_of_lt_of_le hB hg.size;have hc2:wx.cell? ⟨B,1,none⟩=some (J d):=hg.sub _ _ hc;clear hc;show Calls _ _ #[.agg #[J x.aJ,U ap x.aH.length cp,.bool x.dec,U ah x.aZ.length ch],.pointer (some ⟨B,0,none⟩)] _ _;go_enter Tryz.func119,Tryz.ntmps119;go_wp2;go_ret;exact⟨rfl,je⟩
def VD (w:World) (h:Hd) (m:Ms) (v1 v2:Value) (w':World):Prop:=Of Ty.hd (ov (fun _=>none) w w') v1 (gQ h m)/\Sl Ty.ms (ov (fun _=>none) w w') v2 (iQ h m)/\aK w w'
theorem HR.fin {w W:World} {B:Nat} {vl vo v2:Value} {h:Hd} {m:Ms} {lg:List Rc} {L:List AQ} (b:HR w W B vl vo lg L) (N:I64 h.aW) (Y:I64 h.next) (he:gQ h m=⟨lg,h.aW,h.next,L.map (·.1)⟩) (hm:Sl Ty.ms (ov (fun _=>none) w W) v2 (iQ h m)):VD w h m (.agg #[vl,J h.aW,J h.next,vo]) v2 W:=
 ⟨by rw [he];exact b.of N Y,hm,b.grow⟩
structure Zd (h:Hd):Prop where
 aH:∀o∈h.bG,OQ o.aH
 few:∀o∈h.bG,∀n,n∈dB o.aH->n∉o.aZ->o.aZ.length+1<=(dB o.aH).length
 logp:∀r∈h.bg,r.aH.length*24<=140737488355328
theorem XD {v vm:Value} {h:Hd} {m:Ms} (w:World) (hv:Of Ty.hd w.cell? v h) (hm:Of Ty.ms w.cell? vm m) (hk:FK h) (hi:Zd h):
  Calls Tryz.prog 79 #[v,vm] w fun e w'=>∃v1 v2,e=.returned (.tuple #[v1,v2])/\VD w h m v1 v2 w':=by
 obtain⟨al,cl,ar,cr,rfl⟩:=hv.iw;have FN:Hid (I64 m.aX/\I64 m.aJ/\I64 m.aU):=I (by obtain⟨cs,he,vp,rfl,i0,i1,i2,-⟩:=hm;exact⟨i0,i1,i2⟩);obtain⟨ap,cp,rfl⟩:=hm.ny;have rG:Hid (I64 h.aW/\I64 h.next):=I (by obtain⟨cs,he,_,_,rfl,_,N,Y,_⟩:=hv;exact⟨N,Y⟩);have HOW:=I (fun(W:World) (hW:aK w W)=>BK W (hv.mono hW.sub) hk hi.logp);have HKK:=I hk;have QP:=I hi;clear hk hv hi hm;obtain⟨wa,fZ⟩:=χ (w.alloc (.cells #[U al h.bg.length cl,J h.aW,J h.next,U ar h.bG.length cr] 29));obtain⟨wb,hwb⟩:=χ (wa.alloc (.cells #[J m.aX,J m.aJ,J m.aU,U ap m.aH.length cp] 85));obtain⟨wz,hwz⟩:=χ (wb.alloc (.cells #[(),J 0,J 0,()] 29));have hsa:wa.heap.size=w.heap.size+1:=by rw [fZ];simp
 have hsb:wb.heap.size=w.heap.size+2:=by rw [hwb];simp [hsa]
 have R1:Hid (wz.heap[w.heap.size]? =some (.cells #[U al h.bg.length cl,J h.aW,J h.next,U ar h.bG.length cr] 29 (0,0))):=I (by rw [hwz,hwb,fZ];exact bQ (bQ (bn _ _) _) _);have RM:Hid (wz.heap[w.heap.size+1]? =some (.cells #[J m.aX,J m.aJ,J m.aU,U ap m.aH.length cp] 85 (0,0))):=I (by rw [hwz,hwb,<-hsa];exact bQ (bn _ _) _);have R4:Hid (wz.heap[w.heap.size+2]? =some (.cells #[(),J 0,J 0,()] 29 (0,0))):=I (by rw [hwz,<-hsb];exact bn _ _);have G1:Hid (aK w wz):=I (by rw [hwz,hwb,fZ];exact(((aG w).alloc _).alloc _).alloc _);have HZ:Hid (wz.heap.size=w.heap.size+3):=I (by rw [hwz];simp [hsb]);go_enter Tryz.func79,Tryz.ntmps79;go_upto_region 1 with fail
 rw [<-fZ];try rw [hsa]
 rw [<-hwb];try rw [hsb]
 rw [<-hwz];clear fZ hwb hwz hsa hsb;obtain⟨c0,c1,c2,c3⟩:=aT R1.o;have z1:w.heap.size<wz:=(γ R1.o);go_wp2_with fail
 refine(HOW.o _ G1.o).mono ?_;rintro e w1 ⟨vl,vo,B0,L,rfl,hl,F9⟩;obtain⟨ag,cg,ao,co,rfl,rfl⟩:=F9.form;have HL:=I hl;have NV:=I F9;clear F9 hl c0 c1 c2 c3 z1;obtain⟨w2,rH⟩:=χ (w1.alloc (.cells #[U ag h.bg.length cg,J h.aW,J h.next,U ao L.length co] 29));obtain⟨B6,J7⟩:=χ w1.heap.size;have R6:Hid (w2.heap[B6]? =some (.cells #[U ag h.bg.length cg,J h.aW,J h.next,U ao L.length co] 29 (0,0))):=I (by rw [rH,J7];exact bn _ _);have HRR:Hid (HR wz w2 B6 (U ag h.bg.length cg) (U ao L.length co) h.bg L):=I (NV.o.Vx (by rw [rH];exact(aG _).alloc _) V (by rw [rH,J7];simp));have RM2:=I (aF RM.o HRR.o.grow);go_upto_region 2 with fail
 rw [<-rH,<-J7];clear rH J7;obtain⟨d0,d1,d2,d3⟩:=aT R6.o;obtain⟨m0,m1,m2,m3⟩:=aT RM2.o;have z6:B6<w2.heap.size:=(γ R6.o);have zm:w.heap.size+1<w2:=(γ RM2.o);have NU:=I (Dy (p:=fun o=>o.aJ==m.aJ) w2 (HRR.o.TW.slc (d:=w2.cell?) ε (fun a v e=>by unfold ov at e;split at e;cases e;exact e) fun _ _=>rfl) (VB w2 (w.heap.size+1) m.aJ _ m1 zm));rw [HL.o] at NU;go_wp2_with fail
 refine NU.o.mono ?_;rintro e w3 ⟨rfl,fB⟩;have qF:=I (HRR.o.dL fB);have A7:=I (aF R6.o fB);have RM3:=I (aF RM2.o fB);have gF:=I (aF R4.o qF.o.grow);have RMZ:=I RM.o;clear fB d0 d1 d2 d3 m0 m1 m2 m3 z6 zm NU R6 RM2 HRR NV R1 RM;have HS:Hid (∀W,aK w3 W->W.cell? ⟨B6,0,none⟩=some (U ag h.bg.length cg)/\W.cell? ⟨B6,1,none⟩=some (J h.aW)/\W.cell? ⟨B6,2,none⟩=some (J h.next)/\W.cell? ⟨B6,3,none⟩=some (U ao L.length co)/\W.cell? ⟨w+1,1,none⟩=some (J m.aJ)/\W.cell? ⟨w+1,2,none⟩=some (J m.aU)):=fun W hW=>by
  obtain⟨j0,j1,j2,j3⟩:=aT (aF A7.o hW);obtain⟨-,k1,k2,-⟩:=aT (aF RM3.o hW);exact⟨j0,j1,j2,j3,k1,k2⟩
 have Gw:Hid (wz.heap.size<=B6/\B6<w3.heap.size):=I (qF.o.ok.lt B6 (by simp [hro]));obtain⟨d0,d1,d2,d3⟩:=aT A7.o;obtain⟨m0,m1,m2,m3⟩:=aT RM3.o;have z6:B6<w3.heap.size:=(γ A7.o);have zm:w.heap.size+1<w3:=(γ RM3.o);have zr:w.heap.size+2<w3:=(γ gF.o);cases hfi:h.bG.findIdx? (fun o=>o.aJ==m.aJ) with
 |none=>
  have Z:idxOf (fun o:Opn=>o.aJ==m.aJ) h.bG= -1:=by rw [idxOf,hfi]
  have Am:=I (Qb hfi);have HE:Hid (gQ h m=⟨h.bg,h.aW,h.next,L.map (·.1)⟩):=I (by unfold gQ;rw [Am.o,HL.o]);rw [Z];clear Z hfi;by_cases hkd:m.aX=7
  ·have vC:Hid (iQ h m=[⟨5,m.aJ,m.aU,[]⟩]):=I (by unfold iQ;rw [Am.o,bC hkd])
   have KF:(m.aX==2)=false:=by simp [hkd]
   have L9:(m.aX==3)=false:=by simp [hkd]
   have hk6:(m.aX==6)=false:=by simp [hkd]
   have hk7:(m.aX==7)=true:=by simp [hkd]
   clear hkd;go_upto_region 13 with fail
   clear d0 d1 d2 d3 m0 m1 m2 m3 z6 zm zr;refine Gq (fun w'=>w'.cell? ⟨B6,0,none⟩=some (U ag h.bg.length cg)/\w'.cell? ⟨B6,1,none⟩=some (J h.aW)/\w'.cell? ⟨B6,2,none⟩=some (J h.next)/\w'.cell? ⟨B6,3,none⟩=some (U ao L.length co)/\w'.cell? ⟨w+1,1,none⟩=some (J m.aJ)/\w'.cell? ⟨w+1,2,none⟩=some (J m.aU)) [8] κ ?_;intro wd GD zD;clear zD;refine pF [0,1,2,3,4,5] 11 κ (fun _ _ _ _ _ h=>h) (HS.o _ GD) ?_;repeat (refine jm ?_;try simp only [bT])
   refine pG ?_;refine RE 6 7 κ rfl rfl ?_ ?_
   ·intro K M
    try simp only [dD]
    go_simp;obtain⟨wy,hwy⟩:=χ (wd.alloc (.cells #[J 5,J m.aJ,J m.aU,()] 85));obtain⟨BY,XE⟩:=χ wd.heap.size;have PZ:Hid (bK Ty.ms (fun _=>none) wy wz.heap.size 85 (U (some ⟨BY,0,none⟩) 1 1) [⟨5,m.aJ,m.aU,[]⟩]):=I (by rw [hwy,XE];exact Ku (by unfold I64;decide) FN.o.2.1 FN.o.2.2 _ (by have:=Gw.o;have:=GD.size;omega));have GY:aK wd wy:=by rw [hwy];exact(aG _).alloc _
    rw [<-hwy,<-XE];clear hwy XE;refine ψ M (.inr (HS.o _ (GD.trans GY))) ?_;try simp only [bT]
    refine kS 7 κ rfl ?_;intro K M;refine aY rfl ?_;try simp only [dD]
    refine b_ (.tmp 4) (.tmp 85) rfl rfl rfl (aF gF.o (GD.trans GY)) eY rfl rfl ?_;intro w7 r7 g7;have JR:=I ((qF.o.dL (GD.trans GY)).past G1.o g7 (τ HZ.o));have I2:=I (bJ (aF A7.o (GD.trans GY)) g7 (fun e=>by have:=bI e;have:=Gw.o;have:=HZ.o;omega));have I3:=I (bJ (aF RM3.o (GD.trans GY)) g7 iP);have A0m:=I (PZ.o.kept g7 (qj fun q O=>by have:=(PZ.o.lt q O).1;have:=HZ.o;omega));obtain⟨p0,p1,p2,p3⟩:=aT r7;refine ψ M (.inr (by obtain⟨j0,j1,j2,j3⟩:=aT I2.o;obtain⟨-,k1,k2,-⟩:=aT I3.o;exact⟨j0,j1,j2,j3,k1,k2⟩)) ?_;try simp only [bT]
    refine kS 8 κ rfl ?_;intro K M;try simp only [dD]
    go_simp;refine ψ M (.inl ε) ?_;try simp only [bT]
    refine Bf κ ?_;go_wp2;refine dw (v:=.tuple #[.agg #[U ag h.bg.length cg,J h.aW,J h.next,U ao L.length co],U (some ⟨BY,0,none⟩) 1 1]) (by simp [results,Tryz.results79,go_sem,p0,p1,p2,p3]) rfl ?_;exact⟨_,_,rfl,JR.o.fin rG.o.1 rG.o.2 HE.o (by rw [vC.o];exact A0m.o.slc ε (fun _ _ e=>by cases e) fun a ha=>dY (τ HZ.o))⟩
   ·intro K M
    refine aY rfl ?_;try simp only [dD]
    refine b_ (.tmp 4) (.tmp 85) rfl rfl rfl (aF gF.o GD) eY rfl rfl ?_;intro w7 r7 g7;have JR:=I ((qF.o.dL GD).past G1.o g7 (τ HZ.o));have I2:=I (bJ (aF A7.o GD) g7 (fun e=>by have:=bI e;have:=Gw.o;have:=HZ.o;omega));have I3:=I (bJ (aF RM3.o GD) g7 iP);refine ψ M (.inr (by obtain⟨j0,j1,j2,j3⟩:=aT I2.o;obtain⟨-,k1,k2,-⟩:=aT I3.o;exact⟨j0,j1,j2,j3,k1,k2⟩)) ?_;try simp only [bT]
    refine kS 6 κ rfl ?_;intro K M;try simp only [dD]
    go_simp;obtain⟨wy,hwy⟩:=χ (w7.alloc (.cells #[J 5,J m.aJ,J m.aU,()] 85));obtain⟨BY,XE⟩:=χ w7.heap.size;have PZ:Hid (bK Ty.ms (fun _=>none) wy wz.heap.size 85 (U (some ⟨BY,0,none⟩) 1 1) [⟨5,m.aJ,m.aU,[]⟩]):=I (by rw [hwy,XE];exact Ku (by unfold I64;decide) FN.o.2.1 FN.o.2.2 _ (by have:=Gw.o;have:=GD.size;have:=g7.size;omega));have GY:aK w7 wy:=by rw [hwy];exact(aG _).alloc _
    rw [<-hwy,<-XE];clear hwy XE;have OE:=I (JR.o.dL GY);obtain⟨p0,p1,p2,p3⟩:=aT (aF r7 GY);refine ψ M (.inr (by obtain⟨j0,j1,j2,j3⟩:=aT (aF I2.o GY);obtain⟨-,k1,k2,-⟩:=aT (aF I3.o GY);exact⟨j0,j1,j2,j3,k1,k2⟩)) ?_;try simp only [bT]
    refine kS 8 κ rfl ?_;intro K M;try simp only [dD]
    go_simp;refine ψ M (.inl ε) ?_;try simp only [bT]
    refine Bf κ ?_;go_wp2;refine dw (v:=.tuple #[.agg #[U ag h.bg.length cg,J h.aW,J h.next,U ao L.length co],U (some ⟨BY,0,none⟩) 1 1]) (by simp [results,Tryz.results79,go_sem,p0,p1,p2,p3]) rfl ?_;exact⟨_,_,rfl,OE.o.fin rG.o.1 rG.o.2 HE.o (by rw [vC.o];exact PZ.o.slc ε (fun _ _ e=>by cases e) fun a ha=>dY (τ HZ.o))⟩
  ·have vC:Hid (iQ h m=[]):=I (by unfold iQ;rw [Am.o,aV hkd])
   have hk7:(m.aX==7)=false:=by simp [hkd]
   have hcs:m.aX=2∨m.aX=3∨m.aX=6∨(m.aX≠2/\m.aX≠3/\m.aX≠6):=by omega
   obtain⟨b2,b3,b6,KF,L9,hk6,hb⟩:∃b2 b3 b6:Bool,(m.aX==2)=b2/\(m.aX==3)=b3/\(m.aX==6)=b6/\((b2=true/\b3=false/\b6=false)∨(b2=false/\b3=true/\b6=false)∨(b2=false/\b3=false/\b6=true)∨(b2=false/\b3=false/\b6=false)):=
    ⟨_,_,_,rfl,rfl,rfl,by rcases hcs with h|h|h|⟨h,h',h''⟩<;>simp [*]⟩
   clear hkd hcs;rcases hb with⟨rfl,rfl,rfl⟩|⟨rfl,rfl,rfl⟩|⟨rfl,rfl,rfl⟩|⟨rfl,rfl,rfl⟩
   all_goals
    go_upto_region 16 with fail
    go_wp2_with (first|(refine aQ rfl (.tmp 4) (.tmp 111) rfl rfl rfl gF.o eY rfl rfl ?_))
    intro w7 r7 g7;obtain⟨p0,p1,p2,p3⟩:=aT r7;go_wp2;refine dw (v:=.tuple #[.agg #[U ag h.bg.length cg,J h.aW,J h.next,U ao L.length co],()]) (by simp [results,Tryz.results79,go_sem,p0,p1,p2,p3]) rfl ?_;exact⟨_,_,rfl,(qF.o.past G1.o g7 (τ HZ.o)).fin rG.o.1 rG.o.2 HE.o (by rw [vC.o];exact Sl.nil _ _)⟩
 |some k=>
  have Z:idxOf (fun o:Opn=>o.aJ==m.aJ) h.bG=k:=by rw [idxOf,hfi]
  have hkl:k<h.bG.length:=(List.findIdx?_eq_some_iff_getElem.1 hfi).1;have hLl:L.length=h.bG.length:=by rw [<-HL.o];simp
  obtain⟨x,hxk⟩:∃x,L[k]? =some x:=⟨_,dM V⟩;have O:h.bG[k]? =some x.1:=by rw [<-HL.o,List.getElem?_map,hxk];rfl
  obtain⟨hln,hdd⟩:=Qc hfi O;have FG:=I (List.mem_of_getElem? O);have gE:Hid (gQ h m={ h with bG:=h.bG.take k++((fK x.1 m).1++h.bG.drop (k+1)),bg:=h.bg++(fK x.1 m).2.1 }):=I (by unfold gQ;rw [hln]);have O0:Hid (iQ h m=(fK x.1 m).2.2):=I (by unfold iQ;rw [hln]);have VE:Hid (h.bG.take k++([x.1]++h.bG.drop (k+1))=L.map (·.1)):=I (by
   have e2:h.bG[k]=x.1:=(List.getElem?_eq_some_iff.1 O).2;rw [<-e2,List.singleton_append,<-List.drop_eq_getElem_cons hkl,List.take_append_drop,HL.o])
  have HXK:=I hxk;have cI:=I hdd;have Wh:=I hkl;have Et:=I hLl;have Dk:=I (QP.o.aH _ FG.o);have N0:=I (QP.o.few _ FG.o m.aU);have T9:=HKK.o.bG;rw [Z];clear Z hfi O hln hdd hxk hLl;have Gj:(0:Int)<=(k:Int):=by omega
  by_cases hkd:m.aX=2
  ·have KF:(m.aX==2)=true:=by simp [hkd]
   have L9:(m.aX==3)=false:=by simp [hkd]
   have hk6:(m.aX==6)=false:=by simp [hkd]
   have hk7:(m.aX==7)=false:=by simp [hkd]
   have Qd:Hid (fK x.1 m=Du x.1 m.aU):=I (cY hkd);clear hkd;have A0n:Hid (h.bg.length<=100000):=I HKK.o.bg;go_wp2_with fail
   refine(sY (aU:=m.aU) w3 qF.o A7.o HXK.o Dk.o FN.o.2.2 A0n.o (τ Et.o) (HKK.o.aZ _ FG.o) N0.o).mono ?_;rintro e w4 ⟨v4,rfl,vl4,vo4,L4,r4,Wi,hmp,hms,hsz⟩;obtain⟨ag4,cg4,JD,JE,rfl,rfl⟩:=Wi.form;obtain⟨a4,c4,rfl,-⟩:=id hms;have Eb:=I Wi;have HMP:=I hmp;have vC:=I hms;have J3:=I hsz;have I6:=I r4;have V9:=I (aF R4.o Wi.grow);clear Wi hmp hms hsz r4;clear d0 d1 d2 d3 m0 m1 m2 m3 z6 zm zr;obtain⟨d0,d1,d2,d3⟩:=aT I6.o;have z6:B6<w4.heap.size:=(γ I6.o);have zr:w.heap.size+2<w4:=(γ V9.o);generalize e_:h.bg++(Du x.1 m.aU).2.1=lg4 at*;have G_:=I e_;clear e_;generalize hmq:(Du x.1 m.aU).2.2=ms4 at*;have tD:=I hmq;clear hmq;go_wp2_with (first|(refine aQ rfl (.tmp 4) (.tmp 28) rfl rfl rfl V9.o eY rfl rfl ?_))
   intro w7 r7 g7;obtain⟨p0,p1,p2,p3⟩:=aT r7;go_wp2;refine dw (v:=.tuple #[.agg #[U ag4 lg4.length cg4,J h.aW,J h.next,U JD L4.length JE],U a4 ms4.length c4]) (by simp [results,Tryz.results79,go_sem,p0,p1,p2,p3]) rfl ?_;have z:=HZ.o;have z2:=Gw.o;have z3:=J3.o;refine⟨_,_,rfl,(Eb.o.past G1.o g7 V).fin rG.o.1 rG.o.2 (by rw [gE.o,Qd.o,G_.o,<-HL.o,<-HMP.o]) ?_⟩;rw [O0.o,Qd.o,tD.o];refine Sl.mono (fun a v e=>?_) vC.o;unfold ov at e;split at e
   ·cases e
   ·rw [dY V,fM g7 (eH w4 a e) V];exact e
  have A0o:=hkd;clear hkd;by_cases hkd:m.aX=6
  ·have KF:(m.aX==2)=false:=by simp [hkd]
   have L9:(m.aX==3)=false:=by simp [hkd]
   have hk6:(m.aX==6)=true:=by simp [hkd]
   have hk7:(m.aX==7)=false:=by simp [hkd]
   have Qd:Hid (fK x.1 m=BN x.1 m.aU):=I (c_ hkd);clear hkd;have A0n:Hid (h.bg.length<=100000):=I HKK.o.bg;go_wp2_with fail
   refine(tB (aU:=m.aU) w3 qF.o A7.o HXK.o Dk.o FN.o.2.2 A0n.o (τ Et.o) (HKK.o.aZ _ FG.o) N0.o).mono ?_;rintro e w4 ⟨rfl,vl4,vo4,L4,r4,Wi,hmp,-,hsz⟩;obtain⟨ag4,cg4,JD,JE,rfl,rfl⟩:=Wi.form;have Eb:=I Wi;have HMP:=I hmp;have J3:=I hsz;have I6:=I r4;have V9:=I (aF R4.o Wi.grow);have O2:Hid (w4.heap[w.heap.size+1]? =some (.cells #[J m.aX,J m.aJ,J m.aU,U ap m.aH.length cp] 85 (0,0))):=I (aF RMZ.o Wi.grow);clear Wi hmp hsz r4;clear d0 d1 d2 d3 m0 m1 m2 m3 z6 zm zr;obtain⟨d0,d1,d2,d3⟩:=aT I6.o;have z6:B6<w4.heap.size:=(γ I6.o);have zr:w.heap.size+2<w4:=(γ V9.o);obtain⟨m0,m1,m2,m3⟩:=aT O2.o;have zm:w.heap.size+1<w4:=(γ O2.o);generalize e_:h.bg++(BN x.1 m.aU).2.1=lg4 at*;have G_:=I e_;clear e_;go_upto_region 16 with fail
   go_wp2_with (first|(refine aQ rfl (.tmp 4) (.tmp 111) rfl rfl rfl V9.o eY rfl rfl ?_))
   intro w7 r7 g7;obtain⟨p0,p1,p2,p3⟩:=aT r7;go_wp2;refine dw (v:=.tuple #[.agg #[U ag4 lg4.length cg4,J h.aW,J h.next,U JD L4.length JE],()]) (by simp [results,Tryz.results79,go_sem,p0,p1,p2,p3]) rfl ?_;have z:=HZ.o;have z2:=Gw.o;have z3:=J3.o;refine⟨_,_,rfl,(Eb.o.past G1.o g7 V).fin rG.o.1 rG.o.2 (by rw [gE.o,Qd.o,G_.o,<-HL.o,<-HMP.o]) ?_⟩;rw [O0.o,Qd.o,dC];exact Sl.nil _ _
  obtain⟨q,xv⟩:=x;dsimp only at FG gE O0 VE cI Dk N0;obtain⟨g,vp,e1,SM,Wu,g0,g1,g2,g3,-,hP,-⟩:=qF.o.at_ rfl HXK.o;subst e1;obtain⟨a7,c7,rfl,-⟩:=id hP;dsimp only at g0 g1 g2 g3 hP;have HP:=I hP;have A0p:=I A0o;have A0q:=I hkd;have KF:(m.aX==2)=false:=by simp [A0o]
  have hk6:(m.aX==6)=false:=by simp [hkd]
  obtain⟨t,ht⟩:=χ q.dec;rw [<-ht] at g2;have HT:=I ht;have A29:k<L.length:=by have:=Et.o;have:=Wh.o;omega
  clear ht A0o g0 g3 hP;clear hkd;by_cases hkd:m.aX=3
  ·have L9:(m.aX==3)=true:=by simp [hkd]
   have hk7:(m.aX==7)=false:=by simp [hkd]
   cases t with
   |true=>
    have Qd:Hid (fK q m=([q],[],[])):=I (by unfold fK;rw [aV (by rw [hkd];simp),aV (by rw [<-HT.o];simp),aV (by rw [hkd];simp),aV (by rw [hkd];simp)]);have HE:Hid (gQ h m=⟨h.bg,h.aW,h.next,L.map (·.1)⟩):=I (by rw [gE.o,Qd.o,List.append_nil,VE.o]);have vC:Hid (iQ h m=[]):=I (by rw [O0.o,Qd.o]);clear hkd g1;go_upto_region 16 with fail
    go_wp2_with (first|(refine aQ rfl (.tmp 4) (.tmp 111) rfl rfl rfl gF.o eY rfl rfl ?_))
    intro w7 r7 g7;obtain⟨p0,p1,p2,p3⟩:=aT r7;go_wp2;refine dw (v:=.tuple #[.agg #[U ag h.bg.length cg,J h.aW,J h.next,U (some ⟨g,0,none⟩) L.length co],()]) (by simp [results,Tryz.results79,go_sem,p0,p1,p2,p3]) rfl ?_;exact⟨_,_,rfl,(qF.o.past G1.o g7 (τ HZ.o)).fin rG.o.1 rG.o.2 HE.o (by rw [vC.o];exact Sl.nil _ _)⟩
   |false=>
    have Qd:Hid (fK q m=([],[],fU q.aJ q.aH)):=I (by unfold fK;rw [aV (by rw [hkd];simp),bC ⟨hkd,HT.o.symm⟩]);have Ou:=I (Nw (k:=k) qF.o.bG (by have:=Et.o;have:=Wh.o;omega));have A0l:(k:Int)+1<=13:=by have:=Wh.o;omega
    have WJ:IntKind.i64.wrap ((k:Int)+1)=(k:Int)+1:=IntWalk.i64_in _ V;clear hkd;go_upto_region 8 with fail
    go_wp2_with fail
    (with_reducible refine Ou.o.mono ?_)
    rintro e w4 ⟨rfl,vO,MT⟩;have HN4:=I (qF.o.erase (k:=k) (oH:=U (some ⟨g,0,none⟩) (L.length - 1) co) MT rfl vO);have rE:Hid (some B6≠some g):=I (fun e=>by rcases qF.o.ok.off (i:=0) (j:=2) rfl rfl ε with h|h;exact absurd h σ;exact h e);have I6:=I (bJ A7.o MT rE.o);have O2:=I (aF RMZ.o HN4.o.grow);have HP4:=I (HP.o.mono (jV fun p hp h0 Z=>⟨MT.block p hp (fun e=>Z (by rw [e];simp [hro,Value.ownBlock])),Z⟩));clear vO MT Ou WJ A0l A29 d0 d1 d2 d3 m0 m1 m2 m3 z6 zm zr g1 g2;obtain⟨d0,d1,d2,d3⟩:=aT I6.o;have z6:B6<w4.heap.size:=(γ I6.o);go_wp2_with (first|(refine bY rfl (.tmp 59) (.tmp 58) (v:=U (some ⟨g,0,none⟩) (L.length - 1) co) (new:=#[U ag h.bg.length cg,J h.aW,J h.next,U (some ⟨g,0,none⟩) (L.length - 1) co]) rfl rfl ρ ρ I6.o iW σ ρ ρ ?_))
    intro w5 r5 g5;have HN5:=I (HN4.o.box g5);have R65:=I r5;have RM5:=I (aF RMZ.o HN5.o.grow);have OI:=I (aF R4.o HN5.o.grow);have HP5:=I ((HP4.o.mono (jV fun p hp h0 Z=>⟨g5.block p hp (fun e=>Z (by rw [e];simp [hro])),Z⟩)).mono (iO _ _ _));have HAB:=I (fun(W:World) (hW:aK w5 W)=>JC (d:=m.aJ) W (HP5.o.mono hW.sub) FN.o.2.1 Dk.o);clear HS r5 g5 d0 d1 d2 d3 z6;have HS:Hid (∀W,aK w5 W->W.cell? ⟨B6,0,none⟩=some (U ag h.bg.length cg)/\W.cell? ⟨B6,1,none⟩=some (J h.aW)/\W.cell? ⟨B6,2,none⟩=some (J h.next)/\W.cell? ⟨B6,3,none⟩=some (U (some ⟨g,0,none⟩) (L.length - 1) co)/\W.cell? ⟨w+1,1,none⟩=some (J m.aJ)):=fun W hW=>by
     obtain⟨j0,j1,j2,j3⟩:=aT (aF R65.o hW);obtain⟨-,k1,-,-⟩:=aT (aF RM5.o hW);exact⟨j0,j1,j2,j3,k1⟩
    go_upto_region 9 with fail
    refine Gq (fun w'=>w'.cell? ⟨B6,0,none⟩=some (U ag h.bg.length cg)/\w'.cell? ⟨B6,1,none⟩=some (J h.aW)/\w'.cell? ⟨B6,2,none⟩=some (J h.next)/\w'.cell? ⟨B6,3,none⟩=some (U (some ⟨g,0,none⟩) (L.length - 1) co)/\w'.cell? ⟨w+1,1,none⟩=some (J m.aJ)) [5,6] κ ?_;intro wd GD zD;clear zD;refine pF [0,1,2,3] 9 κ (fun _ _ _ _ _ h=>h) (HS.o _ GD) ?_;repeat (refine jm ?_;try simp only [bT])
    refine pG ?_;refine kS 4 κ rfl ?_;intro K M;try simp only [dD]
    go_simp;go_at_call 86
    refine(HAB.o _ GD).mono ?_;rintro e w6 ⟨v6,rfl,tZ,nS⟩;obtain⟨a6,c6,rfl⟩:=tZ.form;have Gm:=I tZ;have G6:=I (aK.trans GD nS);clear tZ nS;generalize hmq:fU m.aJ q.aH=ms4 at*;have tD:=I hmq;clear hmq;refine ψ M (.inr (HS.o _ G6.o)) ?_;try simp only [bT]
    refine kS 5 κ rfl ?_;intro K M;refine aY rfl ?_;try simp only [dD]
    refine b_ (.tmp 4) (.tmp 60) rfl rfl rfl (aF OI.o G6.o) eY rfl rfl ?_;intro w7 r7 g7;obtain⟨p0,p1,p2,p3⟩:=aT r7;refine ψ M (.inl ε) ?_;try simp only [bT]
    refine kS 6 κ rfl ?_;intro K M;try simp only [dD]
    go_simp;refine ψ M (.inl ε) ?_;try simp only [bT]
    refine Bf κ ?_;go_wp2;refine dw (v:=.tuple #[.agg #[U ag h.bg.length cg,J h.aW,J h.next,U (some ⟨g,0,none⟩) (L.length - 1) co],U a6 ms4.length c6]) (by simp [results,Tryz.results79,go_sem,p0,p1,p2,p3]) rfl ?_;have z:=HZ.o;refine⟨_,_,rfl,((HN5.o.dL G6.o).past G1.o g7 V).fin rG.o.1 rG.o.2 ?_ ?_⟩
    ·rw [gE.o,Qd.o,List.append_nil,List.eraseIdx_eq_take_drop_succ,List.map_append,List.map_take,List.map_drop,HL.o];rfl
    ·rw [O0.o,Qd.o,cI.o,tD.o]
     have z5:=HN5.o.grow.size;have z6:=GD.size;exact(Gm.o.kept g7 (qj fun p hp=>by have:=(Gm.o.lt p hp).1;omega)).slc ε (fun _ _ e=>by cases e) fun a ha=>dY V
  have L9:(m.aX==3)=false:=by simp [hkd]
  have A0r:=I hkd;clear hkd;by_cases hkd:m.aX=7
  ·have hk7:(m.aX==7)=true:=by simp [hkd]
   cases t with
   |true=>
    have Qd:Hid (fK q m=([q],[],[⟨4,m.aJ,m.aU,[]⟩])):=I (by unfold fK;rw [aV (fun e=>A0p.o e.1),aV (fun e=>A0r.o e.1),aV (fun e=>A0q.o e.1),bC ⟨hkd,HT.o.symm⟩]);have HE:Hid (gQ h m=⟨h.bg,h.aW,h.next,L.map (·.1)⟩):=I (by rw [gE.o,Qd.o,List.append_nil,VE.o]);have vC:Hid (iQ h m=[⟨4,m.aJ,m.aU,[]⟩]):=I (by rw [O0.o,Qd.o]);clear hkd g1;go_upto_region 15 with fail
    clear g2 SM Wu;clear d0 d1 d2 d3 m0 m1 m2 m3 z6 zm zr;refine Gq (fun w'=>w'.cell? ⟨B6,0,none⟩=some (U ag h.bg.length cg)/\w'.cell? ⟨B6,1,none⟩=some (J h.aW)/\w'.cell? ⟨B6,2,none⟩=some (J h.next)/\w'.cell? ⟨B6,3,none⟩=some (U (some ⟨g,0,none⟩) L.length co)/\w'.cell? ⟨w+1,1,none⟩=some (J m.aJ)/\w'.cell? ⟨w+1,2,none⟩=some (J m.aU)) [8] κ ?_;intro wd GD zD;clear zD;refine pF [0,1,2,3,4,5] 11 κ (fun _ _ _ _ _ h=>h) (HS.o _ GD) ?_;repeat (refine jm ?_;try simp only [bT])
    refine pG ?_;refine RE 6 7 κ rfl rfl ?_ ?_
    ·intro K M
     try simp only [dD]
     go_simp;obtain⟨wy,hwy⟩:=χ (wd.alloc (.cells #[J 4,J m.aJ,J m.aU,()] 85));obtain⟨BY,XE⟩:=χ wd.heap.size;have PZ:Hid (bK Ty.ms (fun _=>none) wy wz.heap.size 85 (U (some ⟨BY,0,none⟩) 1 1) [⟨4,m.aJ,m.aU,[]⟩]):=I (by rw [hwy,XE];exact Ku (by unfold I64;decide) FN.o.2.1 FN.o.2.2 _ (by have:=Gw.o;have:=GD.size;omega));have GY:aK wd wy:=by rw [hwy];exact(aG _).alloc _
     rw [<-hwy,<-XE];clear hwy XE;refine ψ M (.inr (HS.o _ (GD.trans GY))) ?_;try simp only [bT]
     refine kS 7 κ rfl ?_;intro K M;refine aY rfl ?_;try simp only [dD]
     refine b_ (.tmp 4) (.tmp 104) rfl rfl rfl (aF gF.o (GD.trans GY)) eY rfl rfl ?_;intro w7 r7 g7;have JR:=I ((qF.o.dL (GD.trans GY)).past G1.o g7 (τ HZ.o));have I2:=I (bJ (aF A7.o (GD.trans GY)) g7 (fun e=>by have:=bI e;have:=Gw.o;have:=HZ.o;omega));have I3:=I (bJ (aF RM3.o (GD.trans GY)) g7 iP);have A0m:=I (PZ.o.kept g7 (qj fun q O=>by have:=(PZ.o.lt q O).1;have:=HZ.o;omega));obtain⟨p0,p1,p2,p3⟩:=aT r7;refine ψ M (.inr (by obtain⟨j0,j1,j2,j3⟩:=aT I2.o;obtain⟨-,k1,k2,-⟩:=aT I3.o;exact⟨j0,j1,j2,j3,k1,k2⟩)) ?_;try simp only [bT]
     refine kS 8 κ rfl ?_;intro K M;try simp only [dD]
     go_simp;refine ψ M (.inl ε) ?_;try simp only [bT]
     refine Bf κ ?_;go_wp2;refine dw (v:=.tuple #[.agg #[U ag h.bg.length cg,J h.aW,J h.next,U (some ⟨g,0,none⟩) L.length co],U (some ⟨BY,0,none⟩) 1 1]) (by simp [results,Tryz.results79,go_sem,p0,p1,p2,p3]) rfl ?_;exact⟨_,_,rfl,JR.o.fin rG.o.1 rG.o.2 HE.o (by rw [vC.o];exact A0m.o.slc ε (fun _ _ e=>by cases e) fun a ha=>dY (τ HZ.o))⟩
    ·intro K M
     refine aY rfl ?_;try simp only [dD]
     refine b_ (.tmp 4) (.tmp 104) rfl rfl rfl (aF gF.o GD) eY rfl rfl ?_;intro w7 r7 g7;have JR:=I ((qF.o.dL GD).past G1.o g7 (τ HZ.o));have I2:=I (bJ (aF A7.o GD) g7 (fun e=>by have:=bI e;have:=Gw.o;have:=HZ.o;omega));have I3:=I (bJ (aF RM3.o GD) g7 iP);refine ψ M (.inr (by obtain⟨j0,j1,j2,j3⟩:=aT I2.o;obtain⟨-,k1,k2,-⟩:=aT I3.o;exact⟨j0,j1,j2,j3,k1,k2⟩)) ?_;try simp only [bT]
     refine kS 6 κ rfl ?_;intro K M;try simp only [dD]
     go_simp;obtain⟨wy,hwy⟩:=χ (w7.alloc (.cells #[J 4,J m.aJ,J m.aU,()] 85));obtain⟨BY,XE⟩:=χ w7.heap.size;have PZ:Hid (bK Ty.ms (fun _=>none) wy wz.heap.size 85 (U (some ⟨BY,0,none⟩) 1 1) [⟨4,m.aJ,m.aU,[]⟩]):=I (by rw [hwy,XE];exact Ku (by unfold I64;decide) FN.o.2.1 FN.o.2.2 _ (by have:=Gw.o;have:=GD.size;have:=g7.size;omega));have GY:aK w7 wy:=by rw [hwy];exact(aG _).alloc _
     rw [<-hwy,<-XE];clear hwy XE;have OE:=I (JR.o.dL GY);obtain⟨p0,p1,p2,p3⟩:=aT (aF r7 GY);refine ψ M (.inr (by obtain⟨j0,j1,j2,j3⟩:=aT (aF I2.o GY);obtain⟨-,k1,k2,-⟩:=aT (aF I3.o GY);exact⟨j0,j1,j2,j3,k1,k2⟩)) ?_;try simp only [bT]
     refine kS 8 κ rfl ?_;intro K M;try simp only [dD]
     go_simp;refine ψ M (.inl ε) ?_;try simp only [bT]
     refine Bf κ ?_;go_wp2;refine dw (v:=.tuple #[.agg #[U ag h.bg.length cg,J h.aW,J h.next,U (some ⟨g,0,none⟩) L.length co],U (some ⟨BY,0,none⟩) 1 1]) (by simp [results,Tryz.results79,go_sem,p0,p1,p2,p3]) rfl ?_;exact⟨_,_,rfl,OE.o.fin rG.o.1 rG.o.2 HE.o (by rw [vC.o];exact PZ.o.slc ε (fun _ _ e=>by cases e) fun a ha=>dY (τ HZ.o))⟩
   |false=>
    have Qd:Hid (fK q m=([q],[],[])):=I (by unfold fK;rw [aV (fun e=>A0p.o e.1),aV (fun e=>A0r.o e.1),aV (fun e=>A0q.o e.1),aV (fun e=>by have:=e.2;rw [<-HT.o] at this;cases this)]);have HE:Hid (gQ h m=⟨h.bg,h.aW,h.next,L.map (·.1)⟩):=I (by rw [gE.o,Qd.o,List.append_nil,VE.o]);have vC:Hid (iQ h m=[]):=I (by rw [O0.o,Qd.o]);clear hkd g1;go_upto_region 16 with fail
    go_wp2_with (first|(refine aQ rfl (.tmp 4) (.tmp 111) rfl rfl rfl gF.o eY rfl rfl ?_))
    intro w7 r7 g7;obtain⟨p0,p1,p2,p3⟩:=aT r7;go_wp2;refine dw (v:=.tuple #[.agg #[U ag h.bg.length cg,J h.aW,J h.next,U (some ⟨g,0,none⟩) L.length co],()]) (by simp [results,Tryz.results79,go_sem,p0,p1,p2,p3]) rfl ?_;exact⟨_,_,rfl,(qF.o.past G1.o g7 (τ HZ.o)).fin rG.o.1 rG.o.2 HE.o (by rw [vC.o];exact Sl.nil _ _)⟩
  have hk7:(m.aX==7)=false:=by simp [hkd]
  have Qd:Hid (fK q m=([q],[],[])):=I (by unfold fK;rw [aV (fun e=>A0p.o e.1),aV (fun e=>A0r.o e.1),aV (fun e=>A0q.o e.1),aV (fun e=>hkd e.1)]);have HE:Hid (gQ h m=⟨h.bg,h.aW,h.next,L.map (·.1)⟩):=I (by rw [gE.o,Qd.o,List.append_nil,VE.o]);have vC:Hid (iQ h m=[]):=I (by rw [O0.o,Qd.o]);clear hkd g1 g2;go_upto_region 16 with fail
  go_wp2_with (first|(refine aQ rfl (.tmp 4) (.tmp 111) rfl rfl rfl gF.o eY rfl rfl ?_))
  intro w7 r7 g7;obtain⟨p0,p1,p2,p3⟩:=aT r7;go_wp2;refine dw (v:=.tuple #[.agg #[U ag h.bg.length cg,J h.aW,J h.next,U (some ⟨g,0,none⟩) L.length co],()]) (by simp [results,Tryz.results79,go_sem,p0,p1,p2,p3]) rfl ?_;exact⟨_,_,rfl,(qF.o.past G1.o g7 (τ HZ.o)).fin rG.o.1 rG.o.2 HE.o (by rw [vC.o];exact Sl.nil _ _)⟩
end Go.Proofs.YtocnmkefmgmkbaaGreat
namespace Go.Proofs.YtocnmkefmgmkbaaGreat
open Go.RowKit Go.Shelf Go.Sort
theorem dE {w:World} {base:Nat} {v:Value} {l:List Int} (h:w.ownsRow base 3 1 v l.length (l.flatMap eX)) (hs:l.length<4611686018427387904):
  Calls Tryz.prog 105 #[v] w fun e w'=>e=.returned (.tuple #[])/\w'.ownsRow base 3 1 v (l.mergeSort fun x y=>decide (x<=y)).length ((l.mergeSort fun x y=>decide (x<=y)).flatMap eX)/\w.grownBy w' v.ownBlock:=by
 by_cases hne:l=[]
 ·subst hne
  obtain⟨hl,⟨rfl,-⟩|⟨g,cap,cur,rfl,hg,hrow,hnc,hcm,hcs,htake⟩⟩:=id h
  ·exact(Any.slices_Sort_int_none Tryz.lays189 none 0 w).mono fun e w' ⟨he,hw⟩=>⟨he,by rw [hw,List.mergeSort_nil];exact h,by rw [hw];exact aO (aG w) _⟩
  ·exact(Any.slices_Sort_int_none Tryz.lays189 (some ⟨g,0,none⟩) cap w).mono fun e w' ⟨he,hw⟩=>⟨he,by rw [hw,List.mergeSort_nil];exact h,by rw [hw];exact aO (aG w) _⟩
 ·obtain⟨g,hv,-,hc⟩:=Um h hne hs
  rw [hv];exact hc
theorem VF (l:List Int):(Lib.compact l).length<=l.length:=by
 have:∀(d:Array Int) (m:Nat),(Lib.compactUpTo d m).length<=m:=by
  intro d m;induction m with
  |zero=>simp [Lib.compactUpTo]
  |succ m ih=>
   rw [Lib.compactUpTo_succ];split
   ·rw [List.length_append];simp;omega
   ·rw [List.append_nil];omega
 exact this l.toArray l.length
theorem VG {w:World} {base:Nat} {v:Value} {l:List Int} (h:w.ownsRow base 3 1 v l.length (l.flatMap eX)) (hs:l.length<4611686018427387904):
  Calls Tryz.prog 106 #[v] w fun e w'=>∃v',e=.returned v'/\w'.ownsRow base 3 1 v' (Lib.compact l).length ((Lib.compact l).flatMap eX)/\w.grownBy w' v.ownBlock:=by
 obtain⟨hl,⟨rfl,hn⟩|⟨g,cap,cur,rfl,hg,hrow,hnc,hcm,hcs,htake⟩⟩:=id h
 ·have:l=[]:=List.eq_nil_of_length_eq_zero hn
  subst this;exact(Tryz.slices_Compact_int_empty none 0 w).mono fun e w' ⟨he,hw⟩=>⟨_,he,by rw [hw];exact h,by rw [hw];exact aO (aG w) _⟩
 ·have ht:cur.toList.take l.length=l.map (Value.int .i64):=by rw [<-CP,<-htake,Nat.mul_one]
  have hcl:=VF l;have hgr:∀W:World,Go.Sort.grow W #[]=W:=fun W=>by cases W;simp [Go.Sort.grow]
  refine(Tryz.slices_Compact_int g 0 cap l w (holds_of_blockI hrow ht) V hnc).mono fun e w' ⟨he,q,hw⟩=>⟨_,he,?_,?_⟩
  ·have e9:(Lib.compact l++List.replicate (l.length - (Lib.compact l).length) 0).length=l.length:=by simp;omega
   have h9:=ownsRow_sortedI (n:=q) (os:=#[]) (ss:=l) e9 hg hrow hnc hcm hcs;have h8:=GI (m:=(Lib.compact l).length) h9 hcl;rw [hw,CP];rw [Nat.mul_one,List.map_append,List.take_left' σ] at h8;rw [hgr] at h8;exact h8
  ·rw [hw]
   have h7:=grownBy_sortedI (w:=w) (g:=g) (n:=q) (os:=#[]) (Lib.compact l++List.replicate (l.length - (Lib.compact l).length) 0).toArray;rw [hgr] at h7;exact h7
end Go.Proofs.YtocnmkefmgmkbaaGreat
namespace Go.Proofs.YtocnmkefmgmkbaaGreat
open Go.RowKit
def u_ (l:List Rc):Prop:=∀r∈l,r.aX=5∨r.aH=[]
theorem u_.app {l t:List Rc} (h:u_ l) (k:u_ t):u_ (l++t):=fun r hr=>(List.mem_append.1 hr).elim (h r) (k r)
theorem XF (o:Opn) (m:Ms):u_ (fK o m).2.1:=by
 intro r hr;unfold fK at hr;split at hr
 ·split at hr
  ·simp only [List.mem_singleton] at hr;rw [hr];exact .inl rfl
  ·simp at hr
 ·split at hr
  ·simp at hr
  ·split at hr
   ·split at hr
    ·simp only [List.mem_singleton] at hr;rw [hr];exact .inr rfl
    ·simp at hr
   ·split at hr<;>simp at hr
theorem Ny {m:Ms}:∀{l:List Opn} {x:List Opn×List Rc×List Ms},kV m l=some x->u_ x.2.1
 | [],x,h=>by simp [kV] at h
 |o::l,x,h=>by
  rw [kV] at h;split at h
  ·rw [<-bI h];exact XF o m
  ·cases e:kV m l with
   |none=>rw [e] at h;cases h
   |some y=>
    rw [e] at h;rw [<-bI h];have h9:=Ny e;exact h9
theorem XG {h:Hd} (m:Ms) (hk:u_ h.bg):u_ (gQ h m).bg:=by
 unfold gQ;split
 ·exact hk
 ·rename_i x e
  exact hk.app (Ny e)
theorem dT {h:Hd} (hk:u_ h.bg):u_ (lV h).bg:=by
 unfold lV;split
 ·exact hk
 ·rw [CW]
  exact hk.app fun r hr=>by simp only [List.mem_singleton] at hr;rw [hr];exact .inr rfl
theorem d7 {w:AW} (m:Ms) (h:u_ w.aN.bg):u_ (iZ w m).aN.bg:=by
 unfold iZ;split
 ·exact h
 ·split
  ·exact h
  ·exact XG m h
theorem Qe {w:AW} (h:u_ w.aN.bg) (s:St):u_ (jZ w s).aN.bg:=by
 unfold jZ;split
 ·split
  ·show u_ (kL w.aN s.aH).bg
   rw [PK];exact h
  ·exact h
 ·split
  ·split
   ·exact d7 _ h
   ·exact h
  ·split
   ·split<;>exact h
   ·split
    ·split<;>exact h
    ·split
     ·split
      ·exact dT h
      ·exact h
     ·split
      ·split
       ·unfold jy
        split
        ·exact h
        ·split<;>exact h
       ·exact h
      ·split<;>exact h
theorem Qg:∀(l:List St) {w:AW},u_ w.aN.bg->u_ (d_ w l).aN.bg
 | [],_,h=>h
 |s::l,_,h=>Qg l (Qe h s)
theorem VH (n:Nat):u_ (gK n).aN.bg:=by
 show u_ (fA _).bg;rw [CW];intro r hr;simp only [List.mem_singleton] at hr;rw [hr];exact .inr rfl
theorem VI {n:Nat} {G:Reg} {x:AW} (i:WI n G x) (h:u_ x.aN.bg):∀r∈x.aN.bg,r.aH.length<=4:=fun r hr=>by
 rcases h r hr with h5|h0
 ·exact(g_ (i.core.reg.ok _ (i.core.dec.reg ⟨r.aJ,r.aH⟩ (List.mem_map.2 ⟨r,List.mem_filter.2 ⟨hr,by simp [h5]⟩,rfl⟩))).2).2.1
 ·rw [h0];simp
theorem bK.A0s {c:CM} {w:World} {base e:Nat} {v:Value} {l:List Int} (h:bK Ty.int c w base e v l):w.ownsRow base e 1 v l.length (l.flatMap eX):=by
 obtain⟨css,N,Y,h3⟩:=h;have:css=l.map eX:=by
  apply List.ext_getElem?;intro i;rw [List.getElem?_map];by_cases hi:i<l.length
  ·have a:=dM (l:=css) (i:=i) V
   have b:=dM (l:=l) (i:=i) hi;rw [a,b];have:=(h3 i _ _ a b).1;simp [this,eX]
  ·rw [List.getElem?_eq_none V,List.getElem?_eq_none V];rfl
 rw [this,<-List.flatMap_def] at N;exact N
theorem Ze {wB w5 wr w':World} {row:Option Nat} (h:Sub (ov (fun _=>none) wB w5) wr.cell?) (hg:wr.grownBy w' row) (hr:∀q,row=some q->q<wB.heap.size∨w5.heap.size<=q):Sub (ov (fun _=>none) wB w5) w'.cell?:=fun a v e=>by
 have e2:=h a v e;have hlt:=eH wr a e2;unfold ov at e;split at e
 ·cases e
 ·have h5:=eH w5 a e
  rw [World.cell?_of_block (hg.block a.block hlt (fun e9=>by have:=hr _ e9.symm;omega))];exact e2
theorem Zf {l:List Pt} {n:Nat} (hn:n<=3) (h:dO l n=0):OQ l where
 ne:=fun e=>by have:=(g_ h).1;rw [e] at this;simp at this
 lt:=fun p hp=>by have:=(g_ h).2.2.1 p hp;omega
 len:=(g_ h).2.1
theorem WI.Gf {n:Nat} {G:Reg} {x:AW} (i:WI n G x) (h:u_ x.aN.bg):Zd x.aN where
 aH:=fun o ho=>Zf i.core.n3.2 (i.core.reg.ok _ (i.core.sD o ho)).2
 few:=fun o ho k _ _=>(i.core.onew o ho).2.2
 logp:=fun r hr=>by have:=VI i h r hr;omega
theorem I4 {w W W':World} {X:List (Option Nat)} (hg:aK w W) (hX:∀q,some q∈X->q<W.heap.size):Sub (ov (fun _=>none) W W') (fr w W' X):=fun a v e=>by
 have hs:=hg.size;unfold ov at e;split at e
 ·cases e
 ·rw [jh V (fun hm=>by have:=hX _ hm;omega)]
  exact e
theorem Nz {w W W':World} {X:List (Option Nat)} {q:Nat} (hg:W.grownBy W' (some q)) (O:some q∈X):Sub (fr w W X) (fr w W' X):=
 jV fun k hk _ Z=>⟨hg.block k hk fun e=>Z (e▸O),Z⟩
end Go.Proofs.YtocnmkefmgmkbaaGreat
