/- Parts of proofs, joined: Q9, Q10, U1, U2, U3, U4, U5, U6, U7, U8, U9, U10, U11, U12, U21, C4, U20, U20p, U11n. No condition beside those that each theorem names. -/
import Derived.Lib.SlicesCompact
import Derived.Test.YtocnmkefmgmkbaaGreatJE4a
set_option maxRecDepth 100000
set_option maxHeartbeats 40000000
namespace Go.Proofs.YtocnmkefmgmkbaaGreat
open Go.RowKit
def wt (m:Ms):Nat:=if m.aX=1 then 8 else if m.aX=2 then 7 else if m.aX=3 then 4 else if m.aX=4 then 2 else if m.aX=7 then 3 else 1
def o_:List Ms->Nat
 | []=>0
 |m::l=>wt m+o_ l
theorem YK:∀a b:List Ms,o_ (a++b)=o_ a+o_ b
 | [],b=>by simp [o_]
 |m::a,b=>by rw [List.cons_append,o_,o_,YK a b];omega
theorem UG:∀(l:List Ms) (k:Nat),o_ (l.take k)<=o_ l
 | [],k=>by simp [o_]
 |m::l,0=>by simp [o_]
 |m::l,k+1=>by rw [List.take_succ_cons,o_,o_];have:=UG l k;omega
theorem UH (bM ms:List Ms):o_ (eu bM ms)<=o_ bM+o_ ms:=by
 unfold eu;rw [YK];have:=UG ms (24 - bM.length);omega
theorem J9 {c:Nat}:∀{l:List Ms},(∀m∈l,wt m<=c)->o_ l<=l.length*c
 | [],_=>by simp [o_]
 |m::l,h=>by
  have N:=h m List.mem_cons_self;have Y:=J9 (l:=l) fun x Z=>h x (List.mem_cons_of_mem _ Z);rw [o_,List.length_cons,Nat.add_mul];omega
theorem Me (m:Ms):1<=wt m:=by
 unfold wt;split
 ·omega
 split
 ·omega
 split
 ·omega
 split
 ·omega
 split
 ·omega
 ·omega
theorem Es (P:List Pt):(dB P).length<=3:=by
 unfold dB;exact Nat.le_trans (List.length_filter_le _ _) ε
theorem E6 (h:Hs) (me:Int) (m:Ms):o_ (dV h me m)<wt m:=by
 unfold dV;split
 ·rename_i N
  have:wt m=8:=by unfold wt;rw [bC N]
  split
  ·rw [this];simp [o_]
  ·split
   ·rw [this];simp [o_,o7,wt]
   ·rw [this];simp [o_,o7,wt]
 ·split
  ·rename_i h4
   have:wt m=2:=by unfold wt;simp [h4]
   split
   ·rw [this];simp [o_,o7,wt]
   ·rw [this];simp [o_]
  ·have:=Me m
   simp only [o_];omega
theorem mK (o:Opn) (m:Ms):o_ (fK o m).2.2<wt m:=by
 have hp:=Me m;unfold fK;split
 ·rename_i Y
  have:wt m=7:=by unfold wt;simp [Y.1]
  split
  ·have h3:o_ (jD { o with dec:=true,aZ:=[] })<=(jD { o with dec:=true,aZ:=[] }).length*2:=J9 fun x Z=>by
    unfold jD at Z;obtain⟨k,-,rfl⟩:=List.mem_map.1 Z;simp [jI,wt]
   have h4:(jD { o with dec:=true,aZ:=[] }).length<=3:=by
    unfold jD;rw [List.length_map];exact Nat.le_trans (List.length_filter_le _ _) (Es _)
   show o_ (jD _)<_;omega
  ·show o_ []<_
   simp only [o_];omega
 split
 ·rename_i h3
  have:wt m=4:=by unfold wt;simp [h3.1]
  have h3:o_ (fU o.aJ o.aH)<=(fU o.aJ o.aH).length*1:=J9 fun x Z=>by
   unfold fU at Z;obtain⟨k,-,rfl⟩:=List.mem_map.1 Z;simp [wt]
  have h4:(fU o.aJ o.aH).length<=3:=by
   unfold fU;rw [List.length_map];exact Es _
  show o_ (fU _ _)<_;omega
 split
 ·split
  ·show o_ []<_
   simp only [o_];omega
  ·show o_ []<_
   simp only [o_];omega
 split
 ·rename_i h7
  have:wt m=3:=by unfold wt;simp [h7.1]
  rw [this];simp [o_,wt]
 ·show o_ []<_
  simp only [o_];omega
theorem mL (h:Hd) (m:Ms):o_ (iQ h m)<wt m:=by
 have hp:=Me m;unfold iQ;cases hl:kV m h.bG with
 |none=>
  simp only;split
  ·rename_i h7
   have:wt m=3:=by unfold wt;simp [h7]
   rw [this];simp [o_,wt]
  ·simp only [o_];omega
 |some x=>
  obtain⟨A,o,B,-,-,-,rfl⟩:=vV hl;exact mK o m
theorem E7 (w:AW) (m:Ms):o_ (iZ w m).bM<o_ w.bM+wt m:=by
 have hp:=Me m;unfold iZ;cases w.aI[m.aU.toNat]? with
 |none=>simp only;omega
 |some h=>
  simp only;split
  ·have N:=UH w.bM (dV h m.aU m)
   have Y:=E6 h m.aU m;show o_ (eu _ _)<_;omega
  ·have N:=UH w.bM (iQ w.aN m)
   have Y:=mL w.aN m;show o_ (eu _ _)<_;omega
def xZ:Nat->AW->AW
 |0,w=>w
 |f+1,w=>match w.bM with
  | []=>w
  |m::l=>xZ f (iZ { w with bM:=l } m)
def iT (w:AW):AW:=xZ (o_ w.bM) w
theorem vX {w:AW} {m:Ms} {l:List Ms} (h:w.bM=m::l):o_ (iZ { w with bM:=l } m).bM<o_ w.bM:=by
 have:=E7 { w with bM:=l } m;rw [h,o_];simp only at this;omega
theorem Jv:∀(f g:Nat) (w:AW),o_ w.bM<=f->f<=g->xZ g w=xZ f w
 |0,g,w,h,_=>by
  have:w.bM=[]:=by
   cases hn:w.bM with
   |nil=>rfl
   |cons m l=>rw [hn,o_] at h;have:=Me m;omega
  cases g with
  |zero=>rfl
  |succ g=>unfold xZ;rw [this]
 |f+1,0,w,h,hg=>by omega
 |f+1,g+1,w,h,hg=>by
  cases hn:w.bM with
  |nil=>unfold xZ;rw [hn]
  |cons m l=>
   have:=vX hn;unfold xZ;rw [hn];exact Jv f g _ V V
theorem qB {w:AW} (h:w.bM=[]):iT w=w:=by
 unfold iT;rw [h];rfl
theorem MB {w:AW} {m:Ms} {l:List Ms} (h:w.bM=m::l):iT w=iT (iZ { w with bM:=l } m):=by
 have N:=vX h;unfold iT;have hp:∃k,o_ w.bM=k+1:=⟨o_ w.bM - 1,V⟩;obtain⟨k,hk⟩:=hp;have e:xZ (k+1) w=xZ k (iZ { w with bM:=l } m):=by
  show(match w.bM with| []=>w|m::l=>xZ k (iZ { w with bM:=l } m))=_;rw [h]
 rw [hk,e];exact Jv _ _ _ (Nat.le_refl _) V
theorem qC {p:AW->Prop} (hstep:∀(w:AW) (m:Ms) (l:List Ms),p w->w.bM=m::l->p (iZ { w with bM:=l } m)):∀(f:Nat) (w:AW),o_ w.bM<=f->p w->p (iT w)/\(iT w).bM=[]
 |f,w,hf,hp=>by
  cases hn:w.bM with
  |nil=>rw [qB hn];exact⟨hp,hn⟩
  |cons m l=>
   have N:=vX hn;rw [MB hn];cases f with
   |zero=>omega
   |succ f=>exact qC hstep f _ V (hstep w m l hp hn)
theorem WI.mN {n:Nat} {G:Reg} {w:AW} (i:WI n G w) {m:Ms} {l:List Ms} (h:w.bM=m::l):WI n G (iZ { w with bM:=l } m):=by
 have hl:=i.len;rw [h] at hl;simp at hl;have i2:WI n G { w with bM:=l }:=⟨i.core,fun x Z=>i.bM x (by rw [h];exact List.mem_cons_of_mem _ Z),by show l.length<=24;omega⟩;exact i2.come (i.bM m (by rw [h];exact List.mem_cons_self)) i2.len
theorem WI.drain {n:Nat} {G:Reg} {w:AW} (i:WI n G w):WI n G (iT w)/\(iT w).bM=[]:=
 qC (p:=fun w=>WI n G w) (fun _ _ _ h e=>h.mN e) _ w (Nat.le_refl _) i
def ug:List Opn->Nat
 | []=>0
 |o::l=>(if o.dec=true then 1 else 2)+ug l
theorem CS:∀a b:List Opn,ug (a++b)=ug a+ug b
 | [],b=>by simp [ug]
 |o::a,b=>by rw [List.cons_append,ug,ug,CS a b];omega
theorem QU:∀l:List Opn,ug l<=2*l.length/\l.length<=ug l
 | []=>by simp [ug]
 |o::l=>by
  have:=QU l;rw [ug,List.length_cons];split<;>omega
theorem mR {l:List Opn} (h:ug l=0):l=[]:=List.eq_nil_of_length_eq_zero (τ ((QU l).2))
theorem Jw (o:Opn) (m:Ms):ug (fK o m).1<ug [o]∨((fK o m).1=[o]/\(((o.dec=false/\(m.aX=2∨m.aX=3))∨(o.dec=true/\m.aX=6))->m.aU∈dB o.aH->m.aU∈o.aZ))∨
  (fK o m).1=[{ o with aZ:=o.aZ++ [m.aU] }]:=by
 unfold fK;split
 ·rename_i h
  split
  ·left;simp [ug,h.2.1]
  ·right;right;rfl
 rename_i n2
 split
 ·rename_i h
  left;simp [ug,h.2]
 rename_i n3
 split
 ·rename_i h
  split
  ·left;simp [ug,h.2.1]
  ·right;right;rfl
 rename_i n6
 have key:((o.dec=false/\(m.aX=2∨m.aX=3))∨(o.dec=true/\m.aX=6))->m.aU∈dB o.aH->m.aU∈o.aZ:=by
  intro hk hh;apply Decidable.byContradiction;intro hn;rcases hk with⟨N,Y|Y⟩|⟨N,Y⟩
  ·exact n2 ⟨Y,N,hh,hn⟩
  ·exact n3 ⟨Y,N⟩
  ·exact n6 ⟨Y,N,hh,hn⟩
 split
 ·right;left;exact⟨rfl,key⟩
 ·right;left;exact⟨rfl,key⟩
theorem b7 (o:Opn) (m:Ms):ug (fK o m).1<=ug [o]:=by
 rcases Jw o m with h|⟨h,-⟩|h
 ·exact Nat.le_of_lt h
 ·rw [h];exact Nat.le_refl _
 ·rw [h];simp [ug]
theorem b8 (h:Hd) (m:Ms):ug (gQ h m).bG<=ug h.bG:=by
 unfold gQ;cases hl:kV m h.bG with
 |none=>exact Nat.le_refl _
 |some x=>
  obtain⟨A,o,B,e,-,-,rfl⟩:=vV hl;have:=b7 o m;rw [e];simp only [CS];have e2:ug (o::B)=ug [o]+ug B:=CS [o] B;omega
theorem UJ (w:AW) (m:Ms):ug (iZ w m).aN.bG<=ug w.aN.bG:=by
 unfold iZ;cases w.aI[m.aU.toNat]? with
 |none=>exact Nat.le_refl _
 |some h=>
  simp only;split
  ·exact Nat.le_refl _
  ·exact b8 _ _
theorem Ii (w:AW) (k:Nat):(jy w k).aN=w.aN/\(jy w k).aI=w.aI:=by
 unfold jy;split
 ·exact⟨rfl,rfl⟩
 ·cases w.aI[k]? with
  |none=>exact⟨rfl,rfl⟩
  |some h=>exact⟨rfl,rfl⟩
theorem PE (w:AW):ug (iT w).aN.bG<=ug w.aN.bG:=
 (qC (p:=fun x=>ug x.aN.bG<=ug w.aN.bG) (fun x m l h _=>Nat.le_trans (UJ { x with bM:=l } m) h) _ w (Nat.le_refl _) (Nat.le_refl _)).1
theorem YL {S:Int->Int}:∀l:List Pt,jH S l≠10
 | []=>by simp [jH]
 |p::l=>by
  rw [jH];split
  ·omega
  split
  ·omega
  ·exact YL l
theorem E9 {h:Hs} {d:Int} (hd:d∉h.done) (ps:List Pt):iy h d ps≠10:=by
 unfold iy;rw [aV hd];split
 ·omega
 split
 ·omega
 ·exact YL _
def Tok (b:Bool) (d k:Int) (m:Ms):Prop:=m.aJ=d/\m.aU=k/\((b=false/\(m.aX=1∨m.aX=2∨m.aX=3))∨(b=true/\(m.aX=4∨m.aX=6)))
def FA (w:AW) (p0:Nat) (d:Int) (b:Bool):Prop:=ug w.aN.bG<=p0/\
 (ug w.aN.bG<p0∨∃o∈w.aN.bG,o.aJ=d/\o.dec=b/\∀k∈dB o.aH,k∈o.aZ∨∃m∈w.bM,Tok b d k m)
theorem FD {bM:List Ms} (ms:List Ms) {x:Ms} (h:x∈bM):x∈eu bM ms:=by
 unfold eu;exact List.mem_append_left _ h
theorem UK {bM:List Ms} (x:Ms) (h:bM.length<24):eu bM [x]=bM++ [x]:=by
 unfold eu;rw [eG (by simp;omega)]
theorem b9 {n:Nat} {G:Reg} {w:AW} {m:Ms} {l:List Ms} {p0:Nat} {d:Int} {b:Bool} (i:WI n G w) (h:FA w p0 d b) (e:w.bM=m::l):FA (iZ { w with bM:=l } m) p0 d b:=by
 have hl:=i.len;rw [e] at hl;simp only [List.length_cons] at hl;have hm:=i.bM m (by rw [e];exact List.mem_cons_self);have hp:=UJ { w with bM:=l } m;obtain⟨hle,h⟩:=h;refine⟨Nat.le_trans hp hle,?_⟩;rcases h with h|⟨o,ho,hod,hob,hk⟩
 ·left;exact Nat.lt_of_le_of_lt hp h
 have hlen:=i.core.len;have h0:=hm.right.aU.1;have hlt:m.aU.toNat<w.aI.length:=by have:=hm.here;omega
 obtain⟨h,hh⟩:∃h,w.aI[m.aU.toNat]? =some h:=⟨_,dM hlt⟩;cases hf:iR m with
 |true=>
  have ew:iZ { w with bM:=l } m=⟨w.aN,w.aI.set m.aU.toNat (dK h m),eu l (dV h m.aU m)⟩:=by
   unfold iZ;simp only [hh,hf,if_true]
  rw [ew];right;refine⟨o,ho,hod,hob,fun k hk'=>?_⟩;rcases hk k hk' with N|⟨x,Z,ht⟩
  ·exact .inl N
  right;rw [e] at Z;rcases List.mem_cons.1 Z with Z|Z
  ·obtain⟨t1,t2,t3⟩:=ht
   rw [Z] at t1 t2 t3;have hroom:∀y,dV h m.aU m=[y]->y∈eu l (dV h m.aU m):=fun y hy=>by
    rw [hy,UK _ V];simp
   have hi:=i.core.Ig h0 hh;rcases t3 with⟨hb,t3⟩|⟨hb,t3⟩
   ·have k1:m.aX=1:=by
     unfold iR at hf;rw [decide_eq_true_eq] at hf;omega
    have hnd:m.aJ∉h.done:=fun hd'=>by
     obtain⟨r,hr,hrd⟩:=i.core.UD (k:=m.aU) h0 ⟨h,hh,hd'⟩;have:=(i.core.rF o ho).2 ⟨r,hr,by rw [hrd,t1,hod]⟩;rw [hob,hb] at this;cases this
    have hv:=E9 hnd m.aH;by_cases hz:iy h m.aJ m.aH=0
    ·have hy:dV h m.aU m=[⟨2,m.aJ,m.aU,[]⟩]:=by
      unfold dV;rw [bC k1,aV hv,bC hz];rfl
     exact⟨_,hroom _ hy,t1,t2,.inl ⟨hb,.inr (.inl rfl)⟩⟩
    ·have hy:dV h m.aU m=[⟨3,m.aJ,m.aU,[]⟩]:=by
      unfold dV;rw [bC k1,aV hv,aV hz];rfl
     exact⟨_,hroom _ hy,t1,t2,.inl ⟨hb,.inr (.inr rfl)⟩⟩
   ·have k4:m.aX=4:=by
     unfold iR at hf;rw [decide_eq_true_eq] at hf;omega
    obtain⟨r,hr,hrd⟩:=(i.core.rF o ho).1 (by rw [hob,hb]);have A1v:=i.core.dec.reg r hr;rw [hrd] at A1v;have hpp:=vS i.core.reg.nd A1v (i.core.sD o ho);have hkept:Kept h m.aJ:=by
     rcases i.core.held r hr k (by rw [hpp];exact hk') with⟨y,hy,hyr⟩|⟨y,hy,hyr⟩
     ·rw [<-t2,hh] at hy
      obtain rfl:=bI hy;left;rw [t1,<-hod,<-hrd];exact hyr
     ·rw [<-t2,hh] at hy
      obtain rfl:=bI hy;right;rw [t1,<-hod,<-hrd];exact hyr
    have hy:dV h m.aU m=[⟨6,m.aJ,m.aU,[]⟩]:=by
     have hw:=(iX hi.calm.made hi.calm.fine (me:=m.aU) hm.right.aJ.1 hkept m.aU 0).2.1;have em:m=⟨4,m.aJ,m.aU,[]⟩:=by
      have hnone:=hm.right.none V;obtain⟨aX,aJ,aU,aH⟩:=m;simp only at k4 hnone;rw [k4,hnone]
     rw [<-em] at hw;exact hw
    exact⟨_,hroom _ hy,t1,t2,.inr ⟨hb,.inr rfl⟩⟩
  ·exact⟨x,FD _ Z,ht⟩
 |false=>
  have ew:iZ { w with bM:=l } m=⟨gQ w.aN m,w.aI,eu l (iQ w.aN m)⟩:=by
   unfold iZ;simp only [hh,hf];rfl
  rw [ew] at hp ⊢;have hnf:m.aX≠1/\m.aX≠4:=by
   unfold iR at hf;rw [decide_eq_false_iff_not] at hf;omega
  have other:m.aJ≠d->∀k,(k∈o.aZ∨∃x∈w.bM,Tok b d k x)->(k∈o.aZ∨∃x∈eu l (iQ w.aN m),Tok b d k x):=by
   intro hne k Z;rcases Z with Z|⟨x,Z,ht⟩
   ·exact .inl Z
   ·rw [e] at Z
    rcases List.mem_cons.1 Z with Z|Z
    ·rw [Z] at ht;exact absurd ht.1 hne
    ·exact .inr ⟨x,FD _ Z,ht⟩
  cases hL:kV m w.aN.bG with
  |none=>
   right;have e1:gQ w.aN m=w.aN:=by unfold gQ;rw [hL]
   rw [e1];have hne:m.aJ≠d:=fun h=>Ep hL o ho (by rw [hod,h]);exact⟨o,ho,hod,hob,fun k hk'=>other hne k (hk k hk')⟩
  |some y=>
   obtain⟨A,o2,B,e1,e2,e3,rfl⟩:=vV hL;have eo:(gQ w.aN m).bG=A++(fK o2 m).1++B:=by unfold gQ;rw [hL]
   show ug (gQ w.aN m).bG<p0∨∃o∈(gQ w.aN m).bG,_;rw [eo];have T8:=i.core.UC;rw [e1] at T8;by_cases hd:m.aJ=d
   ·have eoo:o=o2:=by
     rw [e1] at ho;rcases List.mem_append.1 ho with N|N
     ·exact absurd (hod.trans (hd.symm.trans e3.symm)) (yJ T8 (List.mem_append_left _ N))
     ·rcases List.mem_cons.1 N with N|N
      ·exact N
      ·exact absurd (hod.trans (hd.symm.trans e3.symm)) (yJ T8 (List.mem_append_right _ N))
    rw [<-eoo] at e1 ⊢;rcases Jw o m with hc|⟨hc,hi⟩|hc
    ·left
     rw [e1] at hle;have e4:ug (A++o::B)=ug A+(ug [o]+ug B):=by rw [CS];congr 1
     rw [CS,CS];omega
    ·right
     rw [hc];refine⟨o,σ,hod,hob,fun k hk'=>?_⟩;rcases hk k hk' with Z|⟨x,Z,ht⟩
     ·exact .inl Z
     rw [e] at Z;rcases List.mem_cons.1 Z with Z|Z
     ·rw [Z] at ht
      left;obtain⟨t1,t2,t3⟩:=ht;rw [<-t2] at hk' ⊢;refine hi ?_ hk';rw [hob];rcases t3 with⟨hb,t3⟩|⟨hb,t3⟩
      ·exact .inl ⟨hb,V⟩
      ·exact .inr ⟨hb,V⟩
     ·exact .inr ⟨x,FD _ Z,ht⟩
    ·right
     rw [hc];refine⟨_,List.mem_append_left _ (List.mem_append_right _ List.mem_cons_self),hod,hob,fun k hk'=>?_⟩;rcases hk k hk' with Z|⟨x,Z,ht⟩
     ·exact .inl (List.mem_append_left _ Z)
     rw [e] at Z;rcases List.mem_cons.1 Z with Z|Z
     ·rw [Z] at ht
      left;rw [<-ht.2.1];simp
     ·exact .inr ⟨x,FD _ Z,ht⟩
   ·right
    refine⟨o,?_,hod,hob,fun k hk'=>other hd k (hk k hk')⟩;rw [e1] at ho;rcases List.mem_append.1 ho with N|N
    ·exact List.mem_append_left _ (List.mem_append_left _ N)
    ·rcases List.mem_cons.1 N with N|N
     ·exact absurd (by rw [<-e3,<-N,hod]) hd
     ·exact List.mem_append_right _ N
theorem cA {n:Nat} {G:Reg} {w:AW} (i:WI n G w) (mS:w.bM=[]) (hne:w.aN.bG≠ []):ug (iT (jy w 3)).aN.bG<ug w.aN.bG:=by
 cases ho:w.aN.bG with
 |nil=>exact absurd ho hne
 |cons o B=>
  have hth:=Ii w 3;have ht:FA (jy w 3) (ug w.aN.bG) o.aJ o.dec:=by
   refine⟨by rw [hth.1];exact Nat.le_refl _,.inr ⟨o,by rw [hth.1,ho];exact List.mem_cons_self,rfl,rfl,fun k hk=>?_⟩⟩;by_cases hh:k∈o.aZ
   ·exact .inl hh
   right;refine⟨jI o k,?_,?_⟩
   ·have e:(jy w 3).bM=eu w.bM (qO w.aN):=by unfold jy;rw [bC rfl]
    rw [e,mS];unfold eu qO;rw [ho,List.nil_append,List.flatMap_cons,List.take_append];refine List.mem_append_left _ ?_;have h4:(jD o).length<=3:=by
     unfold jD;rw [List.length_map];exact Nat.le_trans (List.length_filter_le _ _) (Es _)
    rw [eG (by simp;omega)];unfold jD;exact List.mem_map.2 ⟨k,List.mem_filter.2 ⟨hk,by simp [hh]⟩,rfl⟩
   ·unfold jI
    cases hd:o.dec with
    |true=>exact⟨rfl,rfl,.inr ⟨rfl,.inl rfl⟩⟩
    |false=>exact⟨rfl,rfl,.inl ⟨rfl,.inl rfl⟩⟩
  obtain⟨⟨i2,t2⟩,hn⟩:=qC (p:=fun x=>WI n G x/\FA x (ug w.aN.bG) o.aJ o.dec) (fun x m l h e=>⟨h.1.mN e,b9 h.1 h.2 e⟩) _ (jy w 3) (Nat.le_refl _) ⟨i.tick 3,ht⟩;rw [<-ho];rcases t2.2 with h|⟨o',ho',-,-,hk⟩
  ·exact h
  ·exfalso
   have N:=(i2.core.onew o' ho').2.2;have Y:=QS (QC o'.aH) (b:=o'.aZ) fun k hk'=>(hk k hk').resolve_right (by rw [hn];simp);omega
def Jy (w:AW) (j:Nat):Prop:=∀h,w.aI[j]? =some h->h.ready=[]
def Asks (w:AW) (k:Nat):Prop:=w.aN.bG=[]/\(∀m∈w.bM,m.aX=5∨m.aX=7)/\∀h,w.aI[k]? =some h->∀r∈h.ready,∃m∈w.bM,m.aJ=r.aJ/\m.aU=k
theorem A1w {h:Hs} (hm:Made h) (hf:Fine h.ready) {m:Ms} (h5:m.aX=5):dV h m.aU m=[]/\∀r∈(dK h m).ready,r∈h.ready/\r.aJ≠m.aJ:=by
 constructor
 ·unfold dV
  rw [aV V,aV V]
 ·intro r hr
  unfold dK at hr;rw [aV V,aV V,bC h5] at hr;split at hr
  ·rename_i hrd
   rw [(Yt hm hrd).1] at hr;exact mem_erase hf.nodup hr
  ·rename_i hrd
   refine⟨hr,fun e=>hrd ?_⟩;unfold dP;rw [List.any_eq_true];exact⟨r,hr,by simp [nG,e]⟩
theorem PG {n:Nat} {G:Reg} {w:AW} {m:Ms} {l:List Ms} {k:Nat} (i:WI n G w) (h:Asks w k) (e:w.bM=m::l):
  Asks (iZ { w with bM:=l } m) k/\∀j,Jy w j->Jy (iZ { w with bM:=l } m) j:=by
 have hl:=i.len;rw [e] at hl;simp only [List.length_cons] at hl;have hmem:m∈w.bM:=by rw [e];exact List.mem_cons_self
 have hm:=i.bM m hmem;obtain⟨ho,hk,ht⟩:=h;have hlen:=i.core.len;have h0:=hm.right.aU.1;have hlt:m.aU.toNat<w.aI.length:=by have:=hm.here;omega
 obtain⟨h,hh⟩:∃h,w.aI[m.aU.toNat]? =some h:=⟨_,dM hlt⟩;have hi:=i.core.Ig h0 hh;have hkl:∀x∈l,x.aX=5∨x.aX=7:=fun x Z=>hk x (by rw [e];exact List.mem_cons_of_mem _ Z);rcases hk m hmem with h5|h7
 ·obtain⟨g1,g2⟩:=A1w hi.calm.made hi.calm.fine h5
  have ew:iZ { w with bM:=l } m=⟨w.aN,w.aI.set m.aU.toNat (dK h m),l⟩:=by
   unfold iZ;have hf:iR m=true:=by unfold iR;rw [decide_eq_true_eq];omega
   simp only [hh,hf,if_true,g1];simp [eu]
  rw [ew];refine⟨⟨ho,hkl,fun x Z r hr=>?_⟩,fun j hj x Z=>?_⟩
  ·by_cases ek:k=m.aU.toNat
   ·subst ek
    replace Z:(w.aI.set m.aU.toNat (dK h m))[m.aU.toNat]? =some x:=Z;rw [List.getElem?_set_self hlt] at Z;obtain rfl:=bI Z;obtain⟨a,b⟩:=g2 r hr;obtain⟨y,hy,y1,y2⟩:=ht h hh r a;rw [e] at hy;rcases List.mem_cons.1 hy with hy|hy
    ·rw [hy] at y1;exact absurd y1.symm b
    ·exact⟨y,hy,y1,y2⟩
   ·replace Z:(w.aI.set m.aU.toNat (dK h m))[k]? =some x:=Z
    rw [List.getElem?_set_ne (fun e'=>ek e'.symm)] at Z;obtain⟨y,hy,y1,y2⟩:=ht x Z r hr;rw [e] at hy;rcases List.mem_cons.1 hy with hy|hy
    ·rw [hy] at y2;exact absurd V ek
    ·exact⟨y,hy,y1,y2⟩
  ·by_cases ek:j=m.aU.toNat
   ·subst ek
    replace Z:(w.aI.set m.aU.toNat (dK h m))[m.aU.toNat]? =some x:=Z;rw [List.getElem?_set_self hlt] at Z;obtain rfl:=bI Z;rw [List.eq_nil_iff_forall_not_mem];intro r hr;have:=(g2 r hr).1;rw [hj h hh] at this;simp at this
   ·replace Z:(w.aI.set m.aU.toNat (dK h m))[j]? =some x:=Z
    rw [List.getElem?_set_ne (fun e'=>ek e'.symm)] at Z;exact hj x Z
 ·have hL:kV m w.aN.bG=none:=by rw [ho];rfl
  have ew:iZ { w with bM:=l } m=⟨w.aN,w.aI,l++ [⟨5,m.aJ,m.aU,[]⟩]⟩:=by
   unfold iZ;have hf:iR m=false:=by unfold iR;rw [decide_eq_false_iff_not];omega
   have e1:gQ w.aN m=w.aN:=by unfold gQ;rw [hL]
   have e2:iQ w.aN m=[⟨5,m.aJ,m.aU,[]⟩]:=by unfold iQ;rw [hL];simp only;rw [bC h7]
   simp only [hh,hf,e1,e2];rw [UK _ V];rfl
  rw [ew];refine⟨⟨ho,fun x Z=>?_,fun x Z r hr=>?_⟩,fun j hj x Z=>hj x Z⟩
  ·rcases List.mem_append.1 Z with Z|Z
   ·exact hkl x Z
   ·rw [List.mem_singleton.1 Z];exact .inl rfl
  ·obtain⟨y,hy,y1,y2⟩:=ht x Z r hr
   rw [e] at hy;rcases List.mem_cons.1 hy with hy|hy
   ·rw [hy] at y1 y2
    exact⟨_,List.mem_append_right _ List.mem_cons_self,y1,y2⟩
   ·exact⟨y,List.mem_append_left _ hy,y1,y2⟩
theorem MC:∀{l:List Rd},(∀r∈l,r.aH≠ [])->l.length<=(keysOf l).length
 | [],_=>Nat.zero_le _
 |r::l,h=>by
  have ih:=MC (l:=l) fun x Z=>h x (List.mem_cons_of_mem _ Z);have N:0<r.aH.length:=List.length_pos_iff.2 (h r List.mem_cons_self);rw [qp,List.length_append,List.length_map,List.length_cons];omega
theorem CU {n:Nat} {G:Reg} {hd:Hd} {hs:List Hs} (c:Core n G hd hs) {k:Nat} {h:Hs} (hk:hs[k]? =some h):h.ready.length<=4:=by
 have hi:=c.aU k h hk;have N:=MC (l:=h.ready) fun r hr=>by
  obtain⟨P,-,-,hne⟩:=hi.reg r hr;exact hne
 have Y:=QS hi.calm.apart (b:=[0,1,2,3]) fun q O=>by
  unfold keysOf at O;obtain⟨r,hr,O⟩:=List.mem_flatMap.1 O;obtain⟨P,hP,hp,-⟩:=hi.reg r hr;obtain⟨p,hp',rfl⟩:=List.mem_map.1 O;rw [hp] at hp';have:=QB (c.reg.ok _ hP).2 k p hp';simp;omega
 simp only [List.length_cons,List.length_nil] at Y;omega
def oJ (w:AW) (k:Nat):AW:=iT (jy w k)
theorem WI.oJ {n:Nat} {G:Reg} {w:AW} (i:WI n G w) (k:Nat):WI n G (oJ w k)/\(oJ w k).bM=[]:=(i.tick k).drain
theorem CV (w:AW) (k:Nat):ug (oJ w k).aN.bG<=ug w.aN.bG:=by
 have:=PE (jy w k);rw [(Ii w k).1] at this;exact this
theorem Bq {n:Nat} {G:Reg} {w:AW} (i:WI n G w) (mS:w.bM=[]) (ho:w.aN.bG=[]) {k:Nat} (hk:k≠3):
  (oJ w k).aN.bG=[]/\Jy (oJ w k) k/\∀j,Jy w j->Jy (oJ w k) j:=by
 have hth:=Ii w k;have h0:Asks (jy w k) k:=by
  refine⟨by rw [hth.1];exact ho,?_,?_⟩
  ·intro m hm
   unfold jy at hm;rw [aV hk] at hm;cases hh:w.aI[k]? with
   |none=>rw [hh] at hm;simp only [mS] at hm;simp at hm
   |some h=>
    rw [hh] at hm;simp only [mS] at hm;rcases UE hm with hm|hm
    ·simp at hm
    ·unfold mg at hm
     obtain⟨r,-,rfl⟩:=List.mem_map.1 hm;exact .inr rfl
  ·intro h hh r hr
   rw [hth.2] at hh;have hlen:=CU i.core hh;refine⟨⟨7,r.aJ,k,[]⟩,?_,rfl,rfl⟩;have e:(jy w k).bM=eu w.bM (mg h k):=by
    unfold jy;rw [aV hk,hh]
   rw [e,mS];unfold eu mg;rw [List.nil_append,eG (by simp;omega)];exact List.mem_map.2 ⟨r,hr,rfl⟩
 obtain⟨⟨i2,t2,t3⟩,hn⟩:=qC (p:=fun x=>WI n G x/\Asks x k/\∀j,Jy w j->Jy x j)
  (fun x m l h e=>⟨h.1.mN e,(PG h.1 h.2.1 e).1,fun j hj=>(PG h.1 h.2.1 e).2 j (h.2.2 j hj)⟩) _ (jy w k) (Nat.le_refl _)
  ⟨i.tick k,h0,fun j hj h hh=>hj h (by rw [hth.2] at hh;exact hh)⟩
 refine⟨t2.1,fun h hh=>?_,t3⟩;rw [List.eq_nil_iff_forall_not_mem];intro r hr;obtain⟨m,hm,-⟩:=t2.2.2 h hh r hr;have hn':(iT (jy w k)).bM=[]:=hn;rw [hn'] at hm;simp at hm
def fQ (w:AW):AW:=oJ (oJ (oJ (oJ (iT w) 3) 2) 1) 0
structure Quiet (w:AW):Prop where
 bM:w.bM=[]
 bG:w.aN.bG=[]
 ready:∀j,Jy w j
theorem WI.round {n:Nat} {G:Reg} {w:AW} (i:WI n G w):WI n G (fQ w):=
 ((((i.drain.1.oJ 3).1.oJ 2).1.oJ 1).1.oJ 0).1
theorem cB (w:AW):ug (fQ w).aN.bG<=ug (oJ (iT w) 3).aN.bG:=
 Nat.le_trans (CV _ 0) (Nat.le_trans (CV _ 1) (CV _ 2))
theorem FE {l l':List Opn} (h:ug l<=ug l') (e:l'=[]):l=[]:=mR (Nat.le_zero.1 (by rw [e] at h;exact h))
theorem UL {n:Nat} {G:Reg} {w:AW} (i:WI n G w) (ho:(iT w).aN.bG=[]):Quiet (fQ w):=by
 unfold fQ;obtain⟨i0,n0⟩:=i.drain;obtain⟨i3,n3⟩:=i0.oJ 3;have o3:=FE (CV (iT w) 3) ho;obtain⟨i2,n2⟩:=i3.oJ 2;obtain⟨o2,r2,k2⟩:=Bq i3 n3 o3 (k:=2) V;obtain⟨i1,n1⟩:=i2.oJ 1;obtain⟨o1,r1,k1⟩:=Bq i2 n2 o2 (k:=1) V;obtain⟨i4,n4⟩:=i1.oJ 0;obtain⟨o4,r4,k4⟩:=Bq i1 n1 o1 (k:=0) V;refine⟨n4,o4,fun j=>?_⟩;rcases Nat.lt_or_ge j 3 with hj|hj
 ·have:j=0∨j=1∨j=2:=by omega
  rcases this with rfl|rfl|rfl
  ·exact r4
  ·exact k4 _ r1
  ·exact k4 _ (k1 _ r2)
 ·intro h hh
  have N:=(List.getElem?_eq_some_iff.1 hh).1;have Y:=i4.core.len;have h3:=i4.core.n3;omega
def isOpen (w:AW) (d:Int):Bool:=w.aI.any (fun h=>dP h.ready d)||
 (bH w.aN.bg).any fun r=>r.aJ==d&&(List.range w.aI.length).any fun k=>!(jT r.aH k).isEmpty&& !decide (d∈(w.aI.getD k hs0).done)
def opensE (w:AW):List Int:=((List.range 1344).map fun d:Nat=>(d:Int)).filter (isOpen w)
def idleA (w:AW):Bool:=w.bM.isEmpty&&w.aN.bG.isEmpty&&(opensE w).isEmpty
theorem mT {n:Nat} {G:Reg} {w:AW} (i:WI n G w) (q:Quiet w) (d:Int):isOpen w d=false:=by
 unfold isOpen;rw [Bool.or_eq_false_iff];constructor
 ·rw [List.any_eq_false]
  intro h hh;obtain⟨j,hj⟩:=List.mem_iff_getElem?.1 hh;rw [q.ready j h hj];simp [dP]
 ·rw [List.any_eq_false]
  intro r hr Z;rw [Bool.and_eq_true,List.any_eq_true] at Z;obtain⟨hd,k,hk,Z⟩:=Z;rw [Bool.and_eq_true] at Z;have hk':k<w.aI.length:=List.mem_range.1 hk;have hl:=i.core.len;have h3:=i.core.n3;have hin:(k:Int)∈dB r.aH:=kW.2 ⟨V,by have:=Z.1;intro e;rw [e] at this;simp at this⟩;obtain⟨y,hy,T7⟩:=i.core.settled q.bG r hr k hin;have e1:w.aI.getD k hs0=y:=by
   rw [show((k:Int)).toNat=k from rfl] at hy;rw [List.getD_eq_getElem?_getD,hy];rfl
  have e2:r.aJ=d:=by simpa using hd
  rw [e1,<-e2] at Z;simp [T7] at Z
theorem tC {n:Nat} {G:Reg} {w:AW} (i:WI n G w):idleA w=true↔Quiet w:=by
 unfold idleA;rw [Bool.and_eq_true,Bool.and_eq_true,List.isEmpty_iff,List.isEmpty_iff,List.isEmpty_iff];constructor
 ·rintro⟨⟨N,Y⟩,h3⟩
  refine⟨N,Y,fun j h hh=>?_⟩;rw [List.eq_nil_iff_forall_not_mem];intro r hr;obtain⟨P,hP,-⟩:=(i.core.aU j h hh).reg r hr;have hd:=i.core.aJ hP;have:r.aJ∈opensE w:=by
   unfold opensE;refine List.mem_filter.2 ⟨List.mem_map.2 ⟨r.aJ.toNat,List.mem_range.2 V,V⟩,?_⟩;unfold isOpen;rw [Bool.or_eq_true,List.any_eq_true];left;refine⟨h,List.mem_of_getElem? hh,?_⟩;unfold dP;rw [List.any_eq_true];exact⟨r,hr,by simp [nG]⟩
  rw [h3] at this;simp at this
 ·intro q
  refine⟨⟨q.bM,q.bG⟩,?_⟩;unfold opensE;rw [List.filter_eq_nil_iff];intro d _;rw [mT i q d];simp
def gq:Nat->AW->AW×Nat
 |0,w=>(w,0)
 |f+1,w=>if idleA w=true then(w,0) else((gq f (fQ w)).1,(gq f (fQ w)).2+1)
theorem Bv {n:Nat} {G:Reg} {w:AW} (i:WI n G w) (q:Quiet w):∀f,gq f w=(w,0)
 |0=>rfl
 |f+1=>by
  unfold gq;rw [bC ((tC i).2 q)]
theorem MF:∀(f:Nat) (w:AW),(gq f w).2<=f
 |0,w=>Nat.le_refl _
 |f+1,w=>by
  unfold gq;split
  ·exact Nat.zero_le _
  ·have:=MF f (fQ w)
   simp only;omega
theorem oK (f:Nat) {w:AW} (h:idleA w=false):gq (f+1) w=((gq f (fQ w)).1,(gq f (fQ w)).2+1):=by
 show(if idleA w=true then(w,0) else _)=_;rw [h];rfl
theorem QV {n:Nat} {G:Reg} (f:Nat):∀{w:AW},WI n G w->ug w.aN.bG+1<=f->Quiet (gq f w).1/\WI n G (gq f w).1:=by
 induction f with
 |zero=>intro w _ h;omega
 |succ f ih=>
  intro w i h;cases hi:idleA w with
  |true=>
   have q:=(tC i).1 hi;rw [Bv i q];exact⟨q,i⟩
  |false=>
   rw [oK f hi];have i2:=i.round;have Y:=PE w;have h3:=cB w;by_cases ho:(iT w).aN.bG=[]
   ·have q:=UL i ho
    generalize fQ w=x at*;rw [Bv i2 q f];exact⟨q,i2⟩
   ·have N:ug (oJ (iT w) 3).aN.bG<ug (iT w).aN.bG:=cA i.drain.1 i.drain.2 ho
    have h4:ug (fQ w).aN.bG+1<=f:=by omega
    generalize fQ w=x at*;exact ih i2 h4
def fD (w:AW):AW×Nat:=gq 30 w
theorem WI.settle {n:Nat} {G:Reg} {w:AW} (i:WI n G w):Quiet (fD w).1/\WI n G (fD w).1/\(fD w).2<=30:=by
 have N:=(QU w.aN.bG).1;have Y:=i.core.Bl;have:=QV 30 i V;exact⟨this.1,this.2,MF _ _⟩
theorem FH:∀(l:List Rc) (h:Hd),(l.foldl fF h).bg=h.bg
 | [],_=>rfl
 |r::l,h=>by
  rw [List.foldl_cons,FH l];unfold fF;split
  ·rfl
  ·split
   ·rfl
   ·split<;>rfl
theorem CW (l:List Rc):(fA l).bg=l:=FH l _
theorem cC {h:Hs} (m:Ms) {k:Nat} (hk:h.bg.length<=k):(dK h m).bg.length<=k+1:=by
 have hn:∀r:Rc,(gW h r).bg.length<=k+1:=fun r=>by
  rw [show(gW h r).bg=h.bg++ [r] from Cj _];simpa using hk
 unfold dK;split
 ·split
  ·exact hn _
  ·omega
 ·split
  ·split
   ·exact hn _
   ·omega
  ·split
   ·split
    ·exact hn _
    ·omega
   ·omega
theorem cD (o:Opn) (m:Ms):(fK o m).2.1.length<=1:=by
 unfold fK;split
 ·split<;>simp
 ·split
  ·simp
  ·split
   ·split<;>simp
   ·split<;>simp
theorem PI {m:Ms}:∀{l:List Opn} {x:List Opn×List Rc×List Ms},kV m l=some x->x.2.1.length<=1
 | [],x,h=>by simp [kV] at h
 |o::l,x,h=>by
  rw [kV] at h;split at h
  ·rw [<-bI h];exact cD o m
  ·cases e:kV m l with
   |none=>rw [e] at h;cases h
   |some y=>
    rw [e] at h;rw [<-bI h];have h9:=PI e;exact h9
theorem cF {h:Hd} (m:Ms) {k:Nat} (hk:h.bg.length<=k):(gQ h m).bg.length<=k+1:=by
 unfold gQ;split
 ·omega
 ·rename_i x e
  have:=PI e;show(h.bg++x.2.1).length<=_;rw [List.length_append];omega
theorem PK (h:Hd) (P:List Pt):(kL h P).bg=h.bg:=by
 unfold kL;split<;>rfl
theorem mU {h:Hd} {k:Nat} (hk:h.bg.length<=k):(lV h).bg.length<=k+1:=by
 unfold lV;split
 ·omega
 ·rw [CW];simpa using hk
theorem Ih.more {k:Nat} {w:AW} (f:Ih k w):Ih (k+1) w:=⟨by have:=f.bg;omega,fun h hh=>by have:=f.logs h hh;omega⟩
theorem Ih.come {k:Nat} {w:AW} (f:Ih k w) (m:Ms):Ih (k+1) (iZ w m):=by
 unfold iZ;split
 ·exact f.more
 ·rename_i h e
  split
  ·refine⟨by have:=f.bg;show w.aN.bg.length<=_;omega,fun x Z=>?_⟩
   rcases List.mem_or_eq_of_mem_set Z with Z|rfl
   ·have:=f.logs x Z;omega
   ·exact cC m (f.logs h (List.mem_of_getElem? e))
  ·exact⟨cF m f.bg,fun x Z=>by have:=f.logs x Z;omega⟩
theorem Ih.step {k:Nat} {w:AW} (f:Ih k w) (s:St):Ih (k+1) (jZ w s):=by
 have f1:=f.more;have f2:∀bM,Ih k { w with bM:=bM }:=fun _=>⟨f.bg,f.logs⟩;unfold jZ;split
 ·split
  ·exact⟨by show(kL w.aN s.aH).bg.length<=_;rw [PK];exact f1.bg,f1.logs⟩
  ·exact f1
 ·split
  ·split
   ·exact(f2 _).come _
   ·exact f1
  ·split
   ·split
    ·exact(f2 _).more
    ·exact f1
   ·split
    ·split
     ·exact(f2 _).more
     ·exact f1
    ·split
     ·split
      ·exact⟨mU f.bg,f1.logs⟩
      ·exact f1
     ·split
      ·split
       ·unfold jy
        split
        ·exact(f2 _).more
        ·split
         ·exact f1
         ·exact(f2 _).more
       ·exact f1
      ·split
       ·exact⟨f1.bg,f1.logs⟩
       ·exact f1
theorem Ih.zero (n:Nat):Ih 0 (gK n):=⟨by show(fA _).bg.length<=_;rw [CW];simp,fun h hh=>by
 rw [List.eq_of_mem_replicate hh];show(jM []).bg.length<=_;rw [Cj];simp⟩
theorem Ih.play (n:Nat):∀(l:List St) {k:Nat} {w:AW},Ih k w->Ih (k+l.length) (d_ w l)
 | [],k,w,f=>f
 |s::l,k,w,f=>by
  show Ih _ (d_ (jZ w s) l);have:=Ih.play n l (f.step s);rw [List.length_cons,show k+(l.length+1)=k+1+l.length by omega];exact this
structure Small (w:AW):Prop where
 few:∃k,k<=1000/\Ih k w
 wi:∃n G,WI n G w
theorem Ij {α β:Type} (q:α->Bool) (f:α->β) {l:List α} {j:Nat} (h:j<l.length):((l.take (j+1)).filter q).map f=if q l[j]=true then((l.take j).filter q).map f++ [f l[j]] else((l.take j).filter q).map f:=by
 rw [List.take_succ_eq_append_getElem h,List.filter_append,List.map_append];by_cases O:q l[j]=true<;>simp [O]
theorem FI {α β:Type} (f:α->β) {l:List α} {j:Nat} (h:j<l.length):(l.take (j+1)).map f=(l.take j).map f++ [f l[j]]:=by
 rw [List.take_succ_eq_append_getElem h,List.map_append];rfl
theorem CX {α β:Type} (f:α->List β) {l:List α} {j:Nat} (h:j<l.length):(l.take (j+1)).flatMap f=(l.take j).flatMap f++f l[j]:=by
 rw [List.take_succ_eq_append_getElem h,List.flatMap_append];simp
theorem MG {α β:Type} (q:α->Bool) (f:α->List β) {l:List α} {j:Nat} (h:j<l.length):((l.take (j+1)).filter q).flatMap f=if q l[j]=true then((l.take j).filter q).flatMap f++f l[j] else((l.take j).filter q).flatMap f:=by
 rw [List.take_succ_eq_append_getElem h,List.filter_append,List.flatMap_append];by_cases O:q l[j]=true<;>simp [O]
theorem jJ (l:List Pt):(dB l).length<=3:=Nat.le_trans (List.length_filter_le _ _) σ
theorem zT (o:Opn):(jD o).length<=3:=by
 unfold jD;rw [List.length_map];exact Nat.le_trans (List.length_filter_le _ _) (jJ _)
theorem uX (d:Int) (l:List Pt):(fU d l).length<=3:=by
 unfold fU;rw [List.length_map];exact jJ _
theorem qg {α β:Type} {f:α->List β} {b:Nat} (hf:∀x,(f x).length<=b):∀(l:List α),(l.flatMap f).length<=l.length*b
 | []=>by simp
 |x::l=>by
  rw [List.flatMap_cons,List.length_append,List.length_cons,Nat.add_mul,Nat.one_mul];have:=hf x;have:=qg hf l;omega
structure V7 where
 bG:List Opn
 recs:List Rc
 says:List Ms
 known:Bool
def gV (m:Ms) (s:V7) (o:Opn):V7:=
 if o.aJ=m.aJ/\s.known=false then⟨s.bG++(fK o m).1,(fK o m).2.1,(fK o m).2.2,true⟩ else { s with bG:=s.bG++ [o] }
def hgo (m:Ms) (l:List Opn):V7:=l.foldl (gV m) ⟨[],[],[],false⟩
theorem m5 (m:Ms) {l:List Opn} {j:Nat} (h:j<l.length):hgo m (l.take (j+1))=gV m (hgo m (l.take j)) l[j]:=by
 unfold hgo;rw [List.take_succ_eq_append_getElem h,List.foldl_append];rfl
theorem PL (m:Ms):∀(l:List Opn) (s:V7),s.known=true->l.foldl (gV m) s={ s with bG:=s.bG++l }
 | [],s,_=>by simp
 |o::l,s,h=>by
  rw [List.foldl_cons];have e:gV m s o={ s with bG:=s.bG++ [o] }:=by unfold gV;rw [aV (by rw [h];simp)]
  rw [e,PL m l { s with bG:=s.bG++ [o] } h];simp
theorem YM (m:Ms):∀(l:List Opn) (p:List Opn),l.foldl (gV m) ⟨p,[],[],false⟩=match kV m l with
  |none=>⟨p++l,[],[],false⟩
  |some x=>⟨p++x.1,x.2.1,x.2.2,true⟩
 | [],p=>by simp [kV]
 |o::l,p=>by
  rw [List.foldl_cons,kV];by_cases hd:o.aJ=m.aJ
  ·have e:gV m ⟨p,[],[],false⟩ o=⟨p++(fK o m).1,(fK o m).2.1,(fK o m).2.2,true⟩:=by unfold gV;rw [bC ⟨hd,rfl⟩]
   rw [e,PL m l ⟨p++(fK o m).1,(fK o m).2.1,(fK o m).2.2,true⟩ rfl,bC hd];simp
  ·have e:gV m ⟨p,[],[],false⟩ o=⟨p++ [o],[],[],false⟩:=by unfold gV;rw [aV (fun h=>hd h.1)]
   rw [e,YM m l,aV hd];cases kV m l with
   |none=>simp
   |some x=>simp
theorem m8 (h:Hd) (m:Ms):gQ h m={ h with bG:=(hgo m h.bG).bG,bg:=h.bg++(hgo m h.bG).recs }/\iQ h m=(if(hgo m h.bG).known=false/\m.aX=7 then [⟨5,m.aJ,m.aU,[]⟩] else(hgo m h.bG).says):=by
 have e:=YM m h.bG [];unfold gQ iQ hgo;rw [e];cases kV m h.bG with
 |none=>simp
 |some x=>simp
theorem YN (m:Ms):∀(l:List Opn) (s:V7),(l.foldl (gV m) s).bG.length<=s.bG.length+l.length
 | [],s=>by simp
 |o::l,s=>by
  rw [List.foldl_cons];have N:=YN m l (gV m s o);have Y:(gV m s o).bG.length<=s.bG.length+1:=by
   unfold gV;split
   ·have:(fK o m).1.length<=1:=by
     unfold fK;split
     ·split<;>simp
     ·split
      ·simp
      ·split
       ·split<;>simp
       ·split<;>simp
    show(s.bG++_).length<=_;rw [List.length_append];omega
   ·show(s.bG++_).length<=_
    simp
  rw [List.length_cons];omega
theorem jF {P:Program} {ty:TypeId} {w:World} {o:Oper} {a:Act} {K:Act->World->Prop} {Q:Exit->Act->World->Prop} (d s:Operand) (ho:o.op=.store ty d s)
  {g p:Nat} {t:TypeId} {old cells new:Array Value} (hd:a.eval d=.pointer (some ⟨g,p,none⟩)) (hs:a.eval s=.agg cells) (hrow:w.heap[g]? =some (.cells old t (0,0)))
  (hi:(P.info? ty).map (·.size)=some cells.size) (hos:p+cells.size<=old.size) (N:cells.toList.all (·.oneCell')=true) (hnew:(old.toList.take p++cells.toList++old.toList.drop (p+cells.size)).toArray=new)
  (h:∀w',w'.heap[g]? =some (.cells new t (0,0))->w.grownBy w' (some g)->K (a.put o.dst undef) w'):o.wp P a w K Q:=by
 have hr:=run_storeCells_at (P:=P) g p t cells.toList 0 old w hrow (by simpa using hos) (fun v hv=>by simpa using List.all_eq_true.1 N v hv);simp only [Nat.add_zero,Array.length_toList] at hr;rw [hnew] at hr;have VY:(storeVar ty ⟨g,p,none⟩ (.agg cells)).run P w=.ok () (w.setRow g new):=by
  cases O:P.info? ty with
  |none=>simp [O] at hi
  |some q=>
   have hs:cells.size=q.size:=by simp [O] at hi;omega
   simp [storeVar,sizeOf,typeInfo,O,Value.cells,hs] at hr ⊢;exact hr
 unfold Oper.wp execOp;simp only [ho,hd,hs,Instr.storeAt,Instr.sureAddr,Sem.run_bind,Sem.run_pure,Result.andThen_ok,VY];exact h _ (setRow_heap w g old new t _ hrow) ⟨rfl,rfl,rfl,by simp [World.setRow],fun k hk hne=>by
  simp only [World.setRow];rw [Array.getElem?_modify];rw [aV (fun e=>hne (by rw [e]))]⟩
theorem xH {P:Program} {ty:TypeId} {ops:Array Oper} {rest:List Oper} {w:World} {o:Oper} {a:Act} {Q:Exit->Act->World->Prop} (hgd:o.guard=none) (d s:Operand) (ho:o.op=.store ty d s)
  {g p:Nat} {t:TypeId} {old cells new:Array Value} (hd:a.eval d=.pointer (some ⟨g,p,none⟩)) (hs:a.eval s=.agg cells) (hrow:w.heap[g]? =some (.cells old t (0,0)))
  (hi:(P.info? ty).map (·.size)=some cells.size) (hos:p+cells.size<=old.size) (N:cells.toList.all (·.oneCell')=true) (hnew:(old.toList.take p++cells.toList++old.toList.drop (p+cells.size)).toArray=new)
  (h:∀w',w'.heap[g]? =some (.cells new t (0,0))->w.grownBy w' (some g)->wpList P ops Q rest (a.put o.dst undef) w'):wpList P ops Q (o::rest) a w:=
 wpList_plain hgd fun _ hK=>jF d s ho hd hs hrow hi hos N hnew fun w' a b=>hK _ _ (h w' a b)
theorem dF {P:Program} {ty:TypeId} {w:World} {o:Oper} {a:Act} {K:Act->World->Prop} {Q:Exit->Act->World->Prop} (d s:Operand) (ho:o.op=.store ty d s)
  {g p:Nat} {t:TypeId} {old new:Array Value} {v:Value} (hd:a.eval d=.pointer (some ⟨g,p,none⟩)) (hs:a.eval s=v) (hv:v.cells=[v].toArray) (hrow:w.heap[g]? =some (.cells old t (0,0)))
  (hi:(P.info? ty).map (·.size)=some 1) (hos:p+1<=old.size) (N:v.oneCell'=true) (hnew:(old.toList.take p++ [v]++old.toList.drop (p+1)).toArray=new)
  (h:∀w',w'.heap[g]? =some (.cells new t (0,0))->w.grownBy w' (some g)->K (a.put o.dst undef) w'):o.wp P a w K Q:=by
 have hr:=run_storeCells_at (P:=P) g p t [v] 0 old w hrow (by simpa using hos) (fun u hu=>by rw [List.mem_singleton.1 hu];exact N);simp only [Nat.add_zero,List.length_singleton] at hr;rw [hnew] at hr;have VY:(storeVar ty ⟨g,p,none⟩ v).run P w=.ok () (w.setRow g new):=by
  cases O:P.info? ty with
  |none=>simp [O] at hi
  |some q=>
   have hs:1=q.size:=by simp [O] at hi;omega
   simp [storeVar,sizeOf,typeInfo,O,hv,<-hs] at hr ⊢;exact hr
 unfold Oper.wp execOp;simp only [ho,hd,hs,Instr.storeAt,Instr.sureAddr,Sem.run_bind,Sem.run_pure,Result.andThen_ok,VY];exact h _ (setRow_heap w g old new t _ hrow) ⟨rfl,rfl,rfl,by simp [World.setRow],fun k hk hne=>by
  simp only [World.setRow];rw [Array.getElem?_modify];rw [aV (fun e=>hne (by rw [e]))]⟩
theorem bF {w:World} {B:Nat} {a b c d e f:Value} {t:TypeId} (h:w.heap[B]? =some (.cells #[a,b,c,d,e,f] t (0,0))):
  w.cell? ⟨B,0,none⟩=some a/\w.cell? ⟨B,1,none⟩=some b/\w.cell? ⟨B,2,none⟩=some c/\w.cell? ⟨B,3,none⟩=some d/\w.cell? ⟨B,4,none⟩=some e/\w.cell? ⟨B,5,none⟩=some f:=by
 simp [World.cell?,h]
theorem iK (bM ms:List Ms):kC (bM.map dh) ms=(eu bM ms).map dh:=by
 unfold kC eu;rw [List.map_append,List.length_map]
theorem WI.right {n:Nat} {G:Reg} {x:AW} (i:WI n G x):∀m∈x.bM,cZ m=0:=fun m hm=>CG.2 (i.bM m hm).right
theorem WI.says {n:Nat} {G:Reg} {hd:Hd} {hs:List Hs} {ms:List Ms} (h:∀m∈ms,wZ n G hd hs m):∀m∈ms,cZ m=0:=fun m hm=>CG.2 (h m hm).right
theorem Ik (bM:List Ms) (k:Nat):(bM.map dh).take k++(bM.map dh).drop (k+1)=(bM.eraseIdx k).map dh:=by
 rw [List.eraseIdx_eq_take_drop_succ,List.map_append,List.map_take,List.map_drop]
theorem HI.keys {G:Reg} {D:List Rd} {k:Int} {h:Hs} (i:HI G D k h):∀r∈h.bg,jg r.aH:=fun r hr=>by
 have Y:=of_decide_eq_true (i.bg r hr);by_cases hp:r.aH=[]
 ·rw [hp];intro p hp;simp at hp
 ·exact vJ (Y.2.1 hp)
theorem mJ (l:List Pt):∀x∈dB l,I64 x:=fun x Z=>by
 have h:=(List.mem_filter.1 Z).1;simp only [List.mem_cons,List.not_mem_nil,or_false] at h;rcases h with rfl|rfl|rfl<;>(unfold I64;decide)
theorem sU {w:World} {base:Nat} {e:TypeId} {v:Value} {l:List Int} (h:w.ownsRow base e 1 v l.length (l.flatMap eX)) (hok:∀x∈l,I64 x):Sl Ty.int w.cell? v l:=(bK.ints (c:=w.cell?) h hok).sl ε (Sub.refl _)
theorem MH {v:Value} {o:Opn} (w:World) (hv:Of Ty.bG w.cell? v o) (hm:o.aH.length*24<=140737488355328):
  Calls Tryz.prog 100 #[v] w fun e w'=>∃v',e=.returned v'/\bK Ty.ms (fun _=>none) w' w.heap.size 85 v' (fU o.aJ o.aH)/\aK w w':=by
 obtain⟨ap,cp,ah,ch,rfl⟩:=hv.UF;obtain⟨hid,hp,hh⟩:=hv.PD;have AL:=I (fun(W:World) (hW:aK w W)=>Ee W (hp.mono hW.sub) hm);have T1:=I hid;clear hv hp hh hid;have R1:=I (bn w (.cells #[J o.aJ,U ap o.aH.length cp,.bool o.dec,U ah o.aZ.length ch] 58));go_enter Tryz.func100,Tryz.ntmps100;go_wp2_with fail
 refine(AL.o _ ((aG w).alloc _)).mono ?_;rintro e w1 ⟨v1,rfl,MI,dZ⟩;obtain⟨a1,c1,rfl⟩:=dG MI;have hix:=sU MI (mJ o.aH);have R2:=I (aF R1.o dZ);have G1:=I (((aG w).alloc (.cells #[J o.aJ,U ap o.aH.length cp,.bool o.dec,U ah o.aZ.length ch] 58)).trans dZ);have HL:=I (jJ o.aH);have AD:Hid ((dB o.aH).map (fun n=>(⟨5,o.aJ,n,[]⟩:Ms))=fU o.aJ o.aH):=I rfl;clear MI dZ;generalize dB o.aH=hs at*;obtain⟨a1',c1',he1,-,-,-,hel⟩:=hix;obtain⟨rfl,rfl⟩:a1=a1'/\c1=c1':=by simpa using he1
 clear he1;go_wp2;go_loopw [3,10] (fun s3 i wr=>∃k:Nat,k<=hs.length/\i=J k/\aK w1 wr/\bK Ty.ms (fun _=>none) wr w1.heap.size 85 s3 ((hs.take k).map fun n=>(⟨5,o.aJ,n,[]⟩:Ms))) (fun _ i _=>hs.length - (intOf i).toNat)
 case atStart=>exact⟨0,V,rfl,aG _,bK.nil _ _ _ _ _⟩
 case round=>
  obtain⟨k,hk',rfl,hb,bU⟩:=hrel;have hl3:=HL.o;by_cases hlt:k<hs.length
  ·have nK:=I (FI (fun n=>(⟨5,o.aJ,n,[]⟩:Ms)) hlt)
   have CB:=I (show((hs.take k).map fun n=>(⟨5,o.aJ,n,[]⟩:Ms)).length<=3 by simp;omega);obtain⟨bx,ox,rfl,x0,hni⟩:=xu hel k hlt;replace x0:=hb.sub _ _ x0;have Xc:=I hni;have dX:=I bU;have HB:=I hb;obtain⟨av,cv,rfl⟩:=bU.form;obtain⟨r0,r1,r2,r3⟩:=aT (aF R2.o hb);have z1:w.heap.size<wr:=(Array.getElem?_eq_some_iff.1 (aF R2.o hb)).1;clear bU hb hel hni;generalize hs[k]=n at*;generalize (hs.take k).map (fun n=>(⟨5,o.aJ,n,[]⟩:Ms))=ms at*;go_wp2_with (first|(at_builtin;refine cO (c:=fun _=>none) (base:=w1.heap.size) (l:=ms) (m:=[⟨5,o.aJ,n,[]⟩]) Ah rfl pR ε rfl (.tmp 14) (.tmp 19) rfl rfl ?own rfl (Src.dU (T:=Ty.ms) (x:=⟨5,o.aJ,n,[]⟩) (cs:=#[J 5,J o.aJ,J n,()]) ⟨_,rfl,(show I64 5 from by unfold I64;decide),T1.o,Xc.o,Sl.nil _ _⟩ _ _ ?d1) ?d2 ?d3 ?_))
   case own=>exact dX.o.grow ((aG _).alloc _)
   case d1=>simp
   case d2=>have:=CB.o;simp;omega
   case d3=>have:=HB.o.size;simp;omega
   intro a9 c9 w9 gX fV iE;have kR:Hid (aK w1 w9):=I (dI (w0:=w1) (HB.o.alloc _) fV (fun q O=>(dX.o.lt q O).1));have jE:=I gX;clear gX fV iE;go_wp2;go_roundw
   case rel=>exact⟨k+1,V,by go_num,kR.o,by rw [nK.o];exact jE.o⟩
   case measure=>simp [intOf];omega
  ·have dX:=I bU
   have HB:=I hb;clear bU hb hel;go_wp2;go_ret;have h9:=dX.o;rw [eG V,AD.o] at h9;exact⟨_,rfl,h9.base G1.o.size,G1.o.trans HB.o⟩
theorem kG {w w1 W:World} {X:List (Option Nat)} (h:w.heap.size<=w1.heap.size):Sub (fr w1 W X) (fr w W X):=fun a v e=>by
 unfold fr at e;split at e
 ·cases e
 ·rename_i hn
  rw [jh (by have N:¬a.block<w1.heap.size:=fun Z=>hn (.inl Z);omega) (fun Z=>hn (.inr Z))];exact e
theorem A1x {l:List Pt} (h:AY l) (n:Int):AY (jT l n):=fun p hp=>h p (List.mem_filter.1 hp).1
abbrev w_ (o:Opn) (n:Int):Bool:=!decide (n∈o.aZ)
theorem vY {v:Value} {o:Opn} (w:World) (hv:Of Ty.bG w.cell? v o) (hm:o.aH.length*24<=140737488355328):
  Calls Tryz.prog 90 #[v] w fun e w'=>∃v',e=.returned v'/\bK Ty.ms (fr w w' [v'.ownBlock]) w' w.heap.size 85 v' (jD o)/\aK w w':=by
 obtain⟨ap,cp,ah,ch,rfl⟩:=hv.UF;obtain⟨hid,hp,hh⟩:=hv.PD;have AL:=I (fun(W:World) (hW:aK w W)=>Ee W (hp.mono hW.sub) hm);have CT:=I (fun(n:Int) (W:World) (hW:aK w W)=>KE (n:=n) W (hp.mono hW.sub) hm);have yF:=I (fun(n:Int) (W:World) (hW:aK w W)=>zC (n:=n) W (hh.mono hW.sub));have D3:=I (pX.ok hp);have T1:=I hid;clear hv hp hh hid;have R1:=I (bn w (.cells #[J o.aJ,U ap o.aH.length cp,.bool o.dec,U ah o.aZ.length ch] 58));go_enter Tryz.func90,Tryz.ntmps90;go_wp2_with fail
 refine(AL.o _ ((aG w).alloc _)).mono ?_;rintro e w1 ⟨v1,rfl,MI,dZ⟩;obtain⟨a1,c1,rfl⟩:=dG MI;have hix:=sU MI (mJ o.aH);have R2:=I (aF R1.o dZ);have G1:=I (((aG w).alloc (.cells #[J o.aJ,U ap o.aH.length cp,.bool o.dec,U ah o.aZ.length ch] 58)).trans dZ);have HL:=I (jJ o.aH);have AD:Hid (((dB o.aH).filter (w_ o)).map (jI o)=jD o):=I rfl;clear MI dZ;generalize dB o.aH=hs at*;obtain⟨a1',c1',he1,-,-,-,hel⟩:=hix;obtain⟨rfl,rfl⟩:a1=a1'/\c1=c1':=by simpa using he1
 clear he1;go_wp2;go_loopw [3,10] (fun s3 i wr=>∃k:Nat,k<=hs.length/\i=J k/\aK w1 wr/\bK Ty.ms (fr w1 wr [s3.ownBlock]) wr w1.heap.size 85 s3 (((hs.take k).filter (w_ o)).map (jI o))) (fun _ i _=>hs.length - (intOf i).toNat)
 case atStart=>exact⟨0,V,rfl,aG _,bK.nil _ _ _ _ _⟩
 case round=>
  obtain⟨k,hk',rfl,hb,bU⟩:=hrel;have hl3:=HL.o;by_cases hlt:k<hs.length
  ·have nK:=I (Ij (w_ o) (jI o) hlt)
   have CB:=I (show(((hs.take k).filter (w_ o)).map (jI o)).length<=3 by rw [List.length_map];exact Nat.le_trans (List.length_filter_le _ _) (by simp;omega));obtain⟨bx,ox,rfl,x0,hni⟩:=xu hel k hlt;replace x0:=hb.sub _ _ x0;have Xc:=I hni;have dX:=I bU;have HB:=I hb;have GW:=I (G1.o.trans hb);have RR:=I (aF R2.o hb);obtain⟨av,cv,rfl⟩:=bU.form;obtain⟨r0,r1,r2,r3⟩:=aT RR.o;have z1:w.heap.size<wr:=(γ RR.o);clear bU hb hel hni;generalize hs[k]=n at*;generalize ((hs.take k).filter (w_ o)).map (jI o)=ms at*;go_wp2_with fail
   refine(yF.o n _ GW.o).mono ?_;rintro e w2 ⟨rfl,gB⟩;have G2:=I (GW.o.trans gB);have jq:=I (HB.o.trans gB);have R5:=I (aF RR.o gB);have pI:=I ((dX.o.mono (fH gB)).grow gB);clear gB r0 r1 r2 r3 z1 x0;obtain⟨r0,r1,r2,r3⟩:=aT R5.o;have z1:w.heap.size<w2:=(γ R5.o);by_cases O:n∈o.aZ
   ·have m9:decide (n∈o.aZ)=true:=decide_eq_true O
    have HT:=I nK.o;rw [aV (by show¬w_ o n=true;simp [w_,O])] at HT;rw [m9];clear O;go_wp2;go_roundw
    case rel=>exact⟨k+1,V,by go_num,jq.o,by rw [HT.o];exact pI.o⟩
    case measure=>simp [intOf];omega
   ·have m9:decide (n∈o.aZ)=false:=decide_eq_false O
    have HT:=I nK.o;rw [bC (by show w_ o n=true;simp [w_,O])] at HT;rw [m9];clear O;by_cases hd:o.dec=true
    ·have HCM:Hid (jI o n=⟨4,o.aJ,n,[]⟩):=I (by unfold jI;rw [bC hd])
     rw [HCM.o] at HT;rw [hd] at r2;clear hd;go_wp2_with (first|(at_builtin;refine cO (c:=fr w1 w2 [(Value.slice av ms.length cv).ownBlock]) (base:=w1.heap.size) (l:=ms) (m:=[⟨4,o.aJ,n,[]⟩]) Ah rfl pR ε rfl (.tmp 33) (.tmp 38) rfl rfl ?own rfl (Src.dU (T:=Ty.ms) (x:=⟨4,o.aJ,n,[]⟩) (cs:=#[J 4,J o.aJ,J n,()]) ⟨_,rfl,(show I64 4 from by unfold I64;decide),T1.o,Xc.o,Sl.nil _ _⟩ _ _ ?d1) ?d2 ?d3 ?_))
     case own=>exact pI.o.grow ((aG _).alloc _)
     case d1=>simp
     case d2=>have:=CB.o;simp;omega
     case d3=>have:=jq.o.size;simp;omega
     intro a9 c9 w9 gX fV iE;have kR:Hid (aK w1 w9):=I (dI (w0:=w1) (jq.o.alloc _) fV (fun q O=>(dX.o.lt q O).1));have jE:=I ((gX.mono (fH ((aG w2).alloc (.cells #[J 4,J o.aJ,J n,()] 85)))).mono (uy fV (iE.imp_right fun⟨g,e,hge⟩=>⟨g,e,by simpa using hge⟩)));clear gX fV iE;go_wp2;go_roundw
     case rel=>exact⟨k+1,V,by go_num,kR.o,by rw [HT.o];exact jE.o⟩
     case measure=>simp [intOf];omega
    ·have hd':o.dec=false:=by simpa using hd
     have HCM:Hid (jI o n=⟨1,o.aJ,n,jT o.aH n⟩):=I (by unfold jI;rw [aV hd]);rw [HCM.o] at HT;rw [hd'] at r2;clear hd hd';have uM:=I (A1x D3.o n);have HS:Hid (∀W,aK w2 W->W.cell? ⟨w,0,none⟩=some (J o.aJ)/\W.cell? ⟨w,1,none⟩=some (U ap o.aH.length cp)):=fun W hW=>⟨hW.sub _ _ r0,hW.sub _ _ r1⟩;go_upto_region 5 with fail
     refine dH (fun w'=>w'.cell? ⟨w,0,none⟩=some (J o.aJ)/\w'.cell? ⟨w,1,none⟩=some (U ap o.aH.length cp)) 11 κ ?_;obtain⟨wd,hWd⟩:=χ w2.drew;rw [<-hWd];have GD:aK w2 wd:=by rw [hWd];exact(aG _).drew
     have zD:w2.heap.size=wd.heap.size:=by rw [hWd];rfl
     clear hWd zD;refine qJ [0,1,2,3,4,5,6] 14 κ (fun _ _ _ _ _ h=>h) (HS.o _ GD) ?_;repeat (refine jY ?_;try simp only [bT])
     refine qK ?_;refine bO 7 κ rfl ?_;intro K M;try simp only [dD]
     go_simp;go_at_call 20
     refine(CT.o n _ (G2.o.trans GD)).mono ?_;rintro e5 w5 ⟨v5,rfl,mW,iY⟩;obtain⟨a5,c5,rfl⟩:=dG mW;have oQ:=I mW;have G5:=I (aK.trans GD iY);have ZD5:=I (GD).size;clear mW iY;generalize jT o.aH n=pl at*;refine ψ M (fun _=>HS.o _ G5.o) ?_;try simp only [bT]
     refine bO 8 κ rfl ?_;intro K M;try simp only [dD]
     go_simp;refine ψ M (fun _=>HS.o _ G5.o) ?_;try simp only [bT]
     refine bO 9 κ rfl ?_;intro K M;try simp only [dD]
     go_simp;obtain⟨w6,sF⟩:=χ (w5.alloc (.cells #[J 1,J o.aJ,J n,U a5 pl.length c5] 85));have G6:Hid (aK w5 w6):=I (by rw [sF];exact(aG _).alloc _);have MM:=I (G5.o.trans G6.o);have yD:Hid (Src Ty.ms (fr w1 w6 [(Value.slice av ms.length cv).ownBlock]) w6 (U (some ⟨w5,0,none⟩) 1 1) [⟨1,o.aJ,n,pl⟩]):=I (by
      have hlt2:=dX.o.lt;have hsl:Sl Ty.pt (fr w1 w6 [(Value.slice av ms.length cv).ownBlock]) (U a5 pl.length c5) pl:=by
       refine KZ (w1:=wd) (kE oQ.o G6.o) uM.o ?_ ?_
       ·have:=jq.o.size;have:=ZD5.o;omega
       ·intro q O
        simp only [List.mem_singleton];intro e;have:=(pI.o.lt q e.symm).2;have:=ZD5.o;omega
      rw [sF] at hsl ⊢;exact Src.dU (T:=Ty.ms) (x:=⟨1,o.aJ,n,pl⟩) (cs:=#[J 1,J o.aJ,J n,U a5 pl.length c5]) ⟨_,rfl,(show I64 1 from by unfold I64;decide),T1.o,Xc.o,hsl⟩ _ _ rfl)
     rw [<-sF];clear sF;refine ψ M (fun _=>HS.o _ MM.o) ?_;try simp only [bT]
     refine bO 10 κ rfl ?_;intro K M;refine aY rfl ?_;try simp only [dD]
     refine fP (c:=fr w1 w6 [(Value.slice av ms.length cv).ownBlock]) (base:=w1.heap.size) (l:=ms) (m:=[⟨1,o.aJ,n,pl⟩]) (v:=U av ms.length cv) Ah rfl pR ε (.tmp 14) (.tmp 23) rfl rfl ((pI.o.mono (fH MM.o)).grow MM.o) rfl yD.o (by have:=CB.o;simp;omega) (by have:=jq.o.size;have:=MM.o.size;omega) ?_;intro a9 c9 w9 gX fV iE;have A1y:Hid (aK w1 w9):=I (dI (w0:=w1) (jq.o.trans MM.o) fV (fun q O=>(dX.o.lt q O).1));have jE:=I (gX.mono (uy fV (iE.imp_right fun⟨g,e,hge⟩=>⟨g,e,hge⟩)));have QW:Hid (w9.cell? ⟨w,0,none⟩=some (J o.aJ)/\w9.cell? ⟨w,1,none⟩=some (U ap o.aH.length cp)):=I (by obtain⟨k0,k1,-,-⟩:=aT (aF R2.o A1y.o);exact⟨k0,k1⟩);clear gX fV iE;refine ψ M (fun _=>QW.o) ?_;try simp only [bT]
     refine bO 11 κ rfl ?_;intro K M;try simp only [dD]
     go_simp;refine ψ M (fun h=>absurd rfl h) ?_;try simp only [bT]
     refine bW κ ?_;go_wp2;go_roundw
     case rel=>exact⟨k+1,V,by go_num,A1y.o,by rw [HT.o];exact jE.o⟩
     case measure=>simp [intOf];omega
  ·have dX:=I bU
   have HB:=I hb;clear bU hb hel;go_wp2;go_ret;have h9:=dX.o;rw [eG V,AD.o] at h9;exact⟨_,rfl,(h9.mono (kG G1.o.size)).base G1.o.size,G1.o.trans HB.o⟩
theorem YO {α:Type} {T:Ty α} (h0:0<T.size) {w W w4:World} {e:Nat} {v:Value} {l:List α} {row:Option Nat} (hg:aK w W) (hr:∀k,row=some k->k<W.heap.size) (h:bK T (fr W w4 [v.ownBlock]) w4 W.heap.size e v l):Src T (fr w w4 [row]) w4 v l:=by
 have hs:=hg.size;have hk:∀k,W.heap.size<=k->some k∉ [row]:=fun k hk=>by
  simp only [List.mem_singleton];intro e;have:=hr _ e.symm;omega
 refine Src.kK h0 (iO _ _ _) (h.slc h0 (fun a v e=>?_) fun a ha=>jh V (hk _ ha));unfold fr at e;split at e
 ·cases e
 ·rename_i hn
  have N:¬a.block<W.heap.size:=fun Z=>hn (.inl Z);rw [jh V (hk _ V)];exact e
theorem bV {w w':World} {B:Nat} {a:Addr} {v:Value} (h:w.cell? a=some v) (hg:w.grownBy w' (some B)) (hne:a.block≠B):w'.cell? a=some v:=by
 rw [fM hg (eH w a h) hne];exact h
theorem PN {B:Nat} {c:CM} {a:Addr} {v:Value} (h:wo B c a=some v):a.block≠B:=fun e=>by
 unfold wo at h;rw [bC e] at h;cases h
theorem nA {c:CM} {w W w1 w':World} {B:Nat} (hW:aK w W) (N:aK W w1) (hB:B<W.heap.size) (hg:w1.grownBy w' (some B)):Sub (ov (wo B (ov c w W)) W w1) (ov c w w'):=fun a v e=>by
 have hs:=hW.size;unfold ov at e;split at e
 ·have ne:=PN e
  have e2:=qL _ _ a v e;by_cases hl:a.block<w.heap.size
  ·rw [bC hl] at e2
   unfold ov;rw [bC hl];exact e2
  ·rw [aV hl] at e2
   rw [dY V];exact bV (N.sub _ _ e2) hg ne
 ·rw [dY V]
  exact bV e hg V
theorem EP.agg {c:CM} {q:Opn} {vp vh:Value} (N:I64 q.aJ) (Y:Sl Ty.pt c vp q.aH) (h3:Sl Ty.int c vh q.aZ):Of Ty.bG c (.agg #[J q.aJ,vp,.bool q.dec,vh]) q:=⟨_,rfl,_,_,rfl,N,Y,h3⟩
structure FK (h:Hd):Prop where
 bG:h.bG.length<=12
 aH:∀o∈h.bG,o.aH.length<=4
 aZ:∀o∈h.bG,o.aZ.length<=3
 bg:h.bg.length<=100000
 aW:0<=h.aW/\h.aW<=20
 next:0<=h.next/\h.next<=64
theorem QX {v:Value} {h:Hd} (w:World) (hv:Of Ty.hd w.cell? v h) (hk:FK h):
  Calls Tryz.prog 57 #[v] w fun e w'=>∃v',e=.returned v'/\bK Ty.ms (fr w w' [v'.ownBlock]) w' w.heap.size 85 v' (qO h)/\aK w w':=by
 obtain⟨al,cl,ar,cr,rfl⟩:=hv.iw;obtain⟨Oi,Oj,he,N,Y,-,hel⟩:=(Of.lM hv).2;obtain⟨rfl,rfl⟩:ar=Oi/\cr=Oj:=by simpa using he
 unfold maxLen at Y;have Ux:=I hk.aH;have T9:=hk.bG;clear hk he hv;go_enter Tryz.func57,Tryz.ntmps57;go_wp2;go_loopw [3,9] (fun s3 i wr=>∃k:Nat,k<=h.bG.length/\i=J k/\aK w wr/\bK Ty.ms (fr w wr [s3.ownBlock]) wr w.heap.size 85 s3 ((h.bG.take k).flatMap jD)) (fun _ i _=>h.bG.length - (intOf i).toNat)
 case atStart=>exact⟨0,V,rfl,je,bK.nil _ _ _ _ _⟩
 case round=>
  obtain⟨k,hk',rfl,hb,bU⟩:=hrel;by_cases hlt:k<h.bG.length
  ·obtain⟨b,o,vp,vh,rfl,c0,c1,c2,c3,i0,hP,hH⟩:=EP.at_ hel k hlt
   obtain⟨ap,cp,rfl,-⟩:=id hP;obtain⟨ah,ch,rfl,-⟩:=id hH;have HAS:=I (fun(W:World) (hW:aK wr W)=>vY (o:=h.bG[k]) W (EP.agg i0 (hP.mono (hb.trans hW).sub) (hH.mono (hb.trans hW).sub)) (τ (Ux.o _ (List.getElem_mem hlt))));replace c0:=hb.sub _ _ c0;replace c1:=hb.sub _ _ c1;replace c2:=hb.sub _ _ c2;replace c3:=hb.sub _ _ c3;have nK:=I (CX jD hlt);have CB:=I (show((h.bG.take k).flatMap jD).length<=36 by have:=qg zT (h.bG.take k);rw [List.length_take] at this;omega);have MJ:=I (zT h.bG[k]);have dX:=I bU;have HB:=I hb;obtain⟨av,cv,rfl⟩:=bU.form;clear hel hP hH bU hb i0;generalize h.bG[k]=q at*;generalize (h.bG.take k).flatMap jD=ms at*;go_wp2_with fail
   refine(HAS.o _ ((aG wr).alloc _)).mono ?_;rintro e w4 ⟨v4,rfl,vO,qW⟩;obtain⟨a4,c4,rfl⟩:=vO.form;have G4:=I (((aG wr).alloc _).trans qW);have yD:=I (YO (w:=w) (row:=(Value.slice av ms.length cv).ownBlock) ε (HB.o.alloc _) (fun q O=>by have:=(dX.o.lt q O).2;simp;omega) vO);have NW:=I ((dX.o.mono (fH G4.o)).grow G4.o);clear vO qW;generalize jD q=aq at*;go_wp2_with (first|(at_builtin;refine cO (c:=fr w w4 [(Value.slice av ms.length cv).ownBlock]) (base:=w.heap.size) (l:=ms) (m:=aq) Ah rfl pR ε rfl (.tmp 13) (.tmp 15) rfl rfl NW.o rfl yD.o ?d2 ?d3 ?_))
   case d2=>have:=CB.o;have:=MJ.o;omega
   case d3=>have:=HB.o.size;have:=G4.o.size;omega
   intro a9 c9 w9 gX fV iE;have kR:Hid (aK w w9):=I (dI (w0:=w) (HB.o.trans G4.o) fV (fun q O=>(dX.o.lt q O).1));have jE:=I (gX.mono (uy fV (iE.imp_right fun⟨g,e,hge⟩=>⟨g,e,by simpa using hge⟩)));clear gX fV iE;go_wp2;go_roundw
   case rel=>exact⟨k+1,V,by go_num,kR.o,by rw [nK.o];exact jE.o⟩
   case measure=>simp [intOf];omega
  ·have dX:=I bU
   have HB:=I hb;clear hel bU hb;go_wp2;go_ret;have h9:=dX.o;rw [eG V] at h9;exact⟨_,rfl,h9,HB.o⟩
theorem nB {c:CM} {v:Value} {h:Hd} (w:World) (hc:Sub c w.cell?) (hv:Of Ty.hd c v h) (hk:FK h):
  Calls Tryz.prog 56 #[v] w fun e w'=>∃v',e=.returned (.tuple #[v',J (uH h)])/\Of Ty.hd (ov c w w') v' (lV h)/\aK w w':=by
 obtain⟨al,cl,ar,cr,rfl⟩:=hv.iw;have HV:=I hv;have HC:=I hc;have G_:=I (Of.lM hv).1;have hll:=hk.bg;clear hk hv hc;obtain⟨wa,fZ⟩:=χ (w.alloc (.cells #[U al h.bg.length cl,J h.aW,J h.next,U ar h.bG.length cr] 29));obtain⟨wz,hwz⟩:=χ (wa.alloc (.cells #[(),J 0,J 0,()] 29));have hsz:wa.heap.size=w.heap.size+1:=by rw [fZ];simp
 have R1:Hid (wz.heap[w.heap.size]? =some (.cells #[U al h.bg.length cl,J h.aW,J h.next,U ar h.bG.length cr] 29 (0,0))):=I (by rw [hwz,fZ];exact bQ (bn _ _) _);have R2:Hid (wz.heap[w.heap.size+1]? =some (.cells #[(),J 0,J 0,()] 29 (0,0))):=I (by rw [hwz,<-hsz];exact bn _ _);have G1:Hid (aK w wz):=I (by rw [hwz,fZ];exact((aG w).alloc _).alloc _);have HZ:Hid (wz.heap.size=w.heap.size+2):=I (by rw [hwz,fZ];simp);by_cases hb:19<h.aW
 ·have MK:Hid (lV h=h):=I (by unfold lV;rw [bC hb])
  have lC:Hid (uH h=5):=I (by unfold uH;rw [bC hb]);go_enter Tryz.func56,Tryz.ntmps56;go_upto_region 1 with fail
  rw [<-fZ];try rw [hsz]
  rw [<-hwz];clear fZ hwz hsz;obtain⟨c0,c1,c2,c3⟩:=aT R1.o;have z1:w.heap.size<wz:=(γ R1.o);have z2:w.heap.size+1<wz:=(γ R2.o);go_wp2_with (first|(refine aQ rfl (.tmp 2) (.tmp 7) rfl rfl rfl R2.o eY rfl rfl ?_))
  intro w7 r7 g7;obtain⟨p0,p1,p2,p3⟩:=aT r7;clear c0 c1 c2 c3;go_wp2;refine dw (v:=.tuple #[.agg #[U al h.bg.length cl,J h.aW,J h.next,U ar h.bG.length cr],J 5]) (by simp [results,Tryz.results56,go_sem,p0,p1,p2,p3]) rfl ?_;have G7:=G1.o.grown g7 (fun q O=>by simp at O;omega);rw [MK.o,lC.o];exact⟨_,rfl,HV.o.mono (gG HC.o),G7⟩
 ·have MK:Hid (lV h=fA (h.bg++ [⟨4,0,[]⟩])):=I (by unfold lV;rw [aV hb])
  have lC:Hid (uH h=0):=I (by unfold uH;rw [aV hb]);have Et:Hid ((h.bg++ [(⟨4,0,[]⟩:Rc)]).length=h.bg.length+1):=I σ;go_enter Tryz.func56,Tryz.ntmps56;go_upto_region 1 with fail
  rw [<-fZ];try rw [hsz]
  rw [<-hwz];clear fZ hwz hsz;obtain⟨c0,c1,c2,c3⟩:=aT R1.o;have z1:w.heap.size<wz:=(γ R1.o);have z2:w.heap.size+1<wz:=(γ R2.o);go_wp2_with (first|(at_builtin;refine cO (c:=c) (base:=w.heap.size+2) (l:=[]) (m:=h.bg) (v:=U (some ⟨wz,0,none⟩) 0 0) mX rfl jc ε rfl (.tmp 8) (.tmp 10) rfl rfl (bK.mY Ty.rc _ _ _ _ ?c1 ?c1') rfl ?src ?c3 ?c4 ?_))
  case c1=>rw [HZ.o];exact Nat.le_refl _
  case c1'=>rfl
  case src=>exact Src.kK ε (HC.o.trans (G1.o.alloc _).sub) G_.o
  case c3=>(try simp);omega
  case c4=>have:=HZ.o;(try simp);omega
  intro a8 c8 w8 nT yK lD;try simp only [List.length_nil,Nat.zero_add,List.nil_append] at nT
  try simp only [List.length_nil,Nat.zero_add]
  have t_:=I nT;have G8:=I (dI (w0:=wz) ((aG wz).alloc _) yK (iM (Nat.le_refl _)));clear nT yK lD c0 c1 c2 c3;go_wp2_with (first|(at_builtin;refine cO (c:=c) (base:=w.heap.size+2) (l:=h.bg) (m:=[⟨4,0,[]⟩]) mX rfl jc ε rfl (.tmp 11) (.tmp 13) rfl rfl (t_.o.grow ((aG _).alloc _)) rfl (Src.dU (T:=Ty.rc) (x:=⟨4,0,[]⟩) (cs:=#[J 4,J 0,()]) ⟨_,rfl,(show I64 4 from by unfold I64;decide),gZ,Sl.nil _ _⟩ _ _ ?d1) ?d2 ?d3 ?_))
  case d1=>first|rfl|simp
  case d2=>(try simp);omega
  case d3=>have:=G8.o.size;have:=HZ.o;(try simp);omega
  intro a9 c9 w9 gX fV iE;have G9:=I (dI (w0:=wz) (G8.o.alloc _) fV (fun q O=>by have:=(t_.o.lt q O).1;have:=HZ.o;omega));have FF:=I (G1.o.trans G9.o);have OE:=I (gX.slc (d:=wo (w.heap.size+1) (ov c w w9)) ε (A8 HC.o V) fun a ha=>Ce V V);have J_:=I (aF R2.o G9.o);clear gX fV iE;generalize h.bg++ [(⟨4,0,[]⟩:Rc)]=lg at*;go_wp2_with fail
  refine(Fp (l:=lg) (c:=wo (w.heap.size+1) (ov c w w9)) w9 (rU HC.o FF.o) ?hl (by rw [Et.o];omega)).mono ?_
  case hl=>first|exact OE.o|(have h9:=OE.o;rw [Et.o] at h9;simpa using h9)
  rintro e yt ⟨v10,rfl,Z,lQ⟩;obtain⟨iC,iD,oD,oG,rfl⟩:=Z.iw;have ML:=I (aF J_.o lQ);have HX:=I Z;have UB:=I lQ;have z29:=(γ J_.o);have lX:=I (FF.o.trans lQ);clear Z lQ;go_wp2_with (first|(refine aQ rfl (.tmp 2) (.tmp 15) rfl rfl rfl ML.o eY rfl rfl ?_))
  intro w7 r7 g7;obtain⟨p0,p1,p2,p3⟩:=aT r7;go_wp2;refine dw (v:=.tuple #[.agg #[U iC (fA lg).bg.length iD,J (fA lg).aW,J (fA lg).next,U oD (fA lg).bG.length oG],J 0]) (by simp [results,Tryz.results56,go_sem,p0,p1,p2,p3]) rfl ?_;rw [MK.o,lC.o];refine⟨_,rfl,?_,lX.o.grown g7 (fun q O=>by simp at O;omega)⟩;exact HX.o.mono (nA FF.o UB.o z29 g7)
theorem bY {P:Program} {ty:TypeId} {ops:Array Oper} {rest:List Oper} {w:World} {o:Oper} {a:Act} {Q:Exit->Act->World->Prop} (hgd:o.guard=none) (d s:Operand) (ho:o.op=.store ty d s)
  {g p:Nat} {t:TypeId} {old new:Array Value} {v:Value} (hd:a.eval d=.pointer (some ⟨g,p,none⟩)) (hs:a.eval s=v) (hv:v.cells=[v].toArray) (hrow:w.heap[g]? =some (.cells old t (0,0)))
  (hi:(P.info? ty).map (·.size)=some 1) (hos:p+1<=old.size) (N:v.oneCell'=true) (hnew:(old.toList.take p++ [v]++old.toList.drop (p+1)).toArray=new)
  (h:∀w',w'.heap[g]? =some (.cells new t (0,0))->w.grownBy w' (some g)->wpList P ops Q rest (a.put o.dst undef) w'):wpList P ops Q (o::rest) a w:=
 wpList_plain hgd fun _ hK=>dF d s ho hd hs hv hrow hi hos N hnew fun w' a b=>hK _ _ (h w' a b)
theorem iW:(Tryz.prog.info? 27).map (·.size)=some 1:=by kernel_rfl
theorem vF:(Tryz.prog.info? 3).map (·.size)=some 1:=by kernel_rfl
theorem bK.A1z {α:Type} {T:Ty α} {c:CM} {w:World} {base e:Nat} {v:Value} {l:List α} (h:bK T c w base e v l):Src T c w v l:=by
 obtain⟨css,N,Y,h3⟩:=h;obtain⟨a,cap,rfl⟩:=dG N;have h4:=Qn N;exact⟨a,cap,css,rfl,h4.1,by obtain⟨-,⟨-,hn⟩|⟨g,cap',cur,he,-,-,hnc,hcm,-⟩⟩:=N<;>omega,Y,h3,h4.2⟩
def Apart (u v:Value):Prop:=∀q,u.ownBlock=some q->v.ownBlock≠some q
theorem Apart.keep {α:Type} {T:Ty α} {c:CM} {w w':World} {base e:Nat} {u v:Value} {l:List α} (h:Apart u v) (hv:bK T c w base e v l) (hg:w.grownBy w' u.ownBlock):bK T c w' base e v l:=
 hv.kept hg (by
  cases e:v.ownBlock with
  |none=>exact .inl rfl
  |some q=>exact .inr (fun e2=>h q e2.symm e))
theorem Apart.symm {u v:Value} (h:Apart u v):Apart v u:=fun q e e2=>h q e2 e
theorem Apart.step {α:Type} {T:Ty α} {c:CM} {w:World} {base e:Nat} {u u' v:Value} {l:List α} (h:Apart u v) (hv:bK T c w base e v l) (hb:u'.ownBlock=u.ownBlock∨∃g,u'.ownBlock=some g/\w.heap.size<=g):Apart u' v:=fun q e e2=>by
 rcases hb with hb|⟨g,hb,hge⟩
 ·exact h q (hb.symm.trans e) e2
 ·rw [hb] at e
  obtain rfl:=bI e;have:=(hv.lt g e2).2;omega
theorem nE {c:CM} {v:Value} {h:Hd} (w:World) (hc:Sub c w.cell?) (hv:Of Ty.hd c v h) (hk:FK h):
  Calls Tryz.prog 59 #[v] w fun e w'=>∃v1 v2,e=.returned (.tuple #[v1,v2])/\Of Ty.hd (ov c w w') v1 (oZ h)/\Sl Ty.ms (ov c w w') v2 (xE h)/\aK w w':=by
 obtain⟨al,cl,ar,cr,rfl⟩:=hv.iw;have G_:=I (Of.lM hv).1;have rG:Hid (I64 h.aW/\I64 h.next):=I (by obtain⟨cs,he,_,_,rfl,_,N,Y,_⟩:=hv;exact⟨N,Y⟩);obtain⟨Oi,Oj,he,N,Y,-,hel⟩:=(Of.lM hv).2;obtain⟨rfl,rfl⟩:ar=Oi/\cr=Oj:=by simpa using he
 unfold maxLen at Y;have Ux:=I hk.aH;have T9:=hk.bG;have HC:=I hc;clear hk he hv hc;obtain⟨wa,fZ⟩:=χ (w.alloc (.cells #[U al h.bg.length cl,J h.aW,J h.next,U ar h.bG.length cr] 29));obtain⟨wz,hwz⟩:=χ (wa.alloc (.cells #[(),J 0,J 0,()] 29));have hsz:wa.heap.size=w.heap.size+1:=by rw [fZ];simp
 have R1:Hid (wz.heap[w.heap.size]? =some (.cells #[U al h.bg.length cl,J h.aW,J h.next,U ar h.bG.length cr] 29 (0,0))):=I (by rw [hwz,fZ];exact bQ (bn _ _) _);have R2:Hid (wz.heap[w.heap.size+1]? =some (.cells #[(),J 0,J 0,()] 29 (0,0))):=I (by rw [hwz,<-hsz];exact bn _ _);have G1:Hid (aK w wz):=I (by rw [hwz,fZ];exact((aG w).alloc _).alloc _);have HZ:Hid (wz.heap.size=w.heap.size+2):=I (by rw [hwz,fZ];simp);go_enter Tryz.func59,Tryz.ntmps59;go_upto_region 3 with fail
 rw [<-fZ];try rw [hsz]
 rw [<-hwz];clear fZ hwz hsz;obtain⟨c0,c1,c2,c3⟩:=aT R1.o;have z1:w.heap.size<wz:=(γ R1.o);go_wp2;clear c0 c1 c2 c3;go_loopw [4,5,11] (fun s4 s5 i wr=>∃k:Nat,k<=h.bG.length/\i=J k/\aK wz wr/\bK Ty.bG c wr (w.heap.size+2) 58 s4 ((h.bG.take k).filter fun o=>o.dec)/\bK Ty.ms (fun _=>none) wr (w.heap.size+2) 85 s5 (((h.bG.take k).filter fun o=>!o.dec).flatMap fun o=>fU o.aJ o.aH)/\Apart s4 s5) (fun _ _ i _=>h.bG.length - (intOf i).toNat)
 case atStart=>exact⟨0,V,rfl,aG _,bK.nil _ _ _ _ _,bK.nil _ _ _ _ _,fun q e=>by simp [Value.ownBlock] at e⟩
 case round=>
  obtain⟨k,hk',rfl,hb,UI,UP,hap⟩:=hrel;obtain⟨a4,c4,rfl⟩:=UI.form;obtain⟨a5,c5,rfl⟩:=UP.form;have NW:=I UI;have oQ:=I UP;have HAP:=I hap;have HB:=I hb;have GB:=I (G1.o.trans hb);clear UI UP hap hb;by_cases hlt:k<h.bG.length
  ·obtain⟨b,o,vp,vh,rfl,c0,c1,c2,c3,i0,hP,hH⟩:=EP.at_ hel k hlt
   obtain⟨ap,cp,rfl,-⟩:=id hP;obtain⟨ah,ch,rfl,-⟩:=id hH;have nH:=I (And.intro i0 (And.intro hP hH));have hpl:=Ux.o _ (List.getElem_mem hlt);have ZL:=I (yH (fun o:Opn=>o.dec) hlt);have AE:=I (MG (fun o:Opn=>!o.dec) (fun o=>fU o.aJ o.aH) hlt);have L0:=I (show((h.bG.take k).filter fun o=>o.dec).length<=12 from Nat.le_trans (List.length_filter_le _ _) (by simp;omega));have HL5:=I (show(((h.bG.take k).filter fun o=>!o.dec).flatMap fun o=>fU o.aJ o.aH).length<=36 by
    have h8:=qg (fun o:Opn=>uX o.aJ o.aH) ((h.bG.take k).filter fun o=>!o.dec);have h9:((h.bG.take k).filter fun o=>!o.dec).length<=12:=Nat.le_trans (List.length_filter_le _ _) (by simp;omega);omega)
   replace c0:=GB.o.sub _ _ (HC.o _ _ c0);replace c1:=GB.o.sub _ _ (HC.o _ _ c1);replace c2:=GB.o.sub _ _ (HC.o _ _ c2);replace c3:=GB.o.sub _ _ (HC.o _ _ c3);clear hel hP hH i0;generalize h.bG[k]=q at*;generalize (h.bG.take k).filter (fun o=>o.dec)=rs at*;generalize ((h.bG.take k).filter fun o=>!o.dec).flatMap (fun o=>fU o.aJ o.aH)=ms at*;cases hd:q.dec with
   |true=>
    rw [hd] at c2;have eZ:=I ZL.o;have HF2:=I AE.o;rw [bC hd] at eZ;rw [aV (by simp [hd])] at HF2;have nF:Hid (q=⟨q.aJ,q.aH,true,q.aZ⟩):=I (by cases q;simp_all);clear hd ZL AE;have q9:wr.heap.size<(wr.alloc (.cells #[J q.aJ,U ap q.aH.length cp,.bool true,U ah q.aZ.length ch] 58)).heap.size:=by simp
    go_wp2_with (first|(at_builtin;refine cO (c:=c) (base:=w.heap.size+2) (l:=rs) (m:=[q]) kF rfl jG ε rfl (.tmp 17) (.tmp 19) rfl rfl ?own rfl (Src.dU (T:=Ty.bG) (x:=q) (cs:=#[J q.aJ,U ap q.aH.length cp,.bool true,U ah q.aZ.length ch]) ?d0 _ _ ?d1) ?d2 ?d3 ?_))
    case own=>exact NW.o.grow (((aG _).alloc _).alloc _)
    case d0=>rw [nF.o];exact⟨_,_,rfl,nH.o.1,nH.o.2.1,nH.o.2.2⟩
    case d1=>simp
    case d2=>have:=L0.o;simp;omega
    case d3=>have:=HB.o.size;have:=HZ.o;simp;omega
    intro a9 c9 w9 gX fV iE;have kR:Hid (aK wz w9):=I (dI (w0:=wz) ((HB.o.alloc _).alloc _) fV (fun q O=>by have:=(NW.o.lt q O).1;have:=HZ.o;omega));have jE:=I gX;have Jo:=I (oQ.o.grow (((aG wr).alloc (.cells #[J q.aJ,U ap q.aH.length cp,.bool true,U ah q.aZ.length ch] 58)).alloc (.cells #[J q.aJ,U ap q.aH.length cp,.bool true,U ah q.aZ.length ch] 58)));have A2B:=I (HAP.o.keep Jo.o fV);have US:=I (HAP.o.step Jo.o (iE.imp_right fun⟨g,e,hge⟩=>⟨g,e,by simpa using hge⟩));clear gX fV iE Jo q9;go_wp2;go_roundw
    case rel=>exact⟨k+1,V,by go_num,kR.o,by rw [eZ.o];exact jE.o,by rw [HF2.o];exact A2B.o,US.o⟩
    case measure=>simp [intOf];omega
   |false=>
    rw [hd] at c2;have eZ:=I ZL.o;have HF2:=I AE.o;rw [aV (by simp [hd])] at eZ;rw [bC (by simp [hd])] at HF2;have nF:Hid (q=⟨q.aJ,q.aH,false,q.aZ⟩):=I (by cases q;simp_all);have HAB:=I (fun(W:World) (hW:aK w W)=>MH (v:=.agg #[J q.aJ,U ap q.aH.length cp,.bool false,U ah q.aZ.length ch]) (o:=q) W (by rw [nF.o];exact⟨_,rfl,_,_,rfl,nH.o.1,nH.o.2.1.mono (HC.o.trans hW.sub),nH.o.2.2.mono (HC.o.trans hW.sub)⟩) V);have MJ:=I (uX q.aJ q.aH);clear hd ZL AE;have q9:wr.heap.size<(wr.alloc (.cells #[J q.aJ,U ap q.aH.length cp,.bool false,U ah q.aZ.length ch] 58)).heap.size:=by simp
    go_wp2_with fail
    refine(HAB.o _ (GB.o.alloc _)).mono ?_;rintro e w4 ⟨v4,rfl,vO,qW⟩;obtain⟨a6,c6,rfl⟩:=vO.form;have G4:=I (((aG wr).alloc _).trans qW);have yD:Hid (Src Ty.ms (fun _=>none) w4 (U a6 (fU q.aJ q.aH).length c6) (fU q.aJ q.aH)):=I vO.A1z;have UT:=I (NW.o.grow G4.o);have Jo:=I (oQ.o.grow G4.o);clear vO qW q9 c0 c1 c2 c3;generalize fU q.aJ q.aH=aq at*;go_wp2_with (first|(at_builtin;refine cO (c:=fun _=>none) (base:=w.heap.size+2) (l:=ms) (m:=aq) Ah rfl pR ε rfl (.tmp 21) (.tmp 23) rfl rfl Jo.o rfl yD.o ?d2 ?d3 ?_))
    case d2=>have:=HL5.o;have:=MJ.o;omega
    case d3=>have:=HB.o.size;have:=HZ.o;have:=G4.o.size;omega
    intro a9 c9 w9 gX fV iE;have kR:Hid (aK wz w9):=I (dI (w0:=wz) (HB.o.trans G4.o) fV (fun q O=>by have:=(oQ.o.lt q O).1;have:=HZ.o;omega));have jE:=I gX;have A2C:=I (HAP.o.symm.keep UT.o fV);have US:=I (HAP.o.symm.step UT.o iE).symm;clear gX fV iE UT Jo;go_wp2;go_roundw
    case rel=>exact⟨k+1,V,by go_num,kR.o,by rw [eZ.o];exact A2C.o,by rw [HF2.o];exact jE.o,US.o⟩
    case measure=>simp [intOf];omega
  ·have eZ:Hid ((h.bG.take k).filter (fun o=>o.dec)=(oZ h).bG):=I (by rw [eG V];rfl)
   have HF2:Hid (((h.bG.take k).filter fun o=>!o.dec).flatMap (fun o=>fU o.aJ o.aH)=xE h):=I (by rw [eG V];rfl);have RR1:=I (aF R1.o HB.o);have RR2:=I (aF R2.o HB.o);rw [eZ.o] at NW HAP ⊢;rw [HF2.o] at oQ HAP ⊢;clear hel eZ HF2;generalize hqo:(oZ h).bG=qo at*;have HQO:=I hqo;clear hqo;generalize hqm:xE h=qm at*;have FG:=I hqm;clear hqm;go_wp2_with (first|(refine bY rfl (.tmp 27) (.tmp 26) (v:=U a4 qo.length c4) (new:=#[U al h.bg.length cl,J h.aW,J h.next,U a4 qo.length c4]) rfl rfl ρ ρ RR1.o iW σ ρ ρ ?_))
   intro w8 r8 g8;have G8:=I (GB.o.grown g8 (fun q O=>by simp at O;omega));have OG:=I (bJ RR2.o g8 iP);have A2D:=I (NW.o.kept g8 (by
    cases e:(Value.slice a4 qo.length c4).ownBlock with
    |none=>exact .inl rfl
    |some q=>exact .inr (by have:=(NW.o.lt q e).1;intro e2;have:=bI e2;omega)))
   have A2E:=I (oQ.o.kept g8 (by
    cases e:(Value.slice a5 qm.length c5).ownBlock with
    |none=>exact .inl rfl
    |some q=>exact .inr (by have:=(oQ.o.lt q e).1;intro e2;have:=bI e2;omega)))
   obtain⟨c0,c1,c2,c3⟩:=aT r8;have z8:w.heap.size<w8:=(γ r8);clear r8 g8;go_wp2_with (first|(refine aQ rfl (.tmp 2) (.tmp 28) rfl rfl rfl OG.o eY rfl rfl ?_))
   intro w7 r7 g7;obtain⟨p0,p1,p2,p3⟩:=aT r7;clear c0 c1 c2 c3;go_wp2;refine dw (v:=.tuple #[.agg #[U al h.bg.length cl,J h.aW,J h.next,U a4 qo.length c4],U a5 qm.length c5]) (by simp [results,Tryz.results59,go_sem,p0,p1,p2,p3]) rfl ?_;have G7:=G8.o.grown g7 (fun q O=>by simp at O;omega);refine⟨_,_,rfl,⟨_,rfl,_,_,rfl,G_.o.mono (gG HC.o),rG.o.1,rG.o.2,?_⟩,?_,G7⟩
   ·rw [HQO.o]
    refine bK.slc ε (A2D.o.kept g7 ?_) (gG HC.o) fun a ha=>dY V;cases e:(Value.slice a4 qo.length c4).ownBlock with
    |none=>exact .inl rfl
    |some q=>exact .inr (by have:=(NW.o.lt q e).1;intro e2;have:=bI e2;omega)
   ·rw [FG.o]
    refine bK.slc (c:=fun _=>none) ε (A2E.o.kept g7 ?_) (fun _ _ e=>by cases e) fun a ha=>dY V;cases e:(Value.slice a5 qm.length c5).ownBlock with
    |none=>exact .inl rfl
    |some q=>exact .inr (by have:=(oQ.o.lt q e).1;intro e2;have:=bI e2;omega)
theorem eF {α:Type} {T:Ty α} {c:CM} {w:World} {base e B:Nat} {v:Value} {l:List α} (h:bK T c w base e v l) (hB:B<base):v.ownBlock=none∨v.ownBlock≠some B:=by
 cases e:v.ownBlock with
 |none=>exact .inl rfl
 |some q=>exact .inr (by have:=(h.lt q e).1;intro e2;have:=bI e2;omega)
theorem sG {h:Hd} {P:List Pt} (hf:uI h=true):kL h P=h/\nM h P=[]/\uD h=9:=by
 unfold kL nM uD;rw [bC hf,bC hf,bC hf];exact⟨rfl,rfl,rfl⟩
theorem UM {h:Hd} {P:List Pt} (hf:uI h=false):kL h P={ h with bG:=h.bG++ [xW h P],next:=h.next+1 }/\nM h P=jD (xW h P)/\uD h=0:=by
 unfold kL nM uD;rw [aV (by simp [hf]),aV (by simp [hf]),aV (by simp [hf])];exact⟨rfl,rfl,rfl⟩
theorem cG {c:CM} {v vp:Value} {h:Hd} {P:List Pt} (w:World) (hc:Sub c w.cell?) (hv:Of Ty.hd c v h) (hp:pX c vp P) (hk:FK h) (hP:P.length<=4):
  Calls Tryz.prog 50 #[v,vp] w fun e w'=>∃v1 v2,e=.returned (.tuple #[v1,v2,J (uD h)])/\Of Ty.hd (ov c w w') v1 (kL h P)/\Sl Ty.ms (ov c w w') v2 (nM h P)/\aK w w':=by
 obtain⟨al,cl,ar,cr,rfl⟩:=hv.iw;obtain⟨ap,cp,rfl,-⟩:=id hp;have HV:=I hv;have G_:=I (Of.lM hv).1;have HOG:=I (Of.lM hv).2;have HPG:=I hp;have rG:Hid (I64 h.aW/\I64 h.next):=I (by obtain⟨cs,he,_,_,rfl,_,N,Y,_⟩:=hv;exact⟨N,Y⟩);have QY:=I hk.bG;obtain⟨zi,dZ⟩:=hk.aW;obtain⟨hn0,SE⟩:=hk.next;have HC:=I hc;clear hk hv hp hc;obtain⟨wa,fZ⟩:=χ (w.alloc (.cells #[U al h.bg.length cl,J h.aW,J h.next,U ar h.bG.length cr] 29));obtain⟨wz,hwz⟩:=χ (wa.alloc (.cells #[(),J 0,J 0,()] 29));have hsz:wa.heap.size=w.heap.size+1:=by rw [fZ];simp
 have R1:Hid (wz.heap[w.heap.size]? =some (.cells #[U al h.bg.length cl,J h.aW,J h.next,U ar h.bG.length cr] 29 (0,0))):=I (by rw [hwz,fZ];exact bQ (bn _ _) _);have R2:Hid (wz.heap[w.heap.size+1]? =some (.cells #[(),J 0,J 0,()] 29 (0,0))):=I (by rw [hwz,<-hsz];exact bn _ _);have G1:Hid (aK w wz):=I (by rw [hwz,fZ];exact((aG w).alloc _).alloc _);have HZ:Hid (wz.heap.size=w.heap.size+2):=I (by rw [hwz,fZ];simp);by_cases hf1:11<h.bG.length
 ·obtain⟨e1,e2,e3⟩:=sG (P:=P) (show uI h=true from decide_eq_true (.inl hf1))
  have MK:=I e1;have lC:=I e2;have Qx:=I e3;have cH:(11:Int)<(h.bG.length:Int):=by omega
  clear e1 e2 e3 hf1;go_enter Tryz.func50,Tryz.ntmps50;go_upto_region 1 with fail
  rw [<-fZ];try rw [hsz]
  rw [<-hwz];clear fZ hwz hsz;obtain⟨c0,c1,c2,c3⟩:=aT R1.o;have z1:w.heap.size<wz:=(γ R1.o);go_wp2_with (first|(refine aQ rfl (.tmp 4) (.tmp 17) rfl rfl rfl R2.o eY rfl rfl ?_))
  intro w7 r7 g7;obtain⟨p0,p1,p2,p3⟩:=aT r7;clear c0 c1 c2 c3;go_wp2;refine dw (v:=.tuple #[.agg #[U al h.bg.length cl,J h.aW,J h.next,U ar h.bG.length cr],(),J 9]) (by simp [results,Tryz.results50,go_sem,p0,p1,p2,p3]) rfl ?_;have G7:=G1.o.grown g7 (fun q O=>by simp at O;omega);rw [MK.o,lC.o,Qx.o];exact⟨_,_,rfl,HV.o.mono (gG HC.o),Sl.nil _ _,G7⟩
 by_cases hf2:63<h.next
 ·obtain⟨e1,e2,e3⟩:=sG (P:=P) (show uI h=true from decide_eq_true (.inr hf2))
  have MK:=I e1;have lC:=I e2;have Qx:=I e3;have cH:¬(11:Int)<(h.bG.length:Int):=by omega
  clear e1 e2 e3 hf1;go_enter Tryz.func50,Tryz.ntmps50;go_upto_region 1 with fail
  rw [<-fZ];try rw [hsz]
  rw [<-hwz];clear fZ hwz hsz;obtain⟨c0,c1,c2,c3⟩:=aT R1.o;have z1:w.heap.size<wz:=(γ R1.o);go_wp2_with (first|(refine aQ rfl (.tmp 4) (.tmp 17) rfl rfl rfl R2.o eY rfl rfl ?_))
  intro w7 r7 g7;obtain⟨p0,p1,p2,p3⟩:=aT r7;clear c0 c1 c2 c3;go_wp2;refine dw (v:=.tuple #[.agg #[U al h.bg.length cl,J h.aW,J h.next,U ar h.bG.length cr],(),J 9]) (by simp [results,Tryz.results50,go_sem,p0,p1,p2,p3]) rfl ?_;have G7:=G1.o.grown g7 (fun q O=>by simp at O;omega);rw [MK.o,lC.o,Qx.o];exact⟨_,_,rfl,HV.o.mono (gG HC.o),Sl.nil _ _,G7⟩
 obtain⟨e1,e2,e3⟩:=UM (P:=P) (show uI h=false from decide_eq_false V);have MK:=I e1;have lC:=I e2;have Qx:=I e3;have cH:¬(11:Int)<(h.bG.length:Int):=by omega
 have WJ:IntKind.i64.wrap (64*h.aW)=64*h.aW:=IntWalk.i64_in _ V;have rH:IntKind.i64.wrap (64*h.aW+h.next)=64*h.aW+h.next:=IntWalk.i64_in _ V;have Pn:IntKind.i64.wrap (h.next+1)=h.next+1:=IntWalk.i64_in _ V;have UN:Hid (I64 (64*h.aW+h.next)):=I (ku V V);have Xc:Hid (I64 (h.next+1)):=I (ku V V);clear e1 e2 e3 hf1;go_enter Tryz.func50,Tryz.ntmps50;go_upto_region 1 with fail
 rw [<-fZ];try rw [hsz]
 rw [<-hwz];clear fZ hwz hsz;obtain⟨c0,c1,c2,c3⟩:=aT R1.o;have z1:w.heap.size<wz:=(γ R1.o);go_upto_region 4 with fail
 obtain⟨dd,hdd⟩:∃x,x=64*h.aW+h.next:=⟨_,rfl⟩;rw [<-hdd] at UN ⊢;have cI:=I hdd;obtain⟨PO,hwo⟩:=χ (wz.alloc (.cells #[J dd,U ap P.length cp,.bool false,()] 58));have R7:Hid (PO.heap[w.heap.size+2]? =some (.cells #[J dd,U ap P.length cp,.bool false,()] 58 (0,0))):=I (by rw [hwo,<-HZ.o];exact bn _ _);have GZ:Hid (aK wz PO):=I (by rw [hwo];exact(aG _).alloc _);have fS:Hid (PO.heap.size=w.heap.size+3):=I (by rw [hwo];simp [HZ.o]);rw [<-hwo];try rw [HZ.o]
 clear hwo hdd WJ rH c0 c1 c2 c3;have FJ:=I (aF R1.o GZ.o);have R23:=I (aF R2.o GZ.o);have H8:=I (G1.o.trans GZ.o);have HS:Hid (∀W,aK PO W->W.cell? ⟨w,3,none⟩=some (U ar h.bG.length cr)/\W.cell? ⟨w+2,0,none⟩=some (J dd)/\W.cell? ⟨w+2,1,none⟩=some (U ap P.length cp)/\W.cell? ⟨w+2,2,none⟩=some (.bool false)/\W.cell? ⟨w+2,3,none⟩=some (U none 0 0)):=fun W hW=>by
  obtain⟨-,-,-,k3⟩:=aT (aF FJ.o hW);obtain⟨j0,j1,j2,j3⟩:=aT (aF R7.o hW);exact⟨k3,j0,j1,j2,j3⟩
 have D7:=I (fun(W:World) (hW:aK PO W)=>Src.kK (T:=Ty.bG) ε (HC.o.trans (H8.o.trans hW).sub) HOG.o);have HRO:Hid (Ty.bG.R c [J dd,U ap P.length cp,.bool false,()] ⟨dd,P,false,[]⟩):=I ⟨_,_,rfl,UN.o,HPG.o,Sl.nil _ _⟩;refine dH (fun w'=>w'.cell? ⟨w,3,none⟩=some (U ar h.bG.length cr)/\w'.cell? ⟨w+2,0,none⟩=some (J dd)/\w'.cell? ⟨w+2,1,none⟩=some (U ap P.length cp)/\w'.cell? ⟨w+2,2,none⟩=some (.bool false)/\w'.cell? ⟨w+2,3,none⟩=some (U none 0 0)) 8 κ ?_;obtain⟨wd,hWd⟩:=χ PO.drew;rw [<-hWd];have GD:aK PO wd:=by rw [hWd];exact(aG _).drew
 have zD:PO.heap.size=wd.heap.size:=by rw [hWd];rfl
 have ZD:=I zD;clear hWd zD;refine qJ [1,2,4] 12 κ (fun _ _ _ _ _ h=>h) (HS.o _ GD) ?_;repeat (refine jY ?_;try simp only [bT])
 refine qK ?_;refine bP 0 5 κ rfl rfl ?_ ?_
 ·intro K M
  try simp only [dD]
  go_simp;refine ψ M (fun _=>HS.o _ (GD.alloc _)) ?_;try simp only [bT]
  refine bP 3 5 κ rfl rfl ?_ ?_
  ·intro K M
   refine aY rfl ?_;try simp only [dD]
   refine fP (l:=[]) (m:=h.bG) (v:=U (some ⟨wd,0,none⟩) 0 0) kF rfl jG ε (.tmp 26) (.tmp 28) rfl rfl ((bK.mY Ty.bG c _ PO.heap.size _ (φ ZD.o) σ)) rfl (D7.o _ (GD.alloc _)) (by have:=QY.o;simp;omega) (GD.alloc _).size ?_;intro a3 c3 q3 mZ o9 fB;try simp only [lu,List.nil_append] at mZ
   try simp only [lu] at fB
   try simp only [lu]
   have G3:=dI (w0:=PO) (GD.alloc _) o9 (iM (φ ZD.o));have B3:=I (ni (B:=PO.heap.size) (GD.alloc _).size fB (iM (φ ZD.o)));have n_:=I mZ;have uF:=I o9;clear mZ o9 fB;refine ψ M (fun _=>HS.o _ G3) ?_;try simp only [bT]
   refine bO 5 κ rfl ?_;intro K M;try simp only [dD]
   go_simp;refine ψ M (fun _=>HS.o _ (G3.alloc _)) ?_;try simp only [bT]
   refine bO 6 κ rfl ?_;intro K M;refine aY rfl ?_;try simp only [dD]
   refine fP (l:=h.bG) (m:=[⟨dd,P,false,[]⟩]) (v:=U a3 (h.bG.length) c3) kF rfl jG ε (.tmp 29) (.tmp 31) rfl rfl ((n_.o).grow ((aG _).alloc _)) rfl ((Src.dU (T:=Ty.bG) (x:=⟨dd,P,false,[]⟩) (c:=c) (cs:=#[J dd,U ap P.length cp,.bool false,()]) HRO.o _ _ σ)) (by have:=QY.o;simp;omega) (G3.alloc _).size ?_;intro a6 c6 q6 tZ JI nS;try simp only [lu] at tZ
   try simp only [lu] at nS
   try simp only [lu]
   have G6:=dI (w0:=PO) (G3.alloc _) JI B3.o;have Gm:=I tZ;clear tZ JI nS;refine ψ M (fun _=>HS.o _ G6) ?_;try simp only [bT]
   refine bO 7 κ rfl ?_;intro K M;try simp only [dD]
   go_simp;refine ψ M (fun _=>HS.o _ G6) ?_;try simp only [bT]
   refine bO 8 κ rfl ?_;intro K M;refine aY rfl ?_;try simp only [dD]
   refine dF (.tmp 33) (.tmp 32) (v:=U a6 (h.bG.length+1) c6) (new:=#[U al h.bg.length cl,J h.aW,J h.next,U a6 (h.bG.length+1) c6]) rfl rfl ρ ρ (aF FJ.o G6) iW σ ρ ρ ?_;intro w8 r8 g8;have SI:=I r8;have vZ:=I g8;have t_:=I (Gm.o.kept g8 (eF Gm.o (τ fS.o)));have nL:=I G6;clear r8 g8;refine ψ M (fun h=>absurd rfl h) ?_;try simp only [bT]
   refine bW κ ?_;go_upto_region 5 with fail
   have G8:=I ((H8.o.trans nL.o).grown vZ.o (fun q O=>by simp at O;omega));have OG:=I (bJ (aF R23.o nL.o) vZ.o iP);have V8:=I (bJ (aF R7.o nL.o) vZ.o iP);obtain⟨c0,c1,c2,c3⟩:=aT SI.o;have z8:w.heap.size<w8:=(γ SI.o);go_wp2_with (first|(refine bY rfl (.tmp 37) (.tmp 36) (v:=J (h.next+1)) (new:=#[U al h.bg.length cl,J h.aW,J (h.next+1),U a6 (h.bG.length+1) c6]) rfl rfl ρ ρ SI.o vF σ ρ ρ ?_))
   intro w9 r9 g9;have R9:=I r9;have G9:=I (G8.o.grown g9 (fun q O=>by simp at O;omega));have J_:=I (bJ OG.o g9 iP);have YP:=I (bJ V8.o g9 iP);have jE:=I (t_.o.kept g9 (eF t_.o (τ fS.o)));clear r9 g9 c0 c1 c2 c3;have HAS:=I (fun(W:World) (hW:aK w9 W)=>vY (v:=.agg #[J dd,U ap P.length cp,.bool false,()]) (o:=⟨dd,P,false,[]⟩) W ⟨_,rfl,_,_,rfl,UN.o,HPG.o.mono (HC.o.trans (G9.o.trans hW).sub),Sl.nil _ _⟩ (by show P.length*24<=_;omega));have QW:Hid (∀W,aK w9 W->W.cell? ⟨w,0,none⟩=some (U al h.bg.length cl)/\W.cell? ⟨w,1,none⟩=some (J h.aW)/\W.cell? ⟨w,2,none⟩=some (J (h.next+1))/\W.cell? ⟨w,3,none⟩=some (U a6 (h.bG.length+1) c6)/\W.cell? ⟨w+2,0,none⟩=some (J dd)/\W.cell? ⟨w+2,1,none⟩=some (U ap P.length cp)/\W.cell? ⟨w+2,2,none⟩=some (.bool false)/\W.cell? ⟨w+2,3,none⟩=some (U none 0 0)):=fun W hW=>by
    obtain⟨k0,k1,k2,k3⟩:=aT (aF R9.o hW);obtain⟨j0,j1,j2,j3⟩:=aT (aF YP.o hW);exact⟨k0,k1,k2,k3,j0,j1,j2,j3⟩
   go_upto_region 6 with fail
   refine dH (fun w'=>w'.cell? ⟨w,0,none⟩=some (U al h.bg.length cl)/\w'.cell? ⟨w,1,none⟩=some (J h.aW)/\w'.cell? ⟨w,2,none⟩=some (J (h.next+1))/\w'.cell? ⟨w,3,none⟩=some (U a6 (h.bG.length+1) c6)/\w'.cell? ⟨w+2,0,none⟩=some (J dd)/\w'.cell? ⟨w+2,1,none⟩=some (U ap P.length cp)/\w'.cell? ⟨w+2,2,none⟩=some (.bool false)/\w'.cell? ⟨w+2,3,none⟩=some (U none 0 0)) 5 κ ?_;obtain⟨we,hWd⟩:=χ w9.drew;rw [<-hWd];have GE:aK w9 we:=by rw [hWd];exact(aG _).drew
   have zD:w9.heap.size=we.heap.size:=by rw [hWd];rfl
   have ZD:=I zD;clear hWd zD;have nQ:Hid (w9.heap.size<=we.heap.size):=I GE.size;refine qJ [0,1] 8 κ (fun _ _ _ _ _ h=>h) (QW.o _ GE) ?_;repeat (refine jY ?_;try simp only [bT])
   refine qK ?_;refine bO 2 κ rfl ?_;intro K M;try simp only [dD]
   go_simp;go_at_call 90
   refine(HAS.o _ GE).mono ?_;rintro e10 yt ⟨v10,rfl,oV,lQ⟩;obtain⟨EL,EM,rfl⟩:=oV.form;have AO:=I oV;have lX:=I (aK.trans GE lQ);clear oV lQ;generalize hqa:jD ⟨dd,P,false,[]⟩=qa at*;have HQA:=I hqa;clear hqa;refine ψ M (fun _=>QW.o _ lX.o) ?_;try simp only [bT]
   refine bO 3 κ rfl ?_;intro K M;refine aY rfl ?_;try simp only [dD]
   refine b_ (.tmp 4) (.tmp 38) rfl rfl rfl (aF J_.o lX.o) eY rfl rfl ?_;intro w7 r7 g7;have Xd:=I r7;have pq:=I g7;clear r7 g7;have Ko:Hid (w7.cell? ⟨w,0,none⟩=some (U al h.bg.length cl)/\w7.cell? ⟨w,1,none⟩=some (J h.aW)/\w7.cell? ⟨w,2,none⟩=some (J (h.next+1))/\w7.cell? ⟨w,3,none⟩=some (U a6 (h.bG.length+1) c6)/\w7.cell? ⟨w+2,0,none⟩=some (J dd)/\w7.cell? ⟨w+2,1,none⟩=some (U ap P.length cp)/\w7.cell? ⟨w+2,2,none⟩=some (.bool false)/\w7.cell? ⟨w+2,3,none⟩=some (U none 0 0)):=I (by obtain⟨k0,k1,k2,k3,k4,k5,k6,k7⟩:=QW.o _ lX.o;exact⟨bV k0 pq.o (by show w.heap.size≠_;omega),bV k1 pq.o (by show w.heap.size≠_;omega),bV k2 pq.o (by show w.heap.size≠_;omega),bV k3 pq.o (by show w.heap.size≠_;omega),bV k4 pq.o (by show w.heap.size+2≠_;omega),bV k5 pq.o (by show w.heap.size+2≠_;omega),bV k6 pq.o (by show w.heap.size+2≠_;omega),bV k7 pq.o (by show w.heap.size+2≠_;omega)⟩);refine ψ M (fun _=>Ko.o) ?_;try simp only [bT]
   refine bO 4 κ rfl ?_;intro K M;try simp only [dD]
   go_simp;refine ψ M (fun _=>Ko.o) ?_;try simp only [bT]
   refine bO 5 κ rfl ?_;intro K M;try simp only [dD]
   go_simp;refine ψ M (fun h=>absurd rfl h) ?_;try simp only [bT]
   refine bW κ ?_;obtain⟨p0,p1,p2,p3⟩:=aT Xd.o;go_wp2;refine dw (v:=.tuple #[.agg #[U al h.bg.length cl,J h.aW,J (h.next+1),U a6 (h.bG.length+1) c6],U EL qa.length EM,J 0]) (by simp [results,Tryz.results50,go_sem,p0,p1,p2,p3]) rfl ?_;have G7:=(G9.o.trans lX.o).grown pq.o (fun q O=>by simp at O;omega);rw [MK.o,lC.o,Qx.o];refine⟨_,_,rfl,⟨_,rfl,_,_,rfl,G_.o.mono (gG HC.o),rG.o.1,Xc.o,?_⟩,?_,G7⟩
   ·have h9:=(jE.o.grow lX.o).kept pq.o (eF (jE.o.grow lX.o) (τ fS.o))
    have h8:=bK.slc (d:=ov c w w7) ε h9 (gG HC.o) fun a ha=>dY (τ fS.o);have e8:xW h P=⟨dd,P,false,[]⟩:=by unfold xW;rw [<-cI.o]
    rw [e8];exact h8
   ·rw [show xW h P=⟨dd,P,false,[]⟩ by unfold xW;rw [<-cI.o],HQA.o]
    refine bK.slc (d:=ov c w w7) ε (AO.o.kept pq.o (eF AO.o (by have:=(γ YP.o);have:=nQ.o;omega))) (fun a v e=>?_) fun a ha=>dY (by have:=(γ YP.o);have:=nQ.o;omega);unfold fr at e;split at e
    ·cases e
    ·rename_i hn
     have N:¬a.block<we.heap.size:=fun Z=>hn (.inl Z);have:=(γ YP.o);have:=nQ.o;rw [dY V];exact bV e pq.o V
  ·intro K M
   try simp only [dD]
   go_simp;refine ψ M (fun _=>HS.o _ ((GD.alloc _).alloc _)) ?_;try simp only [bT]
   refine bO 3 κ rfl ?_;intro K M;refine aY rfl ?_;try simp only [dD]
   refine fP (l:=[]) (m:=h.bG) (v:=U (some ⟨wd,0,none⟩) 0 0) kF rfl jG ε (.tmp 26) (.tmp 28) rfl rfl (((bK.mY Ty.bG c _ PO.heap.size _ (φ ZD.o) σ)).grow ((aG _).alloc _)) rfl (D7.o _ ((GD.alloc _).alloc _)) (by have:=QY.o;simp;omega) ((GD.alloc _).alloc _).size ?_;intro a3 c3 q3 mZ o9 fB;try simp only [lu,List.nil_append] at mZ
   try simp only [lu] at fB
   try simp only [lu]
   have G3:=dI (w0:=PO) ((GD.alloc _).alloc _) o9 (iM (φ ZD.o));have B3:=I (ni (B:=PO.heap.size) ((GD.alloc _).alloc _).size fB (iM (φ ZD.o)));have n_:=I mZ;have uF:=I o9;clear mZ o9 fB;refine ψ M (fun _=>HS.o _ G3) ?_;try simp only [bT]
   refine bO 6 κ rfl ?_;intro K M;refine aY rfl ?_;try simp only [dD]
   refine fP (l:=h.bG) (m:=[⟨dd,P,false,[]⟩]) (v:=U a3 (h.bG.length) c3) kF rfl jG ε (.tmp 29) (.tmp 31) rfl rfl (n_.o) rfl (((Src.dU (T:=Ty.bG) (x:=⟨dd,P,false,[]⟩) (c:=c) (cs:=#[J dd,U ap P.length cp,.bool false,()]) HRO.o _ _ σ)).kept uF.o (by simp [Value.ownBlock])) (by have:=QY.o;simp;omega) G3.size ?_;intro a6 c6 q6 tZ JI nS;try simp only [lu] at tZ
   try simp only [lu] at nS
   try simp only [lu]
   have G6:=dI (w0:=PO) G3 JI B3.o;have Gm:=I tZ;clear tZ JI nS;refine ψ M (fun _=>HS.o _ G6) ?_;try simp only [bT]
   refine bO 7 κ rfl ?_;intro K M;try simp only [dD]
   go_simp;refine ψ M (fun _=>HS.o _ G6) ?_;try simp only [bT]
   refine bO 8 κ rfl ?_;intro K M;refine aY rfl ?_;try simp only [dD]
   refine dF (.tmp 33) (.tmp 32) (v:=U a6 (h.bG.length+1) c6) (new:=#[U al h.bg.length cl,J h.aW,J h.next,U a6 (h.bG.length+1) c6]) rfl rfl ρ ρ (aF FJ.o G6) iW σ ρ ρ ?_;intro w8 r8 g8;have SI:=I r8;have vZ:=I g8;have t_:=I (Gm.o.kept g8 (eF Gm.o (τ fS.o)));have nL:=I G6;clear r8 g8;refine ψ M (fun h=>absurd rfl h) ?_;try simp only [bT]
   refine bW κ ?_;go_upto_region 5 with fail
   have G8:=I ((H8.o.trans nL.o).grown vZ.o (fun q O=>by simp at O;omega));have OG:=I (bJ (aF R23.o nL.o) vZ.o iP);have V8:=I (bJ (aF R7.o nL.o) vZ.o iP);obtain⟨c0,c1,c2,c3⟩:=aT SI.o;have z8:w.heap.size<w8:=(γ SI.o);go_wp2_with (first|(refine bY rfl (.tmp 37) (.tmp 36) (v:=J (h.next+1)) (new:=#[U al h.bg.length cl,J h.aW,J (h.next+1),U a6 (h.bG.length+1) c6]) rfl rfl ρ ρ SI.o vF σ ρ ρ ?_))
   intro w9 r9 g9;have R9:=I r9;have G9:=I (G8.o.grown g9 (fun q O=>by simp at O;omega));have J_:=I (bJ OG.o g9 iP);have YP:=I (bJ V8.o g9 iP);have jE:=I (t_.o.kept g9 (eF t_.o (τ fS.o)));clear r9 g9 c0 c1 c2 c3;have HAS:=I (fun(W:World) (hW:aK w9 W)=>vY (v:=.agg #[J dd,U ap P.length cp,.bool false,()]) (o:=⟨dd,P,false,[]⟩) W ⟨_,rfl,_,_,rfl,UN.o,HPG.o.mono (HC.o.trans (G9.o.trans hW).sub),Sl.nil _ _⟩ (by show P.length*24<=_;omega));have QW:Hid (∀W,aK w9 W->W.cell? ⟨w,0,none⟩=some (U al h.bg.length cl)/\W.cell? ⟨w,1,none⟩=some (J h.aW)/\W.cell? ⟨w,2,none⟩=some (J (h.next+1))/\W.cell? ⟨w,3,none⟩=some (U a6 (h.bG.length+1) c6)/\W.cell? ⟨w+2,0,none⟩=some (J dd)/\W.cell? ⟨w+2,1,none⟩=some (U ap P.length cp)/\W.cell? ⟨w+2,2,none⟩=some (.bool false)/\W.cell? ⟨w+2,3,none⟩=some (U none 0 0)):=fun W hW=>by
    obtain⟨k0,k1,k2,k3⟩:=aT (aF R9.o hW);obtain⟨j0,j1,j2,j3⟩:=aT (aF YP.o hW);exact⟨k0,k1,k2,k3,j0,j1,j2,j3⟩
   go_upto_region 6 with fail
   refine dH (fun w'=>w'.cell? ⟨w,0,none⟩=some (U al h.bg.length cl)/\w'.cell? ⟨w,1,none⟩=some (J h.aW)/\w'.cell? ⟨w,2,none⟩=some (J (h.next+1))/\w'.cell? ⟨w,3,none⟩=some (U a6 (h.bG.length+1) c6)/\w'.cell? ⟨w+2,0,none⟩=some (J dd)/\w'.cell? ⟨w+2,1,none⟩=some (U ap P.length cp)/\w'.cell? ⟨w+2,2,none⟩=some (.bool false)/\w'.cell? ⟨w+2,3,none⟩=some (U none 0 0)) 5 κ ?_;obtain⟨we,hWd⟩:=χ w9.drew;rw [<-hWd];have GE:aK w9 we:=by rw [hWd];exact(aG _).drew
   have zD:w9.heap.size=we.heap.size:=by rw [hWd];rfl
   have ZD:=I zD;clear hWd zD;have nQ:Hid (w9.heap.size<=we.heap.size):=I GE.size;refine qJ [0,1] 8 κ (fun _ _ _ _ _ h=>h) (QW.o _ GE) ?_;repeat (refine jY ?_;try simp only [bT])
   refine qK ?_;refine bO 2 κ rfl ?_;intro K M;try simp only [dD]
   go_simp;go_at_call 90
   refine(HAS.o _ GE).mono ?_;rintro e10 yt ⟨v10,rfl,oV,lQ⟩;obtain⟨EL,EM,rfl⟩:=oV.form;have AO:=I oV;have lX:=I (aK.trans GE lQ);clear oV lQ;generalize hqa:jD ⟨dd,P,false,[]⟩=qa at*;have HQA:=I hqa;clear hqa;refine ψ M (fun _=>QW.o _ lX.o) ?_;try simp only [bT]
   refine bO 3 κ rfl ?_;intro K M;refine aY rfl ?_;try simp only [dD]
   refine b_ (.tmp 4) (.tmp 38) rfl rfl rfl (aF J_.o lX.o) eY rfl rfl ?_;intro w7 r7 g7;have Xd:=I r7;have pq:=I g7;clear r7 g7;have Ko:Hid (w7.cell? ⟨w,0,none⟩=some (U al h.bg.length cl)/\w7.cell? ⟨w,1,none⟩=some (J h.aW)/\w7.cell? ⟨w,2,none⟩=some (J (h.next+1))/\w7.cell? ⟨w,3,none⟩=some (U a6 (h.bG.length+1) c6)/\w7.cell? ⟨w+2,0,none⟩=some (J dd)/\w7.cell? ⟨w+2,1,none⟩=some (U ap P.length cp)/\w7.cell? ⟨w+2,2,none⟩=some (.bool false)/\w7.cell? ⟨w+2,3,none⟩=some (U none 0 0)):=I (by obtain⟨k0,k1,k2,k3,k4,k5,k6,k7⟩:=QW.o _ lX.o;exact⟨bV k0 pq.o (by show w.heap.size≠_;omega),bV k1 pq.o (by show w.heap.size≠_;omega),bV k2 pq.o (by show w.heap.size≠_;omega),bV k3 pq.o (by show w.heap.size≠_;omega),bV k4 pq.o (by show w.heap.size+2≠_;omega),bV k5 pq.o (by show w.heap.size+2≠_;omega),bV k6 pq.o (by show w.heap.size+2≠_;omega),bV k7 pq.o (by show w.heap.size+2≠_;omega)⟩);refine ψ M (fun _=>Ko.o) ?_;try simp only [bT]
   refine bO 4 κ rfl ?_;intro K M;try simp only [dD]
   go_simp;refine ψ M (fun _=>Ko.o) ?_;try simp only [bT]
   refine bO 5 κ rfl ?_;intro K M;try simp only [dD]
   go_simp;refine ψ M (fun h=>absurd rfl h) ?_;try simp only [bT]
   refine bW κ ?_;obtain⟨p0,p1,p2,p3⟩:=aT Xd.o;go_wp2;refine dw (v:=.tuple #[.agg #[U al h.bg.length cl,J h.aW,J (h.next+1),U a6 (h.bG.length+1) c6],U EL qa.length EM,J 0]) (by simp [results,Tryz.results50,go_sem,p0,p1,p2,p3]) rfl ?_;have G7:=(G9.o.trans lX.o).grown pq.o (fun q O=>by simp at O;omega);rw [MK.o,lC.o,Qx.o];refine⟨_,_,rfl,⟨_,rfl,_,_,rfl,G_.o.mono (gG HC.o),rG.o.1,Xc.o,?_⟩,?_,G7⟩
   ·have h9:=(jE.o.grow lX.o).kept pq.o (eF (jE.o.grow lX.o) (τ fS.o))
    have h8:=bK.slc (d:=ov c w w7) ε h9 (gG HC.o) fun a ha=>dY (τ fS.o);have e8:xW h P=⟨dd,P,false,[]⟩:=by unfold xW;rw [<-cI.o]
    rw [e8];exact h8
   ·rw [show xW h P=⟨dd,P,false,[]⟩ by unfold xW;rw [<-cI.o],HQA.o]
    refine bK.slc (d:=ov c w w7) ε (AO.o.kept pq.o (eF AO.o (by have:=(γ YP.o);have:=nQ.o;omega))) (fun a v e=>?_) fun a ha=>dY (by have:=(γ YP.o);have:=nQ.o;omega);unfold fr at e;split at e
    ·cases e
    ·rename_i hn
     have N:¬a.block<we.heap.size:=fun Z=>hn (.inl Z);have:=(γ YP.o);have:=nQ.o;rw [dY V];exact bV e pq.o V
 ·intro K M
  try simp only [dD]
  go_simp;refine ψ M (fun _=>HS.o _ (GD.alloc _)) ?_;try simp only [bT]
  refine bO 0 κ rfl ?_;intro K M;try simp only [dD]
  go_simp;refine ψ M (fun _=>HS.o _ ((GD.alloc _).alloc _)) ?_;try simp only [bT]
  refine bO 3 κ rfl ?_;intro K M;refine aY rfl ?_;try simp only [dD]
  refine fP (l:=[]) (m:=h.bG) (v:=U (some ⟨wd+1,0,none⟩) 0 0) kF rfl jG ε (.tmp 26) (.tmp 28) rfl rfl ((bK.mY Ty.bG c _ PO.heap.size _ (φ ZD.o) σ)) rfl (D7.o _ ((GD.alloc _).alloc _)) (by have:=QY.o;simp;omega) ((GD.alloc _).alloc _).size ?_;intro a3 c3 q3 mZ o9 fB;try simp only [lu,List.nil_append] at mZ
  try simp only [lu] at fB
  try simp only [lu]
  have G3:=dI (w0:=PO) ((GD.alloc _).alloc _) o9 (iM (φ ZD.o));have B3:=I (ni (B:=PO.heap.size) ((GD.alloc _).alloc _).size fB (iM (φ ZD.o)));have n_:=I mZ;have uF:=I o9;clear mZ o9 fB;refine ψ M (fun _=>HS.o _ G3) ?_;try simp only [bT]
  refine bO 6 κ rfl ?_;intro K M;refine aY rfl ?_;try simp only [dD]
  refine fP (l:=h.bG) (m:=[⟨dd,P,false,[]⟩]) (v:=U a3 (h.bG.length) c3) kF rfl jG ε (.tmp 29) (.tmp 31) rfl rfl (n_.o) rfl ((((Src.dU (T:=Ty.bG) (x:=⟨dd,P,false,[]⟩) (c:=c) (cs:=#[J dd,U ap P.length cp,.bool false,()]) HRO.o _ _ σ)).grow ((aG _).alloc _)).kept uF.o (by simp [Value.ownBlock])) (by have:=QY.o;simp;omega) G3.size ?_;intro a6 c6 q6 tZ JI nS;try simp only [lu] at tZ
  try simp only [lu] at nS
  try simp only [lu]
  have G6:=dI (w0:=PO) G3 JI B3.o;have Gm:=I tZ;clear tZ JI nS;refine ψ M (fun _=>HS.o _ G6) ?_;try simp only [bT]
  refine bO 7 κ rfl ?_;intro K M;try simp only [dD]
  go_simp;refine ψ M (fun _=>HS.o _ G6) ?_;try simp only [bT]
  refine bO 8 κ rfl ?_;intro K M;refine aY rfl ?_;try simp only [dD]
  refine dF (.tmp 33) (.tmp 32) (v:=U a6 (h.bG.length+1) c6) (new:=#[U al h.bg.length cl,J h.aW,J h.next,U a6 (h.bG.length+1) c6]) rfl rfl ρ ρ (aF FJ.o G6) iW σ ρ ρ ?_;intro w8 r8 g8;have SI:=I r8;have vZ:=I g8;have t_:=I (Gm.o.kept g8 (eF Gm.o (τ fS.o)));have nL:=I G6;clear r8 g8;refine ψ M (fun h=>absurd rfl h) ?_;try simp only [bT]
  refine bW κ ?_;go_upto_region 5 with fail
  have G8:=I ((H8.o.trans nL.o).grown vZ.o (fun q O=>by simp at O;omega));have OG:=I (bJ (aF R23.o nL.o) vZ.o iP);have V8:=I (bJ (aF R7.o nL.o) vZ.o iP);obtain⟨c0,c1,c2,c3⟩:=aT SI.o;have z8:w.heap.size<w8:=(γ SI.o);go_wp2_with (first|(refine bY rfl (.tmp 37) (.tmp 36) (v:=J (h.next+1)) (new:=#[U al h.bg.length cl,J h.aW,J (h.next+1),U a6 (h.bG.length+1) c6]) rfl rfl ρ ρ SI.o vF σ ρ ρ ?_))
  intro w9 r9 g9;have R9:=I r9;have G9:=I (G8.o.grown g9 (fun q O=>by simp at O;omega));have J_:=I (bJ OG.o g9 iP);have YP:=I (bJ V8.o g9 iP);have jE:=I (t_.o.kept g9 (eF t_.o (τ fS.o)));clear r9 g9 c0 c1 c2 c3;have HAS:=I (fun(W:World) (hW:aK w9 W)=>vY (v:=.agg #[J dd,U ap P.length cp,.bool false,()]) (o:=⟨dd,P,false,[]⟩) W ⟨_,rfl,_,_,rfl,UN.o,HPG.o.mono (HC.o.trans (G9.o.trans hW).sub),Sl.nil _ _⟩ (by show P.length*24<=_;omega));have QW:Hid (∀W,aK w9 W->W.cell? ⟨w,0,none⟩=some (U al h.bg.length cl)/\W.cell? ⟨w,1,none⟩=some (J h.aW)/\W.cell? ⟨w,2,none⟩=some (J (h.next+1))/\W.cell? ⟨w,3,none⟩=some (U a6 (h.bG.length+1) c6)/\W.cell? ⟨w+2,0,none⟩=some (J dd)/\W.cell? ⟨w+2,1,none⟩=some (U ap P.length cp)/\W.cell? ⟨w+2,2,none⟩=some (.bool false)/\W.cell? ⟨w+2,3,none⟩=some (U none 0 0)):=fun W hW=>by
   obtain⟨k0,k1,k2,k3⟩:=aT (aF R9.o hW);obtain⟨j0,j1,j2,j3⟩:=aT (aF YP.o hW);exact⟨k0,k1,k2,k3,j0,j1,j2,j3⟩
  go_upto_region 6 with fail
  refine dH (fun w'=>w'.cell? ⟨w,0,none⟩=some (U al h.bg.length cl)/\w'.cell? ⟨w,1,none⟩=some (J h.aW)/\w'.cell? ⟨w,2,none⟩=some (J (h.next+1))/\w'.cell? ⟨w,3,none⟩=some (U a6 (h.bG.length+1) c6)/\w'.cell? ⟨w+2,0,none⟩=some (J dd)/\w'.cell? ⟨w+2,1,none⟩=some (U ap P.length cp)/\w'.cell? ⟨w+2,2,none⟩=some (.bool false)/\w'.cell? ⟨w+2,3,none⟩=some (U none 0 0)) 5 κ ?_;obtain⟨we,hWd⟩:=χ w9.drew;rw [<-hWd];have GE:aK w9 we:=by rw [hWd];exact(aG _).drew
  have zD:w9.heap.size=we.heap.size:=by rw [hWd];rfl
  have ZD:=I zD;clear hWd zD;have nQ:Hid (w9.heap.size<=we.heap.size):=I GE.size;refine qJ [0,1] 8 κ (fun _ _ _ _ _ h=>h) (QW.o _ GE) ?_;repeat (refine jY ?_;try simp only [bT])
  refine qK ?_;refine bO 2 κ rfl ?_;intro K M;try simp only [dD]
  go_simp;go_at_call 90
  refine(HAS.o _ GE).mono ?_;rintro e10 yt ⟨v10,rfl,oV,lQ⟩;obtain⟨EL,EM,rfl⟩:=oV.form;have AO:=I oV;have lX:=I (aK.trans GE lQ);clear oV lQ;generalize hqa:jD ⟨dd,P,false,[]⟩=qa at*;have HQA:=I hqa;clear hqa;refine ψ M (fun _=>QW.o _ lX.o) ?_;try simp only [bT]
  refine bO 3 κ rfl ?_;intro K M;refine aY rfl ?_;try simp only [dD]
  refine b_ (.tmp 4) (.tmp 38) rfl rfl rfl (aF J_.o lX.o) eY rfl rfl ?_;intro w7 r7 g7;have Xd:=I r7;have pq:=I g7;clear r7 g7;have Ko:Hid (w7.cell? ⟨w,0,none⟩=some (U al h.bg.length cl)/\w7.cell? ⟨w,1,none⟩=some (J h.aW)/\w7.cell? ⟨w,2,none⟩=some (J (h.next+1))/\w7.cell? ⟨w,3,none⟩=some (U a6 (h.bG.length+1) c6)/\w7.cell? ⟨w+2,0,none⟩=some (J dd)/\w7.cell? ⟨w+2,1,none⟩=some (U ap P.length cp)/\w7.cell? ⟨w+2,2,none⟩=some (.bool false)/\w7.cell? ⟨w+2,3,none⟩=some (U none 0 0)):=I (by obtain⟨k0,k1,k2,k3,k4,k5,k6,k7⟩:=QW.o _ lX.o;exact⟨bV k0 pq.o (by show w.heap.size≠_;omega),bV k1 pq.o (by show w.heap.size≠_;omega),bV k2 pq.o (by show w.heap.size≠_;omega),bV k3 pq.o (by show w.heap.size≠_;omega),bV k4 pq.o (by show w.heap.size+2≠_;omega),bV k5 pq.o (by show w.heap.size+2≠_;omega),bV k6 pq.o (by show w.heap.size+2≠_;omega),bV k7 pq.o (by show w.heap.size+2≠_;omega)⟩);refine ψ M (fun _=>Ko.o) ?_;try simp only [bT]
  refine bO 4 κ rfl ?_;intro K M;try simp only [dD]
  go_simp;refine ψ M (fun _=>Ko.o) ?_;try simp only [bT]
  refine bO 5 κ rfl ?_;intro K M;try simp only [dD]
  go_simp;refine ψ M (fun h=>absurd rfl h) ?_;try simp only [bT]
  refine bW κ ?_;obtain⟨p0,p1,p2,p3⟩:=aT Xd.o;go_wp2;refine dw (v:=.tuple #[.agg #[U al h.bg.length cl,J h.aW,J (h.next+1),U a6 (h.bG.length+1) c6],U EL qa.length EM,J 0]) (by simp [results,Tryz.results50,go_sem,p0,p1,p2,p3]) rfl ?_;have G7:=(G9.o.trans lX.o).grown pq.o (fun q O=>by simp at O;omega);rw [MK.o,lC.o,Qx.o];refine⟨_,_,rfl,⟨_,rfl,_,_,rfl,G_.o.mono (gG HC.o),rG.o.1,Xc.o,?_⟩,?_,G7⟩
  ·have h9:=(jE.o.grow lX.o).kept pq.o (eF (jE.o.grow lX.o) (τ fS.o))
   have h8:=bK.slc (d:=ov c w w7) ε h9 (gG HC.o) fun a ha=>dY (τ fS.o);have e8:xW h P=⟨dd,P,false,[]⟩:=by unfold xW;rw [<-cI.o]
   rw [e8];exact h8
  ·rw [show xW h P=⟨dd,P,false,[]⟩ by unfold xW;rw [<-cI.o],HQA.o]
   refine bK.slc (d:=ov c w w7) ε (AO.o.kept pq.o (eF AO.o (by have:=(γ YP.o);have:=nQ.o;omega))) (fun a v e=>?_) fun a ha=>dY (by have:=(γ YP.o);have:=nQ.o;omega);unfold fr at e;split at e
   ·cases e
   ·rename_i hn
    have N:¬a.block<we.heap.size:=fun Z=>hn (.inl Z);have:=(γ YP.o);have:=nQ.o;rw [dY V];exact bV e pq.o V
def pO:List Value:=[(),J 0,J 0,J 0,J 0,(),()]
theorem cJ (c:CM):Ty.hs.R c pO hs0:=⟨_,_,_,rfl,Sl.nil _ _,gZ,gZ,gZ,gZ,Sl.nil _ _,Sl.nil _ _⟩
theorem UO {n:Nat} (h:1<=n/\n<=3):∃cs:Array Value,(∀w:World,(Instr.makeSlice 30 (J n) (J n)).run Tryz.prog w=.ok (U (some ⟨w,0,none⟩) n n) (w.alloc (.cells cs 50)))/\
  ∀(w:World),bK Ty.hs (fun _=>none) (w.alloc (.cells cs 50)) w.heap.size 50 (U (some ⟨w,0,none⟩) n n) (List.replicate n hs0):=by
 have key:∀(m:Nat) (cs:Array Value),m<=3->cs.toList=(List.replicate m hs0).flatMap (fun _=>pO)->∀(w:World),bK Ty.hs (fun _=>none) (w.alloc (.cells cs 50)) w.heap.size 50 (U (some ⟨w,0,none⟩) m m) (List.replicate m hs0):=by
  intro m cs hm hc w;have N:=World.ownsRow_lit (base:=w.heap.size) (e:=50) (size:=7) w cs m (Nat.le_refl _) (by unfold maxLen;omega) (by rw [<-Array.length_toList,hc,qG (f:=fun _=>pO) (size:=7) (fun _=>rfl)];simp);rw [hc] at N;exact bK.of_flat (T:=Ty.hs) (f:=fun _=>pO) (c:=fun _=>none) (l:=List.replicate m hs0) (by rw [List.length_replicate];exact N) (fun x Z=>by
   rw [List.eq_of_mem_replicate Z];exact cJ _)
 obtain⟨N,Y⟩:=h;match n,N,Y with
 |1,_,_=>exact⟨pO.toArray,fun w=>κ,key 1 _ ε rfl⟩
 |2,_,_=>exact⟨(pO++pO).toArray,fun w=>κ,key 2 _ ε rfl⟩
 |3,_,_=>exact⟨(pO++pO++pO).toArray,fun w=>κ,key 3 _ ε rfl⟩
theorem nW:EI Tryz.prog 30 50 7 104:=EI.mk' (z:=.agg #[(),J 0,J 0,J 0,J 0,(),()]) κ κ rfl ε rfl
theorem dN:(Tryz.prog.info? 33).map (·.size)=some 6:=by kernel_rfl
theorem MN:(Tryz.prog.info? 30).map (·.size)=some 1:=by kernel_rfl
theorem jS:(Tryz.prog.info? 31).map (·.size)=some 1:=by kernel_rfl
theorem UQ {c:CM} {v vh:Value} {x:AW} {h:Hs} {k:Nat} (w:World) (hc:Sub c w.cell?) (hv:Of Ty.wd c v x) (hh:Of Ty.hs c vh h) (hk:k<x.aI.length) (h3:x.aI.length<=3):
  Calls Tryz.prog 54 #[v,J k,vh] w fun e w'=>∃v',e=.returned v'/\Of Ty.wd (ov c w w') v' { x with aI:=x.aI.set k h }/\aK w w':=by
 obtain⟨al,cl,ao,co,ah,ch,an,cn,rfl⟩:=hv.dJ;obtain⟨iC,iD,oD,oG,uS,uT,rfl⟩:=hh.ig;obtain⟨q1,q2,q3⟩:=hv.ji;have LQ:=I q1;have Il:=I q2;have PS:=I q3;have HHR:Hid (Ty.hs.R c [U iC h.bg.length iD,J h.aP.a,J h.aP.b,J h.aP.c,J h.aP.d,U oD h.ready.length oG,U uS h.done.length uT] h):=I (by obtain⟨cs,he,hr⟩:=hh;cases he;exact hr);have HC:=I hc;clear hv hh q1 q2 q3 hc;obtain⟨wa,fZ⟩:=χ (w.alloc (.cells #[U al x.aN.bg.length cl,J x.aN.aW,J x.aN.next,U ao x.aN.bG.length co,U ah x.aI.length ch,U an x.bM.length cn] 33));obtain⟨wb,hwb⟩:=χ (wa.alloc (.cells #[U iC h.bg.length iD,J h.aP.a,J h.aP.b,J h.aP.c,J h.aP.d,U oD h.ready.length oG,U uS h.done.length uT] 50));obtain⟨wz,hwz⟩:=χ (wb.alloc (.cells #[(),J 0,J 0,(),(),()] 33));have hsa:wa.heap.size=w.heap.size+1:=by rw [fZ];simp
 have hsb:wb.heap.size=w.heap.size+2:=by rw [hwb];simp [hsa]
 have R3:Hid (wz.heap[w.heap.size]? =some (.cells #[U al x.aN.bg.length cl,J x.aN.aW,J x.aN.next,U ao x.aN.bG.length co,U ah x.aI.length ch,U an x.bM.length cn] 33 (0,0))):=I (by rw [hwz,hwb,fZ];exact bQ (bQ (bn _ _) _) _);have R5:Hid (wz.heap[w.heap.size+1]? =some (.cells #[U iC h.bg.length iD,J h.aP.a,J h.aP.b,J h.aP.c,J h.aP.d,U oD h.ready.length oG,U uS h.done.length uT] 50 (0,0))):=I (by rw [hwz,hwb,<-hsa];exact bQ (bn _ _) _);have R6:Hid (wz.heap[w.heap.size+2]? =some (.cells #[(),J 0,J 0,(),(),()] 33 (0,0))):=I (by rw [hwz,<-hsb];exact bn _ _);have G1:Hid (aK w wz):=I (by rw [hwz,hwb,fZ];exact(((aG w).alloc _).alloc _).alloc _);have HZ:Hid (wz.heap.size=w.heap.size+3):=I (by rw [hwz];simp [hsb]);go_enter Tryz.func54,Tryz.ntmps54;go_upto_region 1 with fail
 rw [<-fZ];try rw [hsa]
 rw [<-hwb];try rw [hsb]
 rw [<-hwz];clear fZ hwb hwz hsa hsb;obtain⟨c0,c1,c2,c3,c4,c5⟩:=bF R3.o;have z1:w.heap.size<wz:=(γ R3.o);go_wp2_with (first|(at_builtin;refine cO (c:=c) (base:=w.heap.size+3) (l:=[]) (m:=x.aI) (v:=U (some ⟨wz,0,none⟩) 0 0) nW rfl Qo ε rfl (.tmp 7) (.tmp 9) rfl rfl (bK.mY Ty.hs _ _ _ _ ?c1 ?c1') rfl ?src ?c3 ?c4 ?_))
 case c1=>rw [HZ.o];exact Nat.le_refl _
 case c1'=>rfl
 case src=>exact Src.kK ε (HC.o.trans (G1.o.alloc _).sub) Il.o
 case c3=>(try simp);omega
 case c4=>have:=HZ.o;(try simp);omega
 intro a8 c8 w8 nT yK lD;try simp only [List.length_nil,Nat.zero_add,List.nil_append] at nT
 try simp only [List.length_nil,Nat.zero_add]
 have t_:=I nT;have G8:=I (dI (w0:=wz) ((aG wz).alloc _) yK (iM (Nat.le_refl _)));have FL:=I (aF R3.o G8.o);have R58:=I (aF R5.o G8.o);have R68:=I (aF R6.o G8.o);clear nT yK lD c0 c1 c2 c3 c4 c5 z1;go_wp2_with (first|(refine bY rfl (.tmp 11) (.tmp 10) (v:=U a8 x.aI.length c8) (new:=#[U al x.aN.bg.length cl,J x.aN.aW,J x.aN.next,U ao x.aN.bG.length co,U a8 x.aI.length c8,U an x.bM.length cn]) rfl rfl ρ ρ FL.o MN σ ρ ρ ?_))
 intro w9 r9 g9;have UV:=I r9;have G9:=I ((G1.o.trans G8.o).grown g9 (fun q O=>by simp at O;omega));have R59:=I (bJ R58.o g9 iP);have R69:=I (bJ R68.o g9 iP);have jE:=I (t_.o.kept g9 (eF t_.o V));clear r9 g9;obtain⟨g,-,rfl,-,-⟩:=jE.o.get ε k hk;obtain⟨c0,c1,c2,c3,c4,c5⟩:=bF UV.o;obtain⟨d0,d1,d2,d3,d4,d5,d6⟩:=bZ R59.o;have z1:w.heap.size<w9:=(γ UV.o);have z2:w.heap.size+1<w9:=(γ R59.o);have hkc:(k:Int)<(x.aI.length:Int):=by omega
 go_wp2_with (first|(refine JM (T:=Ty.hs) (c:=c) (base:=w.heap.size+3) (i:=k) (l:=x.aI) (x:=h) (cells:=#[U iC h.bg.length iD,J h.aP.a,J h.aP.b,J h.aP.c,J h.aP.d,U oD h.ready.length oG,U uS h.done.length uT]) rfl (.tmp 16) (.tmp 15) rfl rfl ρ ?ps jE.o hk fO HHR.o rfl ?_))
 case ps=>first|rfl|(simp [Ty.hs];done)|(show _=k*7;omega)
 intro yt oV xg;have hgl:=(jE.o.lt g rfl).1;have A1A:=I (bJ UV.o xg iP);have A2F:=I (bJ R69.o xg iP);have AO:=I oV;have lX:=I (G9.o.grown xg (fun q O=>by simp at O;omega));clear oV xg c0 c1 c2 c3 c4 c5 d0 d1 d2 d3 d4 d5 d6 z1 z2;obtain⟨c0,c1,c2,c3,c4,c5⟩:=bF A1A.o;have z1:w.heap.size<yt:=(γ A1A.o);go_wp2_with (first|(refine aQ rfl (.tmp 6) (.tmp 17) rfl rfl rfl A2F.o dN rfl rfl ?_))
 intro w7 r7 g7;obtain⟨p0,p1,p2,p3,p4,p5⟩:=bF r7;clear c0 c1 c2 c3 c4 c5;go_wp2;refine dw (v:=.agg #[U al x.aN.bg.length cl,J x.aN.aW,J x.aN.next,U ao x.aN.bG.length co,U (some ⟨g,0,none⟩) x.aI.length c8,U an x.bM.length cn]) (by simp [results,Tryz.results54,go_sem,p0,p1,p2,p3,p4,p5]) rfl ?_;have G7:=lX.o.grown g7 (fun q O=>by simp at O;omega);refine⟨_,rfl,Of.qA (LQ.o.mono (gG HC.o)) ?_ (PS.o.mono (gG HC.o)),G7⟩;have h9:=bK.slc (d:=ov c w w7) ε (AO.o.kept g7 (.inr (by simp [Value.ownBlock];omega))) (gG HC.o) fun a ha=>dY V;exact h9
theorem MO {c:CM} (w:World) {b:Nat} (hb:b<=w.heap.size):bK Ty.rc c (w.alloc (.cells #[J 4,J 0,()] 79)) b 79 (U (some ⟨w,0,none⟩) 1 1) [⟨4,0,[]⟩]:=
 ⟨[[J 4,J 0,()]],World.ownsRow_lit w #[J 4,J 0,()] 1 hb ε rfl,rfl,fun i cs x a b=>by
  match i with
  |0=>
   simp only [List.getElem?_cons_zero,Option.some.injEq] at a b;subst a;subst b;exact⟨_,rfl,(show I64 4 by unfold I64;decide),gZ,Sl.nil _ _⟩
  |i+1=>simp at a⟩
def nc (c:CM) (w W:World) (X:List (Option Nat)):CM:=fun a=>if some a.block∈X then none else ov c w W a
theorem oA (c:CM) (w W:World) (X:List (Option Nat)):Sub (nc c w W X) (ov c w W):=fun a v e=>by
 unfold nc at e;split at e
 ·cases e
 ·exact e
theorem UX {c:CM} {w W:World} (hc:Sub c w.cell?) (hg:aK w W) (X:List (Option Nat)):Sub (nc c w W X) W.cell?:=(oA c w W X).trans (xR hc hg)
theorem VC {c:CM} {w:World} (hc:Sub c w.cell?) {W:World} {X:List (Option Nat)} (hX:∀k,some k∈X->w.heap.size<=k):Sub c (nc c w W X):=fun a v e=>by
 have hl:=eH w a (hc _ _ e);unfold nc;rw [aV (fun h=>by have:=hX _ h;omega)];exact gG hc _ _ e
theorem FO {c:CM} {w W W':World} {X:List (Option Nat)} (h:aK W W'):Sub (nc c w W X) (nc c w W' X):=fun a v e=>by
 unfold nc at e ⊢;split at e
 ·cases e
 ·rename_i hn
  rw [aV hn];exact zx (Sub.refl _) h a v e
theorem oB {c:CM} {w W W':World} {v v':Value} (_:∀k,v.ownBlock=some k->w.heap.size<=k) (hg:W.grownBy W' v.ownBlock) (hw:w.heap.size<=W.heap.size) (hb:v'.ownBlock=v.ownBlock∨∃g,v'.ownBlock=some g/\W.heap.size<=g):Sub (nc c w W [v.ownBlock]) (nc c w W' [v'.ownBlock]):=fun a u e=>by
 unfold nc at e ⊢;split at e
 ·cases e
 ·rename_i hn
  simp only [List.mem_singleton] at hn;unfold ov at e ⊢;by_cases hl:a.block<w.heap.size
  ·rw [bC hl] at e
   rw [bC hl,aV]
   ·exact e
   ·simp only [List.mem_singleton]
    intro e2;rcases hb with hb|⟨g,hb,hge⟩
    ·rw [hb] at e2;exact hn e2
    ·rw [hb] at e2;have:=bI e2;omega
  ·rw [aV hl] at e
   rw [aV hl];have hlt:=eH W a e;rw [aV,World.cell?_of_block (hg.block a.block hlt hn)]
   ·exact e
   ·simp only [List.mem_singleton]
    intro e2;rcases hb with hb|⟨g,hb,hge⟩
    ·rw [hb] at e2;exact hn e2
    ·rw [hb] at e2;have:=bI e2;omega
theorem A1B {c:CM} {w W:World} {X:List (Option Nat)}:Sub (fr w W X) (nc c w W X):=fun a v e=>by
 unfold fr at e;split at e
 ·cases e
 ·rename_i hn
  unfold nc;rw [aV (fun h=>hn (.inr h)),dY (by have:¬a.block<w.heap.size:=fun h=>hn (.inl h);omega)];exact e
theorem nJ {c:CM} {v vm:Value} {l:List (List UInt8)} {ms:List Ms} (w:World) (hc:Sub c w.cell?) (hv:yS c v l) (hms:Mss w.cell? vm ms) (hr:∀m∈ms,cZ m=0) (hm:l.length*24+1000<=140737488355328):
  Calls Tryz.prog 51 #[v,vm] w fun e w'=>∃v',e=.returned v'/\yS (ov c w w') v' (kC l ms)/\aK w w':=by
 have HR:=I hr;have HV:=I hv;have HC:=I hc;obtain⟨av,cv,rfl,-⟩:=id hv;obtain⟨am,cm,rfl,N,Y,-,hel⟩:=hms;unfold maxLen at Y;clear hv hr hc;go_enter Tryz.func51,Tryz.ntmps51;go_wp2_with (first|(at_builtin;refine cO (c:=nc c w (w.alloc (.cells #[] 97)) [(Value.slice (some ⟨w,0,none⟩) 0 0).ownBlock]) (base:=w.heap.size) (l:=[]) (m:=l) oq rfl (lW Ty.byte) ε rfl (.tmp 6) (.tmp 7) rfl rfl (bK.mY Ty.bs _ _ _ _ ?c1 ?c1') rfl ?src ?c3 ?c4 ?_))
 case c1=>exact Nat.le_refl _
 case c1'=>rfl
 case src=>
  have hS:=VC (c:=c) HC.o (W:=w.alloc (.cells #[] 97)) (X:=[(Value.slice (some ⟨w,0,none⟩) 0 0).ownBlock]) (fun k hk=>by simp [Value.ownBlock] at hk;omega);exact Src.kK ε (UX HC.o ((aG _).alloc _) _) (HV.o.mono hS)
 case c3=>simp;omega
 case c4=>simp
 intro a4 c4 w4 vO MT qW;have NW:Hid (bK Ty.bs (nc c w w4 [(Value.slice a4 l.length c4).ownBlock]) w4 w.heap.size 97 (U a4 l.length c4) l):=I (by
  have iY:(Value.slice a4 l.length c4).ownBlock=(Value.slice (some ⟨w,0,none⟩) 0 0).ownBlock∨∃g,(Value.slice a4 l.length c4).ownBlock=some g/\(w.alloc (.cells #[] 97)).heap.size<=g:=by
   rcases qW with e|⟨g,e,hge⟩
   ·exact .inl (by simpa using e)
   ·exact .inr ⟨g,by simpa using e,by simpa using hge⟩
  have h9:=bK.mono (oB (iM (Nat.le_refl _)) MT σ iY) (by simpa using vO);exact h9)
 have G4:=I (dI (w0:=w) ((aG w).alloc _) MT (iM (Nat.le_refl _)));try simp only [List.length_nil,Nat.zero_add]
 clear vO MT qW;go_wp2;go_loopw [0,5] (fun bv i wr=>∃k:Nat,k<=ms.length/\i=J k/\aK w wr/\bK Ty.bs (nc c w wr [bv.ownBlock]) wr w.heap.size 97 bv (kC l (ms.take k))) (fun _ i _=>ms.length - (intOf i).toNat)
 case atStart=>exact⟨0,V,rfl,G4.o,by rw [List.take_zero,Pv];exact NW.o⟩
 case round=>
  obtain⟨k,hk',rfl,hb,bU⟩:=hrel;obtain⟨av,cv,rfl⟩:=bU.form;by_cases hlt:k<ms.length
  ·by_cases zP:(kC l (ms.take k)).length<24
   ·obtain⟨b,o,vp,rfl,c0,c1,c2,c3,i0,i1,i2,hP⟩:=Mss.at_ hel k hlt
    obtain⟨ap,cp,rfl,-⟩:=id hP;replace c0:=hb.sub _ _ c0;replace c1:=hb.sub _ _ c1;replace c2:=hb.sub _ _ c2;replace c3:=hb.sub _ _ c3;have hw:=HR.o ms[k] (List.getElem_mem _);have HST:=I (L6 (l:=l) hlt);have HBY:=I (fun(W:World) (hW:aK wr W)=>bR (m:=ms[k]) W ⟨_,rfl,_,rfl,i0,i1,i2,hP.mono (hb.trans hW).sub⟩ (LZ hw) (Pq hw));have dX:=I bU;have HB:=I hb;clear hel hP hw bU i0 i1 i2 hb;generalize ms[k]=m at*;generalize kC l (ms.take k)=lk at*;have D6:=I (show kC l (ms.take (k+1))=lk++ [dh m] by rw [HST.o,bC zP]);clear HST;go_wp2_with fail
    refine(HBY.o _ (aG _)).mono ?_;rintro e w2 ⟨v2,rfl,wS,gB⟩;obtain⟨a2,uz,rfl⟩:=dG wS;have pI:=I wS;have jq:=I gB;clear wS gB;generalize dh m=r at*;go_wp2_with (first|(at_builtin;refine cO (c:=nc c w (w2.alloc (.cells #[U a2 r.length uz] 97)) [(Value.slice av lk.length cv).ownBlock]) (base:=w.heap.size) (l:=lk) (m:=[r]) oq rfl (lW Ty.byte) ε rfl (.tmp 20) (.tmp 26) rfl rfl ?own rfl (Src.dU (T:=Ty.bs) (x:=r) (cs:=#[U a2 r.length uz]) ?d0 _ _ ?d1) ?d2 ?d3 ?_))
    case own=>exact(dX.o.mono (FO (jq.o.alloc _))).grow (jq.o.alloc _)
    case d0=>
     refine⟨_,rfl,?_⟩;have hlt2:=dX.o.lt;refine Sl.mono A1B (QJ (w1:=wr) ?_ HB.o.size ?_)
     ·exact kE pI.o ((aG _).alloc _)
     ·intro q O
      simp only [List.mem_singleton];intro e;have:=(hlt2 q e.symm).2;omega
    case d1=>simp
    case d2=>simp;omega
    case d3=>have:=(jq.o.alloc (.cells #[U a2 r.length uz] 97)).size;have:=HB.o.size;omega
    intro a5 c5 w5 xC uG iY;have Yq:aK w w5:=dI (w0:=w) (HB.o.trans (jq.o.alloc _)) uG (fun q O=>(dX.o.lt q O).1);have oQ:=I (xC.mono (oB (fun q O=>(dX.o.lt q O).1) uG (by have:=HB.o.size;have:=(jq.o.alloc (.cells #[U a2 r.length uz] 97)).size;omega) (iY.imp_right fun⟨g,e,hge⟩=>⟨g,e,by simpa using hge⟩)));have wW:=I Yq;clear xC uG iY Yq;go_wp2;go_roundw
    case rel=>exact⟨k+1,V,by go_num,wW.o,by rw [D6.o];exact oQ.o⟩
    case measure=>simp [intOf];omega
   ·have HF:=I (Xa (l:=l) (ms:=ms) (k:=k) V)
    clear hel;have dX:=I bU;have HB:=I hb;clear bU hb;go_wp2;go_ret;exact⟨_,rfl,by rw [HF.o];exact dX.o.slc ε (oA _ _ _ _) (fun a ha=>dY ha),HB.o⟩
  ·clear hel
   have dX:=I bU;have HB:=I hb;have HF:Hid (kC l (ms.take k)=kC l ms):=I (by rw [eG V]);clear bU hb;go_wp2;go_ret;exact⟨_,rfl,by rw [<-HF.o];exact dX.o.slc ε (oA _ _ _ _) (fun a ha=>dY ha),HB.o⟩
def fc (c:CM) (W0 w:World) (X:List (Option Nat)):CM:=fun a=>if a.block<W0.heap.size then c a else fr W0 w X a
theorem nU {c:CM} {W0 w:World} {X:List (Option Nat)} (h:Sub c W0.cell?):Sub c (fc c W0 w X):=fun a v e=>by
 unfold fc;rw [bC (eH W0 a (h _ _ e))];exact e
theorem Xe {c:CM} {W0 w:World} {X:List (Option Nat)} {a:Addr} (h:W0.heap.size<=a.block) (Z:some a.block∉X):fc c W0 w X a=w.cell? a:=by
 unfold fc;rw [aV V,jh h Z]
theorem QZ {c:CM} {W0 w w':World} {X X':List (Option Nat)} (h:∀k,k<w.heap.size->W0.heap.size<=k->some k∉X->w'.heap[k]? =w.heap[k]?/\some k∉X'):Sub (fc c W0 w X) (fc c W0 w' X'):=fun a v e=>by
 unfold fc at e ⊢;split at e
 ·rw [bC ‹_›];exact e
 ·rw [aV ‹_›];exact jV h a v e
theorem xI {c:CM} {W0 w w':World} {X:List (Option Nat)} (h:aK w w'):Sub (fc c W0 w X) (fc c W0 w' X):=QZ fun k hk _ Z=>⟨h.block k hk,Z⟩
theorem oE {c:CM} {W0 w w':World} {v v':Value} (hg:w.grownBy w' v.ownBlock) (hb:v'.ownBlock=v.ownBlock∨∃g,v'.ownBlock=some g/\w.heap.size<=g):Sub (fc c W0 w [v.ownBlock]) (fc c W0 w' [v'.ownBlock]):=
 QZ fun k hk _ Z=>by
  simp only [List.mem_singleton] at Z;refine⟨hg.block k hk Z,?_⟩;simp only [List.mem_singleton];intro e;rcases hb with hb|⟨g,hb,hge⟩
  ·exact Z (e.trans hb)
  ·have:=bI (e.trans hb)
   omega
theorem Io {c:CM} {W0 w w':World} {B:Nat} {X:List (Option Nat)} (hg:w.grownBy w' (some B)) (hB:B<W0.heap.size):Sub (fc c W0 w X) (fc c W0 w' X):=
 QZ fun k hk h0 Z=>⟨hg.block k hk iP,Z⟩
theorem Xf {c:CM} {w W0 W w':World} {B:Nat} {X:List (Option Nat)} (hc:Sub c w.cell?) (h0:aK w W0) (hg:W.grownBy w' (some B)) (hB:B<W0.heap.size):Sub (fc c W0 W X) (ov c w w'):=fun a v e=>by
 have e2:=Io hg hB a v e;have hs:=h0.size;unfold fc at e2;unfold ov;split at e2
 ·rw [bC (eH w a (hc _ _ e2))];exact e2
 ·rw [aV V];exact iO _ _ _ _ _ e2
theorem PU (m:Ms):∀(l:List Opn) (s:V7),(s.known=false->s.recs=[]/\s.says=[])->(l.foldl (gV m) s).known=false->(l.foldl (gV m) s).recs=[]/\(l.foldl (gV m) s).says=[]
 | [],s,h=>h
 |o::l,s,h=>by
  rw [List.foldl_cons];refine PU m l _ fun hk=>?_;unfold gV at hk ⊢;split at hk
  ·cases hk
  ·rename_i hn
   rw [aV hn];exact h hk
theorem FR (m:Ms):∀(l:List Opn) (s:V7),s.recs.length<=1->(l.foldl (gV m) s).recs.length<=1
 | [],s,h=>h
 |o::l,s,h=>by
  rw [List.foldl_cons];refine FR m l _ ?_;unfold gV;split
  ·show(fK o m).2.1.length<=1
   unfold fK;split
   ·split<;>simp
   ·split
    ·simp
    ·split
     ·split<;>simp
     ·split<;>simp
  ·exact h
theorem UR {m:Ms} {s:V7} {o:Opn} (h:¬(o.aJ=m.aJ/\s.known=false)):gV m s o={ s with bG:=s.bG++ [o] }:=by unfold gV;rw [aV h]
theorem VM {m:Ms} {s:V7} {o:Opn} (N:o.aJ=m.aJ) (Y:s.known=false):gV m s o=⟨s.bG++(fK o m).1,(fK o m).2.1,(fK o m).2.2,true⟩:=by unfold gV;rw [bC ⟨N,Y⟩]
def rJ (o:Opn) (m:Ms):Prop:=m.aU∈dB o.aH/\m.aU∉o.aZ
instance (o:Opn) (m:Ms):Decidable (rJ o m):=by unfold rJ;infer_instance
def yL (o:Opn):Bool:=decide (o.aZ.length+1=(dB o.aH).length)
theorem Q_ {o:Opn} {m:Ms} (h:m.aX=2/\o.dec=false/\rJ o m) (ha:yL o=true):fK o m=([⟨o.aJ,o.aH,true,[]⟩],[⟨5,o.aJ,o.aH⟩],jD ⟨o.aJ,o.aH,true,[]⟩):=by
 unfold fK;rw [bC ⟨h.1,h.2.1,h.2.2.1,h.2.2.2⟩,bC (of_decide_eq_true ha)]
theorem cK {o:Opn} {m:Ms} (h:m.aX=2/\o.dec=false/\rJ o m) (ha:yL o=false):fK o m=([⟨o.aJ,o.aH,false,o.aZ++ [m.aU]⟩],[],[]):=by
 unfold fK;rw [bC ⟨h.1,h.2.1,h.2.2.1,h.2.2.2⟩,aV (of_decide_eq_false ha)];obtain⟨-,Y,-⟩:=h;cases o;cases Y;rfl
theorem oF {o:Opn} {m:Ms} (N:¬(m.aX=2/\o.dec=false/\rJ o m)) (h:m.aX=3/\o.dec=false):fK o m=([],[],fU o.aJ o.aH):=by
 unfold fK;rw [aV (fun x=>N ⟨x.1,x.2.1,x.2.2.1,x.2.2.2⟩),bC h]
theorem Rf {o:Opn} {m:Ms} (N:¬(m.aX=2/\o.dec=false/\rJ o m)) (Y:¬(m.aX=3/\o.dec=false)) (h:m.aX=6/\o.dec=true/\rJ o m) (ha:yL o=true):fK o m=([],[⟨6,o.aJ,[]⟩],[]):=by
 unfold fK;rw [aV (fun x=>N ⟨x.1,x.2.1,x.2.2.1,x.2.2.2⟩),aV Y,bC ⟨h.1,h.2.1,h.2.2.1,h.2.2.2⟩,bC (of_decide_eq_true ha)]
theorem cL {o:Opn} {m:Ms} (N:¬(m.aX=2/\o.dec=false/\rJ o m)) (Y:¬(m.aX=3/\o.dec=false)) (h:m.aX=6/\o.dec=true/\rJ o m) (ha:yL o=false):fK o m=([⟨o.aJ,o.aH,true,o.aZ++ [m.aU]⟩],[],[]):=by
 unfold fK;rw [aV (fun x=>N ⟨x.1,x.2.1,x.2.2.1,x.2.2.2⟩),aV Y,bC ⟨h.1,h.2.1,h.2.2.1,h.2.2.2⟩,aV (of_decide_eq_false ha)];obtain⟨-,h3,-⟩:=h;cases o;cases h3;rfl
theorem cM {o:Opn} {m:Ms} (N:¬(m.aX=2/\o.dec=false/\rJ o m)) (Y:¬(m.aX=3/\o.dec=false)) (h3:¬(m.aX=6/\o.dec=true/\rJ o m)) (h:m.aX=7/\o.dec=true):fK o m=([o],[],[⟨4,m.aJ,m.aU,[]⟩]):=by
 unfold fK;rw [aV (fun x=>N ⟨x.1,x.2.1,x.2.2.1,x.2.2.2⟩),aV Y,aV (fun x=>h3 ⟨x.1,x.2.1,x.2.2.1,x.2.2.2⟩),bC h]
theorem Xg {o:Opn} {m:Ms} (N:¬(m.aX=2/\o.dec=false/\rJ o m)) (Y:¬(m.aX=3/\o.dec=false)) (h3:¬(m.aX=6/\o.dec=true/\rJ o m)) (h:¬(m.aX=7/\o.dec=true)):fK o m=([o],[],[]):=by
 unfold fK;rw [aV (fun x=>N ⟨x.1,x.2.1,x.2.2.1,x.2.2.2⟩),aV Y,aV (fun x=>h3 ⟨x.1,x.2.1,x.2.2.1,x.2.2.2⟩),aV h]
structure kX (c:CM) (w wz wr:World) (h:Hd) (s:V7) (vl vo vs:Value):Prop where
 row:wr.heap[w.heap.size+3]? =some (.cells #[vl,J h.aW,J h.next,vo] 29 (0,0))
 bg:Sl Ty.rc (fc c wz wr [vo.ownBlock]) vl (h.bg++s.recs)
 bG:bK Ty.bG (fc c wz wr [vo.ownBlock]) wr (w.heap.size+4) 58 vo s.bG
 says:Sl Ty.ms (fc c wz wr [vo.ownBlock]) vs s.says
 old:∀k,k<3->wr.heap[w.heap.size+k]? =wz.heap[w.heap.size+k]?
 grow:aK w wr
 DJ:wz.heap.size=w.heap.size+4
theorem kX.size {c:CM} {w wz wr:World} {h:Hd} {s:V7} {vl vo vs:Value} (b:kX c w wz wr h s vl vo vs):w.heap.size+4<=wr.heap.size:=by
 have:=(γ b.row);omega
theorem kX.dL {c:CM} {w wz wr W:World} {h:Hd} {s:V7} {vl vo vs:Value} (b:kX c w wz wr h s vl vo vs) (hg:aK wr W):kX c w wz W h s vl vo vs where
 row:=aF b.row hg
 bg:=b.bg.mono (xI hg)
 bG:=(b.bG.mono (xI hg)).grow hg
 says:=b.says.mono (xI hg)
 old:=fun k hk=>by rw [hg.block _ (τ b.size)];exact b.old k hk
 grow:=b.grow.trans hg
 DJ:=b.DJ
theorem kX.Ip {c:CM} {w wz wr W:World} {h:Hd} {so:List Opn} {sr:List Rc} {ss:List Ms} {sk:Bool} {vl vo vs Md:Value} (b:kX c w wz wr h ⟨so,sr,ss,sk⟩ vl vo vs) (recs:List Rc) (hg:wr.grownBy W (some (w.heap.size+3)))
  (r:W.heap[w.heap.size+3]? =some (.cells #[Md,J h.aW,J h.next,vo] 29 (0,0))) (hl:Sl Ty.rc (fc c wz wr [vo.ownBlock]) Md (h.bg++recs)):kX c w wz W h ⟨so,recs,ss,sk⟩ Md vo vs where
 row:=r
 bg:=hl.mono (Io hg (τ b.DJ))
 bG:=(b.bG.mono (Io hg (τ b.DJ))).kept hg (eF b.bG V)
 says:=b.says.mono (Io hg (τ b.DJ))
 old:=fun k hk=>by rw [hg.block _ (τ b.size) iP];exact b.old k hk
 grow:=b.grow.grown hg (fun q e=>by have:=bI e;omega)
 DJ:=b.DJ
theorem kX.app {c:CM} {w wz wr wl w9 W:World} {h:Hd} {so:List Opn} {sr:List Rc} {ss:List Ms} {sk:Bool} {vl vo vs v9:Value} (b:kX c w wz wr h ⟨so,sr,ss,sk⟩ vl vo vs) (o:Opn) (hgl:aK wr wl) (fV:wl.grownBy w9 vo.ownBlock)
  (iE:v9.ownBlock=vo.ownBlock∨∃g,v9.ownBlock=some g/\wl.heap.size<=g) (gX:bK Ty.bG (fc c wz wr [vo.ownBlock]) w9 (w.heap.size+4) 58 v9 (so++ [o])) (hg:w9.grownBy W (some (w.heap.size+3)))
  (r:W.heap[w.heap.size+3]? =some (.cells #[vl,J h.aW,J h.next,v9] 29 (0,0))):kX c w wz W h ⟨so++ [o],sr,ss,sk⟩ vl v9 vs:=by
 have hsz:=b.size;have hz:=b.DJ;have hm:Sub (fc c wz wr [vo.ownBlock]) (fc c wz W [v9.ownBlock]):=
  ((xI hgl).trans (oE fV iE)).trans (Io hg V)
 have hvo:∀q,vo.ownBlock=some q->w.heap.size+4<=q:=fun q e=>(b.bG.lt q e).1;refine⟨r,b.bg.mono hm,(gX.mono hm).kept hg (eF gX V),b.says.mono hm,fun k hk=>?_,?_,hz⟩
 ·rw [hg.block _ (by have:=fV.size;have:=hgl.size;omega) iP,fV.block _ (τ hgl.size) (fun e=>by have:=hvo _ e.symm;omega),hgl.block _ V]
  exact b.old k hk
 ·exact((b.grow.trans hgl).grown fV (fun q e=>by have:=hvo q e;omega)).grown hg (fun q e=>by have:=bI e;omega)
theorem kX.pW {c:CM} {w wz W:World} {h:Hd} {so:List Opn} {sr:List Rc} {ss ss':List Ms} {sk:Bool} {vl vo vs vs':Value} (b:kX c w wz W h ⟨so,sr,ss,sk⟩ vl vo vs) (hs:Sl Ty.ms (fc c wz W [vo.ownBlock]) vs' ss'):kX c w wz W h ⟨so,sr,ss',true⟩ vl vo vs':=
 ⟨b.row,b.bg,b.bG,hs,b.old,b.grow,b.DJ⟩
theorem kX.zle {c:CM} {w wz W:World} {h:Hd} {s:V7} {vl vo vs:Value} (b:kX c w wz W h s vl vo vs):wz.heap.size<=W.heap.size:=by have:=b.DJ;have:=b.size;omega
theorem kX.nx {c:CM} {w wz W:World} {h:Hd} {s:V7} {vl vo vs:Value} (b:kX c w wz W h s vl vo vs):∀k,W.heap.size<=k->some k∉ [vo.ownBlock]:=fun k hk=>by
 simp only [List.mem_singleton];intro e;have:=(b.bG.lt k e.symm).2;omega
theorem kX.xJ {α:Type} {T:Ty α} (h0:0<T.size) {c d:CM} {w wz W W4:World} {h:Hd} {s:V7} {vl vo vs v:Value} {e:Nat} {l:List α} (b:kX c w wz W h s vl vo vs) (hd:Sub d (fc c wz W4 [vo.ownBlock])) (h4:bK T d W4 W.heap.size e v l):Sl T (fc c wz W4 [vo.ownBlock]) v l:=
 h4.slc h0 hd fun a ha=>Xe (τ b.zle) (b.nx _ ha)
theorem kX.oR {c:CM} {w wz W W4:World} {h:Hd} {s:V7} {vl vo vs:Value} {aC:List (Option Nat)} (b:kX c w wz W h s vl vo vs):Sub (fr W W4 aC) (fc c wz W4 [vo.ownBlock]):=fun a v e=>by
 unfold fr at e;split at e
 ·cases e
 ·rename_i hn
  have N:¬a.block<W.heap.size:=fun Z=>hn (.inl Z);rw [Xe (τ b.zle) (b.nx _ V)];exact e
theorem CY:(Tryz.prog.info? 48).map (·.size)=some 1:=by kernel_rfl
theorem cN:(Tryz.prog.info? 4).map (·.size)=some 1:=by kernel_rfl
theorem tH:(Tryz.prog.info? 26).map (·.size)=some 1:=by kernel_rfl
theorem FM (d:Array Int) (hs:∀i j,i<=j->j<d.size->d[i]! <=d[j]!):∀m,m<=d.size->(Lib.compactUpTo d m).Pairwise (· < ·)/\∀x,x∈Lib.compactUpTo d m↔∃j,j<m/\d[j]! =x
 |0,_=>⟨by simp [Lib.compactUpTo],fun x=>by simp [Lib.compactUpTo]⟩
 |m+1,hm=>by
  obtain⟨N,Y⟩:=FM d hs m V;rw [Lib.compactUpTo_succ];by_cases hk:Lib.keeps d m=true
  ·rw [bC hk]
   have hlt:∀x∈Lib.compactUpTo d m,x<d[m]!:=fun x Z=>by
    obtain⟨j,hj,rfl⟩:=(Y x).1 Z;have a:=hs j (m - 1) V V;have b:=hs (m - 1) m V V;have c:d[m]! ≠d[m - 1]!:=by
     unfold Lib.keeps at hk;rcases of_decide_eq_true hk with e|e
     ·omega
     ·exact e
    omega
   refine⟨?_,fun x=>?_⟩
   ·rw [List.pairwise_append]
    exact⟨N,σ,fun a ha b hb=>by simp only [List.mem_singleton] at hb;subst hb;exact hlt a ha⟩
   ·rw [List.mem_append,Y,List.mem_singleton]
    constructor
    ·rintro(⟨j,hj,e⟩|e)
     ·exact⟨j,V,e⟩
     ·exact⟨m,V,e.symm⟩
    ·rintro⟨j,hj,e⟩
     by_cases hjm:j=m
     ·subst hjm;exact .inr e.symm
     ·exact .inl ⟨j,V,e⟩
  ·rw [aV hk,List.append_nil]
   refine⟨N,fun x=>?_⟩;rw [Y];have hk':¬(m=0∨d[m]! ≠d[m - 1]!):=by
    intro h;exact hk (by unfold Lib.keeps;exact decide_eq_true h)
   have e0:m≠0:=fun e=>hk' (.inl e);have e1:d[m]! =d[m - 1]!:=by
    rcases Classical.em (d[m]! =d[m - 1]!) with h|h
    ·exact h
    ·exact absurd (.inr h) hk'
   constructor
   ·rintro⟨j,hj,e⟩;exact⟨j,V,e⟩
   ·rintro⟨j,hj,e⟩
    by_cases hjm:j=m
    ·subst hjm;exact⟨j - 1,V,by rw [<-e1];exact e⟩
    ·exact⟨j,V,e⟩
theorem cP (l:List Int):(Lib.compact (l.mergeSort fun x y=>decide (x<=y))).Pairwise (· < ·)/\∀x,x∈Lib.compact (l.mergeSort fun x y=>decide (x<=y))↔x∈l:=by
 have hp:(l.mergeSort fun x y=>decide (x<=y)).Pairwise fun a b=>decide (a<=b)=true:=
  List.pairwise_mergeSort (fun a b c N Y=>by simp only [decide_eq_true_eq] at*;omega) (fun a b=>by simp only [Bool.or_eq_true,decide_eq_true_eq];omega) l
 have hm:∀x,x∈(l.mergeSort fun x y=>decide (x<=y))↔x∈l:=fun x=>List.mem_mergeSort;generalize (l.mergeSort fun x y=>decide (x<=y))=s at hp hm;have hs:∀i j,i<=j->j<s.toArray.size->s.toArray[i]! <=s.toArray[j]!:=fun i j hij hj=>by
  have hj':j<s.length:=by simpa using hj
  rw [getElem!_pos s.toArray j hj,getElem!_pos s.toArray i V];by_cases e:i=j
  ·subst e;exact Int.le_refl _
  ·have:=List.pairwise_iff_getElem.1 hp i j V hj' V
   simpa using this
 obtain⟨N,Y⟩:=FM s.toArray hs s.length σ;refine⟨N,fun x=>?_⟩;rw [<-hm];show x∈Lib.compactUpTo s.toArray s.length↔_;rw [Y,List.mem_iff_getElem];constructor
 ·rintro⟨j,hj,e⟩
  rw [getElem!_pos s.toArray j (by simpa using hj)] at e;exact⟨j,hj,by simpa using e⟩
 ·rintro⟨j,hj,e⟩
  exact⟨j,hj,by rw [getElem!_pos s.toArray j (by simpa using hj)];simpa using e⟩
def kT (hs:List Hs):List Int:=hs.flatMap fun h=>h.ready.map (·.aJ)
def Bz (hs:List Hs) (r:Rd):List Int:=((dB r.aH).filter fun n=>!decide (r.aJ∈(hs.getD n.toNat hs0).done)).map fun _=>r.aJ
def nD (hs:List Hs) (D:List Rd):List Int:=D.flatMap (Bz hs)
theorem oS {n:Nat} {G:Reg} {w:AW} (i:WI n G w):Lib.compact ((kT w.aI++nD w.aI (bH w.aN.bg)).mergeSort fun x y=>decide (x<=y))=opensE w:=by
 obtain⟨N,Y⟩:=cP (kT w.aI++nD w.aI (bH w.aN.bg));refine D_ N ?_ fun x=>?_
 ·unfold opensE
  refine List.Pairwise.filter _ ?_;rw [List.pairwise_map];exact List.pairwise_lt_range.imp fun h=>by omega
 ·rw [Y,List.mem_append]
  have key:isOpen w x=true↔(x∈kT w.aI∨x∈nD w.aI (bH w.aN.bg)):=by
   unfold isOpen;rw [Bool.or_eq_true];refine or_congr ?_ ?_
   ·unfold kT dP
    rw [List.any_eq_true,List.mem_flatMap];constructor
    ·rintro⟨h,hh,Z⟩
     obtain⟨r,hr,e⟩:=List.any_eq_true.1 Z;exact⟨h,hh,List.mem_map.2 ⟨r,hr,by simpa [nG] using e⟩⟩
    ·rintro⟨h,hh,Z⟩
     obtain⟨r,hr,e⟩:=List.mem_map.1 Z;exact⟨h,hh,List.any_eq_true.2 ⟨r,hr,by simpa [nG] using e⟩⟩
   ·unfold nD
    rw [List.any_eq_true,List.mem_flatMap];have hl:=i.core.len;have h3:=i.core.n3;constructor
    ·rintro⟨r,hr,Z⟩
     rw [Bool.and_eq_true,List.any_eq_true] at Z;obtain⟨e,k,hk,Z⟩:=Z;rw [Bool.and_eq_true] at Z;have hk':=List.mem_range.1 hk;have e':r.aJ=x:=by simpa using e
     refine⟨r,hr,List.mem_map.2 ⟨(k:Int),List.mem_filter.2 ⟨kW.2 ⟨V,fun e0=>by have:=Z.1;rw [e0] at this;simp at this⟩,?_⟩,e'⟩⟩;rw [e'];exact Z.2
    ·rintro⟨r,hr,Z⟩
     obtain⟨k,hk,e⟩:=List.mem_map.1 Z;obtain⟨hk,hd⟩:=List.mem_filter.1 hk;have hw:dO r.aH n=0:=(i.core.reg.ok _ (i.core.dec.reg r hr)).2;have hb:=rX hw hk;have hm:=kW.1 hk;refine⟨r,hr,?_⟩;rw [Bool.and_eq_true,List.any_eq_true];refine⟨by simpa using e,k.toNat,List.mem_range.2 V,?_⟩;rw [Bool.and_eq_true,show((k.toNat:Nat):Int)=k by omega];refine⟨?_,by rw [<-e];exact hd⟩;cases ho:jT r.aH k with
     |nil=>exact absurd ho hm.2
     |cons a b=>rfl
  constructor
  ·intro Z
   have hx':=key.2 Z;unfold opensE;refine List.mem_filter.2 ⟨?_,hx'⟩;have hd:∃P,(x,P)∈G:=by
    rcases Z with Z|Z
    ·obtain⟨h,hh,Z⟩:=List.mem_flatMap.1 Z
     obtain⟨r,hr,rfl⟩:=List.mem_map.1 Z;obtain⟨j,hj⟩:=List.mem_iff_getElem?.1 hh;obtain⟨P,hP,-⟩:=(i.core.aU j h hj).reg r hr;exact⟨P,hP⟩
    ·obtain⟨r,hr,Z⟩:=List.mem_flatMap.1 Z
     obtain⟨k,-,rfl⟩:=List.mem_map.1 Z;exact⟨_,i.core.dec.reg r hr⟩
   obtain⟨P,hP⟩:=hd;have:=i.core.aJ hP;exact List.mem_map.2 ⟨x.toNat,List.mem_range.2 V,V⟩
  ·intro Z
   unfold opensE at Z;exact key.1 (List.mem_filter.1 Z).2
def jK:AW->List St->List Int
 |_,[]=>[]
 |w,s::l=>eU w s::jK (jZ w s) l
theorem Iq:∀(l:List St) (w:AW),(jK w l).length=l.length
 | [],_=>rfl
 |s::l,w=>by rw [jK,List.length_cons,List.length_cons,Iq l]
theorem MP:∀(l:List St) (w:AW) (s:St),jK w (l++ [s])=jK w l++ [eU (d_ w l) s]
 | [],w,s=>rfl
 |t::l,w,s=>by
  rw [List.cons_append,jK,jK,MP l];rfl
theorem Xh (l:List St) (w:AW) (s:St):d_ w (l++ [s])=jZ (d_ w l) s:=by unfold d_;rw [List.foldl_append];rfl
theorem MQ {l:List St} {j:Nat} (h:j<l.length) (w:AW):d_ w (l.take (j+1))=jZ (d_ w (l.take j)) l[j]:=by
 rw [List.take_succ_eq_append_getElem h,Xh]
theorem MR {l:List St} {j:Nat} (h:j<l.length) (w:AW):jK w (l.take (j+1))=jK w (l.take j)++ [eU (d_ w (l.take j)) l[j]]:=by
 rw [List.take_succ_eq_append_getElem h,MP]
theorem MS (h:Int):∀(l:List Pt) (had:List (Int×Int)),0<=jU h had l/\jU h had l<=5
 | [],had=>by simp [jU]
 |p::l,had=>by
  unfold jU;split
  ·omega
  ·split
   ·omega
   ·exact MS h l _
theorem UU (x:AW) (s:St):I64 (eU x s):=by
 have h:0<=eU x s/\eU x s<=9:=by
  unfold eU;split
  ·split
   ·unfold uD;split<;>omega
   ·unfold dO
    split
    ·omega
    ·have:=MS x.aI.length s.aH []
     omega
  ·split
   ·split<;>omega
   ·split
    ·split
     ·unfold uH;split<;>omega
     ·split<;>omega
    ·split
     ·split<;>omega
     ·split<;>omega
 exact ku V V
theorem Rh {w W W':World} {X:List (Option Nat)} (hg:aK W W') (hs:w.heap.size<=W.heap.size) (hX:∀k,W.heap.size<=k->some k∉X):Sub (ov (fr w W X) W W') (fr w W' X):=fun a v e=>by
 unfold ov at e;split at e
 ·exact fH hg a v e
 ·rw [jh V (hX _ V)];exact e
theorem Ri {w w9 w7:World} (h7:w9.grownBy w7 (some w.heap.size)):Sub (fr w w9 [some w.heap.size]) (ov (fun _=>none) w w7):=fun a v e=>by
 unfold fr at e;split at e
 ·cases e
 ·rename_i hn
  have N:¬a.block<w.heap.size:=fun Z=>hn (.inl Z);have Y:a.block≠w.heap.size:=fun Z=>hn (.inr (by rw [Z];simp));rw [dY V];exact bV e h7 Y
theorem MV {n:Nat} (w:World) (hn:1<=n/\n<=3):
  Calls Tryz.prog 12 #[J n] w fun e w'=>∃v',e=.returned (.tuple #[v',J 0])/\Of Ty.wd (ov (fun _=>none) w w') v' (gK n)/\aK w w':=by
 obtain⟨cs,hmk,hms⟩:=UO hn;have vC:=I hms;have SE:¬(n:Int)<1:=by omega
 have DC:¬(3:Int)<(n:Int):=by omega
 clear hms;obtain⟨wz,hwz⟩:=χ (w.alloc (.cells #[(),J 0,J 0,(),(),()] 33));have R2:Hid (wz.heap[w.heap.size]? =some (.cells #[(),J 0,J 0,(),(),()] 33 (0,0))):=I (by rw [hwz];exact bn _ _);have G1:Hid (aK w wz):=I (by rw [hwz];exact(aG w).alloc _);have HZ:Hid (wz.heap.size=w.heap.size+1):=I (by rw [hwz];simp);go_enter Tryz.func12,Tryz.ntmps12;go_upto_region 3 with fail
 rw [<-hwz];clear hwz;have JO:Hid (∀W,aK wz W->True):=fun _ _=>trivial;refine dH (fun w'=>True) 7 κ ?_;obtain⟨wd,hWd⟩:=χ wz.drew;rw [<-hWd];have GD:aK wz wd:=by rw [hWd];exact(aG _).drew
 have zD:wz.heap.size=wd.heap.size:=by rw [hWd];rfl
 clear hWd zD;refine qJ [0,3] 10 κ (fun _ _ _ _ _ h=>h) (JO.o _ GD) ?_;repeat (refine PH (v:=?_) rfl ρ ?_ ?_;rotate_left;(· (intro w' hSw;(try dsimp only at hSw);go_simp<;>with_reducible rfl));try simp only [bT])
 refine qK ?_;refine bP 1 4 κ rfl rfl ?_ ?_
 ·intro K M
  try simp only [dD]
  go_simp;obtain⟨y1,hy1⟩:=χ (wd.alloc (.cells #[J 4,J 0,()] 79));obtain⟨By1,VS⟩:=χ wd.heap.size;have A2G:Hid (aK wd y1):=I (by rw [hy1];exact(aG _).alloc _);have cQ:=I (aK.trans (GD) A2G.o);have oT:Hid (bK Ty.rc (fun _=>none) y1 (w.heap.size+1) 79 (U (some ⟨By1,0,none⟩) 1 1) [⟨4,0,[]⟩]):=I (by rw [hy1,VS];exact MO _ (by have:=(GD).size;have:=HZ.o;omega));rw [<-hy1,<-VS];clear hy1 VS;refine ψ M (fun _=>JO.o _ cQ.o) ?_;try simp only [bT]
  refine bP 2 4 κ rfl rfl ?_ ?_
  ·intro K M
   try simp only [dD]
   go_simp;go_at_call 39
   refine(Fp (l:=[⟨4,0,[]⟩]) (c:=fr w y1 [some w.heap.size]) y1 (iO _ _ _) (bK.slc (d:=fr w y1 [some w.heap.size]) ε (oT.o) (fun _ _ e=>by cases e) fun a ha=>jh V (by simp;omega)) ε).mono ?_;rintro e y2 ⟨vh,rfl,Z,VV⟩;obtain⟨iC,iD,oD,oG,rfl⟩:=Z.iw;have A2H:Hid (aK y1 y2):=I (VV);have V0:=I (aK.trans (cQ.o) A2H.o);have A1C:=I (Of.mono (Rh VV (by have:=(cQ.o).size;have:=HZ.o;omega) (fun k9 hk9=>by have:=(cQ.o).size;have:=HZ.o;simp;omega)) Z);clear Z VV;generalize YQ:fA [⟨4,0,[]⟩]=qh at*;have HQH:=I YQ;clear YQ;refine ψ M (fun _=>JO.o _ V0.o) ?_;try simp only [bT]
   refine bO 4 κ rfl ?_;intro K M;try simp only [dD]
   have oX:=hmk y2;go_simp;clear oX;obtain⟨y3,hy3⟩:=χ (y2.alloc (.cells cs 50));obtain⟨By3,WD⟩:=χ y2.heap.size;have A1D:Hid (aK y2 y3):=I (by rw [hy3];exact(aG _).alloc _);have Br:=I (aK.trans (V0.o) A1D.o);have A1E:=I (Of.mono (fH A1D.o) (A1C.o));have MU:Hid (bK Ty.hs (fun _=>none) y3 (w.heap.size+1) 50 (U (some ⟨By3,0,none⟩) n n) (List.replicate n hs0)):=I (by rw [hy3,WD];exact(vC.o _).base (by have:=(V0.o).size;have:=HZ.o;omega));rw [<-hy3,<-WD];clear hy3 WD;refine ψ M (fun _=>JO.o _ Br.o) ?_;try simp only [bT]
   refine bO 5 κ rfl ?_;intro K M;try simp only [dD]
   go_simp;refine ψ M (fun _=>JO.o _ Br.o) ?_;try simp only [bT]
   refine bO 6 κ rfl ?_;intro K M;refine aY rfl ?_;try simp only [dD]
   refine b_ (.tmp 2) (.tmp 16) rfl rfl rfl (aF R2.o (Br.o)) dN rfl rfl ?_;intro w7 r7 g7;refine ψ M (fun _=>trivial) ?_;try simp only [bT]
   refine bO 7 κ rfl ?_;intro K M;try simp only [dD]
   go_simp;refine ψ M (fun h=>absurd rfl h) ?_;try simp only [bT]
   refine bW κ ?_;obtain⟨p0,p1,p2,p3,p4,p5⟩:=bF r7;go_wp2;refine dw (v:=.tuple #[.agg #[U iC qh.bg.length iD,J qh.aW,J qh.next,U oD qh.bG.length oG,U (some ⟨By3,0,none⟩) n n,()],J 0]) (by simp [results,Tryz.results12,go_sem,p0,p1,p2,p3,p4,p5]) rfl ?_;have G7:=(G1.o.trans (Br.o)).grown g7 (fun q O=>by simp at O;omega);refine⟨_,rfl,?_,G7⟩;unfold gK;rw [HQH.o];refine Of.qA ((A1E.o).mono (Ri g7)) ?_ (Sl.nil _ _);have h9:=bK.slc (T:=Ty.hs) (c:=fun _=>none) (d:=ov (fun _=>none) w w7) ε ((MU.o).kept g7 (eF (MU.o) V)) (fun _ _ e=>by cases e) fun a ha=>dY V;exact h9
  ·intro K M
   try simp only [dD]
   have oX:=hmk y1;go_simp;clear oX;obtain⟨y4,hy4⟩:=χ (y1.alloc (.cells cs 50));obtain⟨By4,WF⟩:=χ y1.heap.size;have A1F:Hid (aK y1 y4):=I (by rw [hy4];exact(aG _).alloc _);have F0:=I (aK.trans (cQ.o) A1F.o);have WN:=I (bK.grow (oT.o) A1F.o);have A1G:Hid (bK Ty.hs (fun _=>none) y4 (w.heap.size+1) 50 (U (some ⟨By4,0,none⟩) n n) (List.replicate n hs0)):=I (by rw [hy4,WF];exact(vC.o _).base (by have:=(cQ.o).size;have:=HZ.o;omega));rw [<-hy4,<-WF];clear hy4 WF;refine ψ M (fun _=>JO.o _ F0.o) ?_;try simp only [bT]
   refine bO 2 κ rfl ?_;intro K M;try simp only [dD]
   go_simp;go_at_call 39
   refine(Fp (l:=[⟨4,0,[]⟩]) (c:=fr w y4 [some w.heap.size]) y4 (iO _ _ _) (bK.slc (d:=fr w y4 [some w.heap.size]) ε (WN.o) (fun _ _ e=>by cases e) fun a ha=>jh V (by simp;omega)) ε).mono ?_;rintro e y5 ⟨vh,rfl,Z,WP⟩;obtain⟨iC,iD,oD,oG,rfl⟩:=Z.iw;have A1H:Hid (aK y4 y5):=I (WP);have F1:=I (aK.trans (F0.o) A1H.o);have MY:=I (bK.grow (A1G.o) A1H.o);have A1I:=I (Of.mono (Rh WP (by have:=(F0.o).size;have:=HZ.o;omega) (fun k9 hk9=>by have:=(F0.o).size;have:=HZ.o;simp;omega)) Z);clear Z WP;generalize YQ:fA [⟨4,0,[]⟩]=qh at*;have HQH:=I YQ;clear YQ;refine ψ M (fun _=>JO.o _ F1.o) ?_;try simp only [bT]
   refine bO 5 κ rfl ?_;intro K M;try simp only [dD]
   go_simp;refine ψ M (fun _=>JO.o _ F1.o) ?_;try simp only [bT]
   refine bO 6 κ rfl ?_;intro K M;refine aY rfl ?_;try simp only [dD]
   refine b_ (.tmp 2) (.tmp 16) rfl rfl rfl (aF R2.o (F1.o)) dN rfl rfl ?_;intro w7 r7 g7;refine ψ M (fun _=>trivial) ?_;try simp only [bT]
   refine bO 7 κ rfl ?_;intro K M;try simp only [dD]
   go_simp;refine ψ M (fun h=>absurd rfl h) ?_;try simp only [bT]
   refine bW κ ?_;obtain⟨p0,p1,p2,p3,p4,p5⟩:=bF r7;go_wp2;refine dw (v:=.tuple #[.agg #[U iC qh.bg.length iD,J qh.aW,J qh.next,U oD qh.bG.length oG,U (some ⟨By4,0,none⟩) n n,()],J 0]) (by simp [results,Tryz.results12,go_sem,p0,p1,p2,p3,p4,p5]) rfl ?_;have G7:=(G1.o.trans (F1.o)).grown g7 (fun q O=>by simp at O;omega);refine⟨_,rfl,?_,G7⟩;unfold gK;rw [HQH.o];refine Of.qA ((A1I.o).mono (Ri g7)) ?_ (Sl.nil _ _);have h9:=bK.slc (T:=Ty.hs) (c:=fun _=>none) (d:=ov (fun _=>none) w w7) ε ((MY.o).kept g7 (eF (MY.o) V)) (fun _ _ e=>by cases e) fun a ha=>dY V;exact h9
 ·intro K M
  try simp only [dD]
  have oX:=hmk wd;go_simp;clear oX;obtain⟨y6,hy6⟩:=χ (wd.alloc (.cells cs 50));obtain⟨By6,XN⟩:=χ wd.heap.size;have A2I:Hid (aK wd y6):=I (by rw [hy6];exact(aG _).alloc _);have XS:=I (aK.trans (GD) A2I.o);have A1J:Hid (bK Ty.hs (fun _=>none) y6 (w.heap.size+1) 50 (U (some ⟨By6,0,none⟩) n n) (List.replicate n hs0)):=I (by rw [hy6,XN];exact(vC.o _).base (by have:=(GD).size;have:=HZ.o;omega));rw [<-hy6,<-XN];clear hy6 XN;refine ψ M (fun _=>JO.o _ XS.o) ?_;try simp only [bT]
  refine bO 1 κ rfl ?_;intro K M;try simp only [dD]
  go_simp;obtain⟨y7,Ir⟩:=χ (y6.alloc (.cells #[J 4,J 0,()] 79));obtain⟨By7,XX⟩:=χ y6.heap.size;have A1K:Hid (aK y6 y7):=I (by rw [Ir];exact(aG _).alloc _);have F2:=I (aK.trans (XS.o) A1K.o);have A1L:=I (bK.grow (A1J.o) A1K.o);have X1:Hid (bK Ty.rc (fun _=>none) y7 (w.heap.size+1) 79 (U (some ⟨By7,0,none⟩) 1 1) [⟨4,0,[]⟩]):=I (by rw [Ir,XX];exact MO _ (by have:=(XS.o).size;have:=HZ.o;omega));rw [<-Ir,<-XX];clear Ir XX;refine ψ M (fun _=>JO.o _ F2.o) ?_;try simp only [bT]
  refine bO 2 κ rfl ?_;intro K M;try simp only [dD]
  go_simp;go_at_call 39
  refine(Fp (l:=[⟨4,0,[]⟩]) (c:=fr w y7 [some w.heap.size]) y7 (iO _ _ _) (bK.slc (d:=fr w y7 [some w.heap.size]) ε (X1.o) (fun _ _ e=>by cases e) fun a ha=>jh V (by simp;omega)) ε).mono ?_;rintro e y8 ⟨vh,rfl,Z,X2⟩;obtain⟨iC,iD,oD,oG,rfl⟩:=Z.iw;have A1M:Hid (aK y7 y8):=I (X2);have F3:=I (aK.trans (F2.o) A1M.o);have M0:=I (bK.grow (A1L.o) A1M.o);have A1N:=I (Of.mono (Rh X2 (by have:=(F2.o).size;have:=HZ.o;omega) (fun k9 hk9=>by have:=(F2.o).size;have:=HZ.o;simp;omega)) Z);clear Z X2;generalize YQ:fA [⟨4,0,[]⟩]=qh at*;have HQH:=I YQ;clear YQ;refine ψ M (fun _=>JO.o _ F3.o) ?_;try simp only [bT]
  refine bO 5 κ rfl ?_;intro K M;try simp only [dD]
  go_simp;refine ψ M (fun _=>JO.o _ F3.o) ?_;try simp only [bT]
  refine bO 6 κ rfl ?_;intro K M;refine aY rfl ?_;try simp only [dD]
  refine b_ (.tmp 2) (.tmp 16) rfl rfl rfl (aF R2.o (F3.o)) dN rfl rfl ?_;intro w7 r7 g7;refine ψ M (fun _=>trivial) ?_;try simp only [bT]
  refine bO 7 κ rfl ?_;intro K M;try simp only [dD]
  go_simp;refine ψ M (fun h=>absurd rfl h) ?_;try simp only [bT]
  refine bW κ ?_;obtain⟨p0,p1,p2,p3,p4,p5⟩:=bF r7;go_wp2;refine dw (v:=.tuple #[.agg #[U iC qh.bg.length iD,J qh.aW,J qh.next,U oD qh.bG.length oG,U (some ⟨By6,0,none⟩) n n,()],J 0]) (by simp [results,Tryz.results12,go_sem,p0,p1,p2,p3,p4,p5]) rfl ?_;have G7:=(G1.o.trans (F3.o)).grown g7 (fun q O=>by simp at O;omega);refine⟨_,rfl,?_,G7⟩;unfold gK;rw [HQH.o];refine Of.qA ((A1N.o).mono (Ri g7)) ?_ (Sl.nil _ _);have h9:=bK.slc (T:=Ty.hs) (c:=fun _=>none) (d:=ov (fun _=>none) w w7) ε ((M0.o).kept g7 (eF (M0.o) V)) (fun _ _ e=>by cases e) fun a ha=>dY V;exact h9
end Go.Proofs.YtocnmkefmgmkbaaGreat
