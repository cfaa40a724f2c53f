/- Parts of proofs, joined: S2, W4, S3, W5, S5, Q1, QA, C1, S4, M2, M3, M4, Dfn, R4, Win, M5, S6, M6, Dfn2, M7, Reg3, Reg4. No condition beside those that each theorem names. -/
import Derived.Test.YtocnmkefmgmkbaaGreatJE1a
set_option maxRecDepth 100000
set_option maxHeartbeats 40000000
namespace Go.Proofs.YtocnmkefmgmkbaaGreat
open Go.RowKit
def dB (l:List Pt):List Int:=[0,1,2].filter fun n=>l.any fun p=>p.h==n
def jI (o:Opn) (n:Int):Ms:=if o.dec then⟨4,o.aJ,n,[]⟩ else⟨1,o.aJ,n,jT o.aH n⟩
def jD (o:Opn):List Ms:=((dB o.aH).filter fun n=>!decide (n∈o.aZ)).map (jI o)
def fU (d:Int) (l:List Pt):List Ms:=(dB l).map fun n=>⟨5,d,n,[]⟩
def fF (h:Hd) (r:Rc):Hd:=
 if r.aX=4 then { h with aW:=wrap64 (h.aW+1) }
 else if r.aX=5 then { h with bG:=h.bG++ [⟨r.aJ,r.aH,true,[]⟩] }
 else if r.aX=6 then { h with bG:=h.bG.filter fun o=>!(o.aJ==r.aJ) }
 else h
def fA (l:List Rc):Hd:=l.foldl fF ⟨l,0,0,[]⟩
def bH (l:List Rc):List Rd:=(l.filter fun r=>r.aX==5).map fun r=>⟨r.aJ,r.aH⟩
def lV (h:Hd):Hd:=if 19<h.aW then h else fA (h.bg++ [⟨4,0,[]⟩])
def uH (h:Hd):Int:=if 19<h.aW then 5 else 0
def uI (h:Hd):Bool:=decide (11<h.bG.length∨63<h.next)
def xW (h:Hd) (l:List Pt):Opn:=⟨64*h.aW+h.next,l,false,[]⟩
def kL (h:Hd) (l:List Pt):Hd:=if uI h=true then h else { h with bG:=h.bG++ [xW h l],next:=h.next+1 }
def nM (h:Hd) (l:List Pt):List Ms:=if uI h=true then [] else jD (xW h l)
def uD (h:Hd):Int:=if uI h=true then 9 else 0
def fK (o:Opn) (m:Ms):List Opn×List Rc×List Ms:=
 if m.aX=2/\o.dec=false/\m.aU∈dB o.aH/\m.aU∉o.aZ then
  (if o.aZ.length+1=(dB o.aH).length then([{ o with dec:=true,aZ:=[] }],[⟨5,o.aJ,o.aH⟩],jD { o with dec:=true,aZ:=[] })
  else([{ o with aZ:=o.aZ++ [m.aU] }],[],[]))
 else if m.aX=3/\o.dec=false then([],[],fU o.aJ o.aH)
 else if m.aX=6/\o.dec=true/\m.aU∈dB o.aH/\m.aU∉o.aZ then
  (if o.aZ.length+1=(dB o.aH).length then([],[⟨6,o.aJ,[]⟩],[]) else([{ o with aZ:=o.aZ++ [m.aU] }],[],[]))
 else if m.aX=7/\o.dec=true then([o],[],[⟨4,m.aJ,m.aU,[]⟩])
 else([o],[],[])
def kV (m:Ms):List Opn->Option (List Opn×List Rc×List Ms)
 | []=>none
 |o::l=>if o.aJ=m.aJ then some ((fK o m).1++l,(fK o m).2) else(kV m l).map fun x=>(o::x.1,x.2)
def gQ (h:Hd) (m:Ms):Hd:=match kV m h.bG with
 |none=>h
 |some x=>{ h with bG:=x.1,bg:=h.bg++x.2.1 }
def iQ (h:Hd) (m:Ms):List Ms:=match kV m h.bG with
 |none=>if m.aX=7 then [⟨5,m.aJ,m.aU,[]⟩] else []
 |some x=>x.2.2
def qO (h:Hd):List Ms:=h.bG.flatMap jD
def oZ (h:Hd):Hd:={ h with bG:=h.bG.filter fun o=>o.dec }
def xE (h:Hd):List Ms:=(h.bG.filter fun o=>!o.dec).flatMap fun o=>fU o.aJ o.aH
end Go.Proofs.YtocnmkefmgmkbaaGreat
namespace Go.Proofs.YtocnmkefmgmkbaaGreat
def keysOf (l:List Rd):List Int:=l.flatMap fun r=>r.aH.map (·.k)
theorem qp (x:Rd) (l:List Rd):keysOf (x::l)=x.aH.map (·.k)++keysOf l:=by simp [keysOf]
theorem TF (l:List Rd) (x:Rd):keysOf (l++ [x])=keysOf l++x.aH.map (·.k):=by simp [keysOf]
theorem D8 {key:Int} {x:Rd}:lK key x=true↔key∈x.aH.map (·.k):=by
 unfold lK;rw [List.any_eq_true,List.mem_map];constructor
 ·rintro⟨p,hp,h⟩;exact⟨p,hp,by simpa using h⟩
 ·rintro⟨p,hp,h⟩;exact⟨p,hp,by simpa using h⟩
theorem TG {key:Int}:∀{l:List Rd},(∀x∈l,0<=x.aJ)->(pJ l key<0↔key∉keysOf l)
 | [],_=>by simp [pJ,keysOf]
 |x::l,hp=>by
  have ih:=TG (l:=l) (key:=key) fun y hy=>hp y (List.mem_cons_of_mem _ hy);have Z:=hp x List.mem_cons_self;rw [KT,qp,List.mem_append,<-D8];by_cases h:lK key x=true
  ·simp [h];exact Z
  ·simp only [h,if_false,false_or,Bool.false_eq_true];exact ih
theorem E8 (p:Rd->Bool):∀l:List Rd,(keysOf (l.eraseP p)).Sublist (keysOf l)
 | []=>List.Sublist.refl _
 |x::l=>by
  by_cases h:p x=true
  ·rw [List.eraseP_cons_of_pos h,qp];exact List.sublist_append_right _ _
  ·rw [List.eraseP_cons_of_neg h,qp,qp];exact(E8 p l).append_left _
theorem Bc {key:Int}:∀{l:List Rd},(keysOf l).Nodup->∀r∈l,key∈r.aH.map (·.k)->pJ l key=r.aJ
 |x::l,hn,r,hr,hk=>by
  rw [qp,List.nodup_append] at hn;obtain⟨N,Y,h3⟩:=hn;rw [KT];rcases List.mem_cons.1 hr with rfl|hr
  ·rw [bC (D8.2 hk)]
  ·have KF:key∈keysOf l:=List.mem_flatMap.2 ⟨r,hr,hk⟩
   rw [aV (fun h=>h3 _ (D8.1 h) _ KF rfl)];exact Bc Y r hr hk
structure Calm (h:Hs):Prop where
 made:Made h
 fine:Fine h.ready
 apart:(keysOf h.ready).Nodup
theorem ZB:Calm ⟨[],⟨0,0,0,0⟩,[],[]⟩:=⟨rfl,⟨σ,σ⟩,by simp [keysOf]⟩
theorem nodup_keys {l:List Pt} {h:Int} (hn:(l.map fun p=>(p.h,p.k)).Nodup) (ha:∀p∈l,p.h=h):(l.map (·.k)).Nodup:=by
 have e:(l.map fun p=>(p.h,p.k))=(l.map (·.k)).map fun k=>(h,k):=by
  rw [List.map_map];exact List.map_congr_left fun p hp=>by simp [ha p hp]
 rw [e] at hn;refine List.Pairwise.of_map _ (fun a b hab he=>hab (by rw [he])) hn
theorem ZC {l:List Rd} (hp:∀x∈l,0<=x.aJ) {ps:List Pt} (h:xB l ps=true):∀p∈ps,p.k∉keysOf l:=by
 rw [iN,List.all_eq_true] at h;intro p hm;exact(TG hp).1 (by simpa using h p hm)
structure mD (m:Ms):Prop where
 aX:1<=m.aX/\m.aX<=7
 aJ:0<=m.aJ/\m.aJ<=1343
 aU:0<=m.aU/\m.aU<=2
 none:m.aX≠1->m.aH=[]
 aH:m.aX=1->dO m.aH 3=0/\∀p∈m.aH,p.h=m.aU
theorem CG {m:Ms}:cZ m=0↔mD m:=by
 unfold cZ;constructor
 ·intro h
  split at h
  ·cases h
  split at h
  ·cases h
  split at h
  ·split at h
   ·exact⟨V,V,V,fun _=>‹_›,fun _=>V⟩
   ·cases h
  ·split at h
   ·split at h
    ·rename_i N Y
     exact⟨V,V,V,fun _=>V,fun _=>⟨N,fun p hp=>by simpa using List.all_eq_true.1 Y p hp⟩⟩
    ·cases h
   ·rename_i N;exact absurd h N
 ·rintro⟨N,Y,h3,h4,h5⟩
  rw [aV V,aV V];split
  ·rw [bC (h4 V)]
  ·obtain⟨h6,h7⟩:=h5 V
   rw [bC h6,bC (List.all_eq_true.2 fun p hp=>by simpa using h7 p hp)]
theorem mD.keys {m:Ms} (h:mD m):jg m.aH:=by
 by_cases hk:m.aX=1
 ·exact vJ (h.aH hk).1
 ·rw [h.none hk];intro p hp;simp at hp
theorem Hl {h:Hs} (hc:Calm h) {r:Rc} (hr:0<=r.aJ) (N:r.aX=1->(r.aH.map (·.k)).Nodup/\∀p∈r.aH,p.k∉keysOf h.ready):Calm (gW h r):=by
 have e:=zy hc.made r;refine⟨Zw _ _,by rw [e];exact Zv hc.fine hr,?_⟩;rw [e,vK];split
 ·split
  ·exact hc.apart.sublist (E8 _ _)
  ·exact hc.apart
 ·split
  ·rename_i hk
   obtain⟨Y,h3⟩:=N hk;rw [TF,List.nodup_append];refine⟨hc.apart,Y,fun a ha b hb e=>?_⟩;obtain⟨p,hp,rfl⟩:=List.mem_map.1 hb;exact h3 p hp (e▸ha)
  ·exact hc.apart
theorem ZE {h:Hs} {d:Int} {ps:List Pt} (hv:iy h d ps=0) (hr:dP h.ready d=false):xB h.ready ps=true:=by
 unfold iy at hv;split at hv
 ·cases hv
 ·rw [aV (by simp [hr])] at hv
  split at hv
  ·cases hv
  ·rename_i Y;simpa using Y
theorem ZF {h:Hs} (hc:Calm h) {m:Ms} (hm:mD m):Calm (dK h m):=by
 unfold dK;split
 ·rename_i hk
  obtain⟨hw,hh⟩:=hm.aH hk;split
  ·rename_i hv
   exact Hl hc hm.aJ.1 fun _=>⟨nodup_keys (g_ hw).2.2.2 hh,ZC hc.fine.pos (ZE hv.1 hv.2)⟩
  ·exact hc
 ·split
  ·split
   ·exact Hl hc hm.aJ.1 σ
   ·exact hc
  ·split
   ·split
    ·exact Hl hc hm.aJ.1 σ
    ·exact hc
   ·exact hc
structure AW where
 aN:Hd
 aI:List Hs
 bM:List Ms
def eu (bM ms:List Ms):List Ms:=bM++ms.take (24 - bM.length)
def hs0:Hs:=jM []
def gK (n:Nat):AW:=⟨fA [⟨4,0,[]⟩],List.replicate n hs0,[]⟩
def iR (m:Ms):Bool:=decide (m.aX=1∨m.aX=4∨m.aX=5)
def iZ (w:AW) (m:Ms):AW:=
 match w.aI[m.aU.toNat]? with
 |none=>w
 |some h=>if iR m=true then { w with aI:=w.aI.set m.aU.toNat (dK h m),bM:=eu w.bM (dV h m.aU m) }
  else { w with aN:=gQ w.aN m,bM:=eu w.bM (iQ w.aN m) }
def jy (w:AW) (n:Nat):AW:=
 if n=3 then { w with bM:=eu w.bM (qO w.aN) }
 else match w.aI[n]? with
  |none=>w
  |some h=>{ w with bM:=eu w.bM (mg h n) }
def there (w:AW) (n:Int):Bool:=decide (0<=n/\n<w.bM.length)
def uJ (w:AW) (n:Int):Bool:=decide (0<=n/\n<w.aI.length)
def jZ (w:AW) (s:St):AW:=
 if s.aX=1 then(if dO s.aH w.aI.length=0 then { w with aN:=kL w.aN s.aH,bM:=eu w.bM (nM w.aN s.aH) } else w)
 else if s.aX=2 then(if there w s.n=true then iZ { w with bM:=w.bM.eraseIdx s.n.toNat } (w.bM.getD s.n.toNat ⟨0,0,0,[]⟩) else w)
 else if s.aX=3 then(if there w s.n=true then { w with bM:=w.bM.eraseIdx s.n.toNat } else w)
 else if s.aX=4 then(if there w s.n=true/\w.bM.length<24 then { w with bM:=w.bM++ [w.bM.getD s.n.toNat ⟨0,0,0,[]⟩] } else w)
 else if s.aX=5 then(if s.n=3 then { w with aN:=lV w.aN } else w)
 else if s.aX=6 then(if s.n=3∨uJ w s.n=true then jy w s.n.toNat else w)
 else if s.aX=7 then { w with aN:=oZ w.aN,bM:=eu w.bM (xE w.aN) }
 else w
def eU (w:AW) (s:St):Int:=
 if s.aX=1 then(if dO s.aH w.aI.length=0 then uD w.aN else dO s.aH w.aI.length)
 else if s.aX=2∨s.aX=3∨s.aX=4 then(if there w s.n=true then 0 else 6)
 else if s.aX=5 then(if s.n=3 then uH w.aN else if uJ w s.n=true then 0 else 6)
 else if s.aX=6 then(if s.n=3∨uJ w s.n=true then 0 else 6)
 else if s.aX=7 then 0
 else 1
def d_ (w:AW) (l:List St):AW:=l.foldl jZ w
abbrev Reg:=List (Int×List Pt)
theorem step_done (h:Hs) (r:Rc):(f_ h r).done=(match h.ready.find? (nG r.aJ) with|none=>h.done|some _=>if r.aX=2 then h.done++ [r.aJ] else h.done):=by
 unfold f_;rw [Ci];cases hf:h.ready.find? (nG r.aJ) with
 |none=>simp
 |some x=>simp
theorem Ho (h:Hs) (r:Rc):(f_ h r).aP=(match h.ready.find? (nG r.aJ) with|none=>h.aP|some x=>if r.aX=2 then pY h.aP x.aH else h.aP):=by
 unfold f_;rw [Ci];cases hf:h.ready.find? (nG r.aJ) with
 |none=>simp
 |some x=>simp
theorem Hq {h:Hs} (hm:Made h) (r:Rc):(gW h r).done=(f_ h r).done:=by rw [He hm]
theorem Jk {l:List Rd} {d:Int} (hn:(l.map (·.aJ)).Nodup):dP (l.eraseP (nG d)) d=false:=by
 induction l with
 |nil=>rfl
 |cons x l ih=>
  rw [List.map_cons,List.nodup_cons] at hn;by_cases h:nG d x=true
  ·rw [List.eraseP_cons_of_pos h]
   unfold dP;rw [List.any_eq_false];intro y hy hd;have N:x.aJ=d:=by simpa [nG] using h
   have Y:y.aJ=d:=by simpa [nG] using hd
   exact hn.1 (List.mem_map.2 ⟨y,hy,by rw [N,Y]⟩)
  ·rw [List.eraseP_cons_of_neg h]
   have:=ih hn.2;unfold dP at this ⊢;rw [List.any_cons,this];simpa using h
theorem Jl {l:List Rd} {d e:Int} (h:dP l d=true) (hne:e≠d):dP (l.eraseP (nG e)) d=true:=by
 unfold dP at h ⊢;rw [List.any_eq_true] at h ⊢;obtain⟨x,Z,hd⟩:=h;refine⟨x,?_,hd⟩;rw [List.mem_eraseP_of_neg]
 ·exact Z
 ·have:x.aJ=d:=by simpa [nG] using hd
  simp [nG,this];exact fun e'=>hne e'.symm
theorem rW {l:List Rd} {d:Int} (h:dP l d=true):∃x,l.find? (nG d)=some x:=by
 rw [Ji] at h;exact Option.isSome_iff_exists.1 h
theorem E_ {l:List Rd} {d:Int} (h:dP l d=false):l.find? (nG d)=none:=by
 rw [Ji] at h;simpa using h
theorem O7 {l:List Rd} {d key:Int} (hd:0<=d) (h:dP l d=false):pJ l key≠d:=by
 rcases Yk l key with Y|⟨y,hy,Y⟩
 ·omega
 ·intro e
  unfold dP at h;rw [List.any_eq_false] at h;exact h y hy (by simp [nG];omega)
theorem Yr {h:Hs} (hm:Made h) {d:Int} (ps:List Pt) (hr:dP h.ready d=false):(gW h ⟨1,d,ps⟩).ready=h.ready++ [⟨d,ps⟩]/\(gW h ⟨1,d,ps⟩).done=h.done:=by
 rw [zy hm,Hq hm,vK,step_done];simp [E_ hr]
theorem K_ {h:Hs} (hm:Made h) {d:Int} (hr:dP h.ready d=true):(gW h ⟨2,d,[]⟩).ready=h.ready.eraseP (nG d)/\(gW h ⟨2,d,[]⟩).done=h.done++ [d]:=by
 obtain⟨x,Z⟩:=rW hr;rw [zy hm,Hq hm,vK,step_done];simp [Z]
theorem Yt {h:Hs} (hm:Made h) {d:Int} (hr:dP h.ready d=true):(gW h ⟨3,d,[]⟩).ready=h.ready.eraseP (nG d)/\(gW h ⟨3,d,[]⟩).done=h.done:=by
 obtain⟨x,Z⟩:=rW hr;rw [zy hm,Hq hm,vK,step_done];simp [Z]
def Kept (h:Hs) (d:Int):Prop:=dP h.ready d=true∨d∈h.done
theorem iX {h:Hs} (hm:Made h) (hf:Fine h.ready) {d me:Int} (hd:0<=d) (hk:Kept h d) (aU key:Int):
  d∈(dK h ⟨4,d,aU,[]⟩).done/\dV h me ⟨4,d,aU,[]⟩=o7 6 d me/\pJ (dK h ⟨4,d,aU,[]⟩).ready key≠d:=by
 by_cases hr:dP h.ready d=true
 ·have e:dK h ⟨4,d,aU,[]⟩=gW h ⟨2,d,[]⟩:=by unfold dK;simp [hr]
  obtain⟨e1,e2⟩:=K_ hm hr;have hin:d∈(gW h ⟨2,d,[]⟩).done:=by rw [e2];simp
  refine⟨by rw [e];exact hin,?_,?_⟩
  ·unfold dV
   rw [e];simp [hin]
  ·rw [e,e1]
   exact O7 hd (Jk hf.nodup)
 ·have e:dK h ⟨4,d,aU,[]⟩=h:=by unfold dK;simp [hr]
  have hin:d∈h.done:=by
   rcases hk with hk|hk
   ·exact absurd hk hr
   ·exact hk
  refine⟨by rw [e];exact hin,?_,?_⟩
  ·unfold dV
   rw [e];simp [hin]
  ·rw [e]
   exact O7 hd (by simpa using hr)
end Go.Proofs.YtocnmkefmgmkbaaGreat
namespace Go.Proofs.YtocnmkefmgmkbaaGreat
open Go.RowKit
def i5 (k q:Int) (p:Pt):Bool:=p.h==k&&p.k==q
def has (k q:Int) (P:List Pt):Bool:=(P.find? (i5 k q)).isSome
def amt (k q:Int) (P:List Pt):Int:=match P.find? (i5 k q) with|some p=>p.n|none=>0
def tot (k q:Int):List Rd->Int
 | []=>0
 |r::D=>amt k q r.aH+tot k q D
theorem JZ (k q:Int):∀A B:List Rd,tot k q (A++B)=tot k q A+tot k q B
 | [],B=>by simp [tot]
 |r::A,B=>by rw [List.cons_append,tot,tot,JZ k q A B];omega
theorem Fa {k q:Int} {P:List Pt} (h:has k q P=false):amt k q P=0:=by
 unfold has at h;unfold amt;cases hf:P.find? (i5 k q) with
 |none=>rfl
 |some p=>rw [hf] at h;cases h
theorem Yu {k q:Int} {P:List Pt}:has k q P=true↔∃p∈P,p.h=k/\p.k=q:=by
 unfold has;rw [List.find?_isSome];constructor
 ·rintro⟨p,hp,h⟩
  simp only [i5,Bool.and_eq_true,beq_iff_eq] at h;exact⟨p,hp,h⟩
 ·rintro⟨p,hp,N,Y⟩
  exact⟨p,hp,by simp [i5,N,Y]⟩
theorem O9 {n:Int} {P:List Pt} (hw:dO P n=0) (k q:Int):-1048576<=amt k q P/\amt k q P<=1048576:=by
 unfold amt;cases hf:P.find? (i5 k q) with
 |none=>simp
 |some p=>
  have:=(g_ hw).2.2.1 p (List.mem_of_find?_eq_some hf);exact⟨by simp only;omega,by simp only;omega⟩
theorem D9 {k q:Int} {p:Rd->Bool}:∀{D:List Rd},(∀r∈D,p r=false->amt k q r.aH=0)->tot k q (D.filter p)=tot k q D
 | [],_=>rfl
 |r::D,h=>by
  have ih:=D9 (p:=p) (D:=D) fun x Z=>h x (List.mem_cons_of_mem _ Z);cases hp:p r with
  |true=>rw [List.filter_cons_of_pos hp,tot,tot,ih]
  |false=>
   rw [List.filter_cons_of_neg (by simp [hp]),tot,ih,h r List.mem_cons_self hp];omega
theorem Fb {q:Int}:∀{l:List Pt} (x:Int),(∀p∈l,p.k≠q)->nO x l q=x
 | [],x,_=>rfl
 |p::l,x,h=>by
  show nO (if p.k=q then _ else x) l q=x;rw [aV (h p List.mem_cons_self)];exact Fb x fun r hr=>h r (List.mem_cons_of_mem _ hr)
theorem Fe {q:Int}:∀{l:List Pt} (x:Int),(l.map (·.k)).Nodup->nO x l q=(match l.find? (fun p=>p.k==q) with|some p=>wrap64 (x+p.n)|none=>x)
 | [],x,_=>rfl
 |p::l,x,h=>by
  rw [List.map_cons,List.nodup_cons] at h;show nO (if p.k=q then wrap64 (x+p.n) else x) l q=_;by_cases O:p.k=q
  ·rw [bC O,List.find?_cons_of_pos (by simpa using O)]
   exact Fb _ fun r hr e=>h.1 (List.mem_map.2 ⟨r,hr,by rw [e,O]⟩)
  ·rw [aV O,List.find?_cons_of_neg (by simpa using O)]
   exact Fe x h.2
theorem TI {n:Int} {P:List Pt} (hw:dO P n=0) (k:Int):((jT P k).map (·.k)).Nodup:=by
 refine nodup_keys (h:=k) ((g_ hw).2.2.2.sublist ((List.filter_sublist).map _)) fun p hp=>?_;unfold jT at hp;have:=(List.mem_filter.1 hp).2;simpa using this
theorem TJ (P:List Pt) (k q:Int):(jT P k).find? (fun p=>p.k==q)=P.find? (i5 k q):=by
 unfold jT;rw [List.find?_filter];congr 1;funext a;by_cases N:a.h=k<;>by_cases Y:a.k=q<;>simp [i5,N,Y]
theorem QB {n:Int} {P:List Pt} (hw:dO P n=0) (k:Int):jg (jT P k):=fun p hp=>by
 unfold jT at hp;exact vJ hw p (List.mem_filter.1 hp).1
theorem vM {s:Sm}:D5 s=true↔∀q:Int,0<=q->q<4->0<=s.get q/\s.get q<=1048576:=by
 rw [Ws];constructor
 ·intro h q h0 N
  have:=h q.toNat V;rwa [show((q.toNat:Nat):Int)=q by omega] at this
 ·intro h k hk
  exact h k V V
theorem Yv {n:Int} {P:List Pt} (hw:dO P n=0) {s:Sm} (hs:D5 s=true) (k:Int) {q:Int} (h0:0<=q) (N:q<4):(pY s (jT P k)).get q=s.get q+amt k q P:=by
 rw [Qq _ _ (QB hw k) q h0 N,Fe _ (TI hw k),TJ];have hb:=O9 hw k q;have hr:=vM.1 hs q h0 N;unfold amt at hb ⊢;cases hf:P.find? (i5 k q) with
 |none=>simp
 |some p=>
  rw [hf] at hb;simp only at hb ⊢;unfold wrap64;omega
theorem fits_all {S:Int->Int}:∀{l:List Pt},jH S l=0↔∀p∈l,0<=wrap64 (S p.k+p.n)/\wrap64 (S p.k+p.n)<=1048576
 | []=>by simp [jH]
 |p::l=>by
  rw [jH];constructor
  ·intro h
   split at h
   ·cases h
   split at h
   ·cases h
   intro r hr;rcases List.mem_cons.1 hr with rfl|hr
   ·omega
   ·exact fits_all.1 h r hr
  ·intro h
   have:=h p List.mem_cons_self;rw [aV V,aV V];exact fits_all.2 fun r hr=>h r (List.mem_cons_of_mem _ hr)
theorem La {n:Int} {P:List Pt} (hw:dO P n=0) {s:Sm} (hs:D5 s=true) (k:Int):jH s.get (jT P k)=0↔∀q:Int,0<=q->q<4->0<=s.get q+amt k q P/\s.get q+amt k q P<=1048576:=by
 rw [fits_all];constructor
 ·intro h q h0 N
  have hr:=vM.1 hs q h0 N;have hb:=O9 hw k q;unfold amt at hb ⊢;cases hf:P.find? (i5 k q) with
  |none=>simp only;omega
  |some p=>
   rw [hf] at hb;simp only at hb ⊢;have hp:=List.mem_of_find?_eq_some hf;have ha:=List.find?_some hf;simp only [i5,Bool.and_eq_true,beq_iff_eq] at ha;have:=h p (by unfold jT;exact List.mem_filter.2 ⟨hp,by simp [ha.1]⟩);rw [ha.2] at this;unfold wrap64 at this;omega
 ·intro h p hp
  have hk:=QB hw k p hp;have hr:=vM.1 hs p.k hk.1 hk.2;have:=h p.k hk.1 hk.2;have hf:(jT P k).find? (fun r=>r.k==p.k)=some p:=by
   have hn:=TI hw k;have hall:∀(l:List Pt),(l.map (·.k)).Nodup->p∈l->l.find? (fun r=>r.k==p.k)=some p:=by
    intro l;induction l with
    |nil=>intro _ h;simp at h
    |cons x l ih=>
     intro hn hm;rw [List.map_cons,List.nodup_cons] at hn;rcases List.mem_cons.1 hm with rfl|hm
     ·rw [List.find?_cons_of_pos σ]
     ·have hne:x.k≠p.k:=fun e=>hn.1 (List.mem_map.2 ⟨p,hm,e.symm⟩)
      rw [List.find?_cons_of_neg (by simpa using hne)];exact ih hn.2 hm
   exact hall _ hn hp
  rw [TJ] at hf;unfold amt at this;rw [hf] at this;simp only at this;unfold wrap64;omega
theorem Lc {S T:Int->Int}:∀{l:List Pt},(∀p∈l,S p.k=T p.k)->jH S l=jH T l
 | [],_=>rfl
 |p::l,h=>by rw [jH,jH,h p List.mem_cons_self,Lc fun r hr=>h r (List.mem_cons_of_mem _ hr)]
theorem kW {P:List Pt} {k:Int}:k∈dB P↔(k=0∨k=1∨k=2)/\jT P k≠ []:=by
 unfold dB jT;rw [List.mem_filter];constructor
 ·rintro⟨N,Y⟩
  refine⟨by simpa using N,fun e=>?_⟩;obtain⟨p,hp,hk⟩:=List.any_eq_true.1 Y;have:p∈P.filter (fun p=>p.h==k):=List.mem_filter.2 ⟨hp,hk⟩;rw [e] at this;simp at this
 ·rintro⟨N,Y⟩
  refine⟨by simpa using N,?_⟩;obtain⟨p,hp⟩:=List.exists_mem_of_ne_nil _ Y;obtain⟨h3,h4⟩:=List.mem_filter.1 hp;exact List.any_eq_true.2 ⟨p,h3,h4⟩
theorem QC (P:List Pt):(dB P).Nodup:=by
 unfold dB;exact List.Nodup.sublist List.filter_sublist ε
theorem rX {P:List Pt} {n:Int} (hw:dO P n=0) {k:Int} (h:k∈dB P):0<=k/\k<n:=by
 obtain⟨N,Y⟩:=kW.1 h;obtain⟨p,hp⟩:=List.exists_mem_of_ne_nil _ Y;unfold jT at hp;obtain⟨h3,h4⟩:=List.mem_filter.1 hp;have:=(g_ hw).2.2.1 p h3;have h5:p.h=k:=by simpa using h4
 omega
theorem zF {P:List Pt} {n:Int} (hw:dO P n=0) (hn:n<=3) {k q:Int} (h:has k q P=true):k∈dB P/\0<=q/\q<4:=by
 obtain⟨p,hp,N,Y⟩:=Yu.1 h;have:=(g_ hw).2.2.1 p hp;refine⟨kW.2 ⟨V,?_⟩,V,V⟩;intro e;have:p∈jT P k:=by unfold jT;exact List.mem_filter.2 ⟨hp,by simp [N]⟩
 rw [e] at this;simp at this
theorem Ld {P:List Pt} {k q:Int} (h:has k q P=true):q∈(jT P k).map (·.k):=by
 obtain⟨p,hp,N,Y⟩:=Yu.1 h;exact List.mem_map.2 ⟨p,by unfold jT;exact List.mem_filter.2 ⟨hp,by simp [N]⟩,Y⟩
theorem Bd {P:List Pt} {n:Int} (hw:dO P n=0) (hn:n<=3):0<(dB P).length:=by
 obtain⟨N,Y,h3,h4⟩:=g_ hw;obtain⟨p,hp⟩:=List.exists_mem_of_length_pos N;have hb:=h3 p hp;have:p.h∈dB P:=kW.2 ⟨V,fun e=>by
  have:p∈jT P p.h:=by unfold jT;exact List.mem_filter.2 ⟨hp,σ⟩
  rw [e] at this;simp at this⟩
 exact List.length_pos_of_mem this
def uK (P:List Pt):Nat->List Sm->Int
 |_,[]=>0
 |k,s::l=>if jH s.get (jT P k)=0 then uK P (k+1) l else jH s.get (jT P k)
def qP (P:List Pt):Nat->List Sm->List Sm
 |_,[]=>[]
 |k,s::l=>pY s (jT P k)::qP P (k+1) l
def kM (aP:List Sm) (P:List Pt):List Sm×Int:=if uK P 0 aP=0 then(qP P 0 aP,0) else(aP,uK P 0 aP)
def qQ (aP:List Sm):List Rd->List Sm×List Int
 | []=>(aP,[])
 |r::D=>((qQ (kM aP r.aH).1 D).1,(kM aP r.aH).2::(qQ (kM aP r.aH).1 D).2)
theorem Le {P:List Pt}:∀{l:List Sm} {k0:Nat},(∀(k:Nat) s,l[k]? =some s->jH s.get (jT P ((k0+k:Nat):Int))=0)->uK P k0 l=0
 | [],_,_=>rfl
 |s::l,k0,h=>by
  unfold uK;rw [bC (by simpa using h 0 s rfl)];exact Le fun k t ht=>by
   have:=h (k+1) t (by simpa using ht);rwa [show k0+(k+1)=k0+1+k by omega] at this
theorem Hr {P:List Pt}:∀{l:List Sm} {k0:Nat} (k:Nat),(qP P k0 l)[k]? =(l[k]?).map fun s=>pY s (jT P ((k0+k:Nat):Int))
 | [],_,k=>by simp [qP]
 |s::l,k0,0=>by simp [qP]
 |s::l,k0,k+1=>by
  unfold qP;rw [List.getElem?_cons_succ,List.getElem?_cons_succ,Hr k,show k0+1+k=k0+(k+1) by omega]
theorem rY {P:List Pt}:∀(l:List Sm) (k0:Nat),(qP P k0 l).length=l.length
 | [],_=>rfl
 |s::l,k0=>by unfold qP;simp [rY l]
theorem D_:∀{a b:List Int},a.Pairwise (· < ·)->b.Pairwise (· < ·)->(∀x,x∈a↔x∈b)->a=b
 | [],[],_,_,_=>rfl
 | [],y::b,_,_,h=>absurd ((h y).2 List.mem_cons_self) σ
 |x::a,[],_,_,h=>absurd ((h x).1 List.mem_cons_self) σ
 |x::a,y::b,ha,hb,h=>by
  rw [List.pairwise_cons] at ha hb;have hxy:x=y:=by
   rcases List.mem_cons.1 ((h x).1 List.mem_cons_self) with e|e
   ·exact e
   ·rcases List.mem_cons.1 ((h y).2 List.mem_cons_self) with e'|e'
    ·exact e'.symm
    ·have:=hb.1 x e;have:=ha.1 y e';omega
  subst hxy;rw [D_ ha.2 hb.2 fun z=>⟨fun hz=>by
   rcases List.mem_cons.1 ((h z).1 (List.mem_cons_of_mem _ hz)) with e|e
   ·have:=ha.1 z hz;omega
   ·exact e,fun hz=>by
   rcases List.mem_cons.1 ((h z).2 (List.mem_cons_of_mem _ hz)) with e|e
   ·have:=hb.1 z hz;omega
   ·exact e⟩]
def jO:List Int->List Pt->List Int
 |had,[]=>had
 |had,p::l=>jO (if p.h∈had then had else had++ [p.h]) l
theorem CJ:∀{l:List Pt} {had:List Int} {x:Int},x∈jO had l↔x∈had∨∃p∈l,p.h=x
 | [],had,x=>by simp [jO]
 |p::l,had,x=>by
  rw [jO,CJ];split
  ·rename_i hp
   constructor
   ·rintro(h|⟨q,O,rfl⟩)
    ·exact .inl h
    ·exact .inr ⟨q,List.mem_cons_of_mem _ O,rfl⟩
   ·rintro(h|⟨q,O,rfl⟩)
    ·exact .inl h
    ·rcases List.mem_cons.1 O with rfl|O
     ·exact .inl hp
     ·exact .inr ⟨q,O,rfl⟩
  ·constructor
   ·rintro(h|⟨q,O,rfl⟩)
    ·rcases List.mem_append.1 h with h|h
     ·exact .inl h
     ·exact .inr ⟨p,List.mem_cons_self,(by simpa using h:x=p.h).symm⟩
    ·exact .inr ⟨q,List.mem_cons_of_mem _ O,rfl⟩
   ·rintro(h|⟨q,O,rfl⟩)
    ·exact .inl (List.mem_append_left _ h)
    ·rcases List.mem_cons.1 O with rfl|O
     ·exact .inl σ
     ·exact .inr ⟨q,O,rfl⟩
theorem Jm:∀{l:List Pt} {had:List Int},had.Nodup->(jO had l).Nodup
 | [],_,h=>h
 |p::l,had,h=>by
  rw [jO];apply Jm;split
  ·exact h
  ·rename_i hp
   rw [List.nodup_append];exact⟨h,σ,fun a ha b hb=>by simp only [List.mem_singleton] at hb;subst hb;rintro rfl;exact hp ha⟩
theorem Ht:∀(l:List Pt) (had:List Int),(jO had l).length<=had.length+l.length
 | [],_=>by simp [jO]
 |p::l,had=>by
  rw [jO];have:=Ht l (if p.h∈had then had else had++ [p.h]);have Y:(if p.h∈had then had else had++ [p.h]).length<=had.length+1:=by split<;>simp
  simp only [List.length_cons];omega
theorem ZG {l:List Int} (h:l.Nodup):(l.mergeSort fun x y=>decide (x<=y)).Pairwise (· < ·):=by
 have N:(l.mergeSort fun x y=>decide (x<=y)).Pairwise fun a b=>decide (a<=b)=true:=
  List.pairwise_mergeSort (fun a b c N Y=>by simp only [decide_eq_true_eq] at*;omega) (fun a b=>by simp only [Bool.or_eq_true,decide_eq_true_eq];omega) l
 have Y:(l.mergeSort fun x y=>decide (x<=y)).Nodup:=(List.mergeSort_perm l _).nodup_iff.2 h;exact(N.and Y).imp fun {a b} h=>by
  have:=of_decide_eq_true h.1;have h3:a≠b:=h.2;omega
theorem TK (l:List Pt):(dB l).Pairwise (· < ·):=by
 unfold dB;exact List.Pairwise.filter _ σ
theorem WG {l:List Pt} {x:Int}:x∈dB l↔(x=0∨x=1∨x=2)/\∃p∈l,p.h=x:=by
 unfold dB;simp [List.mem_filter]
theorem TL {l:List Pt} (h:∀p∈l,0<=p.h/\p.h<3):(jO [] l).mergeSort (fun x y=>decide (x<=y))=dB l:=by
 refine D_ (ZG (Jm List.nodup_nil)) (TK l) fun x=>?_;rw [List.mem_mergeSort,CJ,WG];constructor
 ·rintro(h0|⟨p,hp,rfl⟩)
  ·simp at h0
  ·have:=h p hp
   exact⟨V,p,hp,rfl⟩
 ·rintro⟨-,p,hp,rfl⟩
  exact .inr ⟨p,hp,rfl⟩
end Go.Proofs.YtocnmkefmgmkbaaGreat
namespace Go.Proofs.YtocnmkefmgmkbaaGreat
theorem i6 {l:List Rd} {d:Int} (h:l.findIdx? (nG d)=none):l.find? (nG d)=none:=by
 rw [List.findIdx?_eq_none_iff] at h;rw [List.find?_eq_none];intro x Z;rw [h x Z];simp
theorem TM {d:Int}:∀{l:List Rd} {i:Nat},l.findIdx? (nG d)=some i->∃hi:i<l.length,l.find? (nG d)=some l[i]/\l.eraseP (nG d)=l.eraseIdx i
 | [],i,h=>by simp at h
 |x::l,i,h=>by
  rw [List.findIdx?_cons] at h;by_cases Z:nG d x=true
  ·rw [bC Z] at h
   obtain rfl:0=i:=by simpa using h
   exact⟨σ,by rw [List.find?_cons_of_pos Z];rfl,by rw [List.eraseP_cons_of_pos Z];rfl⟩
  ·rw [aV Z] at h
   cases hk:l.findIdx? (nG d) with
   |none=>rw [hk] at h;simp at h
   |some k=>
    rw [hk] at h;obtain rfl:k+1=i:=by simpa using h
    obtain⟨N,Y,h3⟩:=TM hk;exact⟨by simp;omega,by rw [List.find?_cons_of_neg Z,Y];rfl,by rw [List.eraseP_cons_of_neg Z,h3];rfl⟩
theorem TN {h:Hs} {r:Rc} (e:h.ready.find? (nG r.aJ)=none):f_ h r=if r.aX=1 then { h with ready:=h.ready++ [⟨r.aJ,r.aH⟩] } else h:=by
 unfold f_;rw [Ci,e];by_cases hk:r.aX=1<;>simp [hk]
theorem Yw {h:Hs} {r:Rc} {x:Rd} (e:h.ready.find? (nG r.aJ)=some x):f_ h r=
  if r.aX=2 then { h with aP:=pY h.aP x.aH,ready:=h.ready.eraseP (nG r.aJ),done:=h.done++ [r.aJ] }
  else if r.aX=3 then { h with ready:=h.ready.eraseP (nG r.aJ) } else h:=by
 unfold f_;rw [Ci,e];by_cases Y:r.aX=2
 ·simp [Y]
 ·by_cases h3:r.aX=3<;>simp [Y,h3]
theorem Oq {h:Hs} {r:Rc} (e:h.ready.findIdx? (nG r.aJ)=none):f_ h r=if r.aX=1 then { h with ready:=h.ready++ [⟨r.aJ,r.aH⟩] } else h:=TN (i6 e)
theorem Ot {h:Hs} {r:Rc} {i:Nat} (e:h.ready.findIdx? (nG r.aJ)=some i):∃hi:i<h.ready.length,f_ h r=
  if r.aX=2 then { h with aP:=pY h.aP h.ready[i].aH,ready:=h.ready.eraseIdx i,done:=h.done++ [r.aJ] }
  else if r.aX=3 then { h with ready:=h.ready.eraseIdx i } else h:=by
 obtain⟨hi,N,Y⟩:=TM e;exact⟨hi,by rw [Yw N,Y]⟩
end Go.Proofs.YtocnmkefmgmkbaaGreat
namespace Go.Proofs.YtocnmkefmgmkbaaGreat
open Go.RowKit
theorem WH (w:World) (B:Nat) (d:Int) (wx:World) (cs:List Value) (x:Rd) (hc:w.cell? ⟨B,0,none⟩=some (J d)) (hg:aK w wx) (hR:Ty.rd.R wx.cell? cs x):
  Calls Tryz.prog 110 #[.agg cs.toArray,.pointer (some ⟨B,0,none⟩)] wx fun e w'=>e=.returned (.bool (nG d x))/\aK wx w':=by
 obtain⟨vp,rfl,-,hp⟩:=hR;obtain⟨ap,cp,rfl,-⟩:=hp;have hB:=eH w _ hc;simp only at hB;have hBx:B<wx.heap.size:=Nat.lt_of_lt_of_le hB hg.size;replace hc:=hg.sub _ _ hc;go_enter Tryz.func110,Tryz.ntmps110;go_wp2;go_ret;exact⟨rfl,je⟩
theorem QD (w:World) (B:Nat) (d:Int) (l:List Rd) (hc:w.cell? ⟨B,0,none⟩=some (J d)):xw Tryz.prog Ty.rd qH w 110 #[.pointer (some ⟨B,0,none⟩)] l (nG d) where
 ent:=fun args w=>by kernel_rfl
 say:=fun wx cs x hg _ hR=>WH w B d wx cs x hc hg hR
theorem ZH {v:Value} {l:List Rd} {d:Int} (w:World) (hv:Sl Ty.rd w.cell? v l):
  Calls Tryz.prog 72 #[v,J d] w fun e w'=>e=.returned (J (idxOf (nG d) l))/\aK w w':=by
 have HX:=I (EU (w.alloc (.cells #[J d] 3)) (hv.mono ((aG w).alloc _).sub) (QD (w.alloc (.cells #[J d] 3)) w.heap.size d l (by rw [World.cell?_alloc_new];rfl)));obtain⟨a,cap,rfl,-⟩:=hv;go_enter Tryz.func72,Tryz.ntmps72;go_wp2_with fail
 refine HX.o.mono ?_;rintro e w1 ⟨rfl,dZ⟩;have HB:=I dZ;clear dZ;go_wp2;go_ret;exact⟨rfl,((aG w).alloc _).trans HB.o⟩
abbrev QE:Array Value:=#[(),J 0,J 0,J 0,J 0,(),()]
def hmem (w w1 wr:World) (vl vr vd:Value):CM:=fr w wr [vl.ownBlock,vr.ownBlock,vd.ownBlock,some w.heap.size,some w1.heap.size]
structure uU (w w1 wr:World) (vl vr vd:Value) (l:List Rc) (h:Hs):Prop where
 res:wr.heap[w.heap.size]? =some (.cells QE 50 (0,0))
 row:wr.heap[w1.heap.size]? =some (.cells #[vl,J h.aP.a,J h.aP.b,J h.aP.c,J h.aP.d,vr,vd] 50 (0,0))
 bg:bK Ty.rc (hmem w w1 wr vl vr vd) wr (w.heap.size+1) 79 vl l
 ready:bK Ty.rd (hmem w w1 wr vl vr vd) wr (w1.heap.size+1) 53 vr h.ready
 done:wr.ownsRow (w1.heap.size+1) 3 1 vd h.done.length (h.done.flatMap eX)
 grow:aK w wr
 size:w1.heap.size+1<=wr.heap.size
 lt:∀k,vl.ownBlock=some k->k<w1.heap.size
 w1:w.heap.size+1<=w1.heap.size
 Az:vr.ownBlock=none∨vr.ownBlock≠vd.ownBlock
structure fI (w1 wr w':World) (vr vd ZI GK:Value):Prop where
 size:wr.heap.size<=w'.heap.size
 block:∀k,k<wr.heap.size->k≠w1.heap.size->vr.ownBlock≠some k->vd.ownBlock≠some k->w'.heap[k]? =wr.heap[k]?
 ready:ZI.ownBlock=vr.ownBlock∨∃g,ZI.ownBlock=some g/\wr.heap.size<=g
 done:GK.ownBlock=vd.ownBlock∨∃g,GK.ownBlock=some g/\wr.heap.size<=g
theorem fI.mem {w w1 wr w':World} {vl vr vd ZI GK:Value} (c:fI w1 wr w' vr vd ZI GK):Sub (hmem w w1 wr vl vr vd) (hmem w w1 w' vl ZI GK):=by
 refine jV fun k hk _ Z=>?_;simp only [List.mem_cons,List.not_mem_nil,or_false,not_or] at Z ⊢;obtain⟨x1,x2,x3,x4,x5⟩:=Z;refine⟨c.block k hk (fun e=>x5 (by rw [e])) (fun e=>x2 e.symm) (fun e=>x3 e.symm),x1,?_,?_,x4,x5⟩
 ·rcases c.ready with e|⟨g,e,hg⟩
  ·rw [e];exact x2
  ·rw [e];simp;omega
 ·rcases c.done with e|⟨g,e,hg⟩
  ·rw [e];exact x3
  ·rw [e];simp;omega
theorem owns_block {w w':World} {base e size n:Nat} {v:Value} {xs:List Value} (h:w.ownsRow base e size v n xs) (hb:∀k,v.ownBlock=some k->w'.heap[k]? =w.heap[k]?):w'.ownsRow base e size v n xs:=by
 obtain⟨hl,h'|⟨g,cap,cur,rfl,hg,hrow,hrest⟩⟩:=h
 ·exact⟨hl,.inl h'⟩
 ·exact⟨hl,.inr ⟨g,cap,cur,rfl,hg,by rw [hb g rfl];exact hrow,hrest⟩⟩
theorem bK.block {α:Type} {T:Ty α} {c:CM} {w w':World} {base e:Nat} {v:Value} {l:List α} (h:bK T c w base e v l) (hb:∀k,v.ownBlock=some k->w'.heap[k]? =w.heap[k]?):bK T c w' base e v l:=by
 obtain⟨css,k1,k2,k3⟩:=h;exact⟨css,owns_block k1 hb,k2,k3⟩
theorem uU.put {w w1 wr w':World} {vl vr vd ZI GK:Value} {l:List Rc} {h h':Hs} (b:uU w w1 wr vl vr vd l h) (c:fI w1 wr w' vr vd ZI GK) (hG:aK w w')
  (row:w'.heap[w1.heap.size]? =some (.cells #[vl,J h'.aP.a,J h'.aP.b,J h'.aP.c,J h'.aP.d,ZI,GK] 50 (0,0)))
  (ready:bK Ty.rd (hmem w w1 w' vl ZI GK) w' (w1.heap.size+1) 53 ZI h'.ready) (done:w'.ownsRow (w1.heap.size+1) 3 1 GK h'.done.length (h'.done.flatMap eX)) (Az:ZI.ownBlock=none∨ZI.ownBlock≠GK.ownBlock):uU w w1 w' vl ZI GK l h' where
 res:=by
  have N:=b.w1;have Y:=b.size;rw [c.block _ V V (fun e=>by have:=(b.ready.lt _ e).1;omega) (fun e=>by have:=(b.done.lt _ e).1;omega)];exact b.res
 row:=row
 bg:=by
  refine(b.bg.mono c.mem).block fun k hk=>?_;have N:=b.lt k hk;have Y:=b.size;exact c.block k V V (fun e=>by have:=(b.ready.lt _ e).1;omega) (fun e=>by have:=(b.done.lt _ e).1;omega)
 ready:=ready
 done:=done
 grow:=hG
 size:=Nat.le_trans b.size c.size
 lt:=b.lt
 w1:=b.w1
 Az:=Az
theorem uU.dL {w w1 wr w':World} {vl vr vd:Value} {l:List Rc} {h:Hs} (b:uU w w1 wr vl vr vd l h) (hg:aK wr w'):uU w w1 w' vl vr vd l h:=
 have c:fI w1 wr w' vr vd vr vd:=⟨hg.size,fun k hk _ _ _=>hg.block k hk,.inl rfl,.inl rfl⟩;b.put c (b.grow.trans hg) (aF b.row hg) ((b.ready.mono c.mem).grow hg) (b.done.kept (aO hg none) (by cases vd.ownBlock<;>simp)) b.Az
theorem O_ {w:World} {B:Nat} {a b c d e f g:Value} {t:TypeId} (h:w.heap[B]? =some (.cells #[a,b,c,d,e,f,g] t (0,0))) (u:Value):(w.setCell ⟨B,5,none⟩ u).heap[B]? =some (.cells #[a,b,c,d,e,u,g] t (0,0)):=by
 simp only [World.setCell,Array.getElem?_modify,h];simp
theorem ZJ {w:World} {B:Nat} {a b c d e f g:Value} {t:TypeId} (h:w.heap[B]? =some (.cells #[a,b,c,d,e,f,g] t (0,0))) (u:Value):(w.setCell ⟨B,6,none⟩ u).heap[B]? =some (.cells #[a,b,c,d,e,f,u] t (0,0)):=by
 simp only [World.setCell,Array.getElem?_modify,h];simp
theorem TP {w:World} {B:Nat} {a b c d e f g:Value} {t:TypeId} (h:w.heap[B]? =some (.cells #[a,b,c,d,e,f,g] t (0,0))) (u1 u2 u3 u4:Value):
  ((((w.setCell ⟨B,1,none⟩ u1).setCell ⟨B,2,none⟩ u2).setCell ⟨B,3,none⟩ u3).setCell ⟨B,4,none⟩ u4).heap[B]? =some (.cells #[a,u1,u2,u3,u4,f,g] t (0,0)):=by
 simp only [World.setCell,Array.getElem?_modify,h];simp
theorem uU.TQ {w w1 wr wq w':World} {vl vr vd:Value} {l:List Rc} {h:Hs} {x:Rd} {a':Option Addr} {n c':Nat} (b:uU w w1 wr vl vr vd l h) (hG:aK wr wq)
  (ho:bK Ty.rd (hmem w w1 wq vl vr vd) w' (w1.heap.size+1) 53 (U a' n c') (h.ready++ [x])) (hg:wq.grownBy w' vr.ownBlock) (hb:(Value.slice a' n c').ownBlock=vr.ownBlock∨∃g,(Value.slice a' n c').ownBlock=some g/\wq.heap.size<=g):
  uU w w1 (w'.setCell ⟨w1,5,none⟩ (U a' n c')) vl (U a' n c') vd l { h with ready:=h.ready++ [x] }/\fI w1 wr (w'.setCell ⟨w1,5,none⟩ (U a' n c')) vr vd (U a' n c') vd:=by
 have bq:=b.dL hG;have hs:=hG.size;have hs1:=b.size;have WJ:=b.w1;have hlt:=bq.ready.lt;have hdl:=bq.done.lt;have hB:∀k,k≠w1.heap.size->(w'.setCell ⟨w1,5,none⟩ (U a' n c')).heap[k]? =w'.heap[k]?:=fun k hk=>Below.heap_setCell _ _ _ _ (fun e=>hk e);have c1:fI w1 wq (w'.setCell ⟨w1,5,none⟩ (U a' n c')) vr vd (U a' n c') vd:=⟨by simpa using hg.size,fun k hk N Y _=>by rw [hB k N,hg.block k hk (fun e=>Y e.symm)],hb,.inl rfl⟩;have CH:aK w (w'.setCell ⟨w1,5,none⟩ (U a' n c')):=(bq.grow.grown hg (fun k hk=>by have:=(hlt k hk).1;omega)).setCell (by simp;omega) _;have hdj:∀k,vd.ownBlock=some k->vr.ownBlock≠some k:=fun k hk e=>by
  rcases b.Az with d|d
  ·rw [d] at e;cases e
  ·exact d (e.trans hk.symm)
 refine⟨bq.put c1 CH (O_ (bJ bq.row hg (fun e=>by have:=(hlt _ e.symm).1;omega)) _) ((ho.mono c1.mem).block fun k hk=>?_) (owns_block bq.done fun k hk=>?_) ?_,?_⟩
 ·exact hB k (τ ((ho.lt k hk).1))
 ·have:=hdl k hk
  rw [hB k V,hg.block k this.2 (fun e=>hdj k hk e.symm)]
 ·rcases hb with e|⟨g,e,hge⟩
  ·rw [e];exact b.Az
  ·right;rw [e];intro e'
   have:=hdl g e'.symm;omega
 ·exact⟨Nat.le_trans hs c1.size,fun k hk N Y h3=>(c1.block k V N Y h3).trans (hG.block k hk),by
   rcases hb with e|⟨g,e,hge⟩
   ·exact .inl e
   ·exact .inr ⟨g,e,V⟩,.inl rfl⟩
theorem uU.A2q {w w1 wr wq w':World} {vl vr vd:Value} {l:List Rc} {h:Hs} {x:Int} {a':Option Addr} {n c':Nat} (b:uU w w1 wr vl vr vd l h) (hG:aK wr wq)
  (ho:w'.ownsRow (w1.heap.size+1) 3 1 (U a' n c') (h.done++ [x]).length ((h.done++ [x]).flatMap eX)) (hg:wq.grownBy w' vd.ownBlock) (hb:(Value.slice a' n c').ownBlock=vd.ownBlock∨∃g,(Value.slice a' n c').ownBlock=some g/\wq.heap.size<=g):
  uU w w1 (w'.setCell ⟨w1,6,none⟩ (U a' n c')) vl vr (U a' n c') l { h with done:=h.done++ [x] }/\fI w1 wr (w'.setCell ⟨w1,6,none⟩ (U a' n c')) vr vd vr (U a' n c'):=by
 have bq:=b.dL hG;have hs:=hG.size;have hs1:=b.size;have WJ:=b.w1;have hlt:=bq.ready.lt;have hdl:=bq.done.lt;have hB:∀k,k≠w1.heap.size->(w'.setCell ⟨w1,6,none⟩ (U a' n c')).heap[k]? =w'.heap[k]?:=fun k hk=>Below.heap_setCell _ _ _ _ (fun e=>hk e);have c1:fI w1 wq (w'.setCell ⟨w1,6,none⟩ (U a' n c')) vr vd vr (U a' n c'):=⟨by simpa using hg.size,fun k hk N _ Y=>by rw [hB k N,hg.block k hk (fun e=>Y e.symm)],.inl rfl,hb⟩;have CH:aK w (w'.setCell ⟨w1,6,none⟩ (U a' n c')):=(bq.grow.grown hg (fun k hk=>by have:=(hdl k hk).1;omega)).setCell (by simp;omega) _;have hdj:∀k,vr.ownBlock=some k->vd.ownBlock≠some k:=fun k hk e=>by
  rcases b.Az with d|d
  ·rw [d] at hk;cases hk
  ·exact d (hk.trans e.symm)
 refine⟨bq.put c1 CH (ZJ (bJ bq.row hg (fun e=>by have:=(hdl _ e.symm).1;omega)) _) ((bq.ready.mono c1.mem).block fun k hk=>?_) (owns_block ho fun k hk=>?_) ?_,?_⟩
 ·have:=hlt k hk
  rw [hB k V,hg.block k this.2 (fun e=>hdj k hk e.symm)]
 ·exact hB k (τ ((ho.lt k hk).1))
 ·cases e0:vr.ownBlock with
  |none=>exact .inl rfl
  |some q=>
   right;rcases hb with e|⟨g,e,hge⟩
   ·rw [e];intro e';exact hdj q e0 e'.symm
   ·rw [e];intro e';have:=hlt q e0;simp at e';omega
 ·exact⟨Nat.le_trans hs c1.size,fun k hk N Y h3=>(c1.block k V N Y h3).trans (hG.block k hk),.inl rfl,by
   rcases hb with e|⟨g,e,hge⟩
   ·exact .inl e
   ·exact .inr ⟨g,e,V⟩⟩
theorem uU.sum {w w1 wr wq:World} {vl vr vd:Value} {l:List Rc} {h:Hs} {s:Sm} (b:uU w w1 wr vl vr vd l h) (hG:aK wr wq):
  uU w w1 ((((wq.setCell ⟨w1,1,none⟩ (J s.a)).setCell ⟨w1,2,none⟩ (J s.b)).setCell ⟨w1,3,none⟩ (J s.c)).setCell ⟨w1,4,none⟩ (J s.d)) vl vr vd l { h with aP:=s }/\
  fI w1 wr ((((wq.setCell ⟨w1,1,none⟩ (J s.a)).setCell ⟨w1,2,none⟩ (J s.b)).setCell ⟨w1,3,none⟩ (J s.c)).setCell ⟨w1,4,none⟩ (J s.d)) vr vd vr vd:=by
 have bq:=b.dL hG;have hs:=hG.size;have hs1:=b.size;have WJ:=b.w1;have hB:∀k,k≠w1.heap.size->((((wq.setCell ⟨w1,1,none⟩ (J s.a)).setCell ⟨w1,2,none⟩ (J s.b)).setCell ⟨w1,3,none⟩ (J s.c)).setCell ⟨w1,4,none⟩ (J s.d)).heap[k]? =wq.heap[k]?:=fun k hk=>by
  rw [Below.heap_setCell _ _ _ _ (fun e=>hk e),Below.heap_setCell _ _ _ _ (fun e=>hk e),Below.heap_setCell _ _ _ _ (fun e=>hk e),Below.heap_setCell _ _ _ _ (fun e=>hk e)]
 have c1:fI w1 wq ((((wq.setCell ⟨w1,1,none⟩ (J s.a)).setCell ⟨w1,2,none⟩ (J s.b)).setCell ⟨w1,3,none⟩ (J s.c)).setCell ⟨w1,4,none⟩ (J s.d)) vr vd vr vd:=⟨σ,fun k hk N _ _=>hB k N,.inl rfl,.inl rfl⟩;have CH:aK w ((((wq.setCell ⟨w1,1,none⟩ (J s.a)).setCell ⟨w1,2,none⟩ (J s.b)).setCell ⟨w1,3,none⟩ (J s.c)).setCell ⟨w1,4,none⟩ (J s.d)):=(((bq.grow.setCell (by simp;omega) _).setCell (by simp;omega) _).setCell (by simp;omega) _).setCell (by simp;omega) _;refine⟨bq.put c1 CH (TP bq.row _ _ _ _) ((bq.ready.mono c1.mem).block fun k hk=>hB k (τ ((bq.ready.lt k hk).1))) (owns_block bq.done fun k hk=>hB k (τ ((bq.done.lt k hk).1))) b.Az,?_⟩;exact⟨Nat.le_trans hs c1.size,fun k hk N Y h3=>(c1.block k V N Y h3).trans (hG.block k hk),.inl rfl,.inl rfl⟩
theorem uU.A03 {w w1 wr wq w':World} {vl vd:Value} {l:List Rc} {h:Hs} {g cap i:Nat} (b:uU w w1 wr vl (U (some ⟨g,0,none⟩) h.ready.length cap) vd l h) (hG:aK wr wq) (hi:i<h.ready.length)
  {css:List (List Value)} (k2:css.length=h.ready.length) (k3:∀(i:Nat) (cs:List Value) (x:Rd),css[i]? =some cs->h.ready[i]? =some x->Ty.rd.R (hmem w w1 wq vl (U (some ⟨g,0,none⟩) h.ready.length cap) vd) cs x)
  (hnew:w'.ownsRow (w1.heap.size+1) 53 2 (U (some ⟨g,0,none⟩) (h.ready.length - 1) cap) (h.ready.length - 1) (css.flatten.take (i*2)++css.flatten.drop ((i+1)*2))) (hg:wq.grownBy w' (some g)):
  uU w w1 (w'.setCell ⟨w1,5,none⟩ (U (some ⟨g,0,none⟩) (h.ready.length - 1) cap)) vl (U (some ⟨g,0,none⟩) (h.ready.length - 1) cap) vd l { h with ready:=h.ready.eraseIdx i }/\
  fI w1 wr (w'.setCell ⟨w1,5,none⟩ (U (some ⟨g,0,none⟩) (h.ready.length - 1) cap)) (U (some ⟨g,0,none⟩) h.ready.length cap) vd (U (some ⟨g,0,none⟩) (h.ready.length - 1) cap) vd:=by
 have bq:=b.dL hG;have hsz:=hG.size;have hs1:=b.size;have WJ:=b.w1;have hlt:=bq.ready.lt g rfl;have hdl:=bq.done.lt;have hB:∀k,k≠w1.heap.size->(w'.setCell ⟨w1,5,none⟩ (U (some ⟨g,0,none⟩) (h.ready.length - 1) cap)).heap[k]? =w'.heap[k]?:=fun k hk=>Below.heap_setCell _ _ _ _ (fun e=>hk e);have c1:fI w1 wq (w'.setCell ⟨w1,5,none⟩ (U (some ⟨g,0,none⟩) (h.ready.length - 1) cap)) (U (some ⟨g,0,none⟩) h.ready.length cap) vd (U (some ⟨g,0,none⟩) (h.ready.length - 1) cap) vd:=⟨by simpa using hg.size,fun k hk N Y _=>by rw [hB k N,hg.block k hk (fun e=>Y e.symm)],.inl rfl,.inl rfl⟩;have CH:aK w (w'.setCell ⟨w1,5,none⟩ (U (some ⟨g,0,none⟩) (h.ready.length - 1) cap)):=(bq.grow.grown hg (fun k hk=>by simp at hk;omega)).setCell (by simp;omega) _;have hdj:∀k,vd.ownBlock=some k->g≠k:=fun k hk e=>by
  rcases b.Az with d|d
  ·cases d
  ·exact d (by rw [hk,<-e];rfl)
 have hcl:=nN k2 k3;refine⟨bq.put c1 CH (O_ (bJ bq.row hg (by simp;omega)) _) ⟨css.eraseIdx i,?_,?_,?_⟩ (owns_block bq.done fun k hk=>?_) (.inr fun e=>hdj g e.symm rfl),?_⟩
 ·have e:(css.eraseIdx i).flatten=css.flatten.take (i*2)++css.flatten.drop ((i+1)*2):=by
   rw [ng (size:=2) css i hcl,qI (size:=2) css (i+1) hcl,List.eraseIdx_eq_take_drop_succ,List.flatten_append]
  rw [e];have e2:(h.ready.eraseIdx i).length=h.ready.length - 1:=List.length_eraseIdx_of_lt hi;rw [e2];refine owns_block hnew fun k hk=>hB k ?_;have:g=k:=by simpa [Value.ownBlock] using hk
  omega
 ·simp only [List.length_eraseIdx_of_lt hi,List.length_eraseIdx_of_lt (V:i<css.length)];omega
 ·intro j cs x a e
  rw [List.getElem?_eraseIdx] at a e;by_cases hj:j<i
  ·rw [bC hj] at a e
   exact Ty.rd.mono c1.mem (k3 j cs x a e)
  ·rw [aV hj] at a e
   exact Ty.rd.mono c1.mem (k3 (j+1) cs x a e)
 ·have:=hdl k hk
  rw [hB k V,hg.block k this.2 (fun e=>hdj k hk (bI e).symm)]
 ·exact⟨Nat.le_trans hsz c1.size,fun k hk N Y h3=>(c1.block k V N Y h3).trans (hG.block k hk),.inl rfl,.inl rfl⟩
theorem iI {w:World} {B:Nat} {a b c:Value} {t:TypeId} (h:w.heap[B]? =some (.cells #[a,b,c] t (0,0))):w.cell? ⟨B,0,none⟩=some a/\w.cell? ⟨B,1,none⟩=some b/\w.cell? ⟨B,2,none⟩=some c:=by
 refine⟨?_,?_,?_⟩<;>simp [World.cell?,h]
theorem ZK {c:CM} {w:World} {base e:Nat} {v:Value} {l:List Int} (h:bK Ty.int c w base e v l):w.ownsRow base e 1 v l.length (l.flatMap eX):=by
 obtain⟨css,N,Y,h3⟩:=h;have:css.flatten=l.flatMap eX:=by
  rw [List.flatMap_def];congr 1;apply List.ext_getElem?;intro i;rw [List.getElem?_map];by_cases hi:i<l.length
  ·have e1:css[i]? =some css[i]:=dM V
   have e2:l[i]? =some l[i]:=dM hi;rw [e1,e2];simp only [Option.map_some,Option.some.injEq];exact(h3 i _ _ e1 e2).1
  ·rw [List.getElem?_eq_none V,List.getElem?_eq_none V];rfl
 rw [<-this];exact N
theorem i7 {h:Hs} {n:Nat} (k:HOk h n) {r:Rc} (hd:I64 r.aJ) (hr:jg r.aH):HOk (f_ h r) (n+1):=by
 have N:=k.ready;have Y:=k.done;cases hf:h.ready.find? (nG r.aJ) with
 |none=>
  rw [TN hf];split
  ·exact⟨by simp;omega,by show h.done.length<=_;omega,fun x Z=>by
    rcases List.mem_append.1 Z with Z|Z
    ·exact k.keys x Z
    ·rw [List.mem_singleton.1 Z];exact hr,k.aP,k.ints⟩
  ·exact⟨V,V,k.keys,k.aP,k.ints⟩
 |some x=>
  rw [Yw hf];have hle:(h.ready.eraseP (nG r.aJ)).length<=h.ready.length:=List.eraseP_sublist.length_le;split
  ·exact⟨by show(h.ready.eraseP _).length<=_;omega,by simp;omega,fun y hy=>k.keys y (List.eraseP_sublist.subset hy),k.aP.pY _,fun y hy=>by
    rcases List.mem_append.1 hy with hy|hy
    ·exact k.ints y hy
    ·rw [List.mem_singleton.1 hy];exact hd⟩
  ·split
   ·exact⟨by show(h.ready.eraseP _).length<=_;omega,by show h.done.length<=_;omega,fun y hy=>k.keys y (List.eraseP_sublist.subset hy),k.aP,k.ints⟩
   ·exact⟨V,V,k.keys,k.aP,k.ints⟩
theorem vN {v:Value} {l:List Rc} (w:World) (hv:NT w.cell? v l) (hk:∀r∈l,jg r.aH) (hm:l.length*40<=140737488351232) (hp:∀r∈l,r.aH.length*24<=140737488355328):
  Calls Tryz.prog 38 #[v] w fun e w'=>∃v',e=.returned v'/\Of Ty.hs (ov (fun _=>none) w w') v' (jM l)/\aK w w':=by
 have dX:=I (E5 (w.alloc (.cells QE 50)) (hv.mono ((aG w).alloc _).sub) V hp);have M:=I hk;have HM:=I hm;have HP:=I hp;obtain⟨al0,cl0,rfl,-⟩:=hv;have hlm:l.length<=3518437208883:=by omega
 clear hk hm hp;go_enter Tryz.func38,Tryz.ntmps38;go_wp2_with fail
 refine dX.o.mono ?_;rintro e w1 ⟨vl,rfl,bU,dZ⟩;obtain⟨al,cl,rfl⟩:=bU.form;have HOW:=I bU;have oW:=I dZ;have z1:w.heap.size+1<=w1.heap.size:=by have:=dZ.size;simpa using this
 clear bU dZ;go_wp2;go_loopw [13] (fun i wr=>∃(k:Nat) (h:Hs) (vr vd:Value),k<=l.length/\i=J k/\(l.take k).foldl f_ ⟨l,⟨0,0,0,0⟩,[],[]⟩=h/\uU w w1 wr (U al l.length cl) vr vd l h/\HOk h k) (fun i _=>l.length - (intOf i).toNat)
 case atStart=>
  refine⟨0,⟨l,⟨0,0,0,0⟩,[],[]⟩,(),(),V,rfl,rfl,?_,⟨σ,σ,σ,⟨gZ,gZ,gZ,gZ⟩,σ⟩⟩;have hl:=HOW.o.lt;refine⟨aF (bn w _) (oW.o.alloc _),bn _ _,?_,bK.nil _ _ _ _ _,World.ownsRow_nil _ _ _ _,((aG w).alloc _).trans (oW.o.alloc _),σ,fun k hk=>(hl k hk).2,z1,.inl rfl⟩;have hs0:(w.alloc (.cells QE 50)).heap.size=w.heap.size+1:=by simp
  have Y:=HOW.o;rw [hs0] at Y;refine(Y.mono fun a u e=>?_).grow ((aG _).alloc _);unfold fr at e;split at e
  ·cases e
  ·rename_i hn
   have hlt:=eH w1 a e;rw [hs0] at hn;unfold hmem;rw [jh V]
   ·exact((aG w1).alloc _).sub _ _ e
   ·simp only [List.mem_cons,List.not_mem_nil,or_false,not_or]
    refine⟨fun e=>hn (.inr (by simp [e])),by simp [Value.ownBlock],by simp [Value.ownBlock],fun e=>?_,fun e=>?_⟩
    ·have:=bI e;exact hn (.inl V)
    ·have:=bI e;omega
 case round=>
  obtain⟨k,h,vr,vd,hk',rfl,hfold,hbox,hok⟩:=hrel;obtain⟨ar,cr,rfl⟩:=hbox.ready.form;obtain⟨ad,cd,rfl⟩:=dG hbox.done;have ZL:=I hfold;have j_:=I hbox;have TR:=I hok;have z3:=hbox.size;have z4:w1.heap.size<wr:=by omega
  by_cases hlt:k<l.length
  ·obtain⟨gl,cs,rfl,⟨vp,rfl,i0,i1,hP⟩,hA⟩:=hbox.bg.get ε k hlt
   have hP':=hP.mono (iO _ _ _);obtain⟨ap,cp,rfl,-⟩:=id hP';have c0:=hA 0 _ rfl;have c1:=hA 1 _ rfl;have c2:=hA 2 _ rfl;simp only [Nat.add_zero,Ty.rc] at c0 c1 c2;have htk:(l.take (k+1)).foldl f_ ⟨l,⟨0,0,0,0⟩,[],[]⟩=f_ h l[k]:=by rw [List.take_succ_eq_append_getElem hlt,List.foldl_append,ZL.o];rfl
   have nK:=I htk;have hkk:=M.o l[k] (List.getElem_mem _);have hpl:=HP.o l[k] (List.getElem_mem _);have Je:=I (fun(W:World) (hW:aK wr W)=>sZ W (hP'.mono hW.sub) hpl);have HI:=I (And.intro i0 (And.intro i1 (pX.ok (c:=wr.cell?) hP')));have A2r:=I (fun(W:World) (hW:aK wr W)=>ZH (d:=l[k].aJ) W ((hbox.ready.sl ε (iO _ _ _)).mono hW.sub));have Fg:=I (i7 hok i1 hkk);have Lh:Hid (h.ready.length<3518437208883):=I (by have:=hok.ready;have:=HM.o;omega);have Ou:Hid (h.done.length<3518437208883):=I (by have:=hok.done;have:=HM.o;omega);have A2s:=I hok.ints;have A04:=I hok.keys;have yj:Hid (∀q,(Value.slice ar h.ready.length cr).ownBlock=some q->q<wr.heap.size):=fun q O=>(hbox.ready.lt q O).2;have HLD:Hid (∀q,(Value.slice ad h.done.length cd).ownBlock=some q->q<wr.heap.size):=fun q O=>(hbox.done.lt q O).2;have J3:=I z3;clear hfold hok htk hkk hpl hP hP' hA i0 i1 hbox;generalize l[k]=r at*;obtain⟨s0,s1,s2,s3,s4,s5,s6⟩:=bZ j_.o.row;go_wp2_with fail
   refine(A2r.o _ ((aG _).alloc _)).mono ?_;rintro e w2 ⟨rfl,gB⟩;have yh:Hid (aK wr w2):=I (((aG wr).alloc _).trans gB);have jq:=I (j_.o.dL yh.o);have Gp:=I (aF (bn wr (.cells #[J r.aX,J r.aJ,U ap r.aH.length cp] 79)) gB);clear gB s0 s1 s2 s3 s4 s5 s6 c0 c1 c2;obtain⟨s0,s1,s2,s3,s4,s5,s6⟩:=bZ jq.o.row;obtain⟨q0,q1,q2⟩:=iI Gp.o;have s9:w1.heap.size<w2:=(γ jq.o.row);have q9:wr.heap.size<w2:=(γ Gp.o);cases hix:h.ready.findIdx? (nG r.aJ) with
   |none=>
    have hid:idxOf (nG r.aJ) h.ready= -1:=by unfold idxOf;rw [hix]
    have hst:=Oq hix;rw [hid];clear hix hid;by_cases k1:r.aX=1
    ·have b1:(r.aX==1)=true:=by simp [k1]
     rw [bC k1] at hst;have EJ:=I (nK.o.trans hst);have uM:=I (hst▸Fg.o);clear hst k1;have l3:w1.heap.size<w2:=by have:=jq.o.size;omega
     have l5:wr.heap.size<w2:=(γ Gp.o);have n3:(Value.slice ar h.ready.length cr).ownBlock≠some w1.heap.size:=fun e=>by have:=(jq.o.ready.lt _ e).1;omega
     have n5:(Value.slice ar h.ready.length cr).ownBlock≠some wr.heap.size:=fun e=>by have:=yj.o _ e;omega
     have HS:Hid (∀W,w2.grownBy W (Value.slice ar h.ready.length cr).ownBlock->W.cell? ⟨w1,5,none⟩=some (U ar h.ready.length cr)/\W.cell? ⟨wr,1,none⟩=some (J r.aJ)/\W.cell? ⟨wr,2,none⟩=some (U ap r.aH.length cp)):=fun W hW=>⟨by rw [World.cell?_of_block (hW.block w1.heap.size l3 (fun e=>n3 e.symm))];exact s5,by rw [World.cell?_of_block (hW.block wr.heap.size l5 (fun e=>n5 e.symm))];exact q1,by rw [World.cell?_of_block (hW.block wr.heap.size l5 (fun e=>n5 e.symm))];exact q2⟩;go_wp2;clear s0 s1 s2 s3 s4 s5 s6 q0 q1 q2;refine dH (fun w'=>w'.cell? ⟨w1,5,none⟩=some (U ar h.ready.length cr)/\w'.cell? ⟨wr,1,none⟩=some (J r.aJ)/\w'.cell? ⟨wr,2,none⟩=some (U ap r.aH.length cp)) 11 κ ?_;obtain⟨wd,hWd⟩:=χ w2.drew;rw [<-hWd];have GD:aK w2 wd:=by rw [hWd];exact(aG _).drew
     have zD:w2.heap.size=wd.heap.size:=by rw [hWd];rfl
     clear hWd zD;refine qJ [0,1,2,3,4,5] 8 κ (fun _ _ _ _ _ h=>h) (HS.o _ (aO GD _)) ?_;repeat (refine jY ?_;try simp only [bT])
     refine qK ?_;refine bO 6 κ rfl ?_;intro K M;try simp only [dD]
     go_simp;go_at_call 73
     refine(Je.o _ (yh.o.trans GD)).mono ?_;rintro e w3 ⟨v3,rfl,mZ,fB⟩;obtain⟨a3,c3,rfl⟩:=dG mZ;have n_:=I mZ;have G3:=GD.trans fB;clear mZ fB;refine ψ M (fun _=>HS.o _ (aO G3 _)) ?_;try simp only [bT]
     refine bO 7 κ rfl ?_;intro K M;try simp only [dD]
     go_simp;refine ψ M (fun _=>HS.o _ (aO G3 _)) ?_;try simp only [bT]
     refine bO 8 κ rfl ?_;intro K M;try simp only [dD]
     go_simp;refine ψ M (fun _=>HS.o _ (aO (G3.alloc _) _)) ?_;try simp only [bT]
     refine bO 9 κ rfl ?_;intro K M;refine aY rfl ?_;try simp only [dD]
     have bA:=jq.o.dL (w':=(w3.alloc (.cells #[J r.aJ,U a3 r.aH.length c3] 53))) (G3.alloc _);have fL:Ty.rd.R (hmem w w1 (w3.alloc (.cells #[J r.aJ,U a3 r.aH.length c3] 53)) (U (some ⟨gl,0,none⟩) l.length cl) (U ar h.ready.length cr) (U ad h.done.length cd)) (#[J r.aJ,U a3 r.aH.length c3]:Array Value).toList ⟨r.aJ,r.aH⟩:=by
      refine⟨_,rfl,HI.o.2.1,KZ (w1:=wd) ((n_.o).kept (aO ((aG _).alloc _) none) (by cases (Value.slice a3 r.aH.length c3).ownBlock<;>simp)) HI.o.2.2 (by have:=jq.o.grow.size;have:=GD.size;omega) fun q O=>?_⟩;have z1:=jq.o.ready.lt;have z2:=jq.o.bg.lt;have z3:=jq.o.done.lt;have z4:=jq.o.size;have z5:=jq.o.w1;have z6:=GD.size;simp only [List.mem_cons,List.not_mem_nil,or_false,not_or];exact⟨fun e=>by have:=(z2 q e.symm).2;omega,fun e=>by have:=(z1 q e.symm).2;omega,fun e=>by have:=(z3 q e.symm).2;omega,fun e=>by have:=bI e;omega,fun e=>by have:=bI e;omega⟩
     have ZM:=I fL;have P0:=I bA;clear fL bA;refine fP (c:=(hmem w w1 (w3.alloc (.cells #[J r.aJ,U a3 r.aH.length c3] 53)) (U (some ⟨gl,0,none⟩) l.length cl) (U ar h.ready.length cr) (U ad h.done.length cd))) (base:=w1.heap.size+1) (l:=h.ready) (m:=[⟨r.aJ,r.aH⟩]) AZ rfl zo ε (.tmp 31) (.tmp 38) rfl rfl P0.o.ready rfl (Src.dU (T:=Ty.rd) (cs:=#[J r.aJ,U a3 r.aH.length c3]) ZM.o _ _ rfl) (by have:=Lh.o;simp;omega) P0.o.size ?_;intro a9 c9 w9 gX fV iE;have jE:=I gX;have kR:=I fV;have Aj:=I iE;have SH:=I (bD (aO (G3.alloc _) _) fV);obtain⟨t5,-,-⟩:=HS.o _ SH.o;have tf:∀o,w9.frozen? ⟨w1,o,none⟩=false:=gJ (bJ P0.o.row fV (fun e=>n3 e.symm));have t9:w1.heap.size<w9:=eH w9 _ t5;clear gX fV iE;refine ψ M (fun _=>HS.o _ SH.o) ?_;try simp only [bT]
     refine bO 10 κ rfl ?_;intro K M;try simp only [dD]
     go_simp;refine ψ M (fun _=>HS.o _ SH.o) ?_;try simp only [bT]
     refine bO 11 κ rfl ?_;intro K M;try simp only [dD]
     go_simp;refine ψ M (fun h=>absurd rfl h) ?_;try simp only [bT]
     refine bW κ ?_;have HX:=uU.TQ jq.o (G3.alloc _) jE.o kR.o (Aj.o.imp_right fun⟨g,e,hge⟩=>⟨g,e,by simpa using hge⟩);go_wp2;go_roundw
     case rel=>exact⟨k+1,_,_,_,V,by go_num,EJ.o,HX.1,uM.o⟩
     case measure=>simp [intOf];omega
    ·rw [aV k1] at hst
     have EJ:=I (nK.o.trans hst);have uM:=I (hst▸Fg.o);have b1:(r.aX==1)=false:=by simp [k1]
     clear hst;by_cases k2:r.aX=2
     ·have b2:(r.aX==2)=true:=by simp [k2]
      have b3:(r.aX==3)=false:=by simp [k2]
      clear k1 k2;go_wp2;go_roundw
      case rel=>exact⟨k+1,_,_,_,V,by go_num,EJ.o,jq.o,uM.o⟩
      case measure=>simp [intOf];omega
     ·have b2:(r.aX==2)=false:=by simp [k2]
      by_cases k3:r.aX=3
      ·have b3:(r.aX==3)=true:=by simp [k3]
       clear k1 k2 k3;go_wp2;go_roundw
       case rel=>exact⟨k+1,_,_,_,V,by go_num,EJ.o,jq.o,uM.o⟩
       case measure=>simp [intOf];omega
      ·have b3:(r.aX==3)=false:=by simp [k3]
       clear k1 k2 k3;go_wp2;go_roundw
       case rel=>exact⟨k+1,_,_,_,V,by go_num,EJ.o,jq.o,uM.o⟩
       case measure=>simp [intOf];omega
   |some i=>
    have hid:idxOf (nG r.aJ) h.ready=(i:Int):=by unfold idxOf;rw [hix]
    obtain⟨hi,hst⟩:=Ot hix;rw [hid];clear hix hid;obtain⟨gr,csx,rfl,⟨vx,rfl,-,hX⟩,hAx⟩:=jq.o.ready.get ε i hi;have hX':=hX.mono (iO _ _ _);obtain⟨ax,cx,rfl,-⟩:=id hX';have x1:=hAx 1 _ rfl;simp only [Ty.rd] at x1;have Ol:=I (fun(W:World) (hW:aK w2 W)=>BE (s:=h.aP) W (hX'.mono hW.sub) (A04.o _ (List.getElem_mem hi)));have QP:=I hi;have hib:i<3518437208883:=by have:=Lh.o;omega
    have gr9:gr<w2.heap.size:=eH w2 _ x1;clear hX hX' hAx;by_cases k2:r.aX=2
    ·have b1:(r.aX==1)=false:=by simp [k2]
     have b2:(r.aX==2)=true:=by simp [k2]
     rw [bC k2] at hst;have EJ:=I (nK.o.trans hst);have uM:=I (hst▸Fg.o);clear hst k2;generalize h.ready[i]=x at*;have HS:Hid (∀W,aK w2 W->W.cell? ⟨w1,1,none⟩=some (J h.aP.a)/\W.cell? ⟨w1,2,none⟩=some (J h.aP.b)/\W.cell? ⟨w1,3,none⟩=some (J h.aP.c)/\W.cell? ⟨w1,4,none⟩=some (J h.aP.d)/\W.cell? ⟨w1,5,none⟩=some (U (some ⟨gr,0,none⟩) h.ready.length cr)/\W.cell? ⟨gr,i*2+1,none⟩=some (U ax x.aH.length cx)):=fun W hW=>⟨hW.sub _ _ s1,hW.sub _ _ s2,hW.sub _ _ s3,hW.sub _ _ s4,hW.sub _ _ s5,hW.sub _ _ x1⟩;go_wp2;clear s0 s1 s2 s3 s4 s5 s6 q0 q1 q2;refine dH (fun w'=>w'.cell? ⟨w1,1,none⟩=some (J h.aP.a)/\w'.cell? ⟨w1,2,none⟩=some (J h.aP.b)/\w'.cell? ⟨w1,3,none⟩=some (J h.aP.c)/\w'.cell? ⟨w1,4,none⟩=some (J h.aP.d)/\w'.cell? ⟨w1,5,none⟩=some (U (some ⟨gr,0,none⟩) h.ready.length cr)/\w'.cell? ⟨gr,i*2+1,none⟩=some (U ax x.aH.length cx)) 10 κ ?_;obtain⟨wd,hWd⟩:=χ w2.drew;rw [<-hWd];have GD:aK w2 wd:=by rw [hWd];exact(aG _).drew
     have zD:w2.heap.size=wd.heap.size:=by rw [hWd];rfl
     clear hWd zD;refine qJ [0,1,2,3,4,5,6,7] 8 κ (fun _ _ _ _ _ h=>h) (HS.o _ GD) ?_;repeat (refine jY ?_;try simp only [bT])
     refine qK ?_;refine bO 8 κ rfl ?_;intro K M;try simp only [dD]
     go_simp;go_at_call 74
     refine(Ol.o _ GD).mono ?_;rintro e w3 ⟨rfl,fB⟩;have G3:=GD.trans fB;clear fB;obtain⟨u1,u2,u3,u4,-,-⟩:=HS.o _ G3;have uf:∀o,w3.frozen? ⟨w1,o,none⟩=false:=gJ (aF jq.o.row G3);have u9:w1.heap.size<w3:=eH w3 _ u1;refine ψ M (fun _=>HS.o _ G3) ?_;try simp only [bT]
     refine bO 9 κ rfl ?_;intro K M;try simp only [dD]
     go_simp;refine ψ M (fun _=>HS.o _ G3) ?_;try simp only [bT]
     refine bO 10 κ rfl ?_;intro K M;try simp only [dD]
     go_simp;refine ψ M (fun h=>absurd rfl h) ?_;try simp only [bT]
     refine bW κ ?_;obtain⟨bs,cs4⟩:=uU.sum (s:=pY h.aP x.aH) jq.o G3;have r5:((((w3.setCell ⟨w1,1,none⟩ (J (pY h.aP x.aH).a)).setCell ⟨w1,2,none⟩ (J (pY h.aP x.aH).b)).setCell ⟨w1,3,none⟩ (J (pY h.aP x.aH).c)).setCell ⟨w1,4,none⟩ (J (pY h.aP x.aH).d)).heap[wr.heap.size]? =some (.cells #[J r.aX,J r.aJ,U ap r.aH.length cp] 79 (0,0)):=by rw [cs4.block _ (γ Gp.o) (by have:=jq.o.size;have:=J3.o;omega) (fun e=>by have:=yj.o _ e;omega) (fun e=>by have:=HLD.o _ e;omega)];exact Gp.o
     clear u1 u2 u3 u4 uf u9;generalize ((((w3.setCell ⟨w1,1,none⟩ (J (pY h.aP x.aH).a)).setCell ⟨w1,2,none⟩ (J (pY h.aP x.aH).b)).setCell ⟨w1,3,none⟩ (J (pY h.aP x.aH).c)).setCell ⟨w1,4,none⟩ (J (pY h.aP x.aH).d))=w4 at*;have AA:=I bs;have A05:=I r5;clear bs cs4 r5;obtain⟨s0,s1,s2,s3,s4,s5,s6⟩:=bZ AA.o.row;have sf:=gJ AA.o.row;have s9:w1.heap.size<w4:=(γ AA.o.row);obtain⟨q0,q1,q2⟩:=iI A05.o;have q9:wr.heap.size<w4:=(γ A05.o);dsimp only at s0 s1 s2 s3 s4 s5 s6;go_wp2_with (first|(at_builtin;refine cO (c:=fun _=>none) (base:=w1.heap.size+1) (l:=h.done) (m:=[r.aJ]) jL rfl jX ε rfl (.tmp 60) (.tmp 63) rfl rfl ?own rfl (Src.dU (T:=Ty.int) (cs:=#[J r.aJ]) ⟨rfl,HI.o.2.1⟩ _ _ ?d1) ?d2 ?d3 ?_))
     case own=>exact(bK.ints AA.o.done A2s.o).grow ((aG _).alloc _)
     case d1=>rfl
     case d2=>have:=Ou.o;simp;omega
     case d3=>have:=AA.o.size;simp;omega
     intro a5 c5 w5 mW uG iY;obtain⟨bd,cd5⟩:=uU.A2q (x:=r.aJ) AA.o ((aG w4).alloc (.cells #[J r.aJ] 3)) (ZK mW) uG (iY.imp_right fun⟨g,e,hge⟩=>⟨g,e,by simpa using hge⟩);have WL:=I bd;have t6:w5.heap[w1.heap.size]? =_:=bJ (aF AA.o.row ((aG w4).alloc (.cells #[J r.aJ] 3))) uG (fun e=>by have:=(AA.o.done.lt _ e.symm).1;omega);clear bd cd5 s0 s1 s2 s3 s4 s5 s6 sf q0 q1 q2;obtain⟨s0,s1,s2,s3,s4,s5,s6⟩:=bZ t6;have sf:=gJ t6;have s8:w1.heap.size<w5:=(γ t6);dsimp only at s0 s1 s2 s3 s4 s5 s6;clear t6 mW uG iY;go_wp2_with fail
     generalize w5.setCell ⟨w1,6,none⟩ (U a5 (h.done.length+1) c5)=w6 at*;obtain⟨css,k1,k2,k3⟩:=WL.o.ready;have h1c:∀u∈css.flatten,u.oneCell'=true:=by
      intro u hu;obtain⟨cs,hcs,huc⟩:=List.mem_flatten.1 hu;obtain⟨j,hj,rfl⟩:=List.mem_iff_getElem.1 hcs;exact zo _ _ _ (k3 j css[j] _ σ (dM V)) u huc
     have QQ:=I k1;have JK:=I k2;have ZN:=I k3;have H1C:=I h1c;clear k1 k2 k3 h1c;refine(OX (i:=i) QQ.o QP.o H1C.o).mono ?_;rintro e w7 ⟨rfl,yR,AB⟩;have t7:=bJ WL.o.row AB (fun e=>by have:=(WL.o.ready.lt gr rfl).1;have:=bI e;omega);obtain⟨u0,u1,u2,u3,u4,u5,u6⟩:=bZ t7;have uf:=gJ t7;have u9:w1.heap.size<w7:=(γ t7);have HX:=I (uU.A03 (h:={ h with aP:=pY h.aP x.aH,done:=h.done++ [r.aJ] }) WL.o (aG _) QP.o JK.o ZN.o yR AB);clear t7 yR AB;go_wp2;go_roundw
     case rel=>exact⟨k+1,_,_,_,V,by go_num,EJ.o,HX.o.1,uM.o⟩
     case measure=>simp [intOf];omega
    ·have b2:(r.aX==2)=false:=by simp [k2]
     rw [aV k2] at hst;by_cases k3:r.aX=3
     ·have b1:(r.aX==1)=false:=by simp [k3]
      have b3:(r.aX==3)=true:=by simp [k3]
      rw [bC k3] at hst;have EJ:=I (nK.o.trans hst);have uM:=I (hst▸Fg.o);clear hst k2 k3;go_wp2_with fail
      obtain⟨css,k1,k2,k3⟩:=jq.o.ready;have h1c:∀u∈css.flatten,u.oneCell'=true:=by
       intro u hu;obtain⟨cs,hcs,huc⟩:=List.mem_flatten.1 hu;obtain⟨j,hj,rfl⟩:=List.mem_iff_getElem.1 hcs;exact zo _ _ _ (k3 j css[j] _ σ (dM V)) u huc
      have QQ:=I k1;have JK:=I k2;have ZN:=I k3;have H1C:=I h1c;clear k1 k2 k3 h1c;refine(OX (i:=i) QQ.o QP.o H1C.o).mono ?_;rintro e w7 ⟨rfl,yR,AB⟩;have t7:=bJ jq.o.row AB (fun e=>by have:=(jq.o.ready.lt gr rfl).1;have:=bI e;omega);obtain⟨u0,u1,u2,u3,u4,u5,u6⟩:=bZ t7;have uf:=gJ t7;have u9:w1.heap.size<w7:=(γ t7);have HX:=I (uU.A03 jq.o (aG _) QP.o JK.o ZN.o yR AB);clear t7 yR AB;go_wp2;go_roundw
      case rel=>exact⟨k+1,_,_,_,V,by go_num,EJ.o,HX.o.1,uM.o⟩
      case measure=>simp [intOf];omega
     ·have b3:(r.aX==3)=false:=by simp [k3]
      rw [aV k3] at hst;have EJ:=I (nK.o.trans hst);have uM:=I (hst▸Fg.o);by_cases k1:r.aX=1
      ·have b1:(r.aX==1)=true:=by simp [k1]
       clear hst k1 k2 k3;go_wp2;go_roundw
       case rel=>exact⟨k+1,_,_,_,V,by go_num,EJ.o,jq.o,uM.o⟩
       case measure=>simp [intOf];omega
      ·have b1:(r.aX==1)=false:=by simp [k1]
       clear hst k1 k2 k3;go_wp2;go_roundw
       case rel=>exact⟨k+1,_,_,_,V,by go_num,EJ.o,jq.o,uM.o⟩
       case measure=>simp [intOf];omega
  ·have HH:Hid (h=jM l):=by show h=_;rw [<-ZL.o,eG V];rfl
   obtain⟨s0,s1,s2,s3,s4,s5,s6⟩:=bZ hbox.row;clear hfold hok hbox;go_wp2_with (first|(refine aQ rfl (.tmp 2) (.tmp 89) rfl rfl rfl j_.o.res fO rfl rfl ?_))
   intro wf r2 g2;obtain⟨p0,p1,p2,p3,p4,p5,p6⟩:=bZ r2;have pf:=gJ r2;clear s0 s1 s2 s3 s4 s5 s6;go_wp2;refine dw (v:=.agg #[U al l.length cl,J h.aP.a,J h.aP.b,J h.aP.c,J h.aP.d,U ar h.ready.length cr,U ad h.done.length cd]) (by simp [results,Tryz.results38,go_sem,p0,p1,p2,p3,p4,p5,p6]) rfl ?_;have uq:h.bg=l:=by rw [HH.o];exact Cj l
   have sub:Sub (hmem w w1 wr (U al l.length cl) (U ar h.ready.length cr) (U ad h.done.length cd)) (ov (fun _=>none) w wf):=fun a u e=>by
    unfold hmem fr at e;split at e
    ·cases e
    ·rename_i hn
     have hne:a.block≠w.heap.size:=fun e=>hn (.inr (by simp [e]));rw [dY V,fM g2 (eH wr a e) hne];exact e
   have hb:∀k,w.heap.size+1<=k->k<wr.heap.size->wf.heap[k]? =wr.heap[k]?:=fun k N Y=>g2.block k Y (by simp;omega);have WJ:=j_.o.w1;have e1:=((j_.o.bg.mono sub).block fun k hk=>hb k (j_.o.bg.lt k hk).1 (j_.o.bg.lt k hk).2).slc ε (Sub.refl _) fun a ha=>dY V;have e2:=((j_.o.ready.mono sub).block fun k hk=>hb k (τ ((j_.o.ready.lt k hk).1)) (j_.o.ready.lt k hk).2).slc ε (Sub.refl _) fun a ha=>dY V;have e3:=(bK.ints (c:=ov (fun _=>none) w wf) (owns_block j_.o.done fun k hk=>hb k (τ ((j_.o.done.lt k hk).1)) (j_.o.done.lt k hk).2) TR.o.ints).slc ε (Sub.refl _) fun a ha=>dY V;have hs:=TR.o.aP;rw [<-HH.o];refine⟨_,rfl,⟨_,rfl,_,_,_,rfl,?_,hs.1,hs.2.1,hs.2.2.1,hs.2.2.2,e2,e3⟩,j_.o.grow.grown g2 (fun k hk=>by simp at hk;omega)⟩;rw [uq];exact e1
structure Hu {α:Type} (P:Program) (T:Ty α) (val:List Value->Value) (w:World) (row:Option Nat) (F:FuncId) (caps:Array Value) (l:List α) (p:α->Bool):Prop where
 ent:∀args w,(callFunc F args).run P w=.ok (.enter F args) w
 say:∀(wx:World) (cs:List Value) (x:α),w.grownBy wx row->x∈l->T.R wx.cell? cs x->Calls P F (#[val cs]++caps) wx fun e w'=>e=.returned (.bool (p x))/\aK wx w'
theorem Hu.tells {α:Type} {P:Program} {T:Ty α} {val:List Value->Value} {w:World} {row:Option Nat} {F:FuncId} {caps:Array Value} {l:List α} {p:α->Bool} (h:Hu P T val w row F caps l p):xw P T val w F caps l p:=
 ⟨h.ent,fun wx cs x hg=>h.say wx cs x (aO hg _)⟩
theorem oU {α:Type} (q:α->Bool) {l:List α} {j:Nat} (h:j<l.length):(l.take (j+1)).filter q=(l.take j).filter q++if q l[j] then [l[j]] else []:=by
 rw [List.take_succ_eq_append_getElem h,List.filter_append];by_cases O:q l[j]<;>simp [O]
theorem filter_none {α:Type} {p:α->Bool} {l:List α} (h:l.findIdx? p=none):l.filter (fun x=>!p x)=l:=by
 rw [List.findIdx?_eq_none_iff] at h;rw [List.filter_eq_self];intro x Z;simp [h x Z]
theorem Ox {w:World} {base:Nat} {v:Value} {l:List Pt} {F:FuncId} {caps:Array Value} {p:Pt->Bool} (ho:yB Ty.pt w base 111 v l) (hp:Hu Tryz.prog Ty.pt qH w v.ownBlock F caps l p):
  Calls Tryz.prog 151 #[v,.func (.func F) #[] caps] w fun e w'=>∃v',e=.returned v'/\yB Ty.pt w' base 111 v' (l.filter fun x=>!p x)/\w.grownBy w' v.ownBlock/\v'.ownBlock=v.ownBlock:=by
 have hIdx:=ET w (ho.sl ε) hp.tells;cases hfi:l.findIdx? p with
 |none=>
  have Z:idxOf p l= -1:=by rw [idxOf,hfi]
  have HF:=I (filter_none hfi);rw [Z] at hIdx;have HI:=I hIdx;have HO:=I ho;clear hIdx Z hfi ho hp;go_enter Tryz.func151,Tryz.ntmps151;go_wp2_with (go_at_call 133;refine HI.o.mono ?_;rintro e w1 ⟨rfl,dZ⟩)
  go_ret;exact⟨_,rfl,by rw [HF.o];exact HO.o.grow dZ,aO dZ _,rfl⟩
 |some k=>
  have Z:idxOf p l=k:=by rw [idxOf,hfi]
  rw [Z] at hIdx;rw [List.findIdx?_eq_some_iff_getElem] at hfi;obtain⟨hk,hpk,Fh⟩:=hfi;obtain⟨css,bU,hcl0,hR⟩:=ho;have hcl:=nN hcl0 hR;obtain⟨hl,⟨rfl,hn⟩|⟨g,cap,cur,rfl,hb,hg,hnc,hcm,hcs,htake⟩⟩:=id bU
  ·omega
  have hbl:(Value.slice (some (⟨g,0,none⟩:Addr)) l.length cap).ownBlock=some g:=rfl;rw [hbl] at hR hp ⊢;have hf0:(l.take (k+1)).filter (fun x=>!p x)=l.take k:=by
   rw [oU _ hk,hpk];simp only [Bool.not_true,Bool.false_eq_true,if_false,List.append_nil];rw [List.filter_eq_self];intro x Z;obtain⟨j,hj,rfl⟩:=List.mem_iff_getElem.1 Z;have:=Fh j (by simp at hj;omega);simpa using this
  have hkne:((k:Int)== -1)=false:=by rw [beq_eq_false_iff_ne];omega
  have hcm':cap<=9223372036854775807:=by unfold maxLen at hcm;omega
  have HI:=I hIdx;have HO:=I bU;have HR:=I hR;have HP:=I hp.say;have eg:=hp.ent;have HF:=I hf0;have HC:=I hcl;have Hw:=I hcl0;clear hIdx bU hR hp hf0 hcl hcl0 hl hg htake hcs hb hcm Fh hpk Z;go_enter Tryz.func151,Tryz.ntmps151;go_wp2_with (go_at_call 133;refine HI.o.mono ?_;rintro e w1 ⟨rfl,dZ⟩)
  go_loopw [5,6,7] (fun si sj _ wr=>∃(i j:Nat) (nY:List (List Value)),i<j/\j<=l.length/\si=J i/\sj=J j/\w.grownBy wr (some g)/\nY.length=l.length/\(∀cs∈nY,cs.length=3)/\
    wr.ownsRow base 111 3 (U (some ⟨g,0,none⟩) l.length cap) l.length nY.flatten/\nY.drop j=css.drop j/\((l.take j).filter fun x=>!p x).length=i/\
    ∀(a:Nat) (cs:List Value) (x:Pt),a<i->nY[a]? =some cs->((l.take j).filter fun x=>!p x)[a]? =some x->Ty.pt.R (rQ w (some g)) cs x) (fun _ sj _ _=>l.length - (intOf sj).toNat)
  case atStart=>
   refine⟨k,k+1,css,V,V,rfl,by go_num,aO dZ _,Hw.o,HC.o,HO.o.kept (aO dZ none) (by right;simp [Value.ownBlock]),rfl,by rw [HF.o];simp;omega,fun a cs x ha N Y=>?_⟩;rw [HF.o,List.getElem?_take,bC ha] at Y;exact HR.o a cs x N Y
  case round=>
   obtain⟨i,j,nY,hij,hj',rfl,rfl,hgr,hl',hcs',hown',hdrop,hfl,hRi⟩:=hrel;have dX:=I hown';have i8:=I hcs';have HD:=I hdrop;have Qs:=I hfl;have QR:=I hRi;have KJ:=I hl';have Fj:=I hgr;clear hown' hcs' hdrop hfl hRi hl' hgr dZ;by_cases hlt:j<l.length
   ·have hjc:css[j]? =some css[j]!:=by rw [dM (by rw [Hw.o];exact hlt),getElem!_pos css j (by rw [Hw.o];exact hlt)]
    obtain⟨i_,hRR⟩:=HR.o j _ l[j] hjc (dM hlt);have WM:nY[j]? =some css[j]!:=by
     have:(nY.drop j)[0]? =(css.drop j)[0]?:=by rw [HD.o]
     rw [List.getElem?_drop,List.getElem?_drop,Nat.add_zero,hjc] at this;exact this
    rw [i_] at hjc WM;have hcj:∀(t:Nat) (u:Value),(l[j].cells)[t]? =some u->t<3->wr.cell? ⟨g,j*3+t,none⟩=some u:=by
     intro t u hu ht;rw [dX.o.cellAt _ V,lI (size:=3) ε nY i8.o,show(j*3+t)/3=j by omega,show(j*3+t) % 3=t by omega,WM];exact hu
    have hci:∀(t:Nat),t<3->∃u,wr.cell? ⟨g,i*3+t,none⟩=some u:=by
     intro t ht;exact⟨_,by rw [dX.o.cellAt _ V];exact dM (by rw [dX.o.1];omega)⟩
    have hfz:∀o,wr.frozen? ⟨g,o,none⟩=false:=dX.o.frozenAt;have hgl:g<wr.heap.size:=(dX.o.lt g rfl).2;have c0:wr.cell? ⟨g,j*3,none⟩=some (J l[j].h):=hcj 0 _ rfl ε;have c1:wr.cell? ⟨g,j*3+1,none⟩=some (J l[j].k):=hcj 1 _ rfl ε;have c2:wr.cell? ⟨g,j*3+2,none⟩=some (J l[j].n):=hcj 2 _ rfl ε;obtain⟨u0,hu0⟩:∃u,wr.cell? ⟨g,i*3,none⟩=some u:=hci 0 ε;obtain⟨u1,hu1⟩:∃u,wr.cell? ⟨g,i*3+1,none⟩=some u:=hci 1 ε;obtain⟨u2,hu2⟩:∃u,wr.cell? ⟨g,i*3+2,none⟩=some u:=hci 2 ε;have Q0:Ty.pt.R (rQ w (some g)) l[j].cells l[j]:=⟨rfl,hRR⟩;have jN:=fun(W:World) (hW:aK wr W)=>HP.o W _ l[j] (bD Fj.o (aO hW _)) (List.getElem_mem _) (Ty.pt.mono (Sub.trans (zl (bD Fj.o (aO hW _))) (EW _ _)) Q0);have hstep:=oU (fun x=>!p x) hlt;have HS:=I jN;have HST:=I hstep;have HRW:=I Q0;clear jN hstep hcj hci Q0 hRR hjc WM i_;simp only [Pt.cells,qH] at HS;simp only [Pt.cells] at HRW;cases O:p l[j]
    ·rw [O] at HS HST
     generalize l[j]=q at*;go_wp2_with (go_at_fn F;refine(HS.o _ ((aG wr).alloc _)).mono ?_;rintro e w1 ⟨rfl,dZ⟩;have e0:=dZ.sub ⟨wr,0,none⟩ _ (World.cell?_alloc_new wr _ _ 0);have e1:=dZ.sub ⟨wr,1,none⟩ _ (World.cell?_alloc_new wr _ _ 1);have e2:=dZ.sub ⟨wr,2,none⟩ _ (World.cell?_alloc_new wr _ _ 2);simp at e0 e1 e2;have d0:=(((aG wr).alloc _).trans dZ).sub _ _ hu0;have d1:=(((aG wr).alloc _).trans dZ).sub _ _ hu1;have d2:=(((aG wr).alloc _).trans dZ).sub _ _ hu2;have df:∀o,w1.frozen? ⟨g,o,none⟩=false:=fun o=>((((aG wr).alloc _).trans dZ).frozen (p:=⟨g,o,none⟩) hgl).trans (hfz o);have dz:=dZ.size;have oW:=I dZ;clear dZ)
     obtain⟨hset,hsg⟩:=Tc (cs:=[J q.h,J q.k,J q.n]) (i:=i) i8.o (dX.o.kept (aO (((aG wr).alloc _).trans oW.o) none) (by right;simp [Value.ownBlock])) (by rw [KJ.o];omega) rfl;have RC:=I hset;have VZ:=I hsg;clear hset hsg;go_roundw
     case rel=>
      refine⟨i+1,j+1,nY.set i [J q.h,J q.k,J q.n],V,V,by go_num,by go_num,bD (bD Fj.o (aO (((aG wr).alloc _).trans oW.o) _)) VZ.o,by simpa using KJ.o,?_,RC.o,?_,?_,?_⟩
      ·intro cs hc
       rcases List.mem_or_eq_of_mem_set hc with h|rfl
       ·exact i8.o cs h
       ·rfl
      ·rw [List.drop_set_of_lt V]
       have:(nY.drop j).drop 1=(css.drop j).drop 1:=by rw [HD.o]
       simpa [List.drop_drop] using this
      ·rw [HST.o];simp [Qs.o]
      ·intro a cs x ha N Y
       rw [HST.o] at Y;simp only [Bool.not_false,if_true] at Y;by_cases hai:a<i
       ·rw [List.getElem?_set_ne V] at N
        rw [List.getElem?_append_left (by rw [Qs.o];exact hai)] at Y;exact QR.o a cs x hai N Y
       ·obtain rfl:a=i:=by omega
        rw [List.getElem?_append_right (by rw [Qs.o];omega),Qs.o,Nat.sub_self] at Y;rw [List.getElem?_set_self (by rw [KJ.o];omega)] at N;obtain rfl:=bI N;obtain rfl:=bI Y;exact HRW.o
     case measure=>simp [intOf];omega
    ·rw [O] at HS HST
     generalize l[j]=q at*;go_wp2_with (go_at_fn F;refine(HS.o _ ((aG wr).alloc _)).mono ?_;rintro e w1 ⟨rfl,dZ⟩)
     have oW:=I dZ;clear dZ;go_roundw
     case rel=>
      refine⟨i,j+1,nY,V,V,rfl,by go_num,bD Fj.o (aO (((aG wr).alloc _).trans oW.o) _),KJ.o,i8.o,dX.o.kept (aO (((aG wr).alloc _).trans oW.o) none) (by right;simp [Value.ownBlock]),?_,?_,?_⟩
      ·have:(nY.drop j).drop 1=(css.drop j).drop 1:=by rw [HD.o]
       simpa [List.drop_drop] using this
      ·rw [HST.o];simp [Qs.o]
      ·intro a cs x ha N Y
       rw [HST.o] at Y;simp only [Bool.not_true,Bool.false_eq_true,if_false,List.append_nil] at Y;exact QR.o a cs x ha N Y
     case measure=>simp [intOf];omega
   ·obtain rfl:j=l.length:=by omega
    have hic:i<=cap:=by omega
    obtain⟨w2,hcl,pI,yh⟩:=yA Ky 0 dX.o i (l.length - i) (cap - i) (some ⟨g,i*3,none⟩) V (fun _=>rfl) V;have Je:=I hcl;have Qm:=I pI;have Og:=I yh;clear hcl pI yh eg;have hil:i<cap:=by omega
    have A2t:i<=l.length:=by omega
    go_wp2_with fail
    rw [Je.o];go_wp2;go_ret;refine⟨_,rfl,?_,bD Fj.o Og.o,rfl⟩;have hfin:(l.filter fun x=>!p x).length=i:=by have:=Qs.o;rw [eG (Nat.le_refl _)] at this;exact this
    refine⟨nY.take i,?_,by rw [List.length_take,KJ.o,hfin];omega,fun a cs x N Y=>?_⟩
    ·have h:=Qm.o
     rw [ng nY i i8.o] at h;rw [hfin];exact h
    ·rw [List.getElem?_take] at N
     split at N
     ·rename_i hai
      have h3:=QR.o a cs x hai N (by rw [eG (Nat.le_refl _)];exact Y);exact Ty.pt.mono (zl (bD Fj.o Og.o)) h3
     ·cases N
def Pg (p q:Pt):Bool:=q.h==p.h&&q.k==p.k
theorem ZP {B:Nat} {p:Pt} (wx:World) (cs:List Value) (x:Pt) (hB:B<wx.heap.size) (c0:wx.cell? ⟨B,0,none⟩=some (J p.h)) (c1:wx.cell? ⟨B,1,none⟩=some (J p.k)) (hR:Ty.pt.R wx.cell? cs x):
  Calls Tryz.prog 112 #[.agg cs.toArray,.pointer (some ⟨B,0,none⟩)] wx fun e w'=>e=.returned (.bool (Pg p x))/\aK wx w':=by
 obtain⟨rfl,-⟩:=hR;obtain⟨ph,pk,pn⟩:=p;obtain⟨qh,qk,qn⟩:=x;unfold Pt.cells Pg;simp only at c0 c1 ⊢;cases N:(qh==ph)
 ·go_enter Tryz.func112,Tryz.ntmps112
  go_wp2;go_ret;exact⟨rfl,je⟩
 ·go_enter Tryz.func112,Tryz.ntmps112
  go_wp2;go_ret;exact⟨dA σ,je⟩
theorem j6 (l:List Pt) (p:Pt):(l.any (Pg p))=decide ((p.h,p.k)∈l.map fun q=>(q.h,q.k)):=by
 rw [Bool.eq_iff_iff,List.any_eq_true,decide_eq_true_eq,List.mem_map];constructor
 ·rintro⟨q,O,h⟩
  simp only [Pg,Bool.and_eq_true,beq_iff_eq] at h;exact⟨q,O,by rw [h.1,h.2]⟩
 ·rintro⟨q,O,h⟩
  simp only [Prod.mk.injEq] at h;exact⟨q,O,by simp [Pg,h.1,h.2]⟩
theorem j7 (p:Pt) (h:Int):(p.h<0)∨(0<=p.h/\h<=p.h)∨(0<=p.h/\p.h<h/\p.k<0)∨(0<=p.h/\p.h<h/\0<=p.k/\4<=p.k)∨(0<=p.h/\p.h<h/\0<=p.k/\p.k<4/\p.n< -1048576)∨(0<=p.h/\p.h<h/\0<=p.k/\p.k<4/\-1048576<=p.n/\1048576<p.n)∨(0<=p.h/\p.h<h/\0<=p.k/\p.k<4/\-1048576<=p.n/\p.n<=1048576):=by omega
theorem Sl.take' {α:Type} {T:Ty α} {c:CM} {a:Option Addr} {n cap:Nat} {l:List α} (h:Sl T c (U a n cap) l) (m:Nat) (hm:m<=n):Sl T c (U a m cap) (l.take m):=by
 obtain⟨a',cap',he,N,Y,h3,hel⟩:=h;simp only [Value.slice.injEq] at he;obtain⟨rfl,rfl,rfl⟩:=he;have hl:(l.take m).length=m:=by simp;omega
 refine⟨a,cap,by rw [hl],by rw [hl];omega,Y,h3,fun i x e=>?_⟩;have hi:=(List.getElem?_eq_some_iff.1 e).1;rw [List.getElem?_take_of_lt V] at e;exact hel i x e
theorem Ea {v:Value} {l:List Pt} {h:Int} (w:World) (hv:pX w.cell? v l):
  Calls Tryz.prog 76 #[v,J h] w fun e w'=>e=.returned (J (dO l h))/\aK w w':=by
 have HV:=I hv;obtain⟨a,cap,rfl,N,Y,-,hel⟩:=hv;unfold maxLen at Y;by_cases hl0:l.length=0
 ·have hE:dO l h=5:=by simp [dO,hl0]
  have HE:=I hE;have hl1:l.length<1:=by omega
  clear hel hE hl0;go_enter Tryz.func76,Tryz.ntmps76;go_wp2;go_ret;exact⟨dQ HE.o.symm,aG _⟩
 by_cases hl4:4<l.length
 ·have hE:dO l h=5:=by rw [dO,bC (.inr hl4)]
  have HE:=I hE;have hl1:¬l.length<1:=by omega
  clear hel hE hl0;go_enter Tryz.func76,Tryz.ntmps76;go_wp2;go_ret;exact⟨dQ HE.o.symm,aG _⟩
 have hE:dO l h=jU h [] l:=by rw [dO,aV V]
 have HE:=I hE;have hl1:¬l.length<1:=by omega
 clear hE hl0;go_enter Tryz.func76,Tryz.ntmps76;go_wp2;go_loopw [4,5,17] (fun _ _ i wr=>∃(k:Nat),k<=l.length/\i=J k/\aK w wr/\dO l h=jU h ((l.take k).map fun q=>(q.h,q.k)) (l.drop k)) (fun _ _ i _=>l.length - (intOf i).toNat)
 case atStart=>exact⟨0,V,rfl,je,HE.o⟩
 case round=>
  obtain⟨k,hk',rfl,hb,hE⟩:=hrel;by_cases hlt:k<l.length
  ·obtain⟨b,o,rfl,c0,c1,c2,i0,i1,i2⟩:=pX.at_ hel k hlt
   replace c0:=hb.sub _ _ c0;replace c1:=hb.sub _ _ c1;replace c2:=hb.sub _ _ c2;rw [List.drop_eq_getElem_cons hlt,jU] at hE;have hw:=j7 l[k] h;have hbad:∀b,decide (l[k].h<0∨h<=l[k].h∨l[k].k<0∨3<l[k].k∨1048576<l[k].n∨l[k].n< -1048576)=b->OZ l[k] h=b:=fun b hb=>hb;have HB:=I hbad;have lC:=I hE;have og:=I (show jU h ((l[k].h,l[k].k)::(l.take k).map fun q=>(q.h,q.k)) (l.drop (k+1))=jU h ((l.take (k+1)).map fun q=>(q.h,q.k)) (l.drop (k+1)) from xU h _ _ _ fun x=>by
    rw [List.take_succ_eq_append_getElem hlt,List.map_append,List.mem_append,List.mem_cons,or_comm];simp)
   have HSL:=I (HV.o.take' k hk');have HAN:=I (j6 (l.take k) l[k]);clear hel hE hbad HE HV i0 i1 i2;generalize l[k]=p at*;obtain⟨ph,pk,pn⟩:=p;simp only at hw c0 c1 c2;rcases hw with hw|⟨w1,hw⟩|⟨w1,w2,hw⟩|⟨w1,w2,w3,hw⟩|⟨w1,w2,w3,w4,hw⟩|⟨w1,w2,w3,w4,w5,hw⟩|⟨w1,w2,w3,w4,w5,hw⟩
   iterate 6 (· (go_wp2;go_ret;exact⟨dQ (by rw [lC.o,bC (HB.o true (by simp only [decide_eq_true_eq];omega))]),je⟩))
   have hnb:=HB.o false (by simp only [decide_eq_false_iff_not];omega);have PQ:=lC.o;rw [aV (by rw [hnb];exact Bool.false_ne_true)] at PQ;have Qx:=I PQ;clear PQ hnb HB lC;have HCF:=I (uh (l:=l.take k) (F:=112) (caps:=#[.pointer (some ⟨wr,0,none⟩)]) (p:=Pg ⟨ph,pk,pn⟩) (wr.alloc (.cells #[J ph,J pk,J pn] 111)) (HSL.o.mono (hb.alloc _).sub) ⟨fun args w=>κ,fun wx cs x hg _ hR=>ZP wx cs x (Nat.lt_of_lt_of_le σ hg.size) (hg.sub _ _ (by rw [World.cell?_alloc_new];rfl)) (hg.sub _ _ (by rw [World.cell?_alloc_new];rfl)) hR⟩);rw [HAN.o] at HCF;simp only at HCF;by_cases hin:(ph,pk)∈(l.take k).map fun q=>(q.h,q.k)
   ·rw [decide_eq_true hin] at HCF
    have HI:=I hin;clear hin HAN HSL;go_wp2_with fail
    refine HCF.o.mono ?_;rintro e w3 ⟨rfl,fB⟩;have lU:=I ((hb.alloc _).trans fB);clear fB;go_wp2;go_ret;exact⟨dQ (by rw [Qx.o,bC HI.o]),lU.o⟩
   ·rw [decide_eq_false hin] at HCF
    have HI:=I hin;clear hin HAN HSL;go_wp2_with fail
    refine HCF.o.mono ?_;rintro e w3 ⟨rfl,fB⟩;have lU:=I ((hb.alloc _).trans fB);clear fB;go_wp2;go_roundw
    case rel=>exact⟨k+1,V,by go_num,lU.o,by rw [Qx.o,aV HI.o];exact og.o⟩
    case measure=>simp [intOf];omega
  ·go_wp2
   go_ret;refine⟨dQ ?_,hb⟩;rw [hE,List.drop_of_length_le V];rfl
def win (lo hi:Nat) (w:World):CM:=fun a=>if lo<=a.block/\a.block<hi then w.cell? a else none
theorem QF (lo hi:Nat) (w:World):Sub (win lo hi w) w.cell?:=fun a v e=>by
 unfold win at e;split at e
 ·exact e
 ·cases e
theorem zI (W w:World):Sub (ov (fun _=>none) W w) (win W.heap.size w.heap.size w):=fun a v e=>by
 unfold ov at e;split at e
 ·cases e
 ·unfold win
  rw [bC ⟨V,eH w a e⟩];exact e
theorem j8 {lo hi:Nat} {w w':World} {row:Option Nat} (h:w.grownBy w' row) (hr:∀k,row=some k->k<lo∨hi<=k):Sub (win lo hi w) (win lo hi w'):=fun a v e=>by
 unfold win at e ⊢;split at e
 ·rename_i hc
  rw [bC hc,World.cell?_of_block (h.block a.block (eH w a e) (fun e=>by have:=hr a.block e.symm;omega))];exact e
 ·cases e
theorem jA {w w':World} (h:aK w w') (lo hi:Nat):Sub (win lo hi w) (win lo hi w'):=j8 (aO h none) (fun k e=>by cases e)
theorem qc {o:Oper} {y:Nat->Option Bool} {X E:Prop} {inst:Decidable (Region.wanted o y=true)} (hgd:Region.wanted o y=true) (h:X):@ite Prop (Region.wanted o y=true) inst X E:=by
 rw [bC hgd];exact h
theorem nC {lo hi:Nat} {w W:World} (h:w.heap.size<=lo):Sub (win lo hi W) (ov (fun _=>none) w W):=fun a v e=>by
 unfold win at e;split at e
 ·unfold ov
  rw [aV V];exact e
 ·cases e
theorem kN {lo hi B:Nat} {w w':World} (h:w.grownBy w' (some B)) (hb:B<lo∨hi<=B):Sub (win lo hi w) (win lo hi w'):=j8 h fun k e=>by
 obtain rfl:=bI e;exact hb
theorem cell1 {w:World} {B:Nat} {a:Value} {t:TypeId} (h:w.heap[B]? =some (.cells #[a] t (0,0))):w.cell? ⟨B,0,none⟩=some a:=by simp [World.cell?,h]
theorem TS {W0 w w':World} {v:Value} (hg:aK w w'):Sub (fr W0 w [v.ownBlock]) (rQ w' v.ownBlock):=fun a u e=>by
 unfold fr at e;split at e
 ·cases e
 ·rename_i hn
  have Y:some a.block≠v.ownBlock:=fun e=>hn (.inr (by simp [e]));unfold rQ;rw [aV Y];exact hg.sub _ _ e
theorem TT {w w':World} {row:Option Nat} (hg:w.grownBy w' row):Sub (rQ w row) w'.cell?:=fun a u e=>by
 unfold rQ at e;split at e
 ·cases e
 ·rename_i hn
  rw [World.cell?_of_block (hg.block a.block (eH w a e) hn)];exact e
theorem ZQ {v vr:Value} {h:Hs} {r:Rc} (w:World) (hv:Of Ty.hs w.cell? v h) (hr:Of Ty.rc w.cell? vr r) (hk:∀x∈h.bg,jg x.aH) (hkr:jg r.aH) (hm:(h.bg.length+1)*40<=140737488351232)
  (hp:∀x∈h.bg,x.aH.length*24<=140737488355328) (hpr:r.aH.length*24<=140737488355328):
  Calls Tryz.prog 117 #[v,vr] w fun e w'=>∃v',e=.returned v'/\Of Ty.hs (ov (fun _=>none) w w') v' (gW h r)/\aK w w':=by
 obtain⟨al,cl,ar,cr,ad,cd,rfl⟩:=hv.ig;obtain⟨ap,cp,rfl⟩:=hr.Yl;have hl:=(Of.oC hv).1;have hr3:Ty.rc.R w.cell? #[J r.aX,J r.aJ,U ap r.aH.length cp].toList r:=Of.cells hr;have HR:=I hr3;have dX:=I (fun(W:World) (hW:aK w W)=>E5 W (hl.mono hW.sub) V hp);have hkk:∀x∈h.bg++ [r],jg x.aH:=by
  intro x Z;rcases List.mem_append.1 Z with Z|Z
  ·exact hk x Z
  ·rw [List.mem_singleton.1 Z];exact hkr
 have hpp:∀x∈h.bg++ [r],x.aH.length*24<=140737488355328:=by
  intro x Z;rcases List.mem_append.1 Z with Z|Z
  ·exact hp x Z
  ·rw [List.mem_singleton.1 Z];exact hpr
 have CI:=I (fun(v':Value) (W:World) (hv':NT W.cell? v' (h.bg++ [r]))=>vN W hv' hkk (by simpa using hm) hpp);have HM:=I hm;have kH:Hid (aK w (((w.alloc (.cells #[U al h.bg.length cl,J h.aP.a,J h.aP.b,J h.aP.c,J h.aP.d,U ar h.ready.length cr,U ad h.done.length cd] 50)).alloc (.cells #[J r.aX,J r.aJ,U ap r.aH.length cp] 79)).alloc (.cells QE 50))):=I ((((aG w).alloc _).alloc _).alloc _);have zu:Hid ((((w.alloc (.cells #[U al h.bg.length cl,J h.aP.a,J h.aP.b,J h.aP.c,J h.aP.d,U ar h.ready.length cr,U ad h.done.length cd] 50)).alloc (.cells #[J r.aX,J r.aJ,U ap r.aH.length cp] 79)).alloc (.cells QE 50)).heap[w.heap.size]? =some (.cells #[U al h.bg.length cl,J h.aP.a,J h.aP.b,J h.aP.c,J h.aP.d,U ar h.ready.length cr,U ad h.done.length cd] 50 (0,0))):=I (bQ (bQ (bn _ _) _) _);have qF:Hid ((((w.alloc (.cells #[U al h.bg.length cl,J h.aP.a,J h.aP.b,J h.aP.c,J h.aP.d,U ar h.ready.length cr,U ad h.done.length cd] 50)).alloc (.cells #[J r.aX,J r.aJ,U ap r.aH.length cp] 79)).alloc (.cells QE 50)).heap[w.heap.size+1]? =some (.cells #[J r.aX,J r.aJ,U ap r.aH.length cp] 79 (0,0))):=I (bQ (by simpa using bn (w.alloc (.cells #[U al h.bg.length cl,J h.aP.a,J h.aP.b,J h.aP.c,J h.aP.d,U ar h.ready.length cr,U ad h.done.length cd] 50)) _) _);have Eb:Hid ((((w.alloc (.cells #[U al h.bg.length cl,J h.aP.a,J h.aP.b,J h.aP.c,J h.aP.d,U ar h.ready.length cr,U ad h.done.length cd] 50)).alloc (.cells #[J r.aX,J r.aJ,U ap r.aH.length cp] 79)).alloc (.cells QE 50)).heap[w.heap.size+1+1]? =some (.cells QE 50 (0,0))):=I (by simpa using bn ((w.alloc (.cells #[U al h.bg.length cl,J h.aP.a,J h.aP.b,J h.aP.c,J h.aP.d,U ar h.ready.length cr,U ad h.done.length cd] 50)).alloc (.cells #[J r.aX,J r.aJ,U ap r.aH.length cp] 79)) _);clear hv hr hk hkr hm hp hpr hl hr3 hkk hpp;go_enter Tryz.func117,Tryz.ntmps117;go_wp2;obtain⟨w3,ZR⟩:∃x:World,x=(((w.alloc (.cells #[U al h.bg.length cl,J h.aP.a,J h.aP.b,J h.aP.c,J h.aP.d,U ar h.ready.length cr,U ad h.done.length cd] 50)).alloc (.cells #[J r.aX,J r.aJ,U ap r.aH.length cp] 79)).alloc (.cells QE 50)):=⟨_,rfl⟩;rw [<-ZR] at kH zu qF Eb;rw [<-ZR];clear ZR;obtain⟨g0,-,-,-,-,-,-⟩:=bZ zu.o;obtain⟨g1,g2,g3⟩:=iI qF.o;have HS:Hid (∀W,aK w3 W->W.cell? ⟨w,0,none⟩=some (U al h.bg.length cl)/\W.cell? ⟨w+1,0,none⟩=some (J r.aX)/\W.cell? ⟨w+1,1,none⟩=some (J r.aJ)/\W.cell? ⟨w+1,2,none⟩=some (U ap r.aH.length cp)):=fun W hW=>⟨hW.sub _ _ g0,hW.sub _ _ g1,hW.sub _ _ g2,hW.sub _ _ g3⟩;have hz4:w.heap.size+1+1<w3:=(γ Eb.o);clear g0 g1 g2 g3;refine dH (fun w'=>w'.cell? ⟨w,0,none⟩=some (U al h.bg.length cl)/\w'.cell? ⟨w+1,0,none⟩=some (J r.aX)/\w'.cell? ⟨w+1,1,none⟩=some (J r.aJ)/\w'.cell? ⟨w+1,2,none⟩=some (U ap r.aH.length cp)) 7 κ ?_;obtain⟨wd,hWd⟩:=χ w3.drew;rw [<-hWd];have GD:aK w3 wd:=by rw [hWd];exact(aG _).drew
 have zD:w3.heap.size=wd.heap.size:=by rw [hWd];rfl
 clear hWd zD;refine qJ [0,1,3] 8 κ (fun _ _ _ _ _ h=>h) (HS.o _ GD) ?_;repeat (refine jY ?_;try simp only [bT])
 refine qK ?_;refine bP 2 4 κ rfl rfl ?_ ?_
 ·intro K M
  try simp only [dD]
  go_simp;go_at_call 71
  refine(dX.o _ (kH.o.trans GD)).mono ?_;rintro e wo ⟨vo,rfl,ho,yW⟩;obtain⟨ao,co,rfl⟩:=ho.form;have HO:=I ho;have GO:=GD.trans yW;have vw:=I yW;have ZO:Hid (w3.heap.size<=(wd).heap.size):=I GD.size;clear ho yW;refine ψ M (fun _=>HS.o _ GO) ?_;try simp only [bT]
  refine bO 4 κ rfl ?_;intro K M;try simp only [dD]
  go_simp;refine ψ M (fun _=>HS.o _ (GO.alloc _)) ?_;try simp only [bT]
  refine bO 5 κ rfl ?_;intro K M;refine aY rfl ?_;try simp only [dD]
  have CK:Hid (Sub w.cell? (rQ (wo.alloc (.cells #[J r.aX,J r.aJ,U ap r.aH.length cp] 79)) (Value.slice ao h.bg.length co).ownBlock)):=I (KA (kH.o.trans (GO.alloc _)) fun q O=>by have:=(HO.o.lt q O).1;have:=ZO.o;have:=kH.o.size;omega);refine fP (c:=(rQ (wo.alloc (.cells #[J r.aX,J r.aJ,U ap r.aH.length cp] 79)) (Value.slice ao h.bg.length co).ownBlock)) (base:=wd.heap.size) (l:=h.bg) (m:=[r]) mX rfl jc ε (.tmp 7) (.tmp 9) rfl rfl ((HO.o.mono (TS ((aG wo).alloc _))).grow ((aG wo).alloc _)) rfl (Src.dU (T:=Ty.rc) (cs:=#[J r.aX,J r.aJ,U ap r.aH.length cp]) (Ty.rc.mono CK.o HR.o) _ _ rfl) (by have:=HM.o;simp;omega) (by have:=vw.o.size;(try simp at this ⊢);omega) ?_;intro a5 c5 w5 mW uG iY;have Gp:=I (mW.sl ε (TT uG));have G5:aK w3 w5:=dI (w0:=w3) (GO.alloc _) uG (fun q O=>by have:=(HO.o.lt q O).1;have:=ZO.o;omega);clear mW uG iY;refine ψ M (fun _=>HS.o _ G5) ?_;try simp only [bT]
  refine bO 6 κ rfl ?_;intro K M;try simp only [dD]
  go_simp;go_at_call 38
  refine(CI.o _ w5 Gp.o).mono ?_;rintro e w6 ⟨vx,rfl,hX,nS⟩;change Of Ty.hs _ _ (gW h r) at hX;obtain⟨x,Z⟩:=χ (gW h r);rw [<-Z] at hX;have HXE:=I Z;clear Z;obtain⟨iC,iD,oD,oG,uS,uT,rfl⟩:=hX.ig;have HX:=I hX;have G6:=G5.trans nS;clear hX nS;refine ψ M (fun _=>HS.o _ G6) ?_;try simp only [bT]
  refine bO 7 κ rfl ?_;intro K M;refine aY rfl ?_;try simp only [dD]
  refine b_ (.tmp 4) (.tmp 11) rfl rfl rfl (aF Eb.o G6) fO rfl rfl ?_;intro w7 r7 g7;refine ψ M (fun h=>absurd rfl h) ?_;try simp only [bT]
  refine bW κ ?_;obtain⟨p0,p1,p2,p3,p4,p5,p6⟩:=bZ r7;go_wp2;refine dw (v:=.agg #[U iC x.bg.length iD,J x.aP.a,J x.aP.b,J x.aP.c,J x.aP.d,U oD x.ready.length oG,U uS x.done.length uT]) (by simp [results,Tryz.results117,go_sem,p0,p1,p2,p3,p4,p5,p6]) rfl ?_;rw [<-HXE.o];refine⟨_,rfl,HX.o.mono fun a u e=>?_,(kH.o.trans G6).grown g7 (fun k hk=>by simp at hk;omega)⟩;have z1:=G5.size;have z2:=kH.o.size;unfold ov at e ⊢;split at e
  ·cases e
  ·rw [aV V,fM g7 (eH w6 a e) V];exact e
 ·intro K M
  try simp only [dD]
  go_simp;refine ψ M (fun _=>HS.o _ (GD.alloc _)) ?_;try simp only [bT]
  refine bO 2 κ rfl ?_;intro K M;try simp only [dD]
  go_simp;go_at_call 71
  refine(dX.o _ (kH.o.trans (GD.alloc _))).mono ?_;rintro e wo ⟨vo,rfl,ho,yW⟩;obtain⟨ao,co,rfl⟩:=ho.form;have HO:=I ho;have GO:=(GD.alloc _).trans yW;have vw:=I yW;have ZO:Hid (w3.heap.size<=((wd.alloc (.cells #[J r.aX,J r.aJ,U ap r.aH.length cp] 79))).heap.size):=I (GD.alloc _).size;clear ho yW;refine ψ M (fun _=>HS.o _ GO) ?_;try simp only [bT]
  refine bO 5 κ rfl ?_;intro K M;refine aY rfl ?_;try simp only [dD]
  have CK:Hid (Sub w.cell? (rQ wo (Value.slice ao h.bg.length co).ownBlock)):=I (KA (kH.o.trans GO) fun q O=>by have:=(HO.o.lt q O).1;have:=ZO.o;have:=kH.o.size;omega);refine fP (c:=(rQ wo (Value.slice ao h.bg.length co).ownBlock)) (base:=(wd.alloc (.cells #[J r.aX,J r.aJ,U ap r.aH.length cp] 79)).heap.size) (l:=h.bg) (m:=[r]) mX rfl jc ε (.tmp 7) (.tmp 9) rfl rfl (HO.o.mono (TS (aG wo))) rfl ((Src.dU (T:=Ty.rc) (cs:=#[J r.aX,J r.aJ,U ap r.aH.length cp]) (Ty.rc.mono CK.o HR.o) wd 79 rfl).grow vw.o) (by have:=HM.o;simp;omega) (by have:=vw.o.size;(try simp at this ⊢);omega) ?_;intro a5 c5 w5 mW uG iY;have Gp:=I (mW.sl ε (TT uG));have G5:aK w3 w5:=dI (w0:=w3) GO uG (fun q O=>by have:=(HO.o.lt q O).1;have:=ZO.o;omega);clear mW uG iY;refine ψ M (fun _=>HS.o _ G5) ?_;try simp only [bT]
  refine bO 6 κ rfl ?_;intro K M;try simp only [dD]
  go_simp;go_at_call 38
  refine(CI.o _ w5 Gp.o).mono ?_;rintro e w6 ⟨vx,rfl,hX,nS⟩;change Of Ty.hs _ _ (gW h r) at hX;obtain⟨x,Z⟩:=χ (gW h r);rw [<-Z] at hX;have HXE:=I Z;clear Z;obtain⟨iC,iD,oD,oG,uS,uT,rfl⟩:=hX.ig;have HX:=I hX;have G6:=G5.trans nS;clear hX nS;refine ψ M (fun _=>HS.o _ G6) ?_;try simp only [bT]
  refine bO 7 κ rfl ?_;intro K M;refine aY rfl ?_;try simp only [dD]
  refine b_ (.tmp 4) (.tmp 11) rfl rfl rfl (aF Eb.o G6) fO rfl rfl ?_;intro w7 r7 g7;refine ψ M (fun h=>absurd rfl h) ?_;try simp only [bT]
  refine bW κ ?_;obtain⟨p0,p1,p2,p3,p4,p5,p6⟩:=bZ r7;go_wp2;refine dw (v:=.agg #[U iC x.bg.length iD,J x.aP.a,J x.aP.b,J x.aP.c,J x.aP.d,U oD x.ready.length oG,U uS x.done.length uT]) (by simp [results,Tryz.results117,go_sem,p0,p1,p2,p3,p4,p5,p6]) rfl ?_;rw [<-HXE.o];refine⟨_,rfl,HX.o.mono fun a u e=>?_,(kH.o.trans G6).grown g7 (fun k hk=>by simp at hk;omega)⟩;have z1:=G5.size;have z2:=kH.o.size;unfold ov at e ⊢;split at e
  ·cases e
  ·rw [aV V,fM g7 (eH w6 a e) V];exact e
theorem TU (h:Hs) (r:Rc):(gW h r).bg=h.bg++ [r]:=Cj _
theorem Lj:∀(l:List Rc) (h:Hd) (x:List Rc),(l.foldl fF { h with bg:=x })={ (l.foldl fF h) with bg:=x }
 | [],_,_=>rfl
 |r::l,h,x=>by
  rw [List.foldl_cons,List.foldl_cons,<-Lj l];congr 1;unfold fF;split
  ·rfl
  ·split
   ·rfl
   ·split<;>rfl
theorem rZ (l:List Rc) (r:Rc):fA (l++ [r])={ (fF (fA l) r) with bg:=l++ [r] }:=by
 unfold fA;rw [List.foldl_append];have:=Lj l ⟨l,0,0,[]⟩ (l++ [r]);simp only at this;rw [this];show fF _ r=_;unfold fF;split
 ·rfl
 ·split
  ·rfl
  ·split<;>rfl
theorem Ec (l:List Rc):(fA l).next=0/\(fA l).bg=l:=by
 have:∀(k:List Rc) (h:Hd),(k.foldl fF h).next=h.next/\(k.foldl fF h).bg=h.bg:=by
  intro k;induction k with
  |nil=>intro h;exact⟨rfl,rfl⟩
  |cons r k ih=>
   intro h;rw [List.foldl_cons,(ih _).1,(ih _).2];unfold fF;split
   ·exact⟨rfl,rfl⟩
   ·split
    ·exact⟨rfl,rfl⟩
    ·split<;>exact⟨rfl,rfl⟩
 exact this l _
theorem qR (l:List Rc) (r:Rc):bH (l++ [r])=if r.aX=5 then bH l++ [⟨r.aJ,r.aH⟩] else bH l:=by
 unfold bH;rw [List.filter_append,List.map_append];split
 ·rename_i h
  rw [List.filter_cons_of_pos (by simp [h])];rfl
 ·rename_i h
  rw [List.filter_cons_of_neg (by simp [h])];simp
theorem J4 (l:List Rc):(bH l).length<=l.length:=by
 unfold bH;rw [List.length_map];exact List.length_filter_le _ _
theorem QG {v:Value} {l:List Rc} (w:World) (hv:NT w.cell? v l) (hm:l.length*40<=140737488355328) (hp:∀r∈l,r.aH.length*24<=140737488355328):
  Calls Tryz.prog 102 #[v] w fun e w'=>∃v',e=.returned v'/\bK Ty.rd (fr w w' [v'.ownBlock]) w' w.heap.size 53 v' (bH l)/\aK w w':=by
 obtain⟨a,cap,rfl,N,Y,-,hel⟩:=hv;unfold maxLen at Y;have HM:=I hm;have HP:=I hp;clear hm hp;go_enter Tryz.func102,Tryz.ntmps102;go_wp2;go_loopw [3,8] (fun s3 i wr=>∃k:Nat,k<=l.length/\i=J k/\aK w wr/\bK Ty.rd (fr w wr [s3.ownBlock]) wr w.heap.size 53 s3 (bH (l.take k))) (fun _ i _=>l.length - (intOf i).toNat)
 case atStart=>exact⟨0,V,rfl,aG _,bK.nil _ _ _ _ _⟩
 case round=>
  obtain⟨k,hk',rfl,hb,bU⟩:=hrel;by_cases hlt:k<l.length
  ·obtain⟨b,o,vp,rfl,c0,c1,c2,i0,i1,hP⟩:=NT.at_ hel k hlt
   obtain⟨ap,cp,rfl,-⟩:=id hP;replace c0:=hb.sub _ _ c0;replace c1:=hb.sub _ _ c1;replace c2:=hb.sub _ _ c2;have htk:bH (l.take (k+1))=if l[k].aX=5 then bH (l.take k)++ [⟨l[k].aJ,l[k].aH⟩] else bH (l.take k):=by rw [List.take_succ_eq_append_getElem hlt,qR]
   have nK:=I htk;have hpl:=HP.o l[k] (List.getElem_mem _);have hok:=pX.ok (c:=w.cell?) hP;have Je:=I (fun(W:World) (hW:aK wr W)=>sZ W (hP.mono (hb.trans hW).sub) hpl);have hlk:(bH (l.take k)).length<=l.length:=Nat.le_trans (J4 _) (by simp;omega);have dX:=I bU;have HI:=I (And.intro i0 (And.intro i1 hok));obtain⟨av,cv,rfl⟩:=bU.form;have CB:=I hlk;clear hel hP htk hpl hok bU i0 i1 hlk;generalize l[k]=r at*;generalize bH (l.take k)=ds at*;by_cases h5:r.aX=5
   ·have b5:(r.aX==5)=true:=by simp [h5]
    have Jo:=I h5;clear h5;go_wp2;obtain⟨w2,ZR⟩:=χ (wr.alloc (.cells #[J r.aX,J r.aJ,U ap r.aH.length cp] 79));rw [<-ZR];have yh:Hid (aK wr w2):=I (by rw [ZR];exact(aG wr).alloc _);have r5:w2.heap[wr.heap.size]? =some (.cells #[J r.aX,J r.aJ,U ap r.aH.length cp] 79 (0,0)):=by rw [ZR];exact bn _ _
    clear ZR;obtain⟨-,q1,q2⟩:=iI r5;have l5:wr.heap.size<w2:=(γ r5);have n5:(Value.slice av ds.length cv).ownBlock≠some wr.heap.size:=fun e=>by have:=(dX.o.lt _ e).2;omega
    have HS:Hid (∀W,w2.grownBy W (Value.slice av ds.length cv).ownBlock->W.cell? ⟨wr,1,none⟩=some (J r.aJ)/\W.cell? ⟨wr,2,none⟩=some (U ap r.aH.length cp)):=fun W hW=>⟨by rw [World.cell?_of_block (hW.block wr.heap.size l5 (fun e=>n5 e.symm))];exact q1,by rw [World.cell?_of_block (hW.block wr.heap.size l5 (fun e=>n5 e.symm))];exact q2⟩;clear q1 q2 r5;refine dH (fun w'=>w'.cell? ⟨wr,1,none⟩=some (J r.aJ)/\w'.cell? ⟨wr,2,none⟩=some (U ap r.aH.length cp)) 9 κ ?_;obtain⟨wd,hWd⟩:=χ w2.drew;rw [<-hWd];have GD:aK w2 wd:=by rw [hWd];exact(aG _).drew
    have zD:w2.heap.size=wd.heap.size:=by rw [hWd];rfl
    clear hWd zD;refine qJ [0,1,2,3,4] 8 κ (fun _ _ _ _ _ h=>h) (HS.o _ (aO GD _)) ?_;repeat (refine jY ?_;try simp only [bT])
    refine qK ?_;refine bO 5 κ rfl ?_;intro K M;try simp only [dD]
    go_simp;go_at_call 73
    refine(Je.o _ (yh.o.trans GD)).mono ?_;rintro e w3 ⟨v3,rfl,mZ,fB⟩;obtain⟨a3,c3,rfl⟩:=dG mZ;have n_:=I mZ;have G3:=GD.trans fB;clear mZ fB;refine ψ M (fun _=>HS.o _ (aO G3 _)) ?_;try simp only [bT]
    refine bO 6 κ rfl ?_;intro K M;try simp only [dD]
    go_simp;refine ψ M (fun _=>HS.o _ (aO G3 _)) ?_;try simp only [bT]
    refine bO 7 κ rfl ?_;intro K M;try simp only [dD]
    go_simp;refine ψ M (fun _=>HS.o _ (aO (G3.alloc _) _)) ?_;try simp only [bT]
    refine bO 8 κ rfl ?_;intro K M;refine aY rfl ?_;try simp only [dD]
    have fL:Ty.rd.R (fr w (w3.alloc (.cells #[J r.aJ,U a3 r.aH.length c3] 53)) [(Value.slice av ds.length cv).ownBlock]) (#[J r.aJ,U a3 r.aH.length c3]:Array Value).toList ⟨r.aJ,r.aH⟩:=by
     refine⟨_,rfl,HI.o.2.1,KZ (w1:=wd) ((n_.o).kept (aO ((aG _).alloc _) none) (by cases (Value.slice a3 r.aH.length c3).ownBlock<;>simp)) HI.o.2.2 (by have:=hb.size;have:=yh.o.size;have:=GD.size;omega) fun q O=>?_⟩;have z1:=dX.o.lt;have z4:=yh.o.size;have z6:=GD.size;simp only [List.mem_cons,List.not_mem_nil,or_false];exact fun e=>by have:=(z1 q e.symm).2;omega
    have ZM:=I fL;clear fL;refine fP (c:=(fr w (w3.alloc (.cells #[J r.aJ,U a3 r.aH.length c3] 53)) [(Value.slice av ds.length cv).ownBlock])) (base:=w.heap.size) (l:=ds) (m:=[⟨r.aJ,r.aH⟩]) AZ rfl zo ε (.tmp 15) (.tmp 22) rfl rfl ((dX.o.mono (fH (yh.o.trans (G3.alloc _)))).grow (yh.o.trans (G3.alloc _))) rfl (Src.dU (T:=Ty.rd) (cs:=#[J r.aJ,U a3 r.aH.length c3]) ZM.o _ _ rfl) (by have:=HM.o;have:=CB.o;simp;omega) (by have:=hb.size;have:=yh.o.size;have:=G3.size;(try simp);omega) ?_;intro a9 c9 w9 gX fV iE;have jE:=I (gX.mono (uy fV (iE.imp_right fun⟨g,e,hge⟩=>⟨g,e,by simpa using hge⟩)));have SH:=I (bD (aO (G3.alloc _) _) fV);have kR:Hid (aK w w9):=I (dI (w0:=w) (hb.trans (yh.o.trans (G3.alloc _))) fV (fun q O=>(dX.o.lt q O).1));clear gX fV iE;refine ψ M (fun _=>HS.o _ SH.o) ?_;try simp only [bT]
    refine bO 9 κ rfl ?_;intro K M;try simp only [dD]
    go_simp;refine ψ M (fun h=>absurd rfl h) ?_;try simp only [bT]
    refine bW κ ?_;go_wp2;go_roundw
    case rel=>exact⟨k+1,V,by go_num,kR.o,by rw [nK.o,bC Jo.o];exact jE.o⟩
    case measure=>simp [intOf];omega
   ·have b5:(r.aX==5)=false:=by simp [h5]
    have Jo:=I h5;clear h5;go_wp2;go_roundw
    case rel=>exact⟨k+1,V,by go_num,hb.alloc _,by rw [nK.o,aV Jo.o];exact(dX.o.mono (fH ((aG _).alloc _))).grow ((aG _).alloc _)⟩
    case measure=>simp [intOf];omega
  ·clear hel
   go_wp2;go_ret;have h9:=bU;rw [eG V] at h9;exact⟨_,rfl,h9,hb⟩
theorem yG {c:CM} {w:World} {base:Nat} {v:Value} {l:List Opn} {F:FuncId} {caps:Array Value} {p:Opn->Bool} (hc:Sub c (rQ w v.ownBlock)) (ho:bK Ty.bG c w base 58 v l) (hp:Hu Tryz.prog Ty.bG qH w v.ownBlock F caps l p):
  Calls Tryz.prog 87 #[v,.func (.func F) #[] caps] w fun e w'=>∃v',e=.returned v'/\bK Ty.bG c w' base 58 v' (l.filter fun x=>!p x)/\w.grownBy w' v.ownBlock/\v'.ownBlock=v.ownBlock:=by
 have hIdx:=Dy w (bK.sl ε (hc.trans (EW _ _)) ho) hp.tells;cases hfi:l.findIdx? p with
 |none=>
  have Z:idxOf p l= -1:=by rw [idxOf,hfi]
  have HF:=I (filter_none hfi);rw [Z] at hIdx;have HI:=I hIdx;have HO:=I ho;clear hIdx Z hfi ho hp;go_enter Tryz.func87,Tryz.ntmps87;go_wp2_with (go_at_call 118;refine HI.o.mono ?_;rintro e w1 ⟨rfl,dZ⟩)
  go_ret;exact⟨_,rfl,by rw [HF.o];exact HO.o.grow dZ,aO dZ _,rfl⟩
 |some k=>
  have Z:idxOf p l=k:=by rw [idxOf,hfi]
  rw [Z] at hIdx;rw [List.findIdx?_eq_some_iff_getElem] at hfi;obtain⟨hk,hpk,Fh⟩:=hfi;obtain⟨css,bU,hcl0,hR⟩:=ho;have hcl:=nN hcl0 hR;obtain⟨hl,⟨rfl,hn⟩|⟨g,cap,cur,rfl,hb,hg,hnc,hcm,hcs,htake⟩⟩:=id bU
  ·omega
  have hbl:(Value.slice (some (⟨g,0,none⟩:Addr)) l.length cap).ownBlock=some g:=rfl;rw [hbl] at hp hc ⊢;have LO:=I hc;clear hc;have hf0:(l.take (k+1)).filter (fun x=>!p x)=l.take k:=by
   rw [oU _ hk,hpk];simp only [Bool.not_true,Bool.false_eq_true,if_false,List.append_nil];rw [List.filter_eq_self];intro x Z;obtain⟨j,hj,rfl⟩:=List.mem_iff_getElem.1 Z;have:=Fh j (by simp at hj;omega);simpa using this
  have hkne:((k:Int)== -1)=false:=by rw [beq_eq_false_iff_ne];omega
  have hcm':cap<=9223372036854775807:=by unfold maxLen at hcm;omega
  have HI:=I hIdx;have HO:=I bU;have HR:=I hR;have HP:=I hp.say;have eg:=hp.ent;have HF:=I hf0;have HC:=I hcl;have Hw:=I hcl0;clear hIdx bU hR hp hf0 hcl hcl0 hl hg htake hcs hb hcm Fh hpk Z;go_enter Tryz.func87,Tryz.ntmps87;go_wp2_with (go_at_call 118;refine HI.o.mono ?_;rintro e w1 ⟨rfl,dZ⟩)
  go_loopw [5,6,7] (fun si sj _ wr=>∃(i j:Nat) (nY:List (List Value)),i<j/\j<=l.length/\si=J i/\sj=J j/\w.grownBy wr (some g)/\nY.length=l.length/\(∀cs∈nY,cs.length=4)/\
    wr.ownsRow base 58 4 (U (some ⟨g,0,none⟩) l.length cap) l.length nY.flatten/\nY.drop j=css.drop j/\((l.take j).filter fun x=>!p x).length=i/\
    ∀(a:Nat) (cs:List Value) (x:Opn),a<i->nY[a]? =some cs->((l.take j).filter fun x=>!p x)[a]? =some x->Ty.bG.R c cs x) (fun _ sj _ _=>l.length - (intOf sj).toNat)
  case atStart=>
   refine⟨k,k+1,css,V,V,rfl,by go_num,aO dZ _,Hw.o,HC.o,HO.o.kept (aO dZ none) (by right;simp [Value.ownBlock]),rfl,by rw [HF.o];simp;omega,fun a cs x ha N Y=>?_⟩;rw [HF.o,List.getElem?_take,bC ha] at Y;exact HR.o a cs x N Y
  case round=>
   obtain⟨i,j,nY,hij,hj',rfl,rfl,hgr,hl',hcs',hown',hdrop,hfl,hRi⟩:=hrel;have dX:=I hown';have i8:=I hcs';have HD:=I hdrop;have Qs:=I hfl;have QR:=I hRi;have KJ:=I hl';have Fj:=I hgr;clear hown' hcs' hdrop hfl hRi hl' hgr dZ;by_cases hlt:j<l.length
   ·have hjc:css[j]? =some css[j]!:=by rw [dM (by rw [Hw.o];exact hlt),getElem!_pos css j (by rw [Hw.o];exact hlt)]
    obtain⟨v1,v2,i_,hRR⟩:=HR.o j _ l[j] hjc (dM hlt);obtain⟨sa1,sc1,rfl,-⟩:=id hRR.2.1;obtain⟨sa2,sc2,rfl,-⟩:=id hRR.2.2;have WM:nY[j]? =some css[j]!:=by
     have:(nY.drop j)[0]? =(css.drop j)[0]?:=by rw [HD.o]
     rw [List.getElem?_drop,List.getElem?_drop,Nat.add_zero,hjc] at this;exact this
    rw [i_] at hjc WM;have hcj:∀(t:Nat) (u:Value),([J l[j].aJ,.slice sa1 l[j].aH.length sc1,.bool l[j].dec,.slice sa2 l[j].aZ.length sc2])[t]? =some u->t<4->wr.cell? ⟨g,j*4+t,none⟩=some u:=by
     intro t u hu ht;rw [dX.o.cellAt _ V,lI (size:=4) ε nY i8.o,show(j*4+t)/4=j by omega,show(j*4+t) % 4=t by omega,WM];exact hu
    have hci:∀(t:Nat),t<4->∃u,wr.cell? ⟨g,i*4+t,none⟩=some u:=by
     intro t ht;exact⟨_,by rw [dX.o.cellAt _ V];exact dM (by rw [dX.o.1];omega)⟩
    have hfz:∀o,wr.frozen? ⟨g,o,none⟩=false:=dX.o.frozenAt;have hgl:g<wr.heap.size:=(dX.o.lt g rfl).2;have c0:wr.cell? ⟨g,j*4,none⟩=some (J l[j].aJ):=hcj 0 _ rfl ε;have c1:wr.cell? ⟨g,j*4+1,none⟩=some (.slice sa1 l[j].aH.length sc1):=hcj 1 _ rfl ε;have c2:wr.cell? ⟨g,j*4+2,none⟩=some (.bool l[j].dec):=hcj 2 _ rfl ε;have c3:wr.cell? ⟨g,j*4+3,none⟩=some (.slice sa2 l[j].aZ.length sc2):=hcj 3 _ rfl ε;obtain⟨u0,hu0⟩:∃u,wr.cell? ⟨g,i*4,none⟩=some u:=hci 0 ε;obtain⟨u1,hu1⟩:∃u,wr.cell? ⟨g,i*4+1,none⟩=some u:=hci 1 ε;obtain⟨u2,hu2⟩:∃u,wr.cell? ⟨g,i*4+2,none⟩=some u:=hci 2 ε;obtain⟨u3,hu3⟩:∃u,wr.cell? ⟨g,i*4+3,none⟩=some u:=hci 3 ε;have Q0:Ty.bG.R c [J l[j].aJ,.slice sa1 l[j].aH.length sc1,.bool l[j].dec,.slice sa2 l[j].aZ.length sc2] l[j]:=⟨_,_,rfl,hRR⟩;have jN:=fun(W:World) (hW:aK wr W)=>HP.o W _ l[j] (bD Fj.o (aO hW _)) (List.getElem_mem _) (Ty.bG.mono (Sub.trans LO.o (Sub.trans (zl (bD Fj.o (aO hW _))) (EW _ _))) Q0);have hstep:=oU (fun x=>!p x) hlt;have HS:=I jN;have HST:=I hstep;have HRW:=I Q0;clear jN hstep hcj hci Q0 hRR hjc WM i_;simp only [qH] at HS;cases O:p l[j]
    ·rw [O] at HS HST
     generalize l[j]=q at*;go_wp2_with (go_at_fn F;refine(HS.o _ ((aG wr).alloc _)).mono ?_;rintro e w1 ⟨rfl,dZ⟩;have e0:=dZ.sub ⟨wr,0,none⟩ _ (World.cell?_alloc_new wr _ _ 0);have e1:=dZ.sub ⟨wr,1,none⟩ _ (World.cell?_alloc_new wr _ _ 1);have e2:=dZ.sub ⟨wr,2,none⟩ _ (World.cell?_alloc_new wr _ _ 2);have e3:=dZ.sub ⟨wr,3,none⟩ _ (World.cell?_alloc_new wr _ _ 3);simp at e0 e1 e2 e3;have d0:=(((aG wr).alloc _).trans dZ).sub _ _ hu0;have d1:=(((aG wr).alloc _).trans dZ).sub _ _ hu1;have d2:=(((aG wr).alloc _).trans dZ).sub _ _ hu2;have d3:=(((aG wr).alloc _).trans dZ).sub _ _ hu3;have df:∀o,w1.frozen? ⟨g,o,none⟩=false:=fun o=>((((aG wr).alloc _).trans dZ).frozen (p:=⟨g,o,none⟩) hgl).trans (hfz o);have dz:=dZ.size;have oW:=I dZ;clear dZ)
     obtain⟨hset,hsg⟩:=Tc (cs:=[J q.aJ,U sa1 q.aH.length sc1,.bool q.dec,U sa2 q.aZ.length sc2]) (i:=i) i8.o (dX.o.kept (aO (((aG wr).alloc _).trans oW.o) none) (by right;simp [Value.ownBlock])) (by rw [KJ.o];omega) rfl;have RC:=I hset;have VZ:=I hsg;clear hset hsg;go_roundw
     case rel=>
      refine⟨i+1,j+1,nY.set i [J q.aJ,U sa1 q.aH.length sc1,.bool q.dec,U sa2 q.aZ.length sc2],V,V,by go_num,by go_num,bD (bD Fj.o (aO (((aG wr).alloc _).trans oW.o) _)) VZ.o,by simpa using KJ.o,?_,RC.o,?_,?_,?_⟩
      ·intro cs hc
       rcases List.mem_or_eq_of_mem_set hc with h|rfl
       ·exact i8.o cs h
       ·rfl
      ·rw [List.drop_set_of_lt V]
       have:(nY.drop j).drop 1=(css.drop j).drop 1:=by rw [HD.o]
       simpa [List.drop_drop] using this
      ·rw [HST.o];simp [Qs.o]
      ·intro a cs x ha N Y
       rw [HST.o] at Y;simp only [Bool.not_false,if_true] at Y;by_cases hai:a<i
       ·rw [List.getElem?_set_ne V] at N
        rw [List.getElem?_append_left (by rw [Qs.o];exact hai)] at Y;exact QR.o a cs x hai N Y
       ·obtain rfl:a=i:=by omega
        rw [List.getElem?_append_right (by rw [Qs.o];omega),Qs.o,Nat.sub_self] at Y;rw [List.getElem?_set_self (by rw [KJ.o];omega)] at N;obtain rfl:=bI N;obtain rfl:=bI Y;exact HRW.o
     case measure=>simp [intOf];omega
    ·rw [O] at HS HST
     generalize l[j]=q at*;go_wp2_with (go_at_fn F;refine(HS.o _ ((aG wr).alloc _)).mono ?_;rintro e w1 ⟨rfl,dZ⟩)
     have oW:=I dZ;clear dZ;go_roundw
     case rel=>
      refine⟨i,j+1,nY,V,V,rfl,by go_num,bD Fj.o (aO (((aG wr).alloc _).trans oW.o) _),KJ.o,i8.o,dX.o.kept (aO (((aG wr).alloc _).trans oW.o) none) (by right;simp [Value.ownBlock]),?_,?_,?_⟩
      ·have:(nY.drop j).drop 1=(css.drop j).drop 1:=by rw [HD.o]
       simpa [List.drop_drop] using this
      ·rw [HST.o];simp [Qs.o]
      ·intro a cs x ha N Y
       rw [HST.o] at Y;simp only [Bool.not_true,Bool.false_eq_true,if_false,List.append_nil] at Y;exact QR.o a cs x ha N Y
     case measure=>simp [intOf];omega
   ·obtain rfl:j=l.length:=by omega
    have hic:i<=cap:=by omega
    obtain⟨w2,hcl,pI,yh⟩:=yA kF 0 dX.o i (l.length - i) (cap - i) (some ⟨g,i*4,none⟩) V (fun _=>rfl) V;have Je:=I hcl;have Qm:=I pI;have Og:=I yh;clear hcl pI yh eg;have hil:i<cap:=by omega
    have A2t:i<=l.length:=by omega
    go_wp2_with fail
    rw [Je.o];go_wp2;go_ret;refine⟨_,rfl,?_,bD Fj.o Og.o,rfl⟩;have hfin:(l.filter fun x=>!p x).length=i:=by have:=Qs.o;rw [eG (Nat.le_refl _)] at this;exact this
    refine⟨nY.take i,?_,by rw [List.length_take,KJ.o,hfin];omega,fun a cs x N Y=>?_⟩
    ·have h:=Qm.o
     rw [ng nY i i8.o] at h;rw [hfin];exact h
    ·rw [List.getElem?_take] at N
     split at N
     ·rename_i hai
      have h3:=QR.o a cs x hai N (by rw [eG (Nat.le_refl _)];exact Y);exact h3
     ·cases N
theorem eY:(Tryz.prog.info? 29).map (·.size)=some 4:=by kernel_rfl
abbrev TV:Array Value:=#[(),J 0,J 0,()]
def Hy (w w1 wr:World) (vl vo:Value):CM:=fr w wr [vl.ownBlock,vo.ownBlock,some w.heap.size,some w1.heap.size]
structure Dp (w w1 wr:World) (vl vo:Value) (l:List Rc) (h:Hd):Prop where
 res:wr.heap[w.heap.size]? =some (.cells TV 29 (0,0))
 row:wr.heap[w1.heap.size]? =some (.cells #[vl,J h.aW,J h.next,vo] 29 (0,0))
 bg:bK Ty.rc (Hy w w1 wr vl vo) wr (w.heap.size+1) 79 vl l
 bG:bK Ty.bG (Hy w w1 wr vl vo) wr (w1.heap.size+1) 58 vo h.bG
 grow:aK w wr
 size:w1.heap.size+1<=wr.heap.size
 lt:∀k,vl.ownBlock=some k->k<w1.heap.size
 w1:w.heap.size+1<=w1.heap.size
structure ZT (w1 wr w':World) (vo oH:Value):Prop where
 size:wr.heap.size<=w'.heap.size
 block:∀k,k<wr.heap.size->k≠w1.heap.size->vo.ownBlock≠some k->w'.heap[k]? =wr.heap[k]?
 bG:oH.ownBlock=vo.ownBlock∨∃g,oH.ownBlock=some g/\wr.heap.size<=g
theorem ZT.mem {w w1 wr w':World} {vl vo oH:Value} (c:ZT w1 wr w' vo oH):Sub (Hy w w1 wr vl vo) (Hy w w1 w' vl oH):=by
 refine jV fun k hk _ Z=>?_;simp only [List.mem_cons,List.not_mem_nil,or_false,not_or] at Z ⊢;obtain⟨x1,x2,x4,x5⟩:=Z;refine⟨c.block k hk (fun e=>x5 (by rw [e])) (fun e=>x2 e.symm),x1,?_,x4,x5⟩;rcases c.bG with e|⟨g,e,hg⟩
 ·rw [e];exact x2
 ·rw [e];simp;omega
theorem Dp.put {w w1 wr w':World} {vl vo oH:Value} {l:List Rc} {h h':Hd} (b:Dp w w1 wr vl vo l h) (c:ZT w1 wr w' vo oH) (hG:aK w w')
  (row:w'.heap[w1.heap.size]? =some (.cells #[vl,J h'.aW,J h'.next,oH] 29 (0,0))) (bG:bK Ty.bG (Hy w w1 w' vl oH) w' (w1.heap.size+1) 58 oH h'.bG):Dp w w1 w' vl oH l h' where
 res:=by
  have N:=b.w1;have Y:=b.size;rw [c.block _ V V (fun e=>by have:=(b.bG.lt _ e).1;omega)];exact b.res
 row:=row
 bg:=by
  refine(b.bg.mono c.mem).block fun k hk=>?_;have N:=b.lt k hk;have Y:=b.size;exact c.block k V V (fun e=>by have:=(b.bG.lt _ e).1;omega)
 bG:=bG
 grow:=hG
 size:=Nat.le_trans b.size c.size
 lt:=b.lt
 w1:=b.w1
theorem Dp.dL {w w1 wr w':World} {vl vo:Value} {l:List Rc} {h:Hd} (b:Dp w w1 wr vl vo l h) (hg:aK wr w'):Dp w w1 w' vl vo l h:=
 have c:ZT w1 wr w' vo vo:=⟨hg.size,fun k hk _ _=>hg.block k hk,.inl rfl⟩;b.put c (b.grow.trans hg) (aF b.row hg) ((b.bG.mono c.mem).grow hg)
theorem Ll {w:World} {B:Nat} {a b c d:Value} {t:TypeId} (h:w.heap[B]? =some (.cells #[a,b,c,d] t (0,0))) (u:Value):(w.setCell ⟨B,3,none⟩ u).heap[B]? =some (.cells #[a,b,c,u] t (0,0)):=by
 simp only [World.setCell,Array.getElem?_modify,h];simp
theorem Lm {w:World} {B:Nat} {a b c d:Value} {t:TypeId} (h:w.heap[B]? =some (.cells #[a,b,c,d] t (0,0))) (u:Value):(w.setCell ⟨B,1,none⟩ u).heap[B]? =some (.cells #[a,u,c,d] t (0,0)):=by
 simp only [World.setCell,Array.getElem?_modify,h];simp
theorem Dp.TW {w w1 wr wq w':World} {vl vo oH:Value} {l:List Rc} {h:Hd} {os:List Opn} (b:Dp w w1 wr vl vo l h) (hG:aK wr wq)
  (ho:bK Ty.bG (Hy w w1 wq vl vo) w' (w1.heap.size+1) 58 oH os) (hg:wq.grownBy w' vo.ownBlock) (hb:oH.ownBlock=vo.ownBlock∨∃g,oH.ownBlock=some g/\wq.heap.size<=g):
  Dp w w1 (w'.setCell ⟨w1,3,none⟩ oH) vl oH l { h with bG:=os }:=by
 have bq:=b.dL hG;have hs:=hG.size;have hs1:=b.size;have WJ:=b.w1;have hlt:=bq.bG.lt;have hB:∀k,k≠w1.heap.size->(w'.setCell ⟨w1,3,none⟩ oH).heap[k]? =w'.heap[k]?:=fun k hk=>Below.heap_setCell _ _ _ _ (fun e=>hk e);have c1:ZT w1 wq (w'.setCell ⟨w1,3,none⟩ oH) vo oH:=⟨by simpa using hg.size,fun k hk N Y=>by rw [hB k N,hg.block k hk (fun e=>Y e.symm)],hb⟩;have CH:aK w (w'.setCell ⟨w1,3,none⟩ oH):=(bq.grow.grown hg (fun k hk=>by have:=(hlt k hk).1;omega)).setCell (by simp;omega) _;exact bq.put c1 CH (Ll (bJ bq.row hg (fun e=>by have:=(hlt _ e.symm).1;omega)) _) ((ho.mono c1.mem).block fun k hk=>hB k (τ ((ho.lt k hk).1)))
theorem Dp.aW {w w1 wr wq:World} {vl vo:Value} {l:List Rc} {h:Hd} (b:Dp w w1 wr vl vo l h) (hG:aK wr wq) (x:Int):Dp w w1 (wq.setCell ⟨w1,1,none⟩ (J x)) vl vo l { h with aW:=x }:=by
 have bq:=b.dL hG;have hs:=hG.size;have hs1:=b.size;have WJ:=b.w1;have hB:∀k,k≠w1.heap.size->(wq.setCell ⟨w1,1,none⟩ (J x)).heap[k]? =wq.heap[k]?:=fun k hk=>Below.heap_setCell _ _ _ _ (fun e=>hk e);have c1:ZT w1 wq (wq.setCell ⟨w1,1,none⟩ (J x)) vo vo:=⟨σ,fun k hk N _=>hB k N,.inl rfl⟩;exact bq.put c1 (bq.grow.setCell (by simp;omega) _) (Lm bq.row _) ((bq.bG.mono c1.mem).block fun k hk=>hB k (τ ((bq.bG.lt k hk).1)))
theorem TY (w:World) (row:Option Nat) (B:Nat) (d:Int) (l:List Opn) (hc:w.cell? ⟨B,1,none⟩=some (J d)) (hB:B<w.heap.size) (hr:row≠some B):Hu Tryz.prog Ty.bG qH w row 108 #[.pointer (some ⟨B,0,none⟩)] l (fun o=>o.aJ==d) where
 ent:=fun args w=>by kernel_rfl
 say:=fun wx cs x hg _ hR=>by
  obtain⟨vp,vh,rfl,-,hp,hh⟩:=hR;obtain⟨ap,cp,rfl,-⟩:=hp;obtain⟨ah,ch,rfl,-⟩:=hh;have hBx:B<wx.heap.size:=Nat.lt_of_lt_of_le hB hg.size;have hc2:wx.cell? ⟨B,1,none⟩=some (J d):=by rw [World.cell?_of_block (hg.block B hB (fun e=>hr e.symm))];exact hc
  clear hc;show Calls _ _ #[.agg #[J x.aJ,U ap x.aH.length cp,.bool x.dec,U ah x.aZ.length ch],.pointer (some ⟨B,0,none⟩)] _ _;go_enter Tryz.func108,Tryz.ntmps108;go_wp2;go_ret;exact⟨rfl,je⟩
section
variable {P:Program} {ops:Array Oper} {Q:Exit->Act->World->Prop} {md:Region.Mode} {S:World->Prop} {C:List Nat}
def wpC (P:Program) (md:Region.Mode) (ops:Array Oper) (Q:Exit->Act->World->Prop) (S:World->Prop) (C:List Nat):Nat->Array Bool->Act->World->Prop
 |0,listed,a,w=>Region.ready md ops listed=[]/\Q .normal a w
 |fuel+1,listed,a,w=>(Region.ready md ops listed=[]->Q .normal a w)/\∀i∈Region.ready md ops listed,wpOp P ops Q i (fun a' w'=>(i∈C∨S w')/\wpC P md ops Q S C fuel (listed.setIfInBounds i true) a' w') a w
theorem Yx:∀(fuel:Nat) (listed:Array Bool) (a:Act) (w:World),wpC P md ops Q S C fuel listed a w->wpAny P md ops Q fuel listed a w
 |0,_,_,_,h=>h
 |_+1,_,_,_,h=>⟨h.1,fun i hi=>wpOp_mono (fun a' w' h'=>Yx _ _ a' w' h'.2) (h.2 i hi)⟩
theorem ZU {i f:Nat} {oi:Oper} {v:Value} (hi:ops[i]? =some oi) (hsel:∀(j:Nat) (o:Oper) cs b,ops[j]? =some o->o.op≠ .select cs b)
  (hQ:∀k a w,Q (.panic k) (a.put oi.dst v) w->Q (.panic k) a w) (hw:∀c∈C,waitsFor md ops f i c=true):
  ∀(fuel:Nat) (listed:Array Bool) (a:Act) (w:World),uP md ops listed->
   (∀j oj,ops[j]? =some oj->j≠i->listed.getD j true=false->(∀e∈oj.after,Region.binds md e=true->e.on≠i)->oi.apart ops oj=true)->
   i∈Region.ready md ops listed->YieldsIf P ops S oi v a->S w->
   wpC P md ops Q S C fuel (listed.setIfInBounds i true) (a.put oi.dst v) w->wpC P md ops Q S C (fuel+1) listed a w:=by
 have hun:∀listed:Array Bool,i∈Region.ready md ops listed->listed.getD i false=false:=by
  intro listed hr;have h0:=(mem_ready.1 hr).1;by_cases hl:i<listed.size
  ·simp [hl] at h0 ⊢;exact h0
  ·simp [hl]
 intro fuel;induction fuel with
 |zero=>
  intro listed a w _ _ hr hy hS H;refine⟨fun h=>(by rw [h] at hr;cases hr),fun j hj=>?_⟩;by_cases hji:j=i
  ·subst hji;exact hy.wpOp hi hS ⟨.inr hS,H⟩
  ·have:=ready_mono hj hji
   rw [H.1] at this;cases this
 |succ fuel ih=>
  intro listed a w hcl hfree hr hy hS H;refine⟨fun h=>(by rw [h] at hr;cases hr),fun j hj=>?_⟩;by_cases hji:j=i
  ·subst hji;exact hy.wpOp hi hS ⟨.inr hS,H⟩
  ·have hjc:j∉C:=fun e=>(KG hcl (hun _ hr) (hw j e)).1 hj
   have N:=H.2 j (ready_mono hj hji);obtain⟨hjun,oj,hoj,hall⟩:=mem_ready.1 hj;have hnot:∀e∈oj.after,Region.binds md e=true->e.on≠i:=fun e he hb heq=>by
    have N:=hall e he hb;rw [heq,hun _ hr] at N;cases N
   have Y:=wpOp_putIf hoj (hfree j oj hoj hji hjun hnot) (fun cs b=>hsel i oi cs b hi) (fun cs b=>hsel j oj cs b hoj) hQ hy N;refine wpOp_mono (fun a' w' h3=>have hs3:=h3.2.1.resolve_left hjc;⟨.inr hs3,ih (listed.setIfInBounds j true) a' w' (hcl.set hj) (fun k ok hk hki hku hno=>?_) (ready_mono hr (Ne.symm hji)) h3.1 hs3 ?_⟩) Y
   ·refine hfree k ok hk hki ?_ hno
    by_cases hjk:j=k
    ·subst hjk;exact hjun
    ·rw [getD_set_ne true hjk] at hku;exact hku
   ·rw [Array.setIfInBounds_comm _ _ hji]
    exact h3.2.2
def LR (P:Program) (md:Region.Mode) (ops:Array Oper) (Q:Exit->Act->World->Prop) (S:World->Prop) (C:List Nat) (w:World):List Nat->Nat->Array Bool->Act->Prop
 | [],fuel,listed,a=>wpC P md ops Q S C fuel listed a w
 |i::is,F,listed,a=>∃fuel oi v,F=fuel+1/\ops[i]? =some oi/\YieldsIf P ops S oi v a/\LR P md ops Q S C w is fuel (listed.setIfInBounds i true) (a.put oi.dst v)
def CL (md:Region.Mode) (ops:Array Oper) (C:List Nat) (f:Nat):List Nat->Array Bool->Bool
 | [],_=>true
 |i::is,listed=>Region.free md ops listed i&&((Region.ready md ops listed).contains i&&((C.all fun c=>waitsFor md ops f i c)&&CL md ops C f is (listed.setIfInBounds i true)))
theorem j9 {w:World} (hsel:∀(j:Nat) (o:Oper) cs b,ops[j]? =some o->o.op≠ .select cs b) (hQ:∀k d v a w,Q (.panic k) (a.put (some d) v) w->Q (.panic k) a w) (hS:S w) (f:Nat):∀(is:List Nat) (fuel:Nat) (listed:Array Bool) (a:Act),uP md ops listed->CL md ops C f is listed=true->LR P md ops Q S C w is fuel listed a->wpC P md ops Q S C fuel listed a w
 | [],_,_,_,_,_,h=>h
 |i::is,_,listed,a,hd,hb,h=>by
  obtain⟨fuel,oi,v,rfl,hi,hy,h⟩:=h;simp only [CL,Bool.and_eq_true] at hb;obtain⟨b1,b2,b3,b4⟩:=hb;have hr:i∈Region.ready md ops listed:=by simpa using b2
  exact ZU hi hsel (fun k a w h=>by
   cases hd:oi.dst with
   |none=>rw [hd] at h;exact h
   |some d=>rw [hd] at h;exact hQ k d _ a w h) (fun c hc=>List.all_eq_true.1 b3 c hc) fuel listed a w hd (Region.free_spec hi b1) hr hy hS (j9 hsel hQ hS f is fuel _ _ (hd.set hr) b4 h)
theorem pF (is:List Nat) (f:Nat) {fuel:Nat} {listed:Array Bool} {a:Act} {w:World} (h5:(Region.noSelect ops&&(Tf md ops listed&&CL md ops C f is listed))=true) (hQ:∀k d v a w,Q (.panic k) (a.put (some d) v) w->Q (.panic k) a w) (hS:S w)
  (h:LR P md ops Q S C w is fuel listed a):wpC P md ops Q S C fuel listed a w:=by
 simp only [Bool.and_eq_true] at h5;exact j9 (Region.noSelect_spec h5.1) hQ hS f is fuel listed a (Qr h5.2.1) h5.2.2 h
theorem tNc {i:Nat} {is:List Nat} {fuel:Nat} {listed:Array Bool} {a:Act} {w:World} {oi:Oper} {v:Value} (hi:ops[i]? =some oi) (hw:Region.wanted oi (yielded ops a.tmps)=true) (hy:∀w,S w->(execOp a.eval oi).run P w=.ok (.value v) w)
  (h:LR P md ops Q S C w is fuel (listed.setIfInBounds i true) (a.put oi.dst v)):LR P md ops Q S C w (i::is) (fuel+1) listed a:=⟨fuel,oi,v,rfl,hi,.inl ⟨hw,hy⟩,h⟩
theorem jm {i:Nat} {is:List Nat} {fuel:Nat} {listed:Array Bool} {a:Act} {w:World} {oi:Oper} {v:Value} (h:LR P md ops Q S C w is fuel (listed.setIfInBounds i true) (a.put oi.dst v)) (hi:ops[i]? =some oi:=by rfl) (hw:Region.wanted oi (yielded ops a.tmps)=true:=by rfl) (hy:∀w,S w->(execOp a.eval oi).run P w=.ok (.value v) w:=by(intro w' hSw;(try dsimp only at hSw);repeat (with_reducible (have O:=And.left hSw;replace hSw:=And.right hSw));go_simp<;>with_reducible rfl)):LR P md ops Q S C w (i::is) (fuel+1) listed a:=tNc hi hw hy h
theorem pG {fuel:Nat} {listed:Array Bool} {a:Act} {w:World} (h:wpC P md ops Q S C fuel listed a w):LR P md ops Q S C w [] fuel listed a:=h
theorem Bf {listed:Array Bool} {a:Act} {w:World} {fuel:Nat} (hr:Region.ready md ops listed=[]) (h:Q .normal a w):wpC P md ops Q S C fuel listed a w:=by
 cases fuel with
 |zero=>exact⟨hr,h⟩
 |succ n=>exact⟨fun _=>h,by rw [hr];simp⟩
theorem kS (i:Nat) {o:Oper} {fuel:Nat} {listed:Array Bool} {a:Act} {w:World} (hr:Region.ready md ops listed=[i]) (hi:ops[i]? =some o)
  (h:∀K:Act->World->Prop,Hid (∀a' w',(i∈C∨S w')/\wpC P md ops Q S C fuel (listed.setIfInBounds i true) a' w'->K a' w')->if Region.wanted o (yielded ops a.tmps)=true then Oper.wp P o a w K Q else K (a.put o.dst undef) w):
  wpC P md ops Q S C (fuel+1) listed a w:=by
 refine⟨fun h0=>absurd (h0.symm.trans hr) σ,fun j hj=>?_⟩;rw [hr] at hj;obtain rfl:j=i:=by simpa using hj
 exact wpOp_step hi fun K hK=>h K (I hK)
theorem RE (i j:Nat) {o o':Oper} {fuel:Nat} {listed:Array Bool} {a:Act} {w:World} (hr:Region.ready md ops listed=[i,j]) (hi:ops[i]? =some o) (hj:ops[j]? =some o')
  (h:∀K:Act->World->Prop,Hid (∀a' w',(i∈C∨S w')/\wpC P md ops Q S C fuel (listed.setIfInBounds i true) a' w'->K a' w')->if Region.wanted o (yielded ops a.tmps)=true then Oper.wp P o a w K Q else K (a.put o.dst undef) w)
  (h':∀K:Act->World->Prop,Hid (∀a' w',(j∈C∨S w')/\wpC P md ops Q S C fuel (listed.setIfInBounds j true) a' w'->K a' w')->if Region.wanted o' (yielded ops a.tmps)=true then Oper.wp P o' a w K Q else K (a.put o'.dst undef) w):
  wpC P md ops Q S C (fuel+1) listed a w:=by
 refine⟨fun h0=>absurd (h0.symm.trans hr) σ,fun x Z=>?_⟩;rw [hr] at Z;have Z:x=i∨x=j:=by simpa using Z
 rcases Z with rfl|rfl
 ·exact wpOp_step hi fun K hK=>h K (I hK)
 ·exact wpOp_step hj fun K hK=>h' K (I hK)
theorem Gq (S:World->Prop) (C:List Nat) {id:Nat} {a:Act} {w:World} (hm:P.follows .mixedOrders=true) (h:∀wd,aK w wd->w.heap.size=wd.heap.size->wpC P .any ops Q S C ops.size (Array.replicate ops.size false) a wd):(Code.region id ops true).wp P Q a w:=
 wp_region_any hm (Yx _ _ _ _ (h w.drew ((aG _).drew) rfl))
end
end Go.Proofs.YtocnmkefmgmkbaaGreat
