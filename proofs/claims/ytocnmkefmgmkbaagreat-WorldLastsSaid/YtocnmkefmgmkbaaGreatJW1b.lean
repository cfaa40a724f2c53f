/- Parts of proofs, joined: M1, S2, W4, S3, W5, S5, Q1, QA, C1, S4, M2, M3, M4, Dfn, R4, Win, M5, S6, M6, Dfn2, M7, Reg3, Reg4. No condition beside those that each theorem names. -/
import Derived.Test.YtocnmkefmgmkbaaGreatJW1a
set_option maxRecDepth 100000
set_option maxHeartbeats 40000000
namespace Go.Proofs.YtocnmkefmgmkbaaGreat
open Go.RowKit
def fr (W0 w:World) (X:List (Option Nat)):CM:=fun a=>if a.block<W0.heap.size∨some a.block∈X then none else w.cell? a
theorem fF (W0 w:World) (X:List (Option Nat)):Sub (fr W0 w X) w.cell?:=fun a v e=>by
 unfold fr at e;split at e
 ·cases e
 ·exact e
theorem QF (c:CM) (W0 w:World) (X:List (Option Nat)):Sub (fr W0 w X) (ov c W0 w):=fun a v e=>by
 unfold fr at e;split at e
 ·cases e
 ·rename_i h
  rw [bH δ];exact e
theorem gy {W0 w:World} {X:List (Option Nat)} {a:Addr} (h:W0.heap.size<=a.block) (hx:some a.block∉X):fr W0 w X a=w.cell? a:=by
 unfold fr;rw [if_neg (by rintro(h1|h1);omega;exact hx h1)]
theorem gZ {W0 w w':World} {X X':List (Option Nat)} (h:∀k,k<w.heap.size->W0.heap.size<=k->some k∉X->w'.heap[k]? =w.heap[k]?/\some k∉X'):Sub (fr W0 w X) (fr W0 w' X'):=fun a v e=>by
 unfold fr at e;split at e
 ·cases e
 ·rename_i hn
  have h1:¬a.block<W0.heap.size:=fun hx=>hn (.inl hx);have h2:some a.block∉X:=fun hx=>hn (.inr hx);obtain⟨h3,h4⟩:=h a.block (World.block_lt_of_cell? w a e) δ h2;rw [gy δ h4,World.cell?_of_block h3];exact e
theorem dO {W0 w w':World} {X:List (Option Nat)} (h:Grow w w'):Sub (fr W0 w X) (fr W0 w' X):=gZ fun k hk _ hx=>⟨h.block k hk,hx⟩
theorem pF {W0 w w':World} {v v':Value} (hg:w.grownBy w' v.ownBlock) (hb:v'.ownBlock=v.ownBlock∨∃g,v'.ownBlock=some g/\w.heap.size<=g):Sub (fr W0 w [v.ownBlock]) (fr W0 w' [v'.ownBlock]):=
 gZ fun k hk _ hx=>⟨hg.block k hk (by simpa using hx),by
  rcases hb with hb|⟨g,hb,hge⟩
  ·rw [hb];exact hx
  ·rw [hb];simp;omega⟩
theorem I4 {W0 w1 w:World} {v:Value} {l:List Pt} {X:List (Option Nat)} (h:w.ownsRow w1.heap.size 111 3 v l.length (l.flatMap Pt.cells)) (hok:wH l) (hW:W0.heap.size<=w1.heap.size) (hX:∀k,w1.heap.size<=k->some k∉X):Sl Ty.pt (fr W0 w X) v l:=
 (aI.pts (c:=fr W0 w X) h hok).slc ε (Sub.refl _) fun a ha=>gy δ (hX _ ha)
theorem yA {v:Value} {l:List Rc} (w:World) (hv:UD w.cell? v l) (hm:l.length*40<=140737488355328) (hp:∀r∈l,r.parts.length*24<=140737488355328):
  Calls Tryz.prog 71 #[v] w fun e w'=>∃v',e=.returned v'/\aI Ty.rc (fr w w' [v'.ownBlock]) w' w.heap.size 79 v' l/\Grow w w':=by
 obtain⟨a,cap,rfl,h1,h2,-,hel⟩:=hv;unfold maxLen at h2;have HM:=η hm;have HP:=η hp;clear hm hp;go_enter Tryz.func71,Tryz.ntmps71;go_wp2;go_loopw [3,8] (fun s3 i wr=>∃k:Nat,k<=l.length/\i=ι k/\Grow w wr/\aI Ty.rc (fr w wr [s3.ownBlock]) wr w.heap.size 79 s3 (l.take k)) (fun _ i _=>l.length - (intOf i).toNat)
 case atStart=>exact⟨0,δ,rfl,Grow.refl _,aI.nil _ _ _ _ _⟩
 case round=>
  obtain⟨k,hk',rfl,hb,hown⟩:=hrel;by_cases hlt:k<l.length
  ·obtain⟨b,o,vp,rfl,c0,c1,c2,i0,i1,hP⟩:=UD.at_ hel k hlt
   obtain⟨ap,cp,rfl,-⟩:=id hP;replace c0:=hb.sub _ _ c0;replace c1:=hb.sub _ _ c1;replace c2:=hb.sub _ _ c2;have htk:l.take (k+1)=l.take k++ [l[k]]:=by rw [List.take_succ_eq_append_getElem hlt]
   have kY:=η htk;have hpl:=HP.o l[k] (List.getElem_mem _);have hok:=m_.ok (c:=w.cell?) hP;have CS:=η (fun(W:World) (hW:Grow wr W)=>pz W (hP.mono (hb.trans hW).sub) hpl);have hlk:(l.take k).length=k:=by simp;omega
   have HOWN:=η hown;have HI:=η (And.intro i0 (And.intro i1 hok));obtain⟨av,cv,rfl⟩:=hown.form;clear hel hP htk hpl hok hown i0 i1;generalize l[k]=r at*;generalize hlt':l.take k=lk at*;have S_:=η hlt';have FK:=η hlk;clear hlt' hlk;go_wp2_with fail
   refine(CS.o _ ((Grow.refl _).alloc _)).mono ?_;rintro e w2 ⟨v2,rfl,ho2,hb2⟩;obtain⟨a2,cap2,rfl⟩:=aY ho2;have ql:=η ho2;have HB2:=η hb2;obtain⟨aD,aE⟩:=fJ hb2;have z2:wr.heap.size<w2:=by have:=hb2.size;simp at this;omega
   clear ho2 hb2;have oq:Hid (Grow wr (w2.setCell ⟨wr.heap.size,2,none⟩ (ς a2 r.parts.length cap2))):=η ((((Grow.refl wr).alloc _).trans HB2.o).setCell σ _);go_wp2_with (first|(at_builtin;refine aZ (c:=fr w ((w2.setCell ⟨wr.heap.size,2,none⟩ (ς a2 r.parts.length cap2)).alloc (.cells #[ι r.kind,ι r.deed,ς a2 r.parts.length cap2] 79)) [(Value.slice av lk.length cv).ownBlock]) (base:=w.heap.size) (l:=lk) (m:=[r]) jv rfl eY ε rfl (.tmp 16) (.tmp 18) rfl rfl ?own rfl (Src.bQ (cs:=#[ι r.kind,ι r.deed,ς a2 r.parts.length cap2]) ?d0 _ _ ?d1) ?d2 ?d3 ?_))
   case own=>exact(HOWN.o.mono (dO (oq.o.alloc _))).grow (oq.o.alloc _)
   case d0=>
    refine⟨_,rfl,HI.o.1,HI.o.2.1,?_⟩;have hlt2:=HOWN.o.lt;refine I4 (w1:=wr.alloc (.cells #[ι r.kind,ι r.deed,ς ap r.parts.length cp] 79)) ?_ HI.o.2.2 ?_ ?_
    ·exact(ql.o.kept (grownBy_setCell w2 ⟨wr.heap.size,2,none⟩ _) (by
      cases e:(Value.slice a2 r.parts.length cap2).ownBlock with
      |none=>exact .inl rfl
      |some q=>right;have:=(ql.o.lt q e).1;simp at this ⊢;omega)).alloc _
    ·have:=hb.size;simp;omega
    ·intro q hq
     simp only [List.mem_singleton];intro e;have:=(hlt2 q e.symm).2;simp at hq;omega
   case d1=>simp
   case d2=>have:=HM.o;have:=FK.o;simp;omega
   case d3=>have:=(oq.o.alloc (.cells #[ι r.kind,ι r.deed,ς a2 r.parts.length cap2] 79)).size;have:=hb.size;omega
   intro a5 c5 w5 hown5 hg5 hb5;have QG:Grow w w5:=bn (w0:=w) (hb.trans (oq.o.alloc _)) hg5 (fun q hq=>(HOWN.o.lt q hq).1);have l9:=η (hown5.mono (pF hg5 (hb5.imp_right fun⟨g,e,hge⟩=>⟨g,e,by simpa using hge⟩)));have rG:=η QG;clear hown5 hg5 hb5 QG aD aE;go_wp2;go_roundw
   case rel=>exact⟨k+1,δ,by go_num,rG.o,by rw [kY.o];exact l9.o⟩
   case measure=>simp [intOf];omega
  ·clear hel
   go_wp2;go_ret;have h9:=hown;rw [List.take_of_length_le δ] at h9;exact⟨_,rfl,h9,hb⟩
def aX (l:List Pt):List Int:=[0,1,2].filter fun n=>l.any fun p=>p.h==n
def gV (o:Opn) (n:Int):Ms:=if o.dec then⟨4,o.deed,n,[]⟩ else⟨1,o.deed,n,jF o.parts n⟩
def gG (o:Opn):List Ms:=((aX o.parts).filter fun n=>!decide (n∈o.heard)).map (gV o)
def dG (d:Int) (l:List Pt):List Ms:=(aX l).map fun n=>⟨5,d,n,[]⟩
def b_ (h:Hd) (r:Rc):Hd:=
 if r.kind=4 then { h with aG:=wrap64 (h.aG+1) }
 else if r.kind=5 then { h with opn:=h.opn++ [⟨r.deed,r.parts,true,[]⟩] }
 else if r.kind=6 then { h with opn:=h.opn.filter fun o=>!(o.deed==r.deed) }
 else h
def bT (l:List Rc):Hd:=l.foldl b_ ⟨l,0,0,[]⟩
def aW (l:List Rc):List Rd:=(l.filter fun r=>r.kind==5).map fun r=>⟨r.deed,r.parts⟩
def jA (h:Hd):Hd:=if 19<h.aG then h else bT (h.log++ [⟨4,0,[]⟩])
def ou (h:Hd):Int:=if 19<h.aG then 5 else 0
def oz (h:Hd):Bool:=decide (11<h.opn.length∨63<h.next)
def qV (h:Hd) (l:List Pt):Opn:=⟨64*h.aG+h.next,l,false,[]⟩
def iH (h:Hd) (l:List Pt):Hd:=if oz h=true then h else { h with opn:=h.opn++ [qV h l],next:=h.next+1 }
def jK (h:Hd) (l:List Pt):List Ms:=if oz h=true then [] else gG (qV h l)
def nZ (h:Hd):Int:=if oz h=true then 9 else 0
def dJ (o:Opn) (m:Ms):List Opn×List Rc×List Ms:=
 if m.kind=2/\o.dec=false/\m.house∈aX o.parts/\m.house∉o.heard then
  (if o.heard.length+1=(aX o.parts).length then([{ o with dec:=true,heard:=[] }],[⟨5,o.deed,o.parts⟩],gG { o with dec:=true,heard:=[] })
  else([{ o with heard:=o.heard++ [m.house] }],[],[]))
 else if m.kind=3/\o.dec=false then([],[],dG o.deed o.parts)
 else if m.kind=6/\o.dec=true/\m.house∈aX o.parts/\m.house∉o.heard then
  (if o.heard.length+1=(aX o.parts).length then([],[⟨6,o.deed,[]⟩],[]) else([{ o with heard:=o.heard++ [m.house] }],[],[]))
 else if m.kind=7/\o.dec=true then([o],[],[⟨4,m.deed,m.house,[]⟩])
 else([o],[],[])
def jP (m:Ms):List Opn->Option (List Opn×List Rc×List Ms)
 | []=>none
 |o::l=>if o.deed=m.deed then some ((dJ o m).1++l,(dJ o m).2) else(jP m l).map fun x=>(o::x.1,x.2)
def f_ (h:Hd) (m:Ms):Hd:=match jP m h.opn with
 |none=>h
 |some x=>{ h with opn:=x.1,log:=h.log++x.2.1 }
def fG (h:Hd) (m:Ms):List Ms:=match jP m h.opn with
 |none=>if m.kind=7 then [⟨5,m.deed,m.house,[]⟩] else []
 |some x=>x.2.2
def pG (h:Hd):List Ms:=h.opn.flatMap gG
def kM (h:Hd):Hd:={ h with opn:=h.opn.filter fun o=>o.dec }
def qH (h:Hd):List Ms:=(h.opn.filter fun o=>!o.dec).flatMap fun o=>dG o.deed o.parts
end Go.Proofs.YtocnmkefmgmkbaaGreat
namespace Go.Proofs.YtocnmkefmgmkbaaGreat
def keysOf (l:List Rd):List Int:=l.flatMap fun r=>r.parts.map (·.k)
theorem lF (x:Rd) (l:List Rd):keysOf (x::l)=x.parts.map (·.k)++keysOf l:=by simp [keysOf]
theorem KN (l:List Rd) (x:Rd):keysOf (l++ [x])=keysOf l++x.parts.map (·.k):=by simp [keysOf]
theorem xg {key:Int} {x:Rd}:iV key x=true↔key∈x.parts.map (·.k):=by
 unfold iV;rw [List.any_eq_true,List.mem_map];constructor
 ·rintro⟨p,hp,h⟩;exact⟨p,hp,by simpa using h⟩
 ·rintro⟨p,hp,h⟩;exact⟨p,hp,by simpa using h⟩
theorem KO {key:Int}:∀{l:List Rd},(∀x∈l,0<=x.deed)->(l7 l key<0↔key∉keysOf l)
 | [],_=>by simp [l7,keysOf]
 |x::l,hp=>by
  have ih:=KO (l:=l) (key:=key) fun y hy=>hp y (List.mem_cons_of_mem _ hy);have hx:=hp x List.mem_cons_self;rw [KF,lF,List.mem_append,<-xg];by_cases h:iV key x=true
  ·simp [h];exact hx
  ·simp only [h,if_false,false_or,Bool.false_eq_true];exact ih
theorem yB (p:Rd->Bool):∀l:List Rd,(keysOf (l.eraseP p)).Sublist (keysOf l)
 | []=>List.Sublist.refl _
 |x::l=>by
  by_cases h:p x=true
  ·rw [List.eraseP_cons_of_pos h,lF];exact List.sublist_append_right _ _
  ·rw [List.eraseP_cons_of_neg h,lF,lF];exact(yB p l).append_left _
theorem uN {key:Int}:∀{l:List Rd},(keysOf l).Nodup->∀r∈l,key∈r.parts.map (·.k)->l7 l key=r.deed
 |x::l,hn,r,hr,hk=>by
  rw [lF,List.nodup_append] at hn;obtain⟨h1,h2,h3⟩:=hn;rw [KF];rcases List.mem_cons.1 hr with rfl|hr
  ·rw [if_pos (xg.2 hk)]
  ·have hk2:key∈keysOf l:=List.mem_flatMap.2 ⟨r,hr,hk⟩
   rw [if_neg (fun h=>h3 _ (xg.1 h) _ hk2 rfl)];exact uN h2 r hr hk
structure Calm (h:Hs):Prop where
 made:Made h
 fine:Fine h.ready
 apart:(keysOf h.ready).Nodup
theorem Tc:Calm ⟨[],⟨0,0,0,0⟩,[],[]⟩:=⟨rfl,⟨σ,σ⟩,by simp [keysOf]⟩
theorem nodup_keys {l:List Pt} {h:Int} (hn:(l.map fun p=>(p.h,p.k)).Nodup) (ha:∀p∈l,p.h=h):(l.map (·.k)).Nodup:=by
 have e:(l.map fun p=>(p.h,p.k))=(l.map (·.k)).map fun k=>(h,k):=by
  rw [List.map_map];exact List.map_congr_left fun p hp=>by simp [ha p hp]
 rw [e] at hn;refine List.Pairwise.of_map _ (fun a b hab he=>hab (by rw [he])) hn
theorem Td {l:List Rd} (hp:∀x∈l,0<=x.deed) {ps:List Pt} (h:qG l ps=true):∀p∈ps,p.k∉keysOf l:=by
 rw [Vw,List.all_eq_true] at h;intro p hm;exact(KO hp).1 (by simpa using h p hm)
structure jg (m:Ms):Prop where
 kind:1<=m.kind/\m.kind<=7
 deed:0<=m.deed/\m.deed<=1343
 house:0<=m.house/\m.house<=2
 none:m.kind≠1->m.parts=[]
 parts:m.kind=1->bD m.parts 3=0/\∀p∈m.parts,p.h=m.house
theorem vP {m:Ms}:aQ m=0↔jg m:=by
 unfold aQ;constructor
 ·intro h
  split at h
  ·cases h
  split at h
  ·cases h
  split at h
  ·split at h
   ·exact⟨δ,δ,δ,fun _=>‹_›,fun _=>δ⟩
   ·cases h
  ·split at h
   ·split at h
    ·rename_i h1 h2
     exact⟨δ,δ,δ,fun _=>δ,fun _=>⟨h1,fun p hp=>by simpa using List.all_eq_true.1 h2 p hp⟩⟩
    ·cases h
   ·rename_i h1;exact absurd h h1
 ·rintro⟨h1,h2,h3,h4,h5⟩
  rw [if_neg δ,if_neg δ];split
  ·rw [if_pos (h4 δ)]
  ·obtain⟨h6,h7⟩:=h5 δ
   rw [if_pos h6,if_pos (List.all_eq_true.2 fun p hp=>by simpa using h7 p hp)]
theorem jg.keys {m:Ms} (h:jg m):dw m.parts:=by
 by_cases hk:m.kind=1
 ·exact sO (h.parts hk).1
 ·rw [h.none hk];intro p hp;simp at hp
theorem zV {h:Hs} (hc:Calm h) {r:Rc} (hr:0<=r.deed) (h1:r.kind=1->(r.parts.map (·.k)).Nodup/\∀p∈r.parts,p.k∉keysOf h.ready):Calm (dV h r):=by
 have e:=sQ hc.made r;refine⟨SQ _ _,by rw [e];exact SN hc.fine hr,?_⟩;rw [e,o9];split
 ·split
  ·exact hc.apart.sublist (yB _ _)
  ·exact hc.apart
 ·split
  ·rename_i hk
   obtain⟨h2,h3⟩:=h1 hk;rw [KN,List.nodup_append];refine⟨hc.apart,h2,fun a ha b hb e=>?_⟩;obtain⟨p,hp,rfl⟩:=List.mem_map.1 hb;exact h3 p hp (e▸ha)
  ·exact hc.apart
theorem Tf {h:Hs} {d:Int} {ps:List Pt} (hv:dU h d ps=0) (hr:bM h.ready d=false):qG h.ready ps=true:=by
 unfold dU at hv;split at hv
 ·cases hv
 ·rw [if_neg (by simp [hr])] at hv
  split at hv
  ·cases hv
  ·rename_i h2;simpa using h2
theorem Ti {h:Hs} (hc:Calm h) {m:Ms} (hm:jg m):Calm (bg h m):=by
 unfold bg;split
 ·rename_i hk
  obtain⟨hw,hh⟩:=hm.parts hk;split
  ·rename_i hv
   exact zV hc hm.deed.1 fun _=>⟨nodup_keys (eP hw).2.2.2 hh,Td hc.fine.pos (Tf hv.1 hv.2)⟩
  ·exact hc
 ·split
  ·split
   ·exact zV hc hm.deed.1 σ
   ·exact hc
  ·split
   ·split
    ·exact zV hc hm.deed.1 σ
    ·exact hc
   ·exact hc
structure AW where
 head:Hd
 aA:List Hs
 net:List Ms
def bW (net ms:List Ms):List Ms:=net++ms.take (24 - net.length)
def hs0:Hs:=gu []
def pI (n:Nat):AW:=⟨bT [⟨4,0,[]⟩],List.replicate n hs0,[]⟩
def iI (m:Ms):Bool:=decide (m.kind=1∨m.kind=4∨m.kind=5)
def iY (w:AW) (m:Ms):AW:=
 match w.aA[m.house.toNat]? with
 |none=>w
 |some h=>if iI m=true then { w with aA:=w.aA.set m.house.toNat (bg h m),net:=bW w.net (bG h m.house m) }
  else { w with head:=f_ w.head m,net:=bW w.net (fG w.head m) }
def rH (w:AW) (n:Nat):AW:=
 if n=3 then { w with net:=bW w.net (pG w.head) }
 else match w.aA[n]? with
  |none=>w
  |some h=>{ w with net:=bW w.net (kX h n) }
def there (w:AW) (n:Int):Bool:=decide (0<=n/\n<w.net.length)
def oC (w:AW) (n:Int):Bool:=decide (0<=n/\n<w.aA.length)
def iD (w:AW) (s:St):AW:=
 if s.kind=1 then(if bD s.parts w.aA.length=0 then { w with head:=iH w.head s.parts,net:=bW w.net (jK w.head s.parts) } else w)
 else if s.kind=2 then(if there w s.n=true then iY { w with net:=w.net.eraseIdx s.n.toNat } (w.net.getD s.n.toNat ⟨0,0,0,[]⟩) else w)
 else if s.kind=3 then(if there w s.n=true then { w with net:=w.net.eraseIdx s.n.toNat } else w)
 else if s.kind=4 then(if there w s.n=true/\w.net.length<24 then { w with net:=w.net++ [w.net.getD s.n.toNat ⟨0,0,0,[]⟩] } else w)
 else if s.kind=5 then(if s.n=3 then { w with head:=jA w.head } else w)
 else if s.kind=6 then(if s.n=3∨oC w s.n=true then rH w s.n.toNat else w)
 else if s.kind=7 then { w with head:=kM w.head,net:=bW w.net (qH w.head) }
 else w
def bI (w:AW) (s:St):Int:=
 if s.kind=1 then(if bD s.parts w.aA.length=0 then nZ w.head else bD s.parts w.aA.length)
 else if s.kind=2∨s.kind=3∨s.kind=4 then(if there w s.n=true then 0 else 6)
 else if s.kind=5 then(if s.n=3 then ou w.head else if oC w s.n=true then 0 else 6)
 else if s.kind=6 then(if s.n=3∨oC w s.n=true then 0 else 6)
 else if s.kind=7 then 0
 else 1
def jG (w:AW) (l:List St):AW:=l.foldl iD w
abbrev Reg:=List (Int×List Pt)
theorem step_done (h:Hs) (r:Rc):(dH h r).done=(match h.ready.find? (kD r.deed) with|none=>h.done|some _=>if r.kind=2 then h.done++ [r.deed] else h.done):=by
 unfold dH;rw [vM];cases hf:h.ready.find? (kD r.deed) with
 |none=>simp
 |some x=>simp
theorem zW (h:Hs) (r:Rc):(dH h r).sums=(match h.ready.find? (kD r.deed) with|none=>h.sums|some x=>if r.kind=2 then nJ h.sums x.parts else h.sums):=by
 unfold dH;rw [vM];cases hf:h.ready.find? (kD r.deed) with
 |none=>simp
 |some x=>simp
theorem zY {h:Hs} (hm:Made h) (r:Rc):(dV h r).done=(dH h r).done:=by rw [zQ hm]
theorem KP {l:List Rd} {d:Int} (hn:(l.map (·.deed)).Nodup):bM (l.eraseP (kD d)) d=false:=by
 induction l with
 |nil=>rfl
 |cons x l ih=>
  rw [List.map_cons,List.nodup_cons] at hn;by_cases h:kD d x=true
  ·rw [List.eraseP_cons_of_pos h]
   unfold bM;rw [List.any_eq_false];intro y hy hd;have h1:x.deed=d:=by simpa [kD] using h
   have h2:y.deed=d:=by simpa [kD] using hd
   exact hn.1 (List.mem_map.2 ⟨y,hy,by rw [h1,h2]⟩)
  ·rw [List.eraseP_cons_of_neg h]
   have:=ih hn.2;unfold bM at this ⊢;rw [List.any_cons,this];simpa using h
theorem Bo {l:List Rd} {d e:Int} (h:bM l d=true) (hne:e≠d):bM (l.eraseP (kD e)) d=true:=by
 unfold bM at h ⊢;rw [List.any_eq_true] at h ⊢;obtain⟨x,hx,hd⟩:=h;refine⟨x,?_,hd⟩;rw [List.mem_eraseP_of_neg]
 ·exact hx
 ·have:x.deed=d:=by simpa [kD] using hd
  simp [kD,this];exact fun e'=>hne e'.symm
theorem mP {l:List Rd} {d:Int} (h:bM l d=true):∃x,l.find? (kD d)=some x:=by
 rw [Bj] at h;exact Option.isSome_iff_exists.1 h
theorem yC {l:List Rd} {d:Int} (h:bM l d=false):l.find? (kD d)=none:=by
 rw [Bj] at h;simpa using h
theorem QH {h:Hs} (hm:Made h) {d:Int} (ps:List Pt) (hr:bM h.ready d=false):(dV h ⟨1,d,ps⟩).ready=h.ready++ [⟨d,ps⟩]/\(dV h ⟨1,d,ps⟩).done=h.done:=by
 rw [sQ hm,zY hm,o9,step_done];simp [yC hr]
theorem Gw {h:Hs} (hm:Made h) {d:Int} (hr:bM h.ready d=true):(dV h ⟨2,d,[]⟩).ready=h.ready.eraseP (kD d)/\(dV h ⟨2,d,[]⟩).done=h.done++ [d]:=by
 obtain⟨x,hx⟩:=mP hr;rw [sQ hm,zY hm,o9,step_done];simp [hx]
theorem Vx {h:Hs} (hm:Made h) {d:Int} (hr:bM h.ready d=true):(dV h ⟨3,d,[]⟩).ready=h.ready.eraseP (kD d)/\(dV h ⟨3,d,[]⟩).done=h.done:=by
 obtain⟨x,hx⟩:=mP hr;rw [sQ hm,zY hm,o9,step_done];simp [hx]
end Go.Proofs.YtocnmkefmgmkbaaGreat
namespace Go.Proofs.YtocnmkefmgmkbaaGreat
open Go.RowKit
def Vy (k q:Int) (p:Pt):Bool:=p.h==k&&p.k==q
def has (k q:Int) (P:List Pt):Bool:=(P.find? (Vy k q)).isSome
def amt (k q:Int) (P:List Pt):Int:=match P.find? (Vy k q) with|some p=>p.n|none=>0
def tot (k q:Int):List Rd->Int
 | []=>0
 |r::D=>amt k q r.parts+tot k q D
theorem CU (k q:Int):∀A B:List Rd,tot k q (A++B)=tot k q A+tot k q B
 | [],B=>by simp [tot]
 |r::A,B=>by rw [List.cons_append,tot,tot,CU k q A B];omega
theorem DC {k q:Int} {P:List Pt} (h:has k q P=false):amt k q P=0:=by
 unfold has at h;unfold amt;cases hf:P.find? (Vy k q) with
 |none=>rfl
 |some p=>rw [hf] at h;cases h
theorem QI {k q:Int} {P:List Pt}:has k q P=true↔∃p∈P,p.h=k/\p.k=q:=by
 unfold has;rw [List.find?_isSome];constructor
 ·rintro⟨p,hp,h⟩
  simp only [Vy,Bool.and_eq_true,beq_iff_eq] at h;exact⟨p,hp,h⟩
 ·rintro⟨p,hp,h1,h2⟩
  exact⟨p,hp,by simp [Vy,h1,h2]⟩
theorem Gx {n:Int} {P:List Pt} (hw:bD P n=0) (k q:Int):-1048576<=amt k q P/\amt k q P<=1048576:=by
 unfold amt;cases hf:P.find? (Vy k q) with
 |none=>simp
 |some p=>
  have:=(eP hw).2.2.1 p (List.mem_of_find?_eq_some hf);exact⟨by simp only;omega,by simp only;omega⟩
theorem DF {k q:Int} {p:Rd->Bool}:∀{D:List Rd},(∀r∈D,p r=false->amt k q r.parts=0)->tot k q (D.filter p)=tot k q D
 | [],_=>rfl
 |r::D,h=>by
  have ih:=DF (p:=p) (D:=D) fun x hx=>h x (List.mem_cons_of_mem _ hx);cases hp:p r with
  |true=>rw [List.filter_cons_of_pos hp,tot,tot,ih]
  |false=>
   rw [List.filter_cons_of_neg (by simp [hp]),tot,ih,h r List.mem_cons_self hp];omega
theorem yD {q:Int}:∀{l:List Pt} (x:Int),(∀p∈l,p.k≠q)->jO x l q=x
 | [],x,_=>rfl
 |p::l,x,h=>by
  show jO (if p.k=q then _ else x) l q=x;rw [if_neg (h p List.mem_cons_self)];exact yD x fun r hr=>h r (List.mem_cons_of_mem _ hr)
theorem yE {q:Int}:∀{l:List Pt} (x:Int),(l.map (·.k)).Nodup->jO x l q=(match l.find? (fun p=>p.k==q) with|some p=>wrap64 (x+p.n)|none=>x)
 | [],x,_=>rfl
 |p::l,x,h=>by
  rw [List.map_cons,List.nodup_cons] at h;show jO (if p.k=q then wrap64 (x+p.n) else x) l q=_;by_cases hq:p.k=q
  ·rw [if_pos hq,List.find?_cons_of_pos (by simpa using hq)]
   exact yD _ fun r hr e=>h.1 (List.mem_map.2 ⟨r,hr,by rw [e,hq]⟩)
  ·rw [if_neg hq,List.find?_cons_of_neg (by simpa using hq)]
   exact yE x h.2
theorem KQ {n:Int} {P:List Pt} (hw:bD P n=0) (k:Int):((jF P k).map (·.k)).Nodup:=by
 refine nodup_keys (h:=k) ((eP hw).2.2.2.sublist ((List.filter_sublist).map _)) fun p hp=>?_;unfold jF at hp;have:=(List.mem_filter.1 hp).2;simpa using this
theorem KR (P:List Pt) (k q:Int):(jF P k).find? (fun p=>p.k==q)=P.find? (Vy k q):=by
 unfold jF;rw [List.find?_filter];congr 1;funext a;by_cases h1:a.h=k<;>by_cases h2:a.k=q<;>simp [Vy,h1,h2]
theorem I5 {n:Int} {P:List Pt} (hw:bD P n=0) (k:Int):dw (jF P k):=fun p hp=>by
 unfold jF at hp;exact sO hw p (List.mem_filter.1 hp).1
theorem pJ {s:Sm}:wX s=true↔∀q:Int,0<=q->q<4->0<=s.get q/\s.get q<=1048576:=by
 rw [Oe];constructor
 ·intro h q h0 h1
  have:=h q.toNat δ;rwa [show((q.toNat:Nat):Int)=q by omega] at this
 ·intro h k hk
  exact h k δ δ
theorem QJ {n:Int} {P:List Pt} (hw:bD P n=0) {s:Sm} (hs:wX s=true) (k:Int) {q:Int} (h0:0<=q) (h1:q<4):(nJ s (jF P k)).get q=s.get q+amt k q P:=by
 rw [IG _ _ (I5 hw k) q h0 h1,yE _ (KQ hw k),KR];have hb:=Gx hw k q;have hr:=pJ.1 hs q h0 h1;unfold amt at hb ⊢;cases hf:P.find? (Vy k q) with
 |none=>simp
 |some p=>
  rw [hf] at hb;simp only at hb ⊢;unfold wrap64;omega
theorem fits_all {S:Int->Int}:∀{l:List Pt},jy S l=0↔∀p∈l,0<=wrap64 (S p.k+p.n)/\wrap64 (S p.k+p.n)<=1048576
 | []=>by simp [jy]
 |p::l=>by
  rw [jy];constructor
  ·intro h
   split at h
   ·cases h
   split at h
   ·cases h
   intro r hr;rcases List.mem_cons.1 hr with rfl|hr
   ·omega
   ·exact fits_all.1 h r hr
  ·intro h
   have:=h p List.mem_cons_self;rw [if_neg δ,if_neg δ];exact fits_all.2 fun r hr=>h r (List.mem_cons_of_mem _ hr)
theorem DJ {n:Int} {P:List Pt} (hw:bD P n=0) {s:Sm} (hs:wX s=true) (k:Int):jy s.get (jF P k)=0↔∀q:Int,0<=q->q<4->0<=s.get q+amt k q P/\s.get q+amt k q P<=1048576:=by
 rw [fits_all];constructor
 ·intro h q h0 h1
  have hr:=pJ.1 hs q h0 h1;have hb:=Gx hw k q;unfold amt at hb ⊢;cases hf:P.find? (Vy k q) with
  |none=>simp only;omega
  |some p=>
   rw [hf] at hb;simp only at hb ⊢;have hp:=List.mem_of_find?_eq_some hf;have ha:=List.find?_some hf;simp only [Vy,Bool.and_eq_true,beq_iff_eq] at ha;have:=h p (by unfold jF;exact List.mem_filter.2 ⟨hp,by simp [ha.1]⟩);rw [ha.2] at this;unfold wrap64 at this;omega
 ·intro h p hp
  have hk:=I5 hw k p hp;have hr:=pJ.1 hs p.k hk.1 hk.2;have:=h p.k hk.1 hk.2;have hf:(jF P k).find? (fun r=>r.k==p.k)=some p:=by
   have hn:=KQ hw k;have hall:∀(l:List Pt),(l.map (·.k)).Nodup->p∈l->l.find? (fun r=>r.k==p.k)=some p:=by
    intro l;induction l with
    |nil=>intro _ h;simp at h
    |cons x l ih=>
     intro hn hm;rw [List.map_cons,List.nodup_cons] at hn;rcases List.mem_cons.1 hm with rfl|hm
     ·rw [List.find?_cons_of_pos σ]
     ·have hne:x.k≠p.k:=fun e=>hn.1 (List.mem_map.2 ⟨p,hm,e.symm⟩)
      rw [List.find?_cons_of_neg (by simpa using hne)];exact ih hn.2 hm
   exact hall _ hn hp
  rw [KR] at hf;unfold amt at this;rw [hf] at this;simp only at this;unfold wrap64;omega
theorem DK {S T:Int->Int}:∀{l:List Pt},(∀p∈l,S p.k=T p.k)->jy S l=jy T l
 | [],_=>rfl
 |p::l,h=>by rw [jy,jy,h p List.mem_cons_self,DK fun r hr=>h r (List.mem_cons_of_mem _ hr)]
theorem kZ {P:List Pt} {k:Int}:k∈aX P↔(k=0∨k=1∨k=2)/\jF P k≠ []:=by
 unfold aX jF;rw [List.mem_filter];constructor
 ·rintro⟨h1,h2⟩
  refine⟨by simpa using h1,fun e=>?_⟩;obtain⟨p,hp,hk⟩:=List.any_eq_true.1 h2;have:p∈P.filter (fun p=>p.h==k):=List.mem_filter.2 ⟨hp,hk⟩;rw [e] at this;simp at this
 ·rintro⟨h1,h2⟩
  refine⟨by simpa using h1,?_⟩;obtain⟨p,hp⟩:=List.exists_mem_of_ne_nil _ h2;obtain⟨h3,h4⟩:=List.mem_filter.1 hp;exact List.any_eq_true.2 ⟨p,h3,h4⟩
theorem rJ {P:List Pt} {n:Int} (hw:bD P n=0) {k:Int} (h:k∈aX P):0<=k/\k<n:=by
 obtain⟨h1,h2⟩:=kZ.1 h;obtain⟨p,hp⟩:=List.exists_mem_of_ne_nil _ h2;unfold jF at hp;obtain⟨h3,h4⟩:=List.mem_filter.1 hp;have:=(eP hw).2.2.1 p h3;have h5:p.h=k:=by simpa using h4
 omega
theorem xk {P:List Pt} {n:Int} (hw:bD P n=0) (hn:n<=3) {k q:Int} (h:has k q P=true):k∈aX P/\0<=q/\q<4:=by
 obtain⟨p,hp,h1,h2⟩:=QI.1 h;have:=(eP hw).2.2.1 p hp;refine⟨kZ.2 ⟨δ,?_⟩,δ,δ⟩;intro e;have:p∈jF P k:=by unfold jF;exact List.mem_filter.2 ⟨hp,by simp [h1]⟩
 rw [e] at this;simp at this
theorem DT {P:List Pt} {k q:Int} (h:has k q P=true):q∈(jF P k).map (·.k):=by
 obtain⟨p,hp,h1,h2⟩:=QI.1 h;exact List.mem_map.2 ⟨p,by unfold jF;exact List.mem_filter.2 ⟨hp,by simp [h1]⟩,h2⟩
theorem uO {P:List Pt} {n:Int} (hw:bD P n=0) (hn:n<=3):0<(aX P).length:=by
 obtain⟨h1,h2,h3,h4⟩:=eP hw;obtain⟨p,hp⟩:=List.exists_mem_of_length_pos h1;have hb:=h3 p hp;have:p.h∈aX P:=kZ.2 ⟨δ,fun e=>by
  have:p∈jF P p.h:=by unfold jF;exact List.mem_filter.2 ⟨hp,σ⟩
  rw [e] at this;simp at this⟩
 exact List.length_pos_of_mem this
def KT (P:List Pt):Nat->List Sm->Int
 |_,[]=>0
 |k,s::l=>if jy s.get (jF P k)=0 then KT P (k+1) l else jy s.get (jF P k)
def wM (P:List Pt):Nat->List Sm->List Sm
 |_,[]=>[]
 |k,s::l=>nJ s (jF P k)::wM P (k+1) l
def uP (sums:List Sm) (P:List Pt):List Sm×Int:=if KT P 0 sums=0 then(wM P 0 sums,0) else(sums,KT P 0 sums)
def Tj (sums:List Sm):List Rd->List Sm×List Int
 | []=>(sums,[])
 |r::D=>((Tj (uP sums r.parts).1 D).1,(uP sums r.parts).2::(Tj (uP sums r.parts).1 D).2)
theorem DU {P:List Pt}:∀{l:List Sm} {k0:Nat},(∀(k:Nat) s,l[k]? =some s->jy s.get (jF P ((k0+k:Nat):Int))=0)->KT P k0 l=0
 | [],_,_=>rfl
 |s::l,k0,h=>by
  unfold KT;rw [if_pos (by simpa using h 0 s rfl)];exact DU fun k t ht=>by
   have:=h (k+1) t (by simpa using ht);rwa [show k0+(k+1)=k0+1+k by omega] at this
theorem Gy {P:List Pt}:∀{l:List Sm} {k0:Nat} (k:Nat),(wM P k0 l)[k]? =(l[k]?).map fun s=>nJ s (jF P ((k0+k:Nat):Int))
 | [],_,k=>by simp [wM]
 |s::l,k0,0=>by simp [wM]
 |s::l,k0,k+1=>by
  unfold wM;rw [List.getElem?_cons_succ,List.getElem?_cons_succ,Gy k,show k0+1+k=k0+(k+1) by omega]
theorem Gz {P:List Pt}:∀(l:List Sm) (k0:Nat),(wM P k0 l).length=l.length
 | [],_=>rfl
 |s::l,k0=>by unfold wM;simp [Gz l]
theorem DV:∀{a b:List Int},a.Pairwise (· < ·)->b.Pairwise (· < ·)->(∀x,x∈a↔x∈b)->a=b
 | [],[],_,_,_=>rfl
 | [],y::b,_,_,h=>absurd ((h y).2 List.mem_cons_self) σ
 |x::a,[],_,_,h=>absurd ((h x).1 List.mem_cons_self) σ
 |x::a,y::b,ha,hb,h=>by
  rw [List.pairwise_cons] at ha hb;have hxy:x=y:=by
   rcases List.mem_cons.1 ((h x).1 List.mem_cons_self) with e|e
   ·exact e
   ·rcases List.mem_cons.1 ((h y).2 List.mem_cons_self) with e'|e'
    ·exact e'.symm
    ·have:=hb.1 x e;have:=ha.1 y e';omega
  subst hxy;rw [DV ha.2 hb.2 fun z=>⟨fun hz=>by
   rcases List.mem_cons.1 ((h z).1 (List.mem_cons_of_mem _ hz)) with e|e
   ·have:=ha.1 z hz;omega
   ·exact e,fun hz=>by
   rcases List.mem_cons.1 ((h z).2 (List.mem_cons_of_mem _ hz)) with e|e
   ·have:=hb.1 z hz;omega
   ·exact e⟩]
def gB:List Int->List Pt->List Int
 |had,[]=>had
 |had,p::l=>gB (if p.h∈had then had else had++ [p.h]) l
theorem vS:∀{l:List Pt} {had:List Int} {x:Int},x∈gB had l↔x∈had∨∃p∈l,p.h=x
 | [],had,x=>by simp [gB]
 |p::l,had,x=>by
  rw [gB,vS];split
  ·rename_i hp
   constructor
   ·rintro(h|⟨q,hq,rfl⟩)
    ·exact .inl h
    ·exact .inr ⟨q,List.mem_cons_of_mem _ hq,rfl⟩
   ·rintro(h|⟨q,hq,rfl⟩)
    ·exact .inl h
    ·rcases List.mem_cons.1 hq with rfl|hq
     ·exact .inl hp
     ·exact .inr ⟨q,hq,rfl⟩
  ·constructor
   ·rintro(h|⟨q,hq,rfl⟩)
    ·rcases List.mem_append.1 h with h|h
     ·exact .inl h
     ·exact .inr ⟨p,List.mem_cons_self,(by simpa using h:x=p.h).symm⟩
    ·exact .inr ⟨q,List.mem_cons_of_mem _ hq,rfl⟩
   ·rintro(h|⟨q,hq,rfl⟩)
    ·exact .inl (List.mem_append_left _ h)
    ·rcases List.mem_cons.1 hq with rfl|hq
     ·exact .inl σ
     ·exact .inr ⟨q,hq,rfl⟩
theorem Bq:∀{l:List Pt} {had:List Int},had.Nodup->(gB had l).Nodup
 | [],_,h=>h
 |p::l,had,h=>by
  rw [gB];apply Bq;split
  ·exact h
  ·rename_i hp
   rw [List.nodup_append];exact⟨h,σ,fun a ha b hb=>by simp only [List.mem_singleton] at hb;subst hb;rintro rfl;exact hp ha⟩
theorem zZ:∀(l:List Pt) (had:List Int),(gB had l).length<=had.length+l.length
 | [],_=>by simp [gB]
 |p::l,had=>by
  rw [gB];have:=zZ l (if p.h∈had then had else had++ [p.h]);have h2:(if p.h∈had then had else had++ [p.h]).length<=had.length+1:=by split<;>simp
  simp only [List.length_cons];omega
theorem Tm {l:List Int} (h:l.Nodup):(l.mergeSort fun x y=>decide (x<=y)).Pairwise (· < ·):=by
 have h1:(l.mergeSort fun x y=>decide (x<=y)).Pairwise fun a b=>decide (a<=b)=true:=
  List.pairwise_mergeSort (fun a b c h1 h2=>by simp only [decide_eq_true_eq] at*;omega) (fun a b=>by simp only [Bool.or_eq_true,decide_eq_true_eq];omega) l
 have h2:(l.mergeSort fun x y=>decide (x<=y)).Nodup:=(List.mergeSort_perm l _).nodup_iff.2 h;exact(h1.and h2).imp fun {a b} h=>by
  have:=of_decide_eq_true h.1;have h3:a≠b:=h.2;omega
theorem KU (l:List Pt):(aX l).Pairwise (· < ·):=by
 unfold aX;exact List.Pairwise.filter _ σ
theorem Ou {l:List Pt} {x:Int}:x∈aX l↔(x=0∨x=1∨x=2)/\∃p∈l,p.h=x:=by
 unfold aX;simp [List.mem_filter]
theorem KW {l:List Pt} (h:∀p∈l,0<=p.h/\p.h<3):(gB [] l).mergeSort (fun x y=>decide (x<=y))=aX l:=by
 refine DV (Tm (Bq List.nodup_nil)) (KU l) fun x=>?_;rw [List.mem_mergeSort,vS,Ou];constructor
 ·rintro(h0|⟨p,hp,rfl⟩)
  ·simp at h0
  ·have:=h p hp
   exact⟨δ,p,hp,rfl⟩
 ·rintro⟨-,p,hp,rfl⟩
  exact .inr ⟨p,hp,rfl⟩
end Go.Proofs.YtocnmkefmgmkbaaGreat
namespace Go.Proofs.YtocnmkefmgmkbaaGreat
theorem Vz {l:List Rd} {d:Int} (h:l.findIdx? (kD d)=none):l.find? (kD d)=none:=by
 rw [List.findIdx?_eq_none_iff] at h;rw [List.find?_eq_none];intro x hx;rw [h x hx];simp
theorem KX {d:Int}:∀{l:List Rd} {i:Nat},l.findIdx? (kD d)=some i->∃hi:i<l.length,l.find? (kD d)=some l[i]/\l.eraseP (kD d)=l.eraseIdx i
 | [],i,h=>by simp at h
 |x::l,i,h=>by
  rw [List.findIdx?_cons] at h;by_cases hx:kD d x=true
  ·rw [if_pos hx] at h
   obtain rfl:0=i:=by simpa using h
   exact⟨σ,by rw [List.find?_cons_of_pos hx];rfl,by rw [List.eraseP_cons_of_pos hx];rfl⟩
  ·rw [if_neg hx] at h
   cases hk:l.findIdx? (kD d) with
   |none=>rw [hk] at h;simp at h
   |some k=>
    rw [hk] at h;obtain rfl:k+1=i:=by simpa using h
    obtain⟨h1,h2,h3⟩:=KX hk;exact⟨by simp;omega,by rw [List.find?_cons_of_neg hx,h2];rfl,by rw [List.eraseP_cons_of_neg hx,h3];rfl⟩
theorem KY {h:Hs} {r:Rc} (e:h.ready.find? (kD r.deed)=none):dH h r=if r.kind=1 then { h with ready:=h.ready++ [⟨r.deed,r.parts⟩] } else h:=by
 unfold dH;rw [vM,e];by_cases hk:r.kind=1<;>simp [hk]
theorem QK {h:Hs} {r:Rc} {x:Rd} (e:h.ready.find? (kD r.deed)=some x):dH h r=
  if r.kind=2 then { h with sums:=nJ h.sums x.parts,ready:=h.ready.eraseP (kD r.deed),done:=h.done++ [r.deed] }
  else if r.kind=3 then { h with ready:=h.ready.eraseP (kD r.deed) } else h:=by
 unfold dH;rw [vM,e];by_cases h2:r.kind=2
 ·simp [h2]
 ·by_cases h3:r.kind=3<;>simp [h2,h3]
theorem FM {h:Hs} {r:Rc} (e:h.ready.findIdx? (kD r.deed)=none):dH h r=if r.kind=1 then { h with ready:=h.ready++ [⟨r.deed,r.parts⟩] } else h:=KY (Vz e)
theorem FN {h:Hs} {r:Rc} {i:Nat} (e:h.ready.findIdx? (kD r.deed)=some i):∃hi:i<h.ready.length,dH h r=
  if r.kind=2 then { h with sums:=nJ h.sums h.ready[i].parts,ready:=h.ready.eraseIdx i,done:=h.done++ [r.deed] }
  else if r.kind=3 then { h with ready:=h.ready.eraseIdx i } else h:=by
 obtain⟨hi,h1,h2⟩:=KX e;exact⟨hi,by rw [QK h1,h2]⟩
end Go.Proofs.YtocnmkefmgmkbaaGreat
namespace Go.Proofs.YtocnmkefmgmkbaaGreat
open Go.RowKit
theorem Ox (w:World) (B:Nat) (d:Int) (wx:World) (cs:List Value) (x:Rd) (hc:w.cell? ⟨B,0,none⟩=some (ι d)) (hg:Grow w wx) (hR:Ty.rd.R wx.cell? cs x):
  Calls Tryz.prog 110 #[.agg cs.toArray,.pointer (some ⟨B,0,none⟩)] wx fun e w'=>e=.returned (.bool (kD d x))/\Grow wx w':=by
 obtain⟨vp,rfl,-,hp⟩:=hR;obtain⟨ap,cp,rfl,-⟩:=hp;have hB:=World.block_lt_of_cell? w _ hc;simp only at hB;have hBx:B<wx.heap.size:=Nat.lt_of_lt_of_le hB hg.size;replace hc:=hg.sub _ _ hc;go_enter Tryz.func110,Tryz.ntmps110;go_wp2;go_ret;exact⟨rfl,gY⟩
theorem I7 (w:World) (B:Nat) (d:Int) (l:List Rd) (hc:w.cell? ⟨B,0,none⟩=some (ι d)):qF Tryz.prog Ty.rd lQ w 110 #[.pointer (some ⟨B,0,none⟩)] l (kD d) where
 ent:=fun args w=>by kernel_rfl
 say:=fun wx cs x hg _ hR=>Ox w B d wx cs x hc hg hR
theorem Tn {v:Value} {l:List Rd} {d:Int} (w:World) (hv:Sl Ty.rd w.cell? v l):
  Calls Tryz.prog 72 #[v,ι d] w fun e w'=>e=.returned (ι (idxOf (kD d) l))/\Grow w w':=by
 have HX:=η (yj (w.alloc (.cells #[ι d] 3)) (hv.mono ((Grow.refl w).alloc _).sub) (I7 (w.alloc (.cells #[ι d] 3)) w.heap.size d l (by rw [World.cell?_alloc_new];rfl)));obtain⟨a,cap,rfl,-⟩:=hv;go_enter Tryz.func72,Tryz.ntmps72;go_wp2_with fail
 refine HX.o.mono ?_;rintro e w1 ⟨rfl,hb1⟩;have HB:=η hb1;clear hb1;go_wp2;go_ret;exact⟨rfl,((Grow.refl w).alloc _).trans HB.o⟩
abbrev I8:Array Value:=#[(),ι 0,ι 0,ι 0,ι 0,(),()]
def hmem (w w1 wr:World) (vl vr vd:Value):CM:=fr w wr [vl.ownBlock,vr.ownBlock,vd.ownBlock,some w.heap.size,some w1.heap.size]
structure oJ (w w1 wr:World) (vl vr vd:Value) (l:List Rc) (h:Hs):Prop where
 res:wr.heap[w.heap.size]? =some (.cells I8 50 (0,0))
 row:wr.heap[w1.heap.size]? =some (.cells #[vl,ι h.sums.a,ι h.sums.b,ι h.sums.c,ι h.sums.d,vr,vd] 50 (0,0))
 log:aI Ty.rc (hmem w w1 wr vl vr vd) wr (w.heap.size+1) 79 vl l
 ready:aI Ty.rd (hmem w w1 wr vl vr vd) wr (w1.heap.size+1) 53 vr h.ready
 done:wr.ownsRow (w1.heap.size+1) 3 1 vd h.done.length (h.done.flatMap dB)
 grow:Grow w wr
 size:w1.heap.size+1<=wr.heap.size
 lt:∀k,vl.ownBlock=some k->k<w1.heap.size
 w1:w.heap.size+1<=w1.heap.size
 uo:vr.ownBlock=none∨vr.ownBlock≠vd.ownBlock
structure UH (w1 wr w':World) (vr vd Tq zI:Value):Prop where
 size:wr.heap.size<=w'.heap.size
 block:∀k,k<wr.heap.size->k≠w1.heap.size->vr.ownBlock≠some k->vd.ownBlock≠some k->w'.heap[k]? =wr.heap[k]?
 ready:Tq.ownBlock=vr.ownBlock∨∃g,Tq.ownBlock=some g/\wr.heap.size<=g
 done:zI.ownBlock=vd.ownBlock∨∃g,zI.ownBlock=some g/\wr.heap.size<=g
theorem UH.mem {w w1 wr w':World} {vl vr vd Tq zI:Value} (c:UH w1 wr w' vr vd Tq zI):Sub (hmem w w1 wr vl vr vd) (hmem w w1 w' vl Tq zI):=by
 refine gZ fun k hk _ hx=>?_;simp only [List.mem_cons,List.not_mem_nil,or_false,not_or] at hx ⊢;obtain⟨x1,x2,x3,x4,x5⟩:=hx;refine⟨c.block k hk (fun e=>x5 (by rw [e])) (fun e=>x2 e.symm) (fun e=>x3 e.symm),x1,?_,?_,x4,x5⟩
 ·rcases c.ready with e|⟨g,e,hg⟩
  ·rw [e];exact x2
  ·rw [e];simp;omega
 ·rcases c.done with e|⟨g,e,hg⟩
  ·rw [e];exact x3
  ·rw [e];simp;omega
theorem owns_block {w w':World} {base e size n:Nat} {v:Value} {xs:List Value} (h:w.ownsRow base e size v n xs) (hb:∀k,v.ownBlock=some k->w'.heap[k]? =w.heap[k]?):w'.ownsRow base e size v n xs:=by
 obtain⟨hl,h'|⟨g,cap,cur,rfl,hg,hrow,hrest⟩⟩:=h
 ·exact⟨hl,.inl h'⟩
 ·exact⟨hl,.inr ⟨g,cap,cur,rfl,hg,by rw [hb g rfl];exact hrow,hrest⟩⟩
theorem aI.block {α:Type} {T:Ty α} {c:CM} {w w':World} {base e:Nat} {v:Value} {l:List α} (h:aI T c w base e v l) (hb:∀k,v.ownBlock=some k->w'.heap[k]? =w.heap[k]?):aI T c w' base e v l:=by
 obtain⟨css,k1,k2,k3⟩:=h;exact⟨css,owns_block k1 hb,k2,k3⟩
theorem oJ.put {w w1 wr w':World} {vl vr vd Tq zI:Value} {l:List Rc} {h h':Hs} (b:oJ w w1 wr vl vr vd l h) (c:UH w1 wr w' vr vd Tq zI) (hG:Grow w w')
  (row:w'.heap[w1.heap.size]? =some (.cells #[vl,ι h'.sums.a,ι h'.sums.b,ι h'.sums.c,ι h'.sums.d,Tq,zI] 50 (0,0)))
  (ready:aI Ty.rd (hmem w w1 w' vl Tq zI) w' (w1.heap.size+1) 53 Tq h'.ready) (done:w'.ownsRow (w1.heap.size+1) 3 1 zI h'.done.length (h'.done.flatMap dB)) (uo:Tq.ownBlock=none∨Tq.ownBlock≠zI.ownBlock):oJ w w1 w' vl Tq zI l h' where
 res:=by
  have h1:=b.w1;have h2:=b.size;rw [c.block _ δ δ (fun e=>by have:=(b.ready.lt _ e).1;omega) (fun e=>by have:=(b.done.lt _ e).1;omega)];exact b.res
 row:=row
 log:=by
  refine(b.log.mono c.mem).block fun k hk=>?_;have h1:=b.lt k hk;have h2:=b.size;exact c.block k δ δ (fun e=>by have:=(b.ready.lt _ e).1;omega) (fun e=>by have:=(b.done.lt _ e).1;omega)
 ready:=ready
 done:=done
 grow:=hG
 size:=Nat.le_trans b.size c.size
 lt:=b.lt
 w1:=b.w1
 uo:=uo
theorem oJ.later {w w1 wr w':World} {vl vr vd:Value} {l:List Rc} {h:Hs} (b:oJ w w1 wr vl vr vd l h) (hg:Grow wr w'):oJ w w1 w' vl vr vd l h:=
 have c:UH w1 wr w' vr vd vr vd:=⟨hg.size,fun k hk _ _ _=>hg.block k hk,.inl rfl,.inl rfl⟩;b.put c (b.grow.trans hg) (aj b.row hg) ((b.ready.mono c.mem).grow hg) (b.done.kept (ak hg none) (by cases vd.ownBlock<;>simp)) b.uo
theorem GH {w:World} {B:Nat} {a b c d e f g:Value} {t:TypeId} (h:w.heap[B]? =some (.cells #[a,b,c,d,e,f,g] t (0,0))) (u:Value):(w.setCell ⟨B,5,none⟩ u).heap[B]? =some (.cells #[a,b,c,d,e,u,g] t (0,0)):=by
 simp only [World.setCell,Array.getElem?_modify,h];simp
theorem Tt {w:World} {B:Nat} {a b c d e f g:Value} {t:TypeId} (h:w.heap[B]? =some (.cells #[a,b,c,d,e,f,g] t (0,0))) (u:Value):(w.setCell ⟨B,6,none⟩ u).heap[B]? =some (.cells #[a,b,c,d,e,f,u] t (0,0)):=by
 simp only [World.setCell,Array.getElem?_modify,h];simp
theorem KZ {w:World} {B:Nat} {a b c d e f g:Value} {t:TypeId} (h:w.heap[B]? =some (.cells #[a,b,c,d,e,f,g] t (0,0))) (u1 u2 u3 u4:Value):
  ((((w.setCell ⟨B,1,none⟩ u1).setCell ⟨B,2,none⟩ u2).setCell ⟨B,3,none⟩ u3).setCell ⟨B,4,none⟩ u4).heap[B]? =some (.cells #[a,u1,u2,u3,u4,f,g] t (0,0)):=by
 simp only [World.setCell,Array.getElem?_modify,h];simp
theorem oJ.K_ {w w1 wr wq w':World} {vl vr vd:Value} {l:List Rc} {h:Hs} {x:Rd} {a':Option Addr} {n c':Nat} (b:oJ w w1 wr vl vr vd l h) (hG:Grow wr wq)
  (ho:aI Ty.rd (hmem w w1 wq vl vr vd) w' (w1.heap.size+1) 53 (ς a' n c') (h.ready++ [x])) (hg:wq.grownBy w' vr.ownBlock) (hb:(Value.slice a' n c').ownBlock=vr.ownBlock∨∃g,(Value.slice a' n c').ownBlock=some g/\wq.heap.size<=g):
  oJ w w1 (w'.setCell ⟨w1.heap.size,5,none⟩ (ς a' n c')) vl (ς a' n c') vd l { h with ready:=h.ready++ [x] }/\UH w1 wr (w'.setCell ⟨w1.heap.size,5,none⟩ (ς a' n c')) vr vd (ς a' n c') vd:=by
 have bq:=b.later hG;have hs:=hG.size;have hs1:=b.size;have hw1:=b.w1;have hlt:=bq.ready.lt;have hdl:=bq.done.lt;have hB:∀k,k≠w1.heap.size->(w'.setCell ⟨w1.heap.size,5,none⟩ (ς a' n c')).heap[k]? =w'.heap[k]?:=fun k hk=>Below.heap_setCell _ _ _ _ (fun e=>hk e);have c1:UH w1 wq (w'.setCell ⟨w1.heap.size,5,none⟩ (ς a' n c')) vr vd (ς a' n c') vd:=⟨by simpa using hg.size,fun k hk h1 h2 _=>by rw [hB k h1,hg.block k hk (fun e=>h2 e.symm)],hb,.inl rfl⟩;have YG:Grow w (w'.setCell ⟨w1.heap.size,5,none⟩ (ς a' n c')):=(bq.grow.grown hg (fun k hk=>by have:=(hlt k hk).1;omega)).setCell (by simp;omega) _;have hdj:∀k,vd.ownBlock=some k->vr.ownBlock≠some k:=fun k hk e=>by
  rcases b.uo with d|d
  ·rw [d] at e;cases e
  ·exact d (e.trans hk.symm)
 refine⟨bq.put c1 YG (GH (aH bq.row hg (fun e=>by have:=(hlt _ e.symm).1;omega)) _) ((ho.mono c1.mem).block fun k hk=>?_) (owns_block bq.done fun k hk=>?_) ?_,?_⟩
 ·exact hB k (τ ((ho.lt k hk).1))
 ·have:=hdl k hk
  rw [hB k δ,hg.block k this.2 (fun e=>hdj k hk e.symm)]
 ·rcases hb with e|⟨g,e,hge⟩
  ·rw [e];exact b.uo
  ·right;rw [e];intro e'
   have:=hdl g e'.symm;omega
 ·exact⟨Nat.le_trans hs c1.size,fun k hk h1 h2 h3=>(c1.block k δ h1 h2 h3).trans (hG.block k hk),by
   rcases hb with e|⟨g,e,hge⟩
   ·exact .inl e
   ·exact .inr ⟨g,e,δ⟩,.inl rfl⟩
theorem oJ.IA {w w1 wr wq w':World} {vl vr vd:Value} {l:List Rc} {h:Hs} {x:Int} {a':Option Addr} {n c':Nat} (b:oJ w w1 wr vl vr vd l h) (hG:Grow wr wq)
  (ho:w'.ownsRow (w1.heap.size+1) 3 1 (ς a' n c') (h.done++ [x]).length ((h.done++ [x]).flatMap dB)) (hg:wq.grownBy w' vd.ownBlock) (hb:(Value.slice a' n c').ownBlock=vd.ownBlock∨∃g,(Value.slice a' n c').ownBlock=some g/\wq.heap.size<=g):
  oJ w w1 (w'.setCell ⟨w1.heap.size,6,none⟩ (ς a' n c')) vl vr (ς a' n c') l { h with done:=h.done++ [x] }/\UH w1 wr (w'.setCell ⟨w1.heap.size,6,none⟩ (ς a' n c')) vr vd vr (ς a' n c'):=by
 have bq:=b.later hG;have hs:=hG.size;have hs1:=b.size;have hw1:=b.w1;have hlt:=bq.ready.lt;have hdl:=bq.done.lt;have hB:∀k,k≠w1.heap.size->(w'.setCell ⟨w1.heap.size,6,none⟩ (ς a' n c')).heap[k]? =w'.heap[k]?:=fun k hk=>Below.heap_setCell _ _ _ _ (fun e=>hk e);have c1:UH w1 wq (w'.setCell ⟨w1.heap.size,6,none⟩ (ς a' n c')) vr vd vr (ς a' n c'):=⟨by simpa using hg.size,fun k hk h1 _ h2=>by rw [hB k h1,hg.block k hk (fun e=>h2 e.symm)],.inl rfl,hb⟩;have YG:Grow w (w'.setCell ⟨w1.heap.size,6,none⟩ (ς a' n c')):=(bq.grow.grown hg (fun k hk=>by have:=(hdl k hk).1;omega)).setCell (by simp;omega) _;have hdj:∀k,vr.ownBlock=some k->vd.ownBlock≠some k:=fun k hk e=>by
  rcases b.uo with d|d
  ·rw [d] at hk;cases hk
  ·exact d (hk.trans e.symm)
 refine⟨bq.put c1 YG (Tt (aH bq.row hg (fun e=>by have:=(hdl _ e.symm).1;omega)) _) ((bq.ready.mono c1.mem).block fun k hk=>?_) (owns_block ho fun k hk=>?_) ?_,?_⟩
 ·have:=hlt k hk
  rw [hB k δ,hg.block k this.2 (fun e=>hdj k hk e.symm)]
 ·exact hB k (τ ((ho.lt k hk).1))
 ·cases e0:vr.ownBlock with
  |none=>exact .inl rfl
  |some q=>
   right;rcases hb with e|⟨g,e,hge⟩
   ·rw [e];intro e';exact hdj q e0 e'.symm
   ·rw [e];intro e';have:=hlt q e0;simp at e';omega
 ·exact⟨Nat.le_trans hs c1.size,fun k hk h1 h2 h3=>(c1.block k δ h1 h2 h3).trans (hG.block k hk),.inl rfl,by
   rcases hb with e|⟨g,e,hge⟩
   ·exact .inl e
   ·exact .inr ⟨g,e,δ⟩⟩
theorem oJ.sum {w w1 wr wq:World} {vl vr vd:Value} {l:List Rc} {h:Hs} {s:Sm} (b:oJ w w1 wr vl vr vd l h) (hG:Grow wr wq):
  oJ w w1 ((((wq.setCell ⟨w1.heap.size,1,none⟩ (ι s.a)).setCell ⟨w1.heap.size,2,none⟩ (ι s.b)).setCell ⟨w1.heap.size,3,none⟩ (ι s.c)).setCell ⟨w1.heap.size,4,none⟩ (ι s.d)) vl vr vd l { h with sums:=s }/\
  UH w1 wr ((((wq.setCell ⟨w1.heap.size,1,none⟩ (ι s.a)).setCell ⟨w1.heap.size,2,none⟩ (ι s.b)).setCell ⟨w1.heap.size,3,none⟩ (ι s.c)).setCell ⟨w1.heap.size,4,none⟩ (ι s.d)) vr vd vr vd:=by
 have bq:=b.later hG;have hs:=hG.size;have hs1:=b.size;have hw1:=b.w1;have hB:∀k,k≠w1.heap.size->((((wq.setCell ⟨w1.heap.size,1,none⟩ (ι s.a)).setCell ⟨w1.heap.size,2,none⟩ (ι s.b)).setCell ⟨w1.heap.size,3,none⟩ (ι s.c)).setCell ⟨w1.heap.size,4,none⟩ (ι s.d)).heap[k]? =wq.heap[k]?:=fun k hk=>by
  rw [Below.heap_setCell _ _ _ _ (fun e=>hk e),Below.heap_setCell _ _ _ _ (fun e=>hk e),Below.heap_setCell _ _ _ _ (fun e=>hk e),Below.heap_setCell _ _ _ _ (fun e=>hk e)]
 have c1:UH w1 wq ((((wq.setCell ⟨w1.heap.size,1,none⟩ (ι s.a)).setCell ⟨w1.heap.size,2,none⟩ (ι s.b)).setCell ⟨w1.heap.size,3,none⟩ (ι s.c)).setCell ⟨w1.heap.size,4,none⟩ (ι s.d)) vr vd vr vd:=⟨σ,fun k hk h1 _ _=>hB k h1,.inl rfl,.inl rfl⟩;have YG:Grow w ((((wq.setCell ⟨w1.heap.size,1,none⟩ (ι s.a)).setCell ⟨w1.heap.size,2,none⟩ (ι s.b)).setCell ⟨w1.heap.size,3,none⟩ (ι s.c)).setCell ⟨w1.heap.size,4,none⟩ (ι s.d)):=(((bq.grow.setCell (by simp;omega) _).setCell (by simp;omega) _).setCell (by simp;omega) _).setCell (by simp;omega) _;refine⟨bq.put c1 YG (KZ bq.row _ _ _ _) ((bq.ready.mono c1.mem).block fun k hk=>hB k (τ ((bq.ready.lt k hk).1))) (owns_block bq.done fun k hk=>hB k (τ ((bq.done.lt k hk).1))) b.uo,?_⟩;exact⟨Nat.le_trans hs c1.size,fun k hk h1 h2 h3=>(c1.block k δ h1 h2 h3).trans (hG.block k hk),.inl rfl,.inl rfl⟩
theorem oJ.rL {w w1 wr wq w':World} {vl vd:Value} {l:List Rc} {h:Hs} {g cap i:Nat} (b:oJ w w1 wr vl (ς (some ⟨g,0,none⟩) h.ready.length cap) vd l h) (hG:Grow wr wq) (hi:i<h.ready.length)
  {css:List (List Value)} (k2:css.length=h.ready.length) (k3:∀(i:Nat) (cs:List Value) (x:Rd),css[i]? =some cs->h.ready[i]? =some x->Ty.rd.R (hmem w w1 wq vl (ς (some ⟨g,0,none⟩) h.ready.length cap) vd) cs x)
  (hnew:w'.ownsRow (w1.heap.size+1) 53 2 (ς (some ⟨g,0,none⟩) (h.ready.length - 1) cap) (h.ready.length - 1) (css.flatten.take (i*2)++css.flatten.drop ((i+1)*2))) (hg:wq.grownBy w' (some g)):
  oJ w w1 (w'.setCell ⟨w1.heap.size,5,none⟩ (ς (some ⟨g,0,none⟩) (h.ready.length - 1) cap)) vl (ς (some ⟨g,0,none⟩) (h.ready.length - 1) cap) vd l { h with ready:=h.ready.eraseIdx i }/\
  UH w1 wr (w'.setCell ⟨w1.heap.size,5,none⟩ (ς (some ⟨g,0,none⟩) (h.ready.length - 1) cap)) (ς (some ⟨g,0,none⟩) h.ready.length cap) vd (ς (some ⟨g,0,none⟩) (h.ready.length - 1) cap) vd:=by
 have bq:=b.later hG;have hsz:=hG.size;have hs1:=b.size;have hw1:=b.w1;have hlt:=bq.ready.lt g rfl;have hdl:=bq.done.lt;have hB:∀k,k≠w1.heap.size->(w'.setCell ⟨w1.heap.size,5,none⟩ (ς (some ⟨g,0,none⟩) (h.ready.length - 1) cap)).heap[k]? =w'.heap[k]?:=fun k hk=>Below.heap_setCell _ _ _ _ (fun e=>hk e);have c1:UH w1 wq (w'.setCell ⟨w1.heap.size,5,none⟩ (ς (some ⟨g,0,none⟩) (h.ready.length - 1) cap)) (ς (some ⟨g,0,none⟩) h.ready.length cap) vd (ς (some ⟨g,0,none⟩) (h.ready.length - 1) cap) vd:=⟨by simpa using hg.size,fun k hk h1 h2 _=>by rw [hB k h1,hg.block k hk (fun e=>h2 e.symm)],.inl rfl,.inl rfl⟩;have YG:Grow w (w'.setCell ⟨w1.heap.size,5,none⟩ (ς (some ⟨g,0,none⟩) (h.ready.length - 1) cap)):=(bq.grow.grown hg (fun k hk=>by simp at hk;omega)).setCell (by simp;omega) _;have hdj:∀k,vd.ownBlock=some k->g≠k:=fun k hk e=>by
  rcases b.uo with d|d
  ·cases d
  ·exact d (by rw [hk,<-e];rfl)
 have hcl:=jM k2 k3;refine⟨bq.put c1 YG (GH (aH bq.row hg (by simp;omega)) _) ⟨css.eraseIdx i,?_,?_,?_⟩ (owns_block bq.done fun k hk=>?_) (.inr fun e=>hdj g e.symm rfl),?_⟩
 ·have e:(css.eraseIdx i).flatten=css.flatten.take (i*2)++css.flatten.drop ((i+1)*2):=by
   rw [jD (size:=2) css i hcl,lS (size:=2) css (i+1) hcl,List.eraseIdx_eq_take_drop_succ,List.flatten_append]
  rw [e];have e2:(h.ready.eraseIdx i).length=h.ready.length - 1:=List.length_eraseIdx_of_lt hi;rw [e2];refine owns_block hnew fun k hk=>hB k ?_;have:g=k:=by simpa [Value.ownBlock] using hk
  omega
 ·simp only [List.length_eraseIdx_of_lt hi,List.length_eraseIdx_of_lt (δ:i<css.length)];omega
 ·intro j cs x a e
  rw [List.getElem?_eraseIdx] at a e;by_cases hj:j<i
  ·rw [if_pos hj] at a e
   exact Ty.rd.mono c1.mem (k3 j cs x a e)
  ·rw [if_neg hj] at a e
   exact Ty.rd.mono c1.mem (k3 (j+1) cs x a e)
 ·have:=hdl k hk
  rw [hB k δ,hg.block k this.2 (fun e=>hdj k hk (Option.some.inj e).symm)]
 ·exact⟨Nat.le_trans hsz c1.size,fun k hk h1 h2 h3=>(c1.block k δ h1 h2 h3).trans (hG.block k hk),.inl rfl,.inl rfl⟩
theorem cells3 {w:World} {B:Nat} {a b c:Value} {t:TypeId} (h:w.heap[B]? =some (.cells #[a,b,c] t (0,0))):w.cell? ⟨B,0,none⟩=some a/\w.cell? ⟨B,1,none⟩=some b/\w.cell? ⟨B,2,none⟩=some c:=by
 refine⟨?_,?_,?_⟩<;>simp [World.cell?,h]
theorem Tv {c:CM} {w:World} {base e:Nat} {v:Value} {l:List Int} (h:aI Ty.int c w base e v l):w.ownsRow base e 1 v l.length (l.flatMap dB):=by
 obtain⟨css,h1,h2,h3⟩:=h;have:css.flatten=l.flatMap dB:=by
  rw [List.flatMap_def];congr 1;apply List.ext_getElem?;intro i;rw [List.getElem?_map];by_cases hi:i<l.length
  ·have e1:css[i]? =some css[i]:=List.getElem?_eq_getElem δ
   have e2:l[i]? =some l[i]:=List.getElem?_eq_getElem hi;rw [e1,e2];simp only [Option.map_some,Option.some.injEq];exact(h3 i _ _ e1 e2).1
  ·rw [List.getElem?_eq_none δ,List.getElem?_eq_none δ];rfl
 rw [<-this];exact h1
theorem VA {h:Hs} {n:Nat} (k:DB h n) {r:Rc} (hd:I64 r.deed) (hr:dw r.parts):DB (dH h r) (n+1):=by
 have h1:=k.ready;have h2:=k.done;cases hf:h.ready.find? (kD r.deed) with
 |none=>
  rw [KY hf];split
  ·exact⟨by simp;omega,by show h.done.length<=_;omega,fun x hx=>by
    rcases List.mem_append.1 hx with hx|hx
    ·exact k.keys x hx
    ·rw [List.mem_singleton.1 hx];exact hr,k.sums,k.ints⟩
  ·exact⟨δ,δ,k.keys,k.sums,k.ints⟩
 |some x=>
  rw [QK hf];have hle:(h.ready.eraseP (kD r.deed)).length<=h.ready.length:=List.eraseP_sublist.length_le;split
  ·exact⟨by show(h.ready.eraseP _).length<=_;omega,by simp;omega,fun y hy=>k.keys y (List.eraseP_sublist.subset hy),k.sums.nJ _,fun y hy=>by
    rcases List.mem_append.1 hy with hy|hy
    ·exact k.ints y hy
    ·rw [List.mem_singleton.1 hy];exact hd⟩
  ·split
   ·exact⟨by show(h.ready.eraseP _).length<=_;omega,by show h.done.length<=_;omega,fun y hy=>k.keys y (List.eraseP_sublist.subset hy),k.sums,k.ints⟩
   ·exact⟨δ,δ,k.keys,k.sums,k.ints⟩
theorem pK {v:Value} {l:List Rc} (w:World) (hv:UD w.cell? v l) (hk:∀r∈l,dw r.parts) (hm:l.length*40<=140737488351232) (hp:∀r∈l,r.parts.length*24<=140737488355328):
  Calls Tryz.prog 38 #[v] w fun e w'=>∃v',e=.returned v'/\Of Ty.hs (ov (fun _=>none) w w') v' (gu l)/\Grow w w':=by
 have HOWN:=η (yA (w.alloc (.cells I8 50)) (hv.mono ((Grow.refl w).alloc _).sub) δ hp);have HK:=η hk;have HM:=η hm;have HP:=η hp;obtain⟨al0,cl0,rfl,-⟩:=hv;have hlm:l.length<=3518437208883:=by omega
 clear hk hm hp;go_enter Tryz.func38,Tryz.ntmps38;go_wp2_with fail
 refine HOWN.o.mono ?_;rintro e w1 ⟨vl,rfl,hown,hb1⟩;obtain⟨al,cl,rfl⟩:=hown.form;have HOW:=η hown;have HB1:=η hb1;have z1:w.heap.size+1<=w1.heap.size:=by have:=hb1.size;simpa using this
 clear hown hb1;go_wp2;go_loopw [13] (fun i wr=>∃(k:Nat) (h:Hs) (vr vd:Value),k<=l.length/\i=ι k/\(l.take k).foldl dH ⟨l,⟨0,0,0,0⟩,[],[]⟩=h/\oJ w w1 wr (ς al l.length cl) vr vd l h/\DB h k) (fun i _=>l.length - (intOf i).toNat)
 case atStart=>
  refine⟨0,⟨l,⟨0,0,0,0⟩,[],[]⟩,(),(),δ,rfl,rfl,?_,⟨σ,σ,σ,⟨fP,fP,fP,fP⟩,σ⟩⟩;have hl:=HOW.o.lt;refine⟨aj (aF w _) (HB1.o.alloc _),aF _ _,?_,aI.nil _ _ _ _ _,World.ownsRow_nil _ _ _ _,((Grow.refl w).alloc _).trans (HB1.o.alloc _),σ,fun k hk=>(hl k hk).2,z1,.inl rfl⟩;have hs0:(w.alloc (.cells I8 50)).heap.size=w.heap.size+1:=by simp
  have h2:=HOW.o;rw [hs0] at h2;refine(h2.mono fun a u e=>?_).grow ((Grow.refl _).alloc _);unfold fr at e;split at e
  ·cases e
  ·rename_i hn
   have hlt:=World.block_lt_of_cell? w1 a e;rw [hs0] at hn;unfold hmem;rw [gy δ]
   ·exact((Grow.refl w1).alloc _).sub _ _ e
   ·simp only [List.mem_cons,List.not_mem_nil,or_false,not_or]
    refine⟨fun e=>hn (.inr (by simp [e])),by simp [Value.ownBlock],by simp [Value.ownBlock],fun e=>?_,fun e=>?_⟩
    ·have:=Option.some.inj e;exact hn (.inl δ)
    ·have:=Option.some.inj e;omega
 case round=>
  obtain⟨k,h,vr,vd,hk',rfl,hfold,hbox,hok⟩:=hrel;obtain⟨ar,cr,rfl⟩:=hbox.ready.form;obtain⟨ad,cd,rfl⟩:=aY hbox.done;have Tz:=η hfold;have gW:=η hbox;have La:=η hok;have z3:=hbox.size;have z4:w1.heap.size<wr:=by omega
  by_cases hlt:k<l.length
  ·obtain⟨gl,cs,rfl,⟨vp,rfl,i0,i1,hP⟩,hA⟩:=hbox.log.get ε k hlt
   have hP':=hP.mono (fF _ _ _);obtain⟨ap,cp,rfl,-⟩:=id hP';have c0:=hA 0 _ rfl;have c1:=hA 1 _ rfl;have c2:=hA 2 _ rfl;simp only [Nat.add_zero,Ty.rc] at c0 c1 c2;have htk:(l.take (k+1)).foldl dH ⟨l,⟨0,0,0,0⟩,[],[]⟩=dH h l[k]:=by rw [List.take_succ_eq_append_getElem hlt,List.foldl_append,Tz.o];rfl
   have kY:=η htk;have hkk:=HK.o l[k] (List.getElem_mem _);have hpl:=HP.o l[k] (List.getElem_mem _);have CS:=η (fun(W:World) (hW:Grow wr W)=>pz W (hP'.mono hW.sub) hpl);have HI:=η (And.intro i0 (And.intro i1 (m_.ok (c:=wr.cell?) hP')));have ID:=η (fun(W:World) (hW:Grow wr W)=>Tn (d:=l[k].deed) W ((hbox.ready.sl ε (fF _ _ _)).mono hW.sub));have yF:=η (VA hok i1 hkk);have NT:Hid (h.ready.length<3518437208883):=η (by have:=hok.ready;have:=HM.o;omega);have FP:Hid (h.done.length<3518437208883):=η (by have:=hok.done;have:=HM.o;omega);have IF:=η hok.ints;have rN:=η hok.keys;have S_:Hid (∀q,(Value.slice ar h.ready.length cr).ownBlock=some q->q<wr.heap.size):=fun q hq=>(hbox.ready.lt q hq).2;have HLD:Hid (∀q,(Value.slice ad h.done.length cd).ownBlock=some q->q<wr.heap.size):=fun q hq=>(hbox.done.lt q hq).2;have Yb:=η z3;clear hfold hok htk hkk hpl hP hP' hA i0 i1 hbox;generalize l[k]=r at*;obtain⟨s0,s1,s2,s3,s4,s5,s6⟩:=aT gW.o.row;go_wp2_with fail
   refine(ID.o _ ((Grow.refl _).alloc _)).mono ?_;rintro e w2 ⟨rfl,hb2⟩;have HG2:Hid (Grow wr w2):=η (((Grow.refl wr).alloc _).trans hb2);have HB2:=η (gW.o.later HG2.o);have xX:=η (aj (aF wr (.cells #[ι r.kind,ι r.deed,ς ap r.parts.length cp] 79)) hb2);clear hb2 s0 s1 s2 s3 s4 s5 s6 c0 c1 c2;obtain⟨s0,s1,s2,s3,s4,s5,s6⟩:=aT HB2.o.row;obtain⟨q0,q1,q2⟩:=cells3 xX.o;have s9:w1.heap.size<w2:=(γ HB2.o.row);have q9:wr.heap.size<w2:=(γ xX.o);cases hix:h.ready.findIdx? (kD r.deed) with
   |none=>
    have hid:idxOf (kD r.deed) h.ready= -1:=by unfold idxOf;rw [hix]
    have hst:=FM hix;rw [hid];clear hix hid;by_cases k1:r.kind=1
    ·have b1:(r.kind==1)=true:=by simp [k1]
     rw [if_pos k1] at hst;have xW:=η (kY.o.trans hst);have qp:=η (hst▸yF.o);clear hst k1;have l3:w1.heap.size<w2:=by have:=HB2.o.size;omega
     have l5:wr.heap.size<w2:=(γ xX.o);have n3:(Value.slice ar h.ready.length cr).ownBlock≠some w1.heap.size:=fun e=>by have:=(HB2.o.ready.lt _ e).1;omega
     have n5:(Value.slice ar h.ready.length cr).ownBlock≠some wr.heap.size:=fun e=>by have:=S_.o _ e;omega
     have HS:Hid (∀W,w2.grownBy W (Value.slice ar h.ready.length cr).ownBlock->W.cell? ⟨w1.heap.size,5,none⟩=some (ς ar h.ready.length cr)/\W.cell? ⟨wr.heap.size,1,none⟩=some (ι r.deed)/\W.cell? ⟨wr.heap.size,2,none⟩=some (ς ap r.parts.length cp)):=fun W hW=>⟨by rw [World.cell?_of_block (hW.block w1.heap.size l3 (fun e=>n3 e.symm))];exact s5,by rw [World.cell?_of_block (hW.block wr.heap.size l5 (fun e=>n5 e.symm))];exact q1,by rw [World.cell?_of_block (hW.block wr.heap.size l5 (fun e=>n5 e.symm))];exact q2⟩;go_wp2;clear s0 s1 s2 s3 s4 s5 s6 q0 q1 q2;refine bf (fun w'=>w'.cell? ⟨w1.heap.size,5,none⟩=some (ς ar h.ready.length cr)/\w'.cell? ⟨wr.heap.size,1,none⟩=some (ι r.deed)/\w'.cell? ⟨wr.heap.size,2,none⟩=some (ς ap r.parts.length cp)) 11 κ ?_;obtain⟨wd,hWd⟩:∃x:World,x=w2.drew:=⟨_,rfl⟩;rw [<-hWd];have GD:Grow w2 wd:=by rw [hWd];exact(Grow.refl _).drew
     have zD:w2.heap.size=wd.heap.size:=by rw [hWd];rfl
     have ZD:=η zD;clear hWd zD;refine ni [0,1,2,3,4,5] 8 κ (fun _ _ _ _ _ h=>h) (HS.o _ (ak GD _)) ?_;repeat (refine gQ ?_;try simp only [aK])
     refine ny ?_;refine bO 6 κ rfl ?_;intro K HK;try simp only [aV]
     go_simp;go_at_call 73
     refine(CS.o _ (HG2.o.trans GD)).mono ?_;rintro e w3 ⟨v3,rfl,ho3,hb3⟩;obtain⟨a3,c3,rfl⟩:=aY ho3;have nC:=η ho3;have G3:=GD.trans hb3;clear ho3 hb3;refine HK.o _ _ ⟨fun _=>HS.o _ (ak G3 _),?_⟩;clear HK K;try simp only [aK]
     refine bO 7 κ rfl ?_;intro K HK;try simp only [aV]
     go_simp;refine HK.o _ _ ⟨fun _=>HS.o _ (ak G3 _),?_⟩;clear HK K;try simp only [aK]
     refine bO 8 κ rfl ?_;intro K HK;try simp only [aV]
     go_simp;refine HK.o _ _ ⟨fun _=>HS.o _ (ak (G3.alloc _) _),?_⟩;clear HK K;try simp only [aK]
     refine bO 9 κ rfl ?_;intro K HK;refine aC rfl ?_;try simp only [aV]
     have bA:=HB2.o.later (w':=(w3.alloc (.cells #[ι r.deed,ς a3 r.parts.length c3] 53))) (G3.alloc _);have YH:Ty.rd.R (hmem w w1 (w3.alloc (.cells #[ι r.deed,ς a3 r.parts.length c3] 53)) (ς (some ⟨gl,0,none⟩) l.length cl) (ς ar h.ready.length cr) (ς ad h.done.length cd)) (#[ι r.deed,ς a3 r.parts.length c3]:Array Value).toList ⟨r.deed,r.parts⟩:=by
      refine⟨_,rfl,HI.o.2.1,I4 (w1:=wd) ((nC.o).kept (ak ((Grow.refl _).alloc _) none) (by cases (Value.slice a3 r.parts.length c3).ownBlock<;>simp)) HI.o.2.2 (by have:=HB2.o.grow.size;have:=GD.size;omega) fun q hq=>?_⟩;have z1:=HB2.o.ready.lt;have z2:=HB2.o.log.lt;have z3:=HB2.o.done.lt;have z4:=HB2.o.size;have z5:=HB2.o.w1;have z6:=GD.size;simp only [List.mem_cons,List.not_mem_nil,or_false,not_or];exact⟨fun e=>by have:=(z2 q e.symm).2;omega,fun e=>by have:=(z1 q e.symm).2;omega,fun e=>by have:=(z3 q e.symm).2;omega,fun e=>by have:=Option.some.inj e;omega,fun e=>by have:=Option.some.inj e;omega⟩
     have dT:=η YH;have d7:=η bA;clear YH bA;refine dD (c:=(hmem w w1 (w3.alloc (.cells #[ι r.deed,ς a3 r.parts.length c3] 53)) (ς (some ⟨gl,0,none⟩) l.length cl) (ς ar h.ready.length cr) (ς ad h.done.length cd))) (base:=w1.heap.size+1) (l:=h.ready) (m:=[⟨r.deed,r.parts⟩]) Dj rfl IB ε (.tmp 31) (.tmp 38) rfl rfl d7.o.ready rfl (Src.bQ (T:=Ty.rd) (cs:=#[ι r.deed,ς a3 r.parts.length c3]) dT.o _ _ rfl) (by have:=NT.o;simp;omega) d7.o.size ?_;intro a9 c9 w9 fB eF gI;have iF:=η fB;have jL:=η eF;have sU:=η gI;have QL:=η (grownBy_trans (ak (G3.alloc _) _) eF);obtain⟨t5,-,-⟩:=HS.o _ QL.o;have tf:∀o,w9.frozen? ⟨w1.heap.size,o,none⟩=false:=dA (aH d7.o.row eF (fun e=>n3 e.symm));have t9:w1.heap.size<w9:=World.block_lt_of_cell? w9 _ t5;clear fB eF gI;refine HK.o _ _ ⟨fun _=>HS.o _ QL.o,?_⟩;clear HK K;try simp only [aK]
     refine bO 10 κ rfl ?_;intro K HK;try simp only [aV]
     go_simp;refine HK.o _ _ ⟨fun _=>HS.o _ QL.o,?_⟩;clear HK K;try simp only [aK]
     refine bO 11 κ rfl ?_;intro K HK;try simp only [aV]
     go_simp;refine HK.o _ _ ⟨fun h=>absurd rfl h,?_⟩;clear HK K;try simp only [aK]
     refine aO κ ?_;have HX:=oJ.K_ HB2.o (G3.alloc _) iF.o jL.o (sU.o.imp_right fun⟨g,e,hge⟩=>⟨g,e,by simpa using hge⟩);go_wp2;go_roundw
     case rel=>exact⟨k+1,_,_,_,δ,by go_num,xW.o,HX.1,qp.o⟩
     case measure=>simp [intOf];omega
    ·rw [if_neg k1] at hst
     have xW:=η (kY.o.trans hst);have qp:=η (hst▸yF.o);have b1:(r.kind==1)=false:=by simp [k1]
     clear hst;by_cases k2:r.kind=2
     ·have b2:(r.kind==2)=true:=by simp [k2]
      have b3:(r.kind==3)=false:=by simp [k2]
      clear k1 k2;go_wp2;go_roundw
      case rel=>exact⟨k+1,_,_,_,δ,by go_num,xW.o,HB2.o,qp.o⟩
      case measure=>simp [intOf];omega
     ·have b2:(r.kind==2)=false:=by simp [k2]
      by_cases k3:r.kind=3
      ·have b3:(r.kind==3)=true:=by simp [k3]
       clear k1 k2 k3;go_wp2;go_roundw
       case rel=>exact⟨k+1,_,_,_,δ,by go_num,xW.o,HB2.o,qp.o⟩
       case measure=>simp [intOf];omega
      ·have b3:(r.kind==3)=false:=by simp [k3]
       clear k1 k2 k3;go_wp2;go_roundw
       case rel=>exact⟨k+1,_,_,_,δ,by go_num,xW.o,HB2.o,qp.o⟩
       case measure=>simp [intOf];omega
   |some i=>
    have hid:idxOf (kD r.deed) h.ready=(i:Int):=by unfold idxOf;rw [hix]
    obtain⟨hi,hst⟩:=FN hix;rw [hid];clear hix hid;obtain⟨gr,csx,rfl,⟨vx,rfl,-,hX⟩,hAx⟩:=HB2.o.ready.get ε i hi;have hX':=hX.mono (fF _ _ _);obtain⟨ax,cx,rfl,-⟩:=id hX';have x1:=hAx 1 _ rfl;simp only [Ty.rd] at x1;have nW:=η (fun(W:World) (hW:Grow w2 W)=>Yw (s:=h.sums) W (hX'.mono hW.sub) (rN.o _ (List.getElem_mem hi)));have d8:=η hi;have hib:i<3518437208883:=by have:=NT.o;omega
    have gr9:gr<w2.heap.size:=World.block_lt_of_cell? w2 _ x1;clear hX hX' hAx;by_cases k2:r.kind=2
    ·have b1:(r.kind==1)=false:=by simp [k2]
     have b2:(r.kind==2)=true:=by simp [k2]
     rw [if_pos k2] at hst;have xW:=η (kY.o.trans hst);have qp:=η (hst▸yF.o);clear hst k2;generalize h.ready[i]=x at*;have HS:Hid (∀W,Grow w2 W->W.cell? ⟨w1.heap.size,1,none⟩=some (ι h.sums.a)/\W.cell? ⟨w1.heap.size,2,none⟩=some (ι h.sums.b)/\W.cell? ⟨w1.heap.size,3,none⟩=some (ι h.sums.c)/\W.cell? ⟨w1.heap.size,4,none⟩=some (ι h.sums.d)/\W.cell? ⟨w1.heap.size,5,none⟩=some (ς (some ⟨gr,0,none⟩) h.ready.length cr)/\W.cell? ⟨gr,i*2+1,none⟩=some (ς ax x.parts.length cx)):=fun W hW=>⟨hW.sub _ _ s1,hW.sub _ _ s2,hW.sub _ _ s3,hW.sub _ _ s4,hW.sub _ _ s5,hW.sub _ _ x1⟩;go_wp2;clear s0 s1 s2 s3 s4 s5 s6 q0 q1 q2;refine bf (fun w'=>w'.cell? ⟨w1.heap.size,1,none⟩=some (ι h.sums.a)/\w'.cell? ⟨w1.heap.size,2,none⟩=some (ι h.sums.b)/\w'.cell? ⟨w1.heap.size,3,none⟩=some (ι h.sums.c)/\w'.cell? ⟨w1.heap.size,4,none⟩=some (ι h.sums.d)/\w'.cell? ⟨w1.heap.size,5,none⟩=some (ς (some ⟨gr,0,none⟩) h.ready.length cr)/\w'.cell? ⟨gr,i*2+1,none⟩=some (ς ax x.parts.length cx)) 10 κ ?_;obtain⟨wd,hWd⟩:∃x:World,x=w2.drew:=⟨_,rfl⟩;rw [<-hWd];have GD:Grow w2 wd:=by rw [hWd];exact(Grow.refl _).drew
     have zD:w2.heap.size=wd.heap.size:=by rw [hWd];rfl
     have ZD:=η zD;clear hWd zD;refine ni [0,1,2,3,4,5,6,7] 8 κ (fun _ _ _ _ _ h=>h) (HS.o _ GD) ?_;repeat (refine gQ ?_;try simp only [aK])
     refine ny ?_;refine bO 8 κ rfl ?_;intro K HK;try simp only [aV]
     go_simp;go_at_call 74
     refine(nW.o _ GD).mono ?_;rintro e w3 ⟨rfl,hb3⟩;have G3:=GD.trans hb3;clear hb3;obtain⟨u1,u2,u3,u4,-,-⟩:=HS.o _ G3;have uf:∀o,w3.frozen? ⟨w1.heap.size,o,none⟩=false:=dA (aj HB2.o.row G3);have u9:w1.heap.size<w3:=World.block_lt_of_cell? w3 _ u1;refine HK.o _ _ ⟨fun _=>HS.o _ G3,?_⟩;clear HK K;try simp only [aK]
     refine bO 9 κ rfl ?_;intro K HK;try simp only [aV]
     go_simp;refine HK.o _ _ ⟨fun _=>HS.o _ G3,?_⟩;clear HK K;try simp only [aK]
     refine bO 10 κ rfl ?_;intro K HK;try simp only [aV]
     go_simp;refine HK.o _ _ ⟨fun h=>absurd rfl h,?_⟩;clear HK K;try simp only [aK]
     refine aO κ ?_;obtain⟨bs,cs4⟩:=oJ.sum (s:=nJ h.sums x.parts) HB2.o G3;have r5:((((w3.setCell ⟨w1.heap.size,1,none⟩ (ι (nJ h.sums x.parts).a)).setCell ⟨w1.heap.size,2,none⟩ (ι (nJ h.sums x.parts).b)).setCell ⟨w1.heap.size,3,none⟩ (ι (nJ h.sums x.parts).c)).setCell ⟨w1.heap.size,4,none⟩ (ι (nJ h.sums x.parts).d)).heap[wr.heap.size]? =some (.cells #[ι r.kind,ι r.deed,ς ap r.parts.length cp] 79 (0,0)):=by rw [cs4.block _ (γ xX.o) (by have:=HB2.o.size;have:=Yb.o;omega) (fun e=>by have:=S_.o _ e;omega) (fun e=>by have:=HLD.o _ e;omega)];exact xX.o
     clear u1 u2 u3 u4 uf u9;generalize ((((w3.setCell ⟨w1.heap.size,1,none⟩ (ι (nJ h.sums x.parts).a)).setCell ⟨w1.heap.size,2,none⟩ (ι (nJ h.sums x.parts).b)).setCell ⟨w1.heap.size,3,none⟩ (ι (nJ h.sums x.parts).c)).setCell ⟨w1.heap.size,4,none⟩ (ι (nJ h.sums x.parts).d))=w4 at*;have HB4:=η bs;have rR:=η r5;clear bs cs4 r5;obtain⟨s0,s1,s2,s3,s4,s5,s6⟩:=aT HB4.o.row;have sf:=dA HB4.o.row;have s9:w1.heap.size<w4:=(γ HB4.o.row);obtain⟨q0,q1,q2⟩:=cells3 rR.o;have q9:wr.heap.size<w4:=(γ rR.o);dsimp only at s0 s1 s2 s3 s4 s5 s6;go_wp2_with (first|(at_builtin;refine aZ (c:=fun _=>none) (base:=w1.heap.size+1) (l:=h.done) (m:=[r.deed]) iM rfl jW ε rfl (.tmp 60) (.tmp 63) rfl rfl ?own rfl (Src.bQ (T:=Ty.int) (cs:=#[ι r.deed]) ⟨rfl,HI.o.2.1⟩ _ _ ?d1) ?d2 ?d3 ?_))
     case own=>exact(aI.ints HB4.o.done IF.o).grow ((Grow.refl _).alloc _)
     case d1=>rfl
     case d2=>have:=FP.o;simp;omega
     case d3=>have:=HB4.o.size;simp;omega
     intro a5 c5 w5 kJ hg5 hb5;obtain⟨bd,cd5⟩:=oJ.IA (x:=r.deed) HB4.o ((Grow.refl w4).alloc (.cells #[ι r.deed] 3)) (Tv kJ) hg5 (hb5.imp_right fun⟨g,e,hge⟩=>⟨g,e,by simpa using hge⟩);have Oy:=η bd;have HCD:=η cd5;have t6:w5.heap[w1.heap.size]? =_:=aH (aj HB4.o.row ((Grow.refl w4).alloc (.cells #[ι r.deed] 3))) hg5 (fun e=>by have:=(HB4.o.done.lt _ e.symm).1;omega);clear bd cd5 s0 s1 s2 s3 s4 s5 s6 sf q0 q1 q2;obtain⟨s0,s1,s2,s3,s4,s5,s6⟩:=aT t6;have sf:=dA t6;have s8:w1.heap.size<w5:=(γ t6);dsimp only at s0 s1 s2 s3 s4 s5 s6;clear t6 kJ hg5 hb5;go_wp2_with fail
     generalize w5.setCell ⟨w1.heap.size,6,none⟩ (ς a5 (h.done.length+1) c5)=w6 at*;obtain⟨css,k1,k2,k3⟩:=Oy.o.ready;have h1c:∀u∈css.flatten,u.oneCell'=true:=by
      intro u hu;obtain⟨cs,hcs,huc⟩:=List.mem_flatten.1 hu;obtain⟨j,hj,rfl⟩:=List.mem_iff_getElem.1 hcs;exact IB _ _ _ (k3 j css[j] _ σ (List.getElem?_eq_getElem δ)) u huc
     have d9:=η k1;have IH:=η k2;have IM:=η k3;have IN:=η h1c;clear k1 k2 k3 h1c;refine(Gs (i:=i) d9.o d8.o IN.o).mono ?_;rintro e w7 ⟨rfl,r_,su⟩;have t7:=aH Oy.o.row su (fun e=>by have:=(Oy.o.ready.lt gr rfl).1;have:=Option.some.inj e;omega);obtain⟨u0,u1,u2,u3,u4,u5,u6⟩:=aT t7;have uf:=dA t7;have u9:w1.heap.size<w7:=(γ t7);have HX:=η (oJ.rL (h:={ h with sums:=nJ h.sums x.parts,done:=h.done++ [r.deed] }) Oy.o (Grow.refl _) d8.o IH.o IM.o r_ su);clear t7 r_ su;go_wp2;go_roundw
     case rel=>exact⟨k+1,_,_,_,δ,by go_num,xW.o,HX.o.1,qp.o⟩
     case measure=>simp [intOf];omega
    ·have b2:(r.kind==2)=false:=by simp [k2]
     rw [if_neg k2] at hst;by_cases k3:r.kind=3
     ·have b1:(r.kind==1)=false:=by simp [k3]
      have b3:(r.kind==3)=true:=by simp [k3]
      rw [if_pos k3] at hst;have xW:=η (kY.o.trans hst);have qp:=η (hst▸yF.o);clear hst k2 k3;go_wp2_with fail
      obtain⟨css,k1,k2,k3⟩:=HB2.o.ready;have h1c:∀u∈css.flatten,u.oneCell'=true:=by
       intro u hu;obtain⟨cs,hcs,huc⟩:=List.mem_flatten.1 hu;obtain⟨j,hj,rfl⟩:=List.mem_iff_getElem.1 hcs;exact IB _ _ _ (k3 j css[j] _ σ (List.getElem?_eq_getElem δ)) u huc
      have d9:=η k1;have IH:=η k2;have IM:=η k3;have IN:=η h1c;clear k1 k2 k3 h1c;refine(Gs (i:=i) d9.o d8.o IN.o).mono ?_;rintro e w7 ⟨rfl,r_,su⟩;have t7:=aH HB2.o.row su (fun e=>by have:=(HB2.o.ready.lt gr rfl).1;have:=Option.some.inj e;omega);obtain⟨u0,u1,u2,u3,u4,u5,u6⟩:=aT t7;have uf:=dA t7;have u9:w1.heap.size<w7:=(γ t7);have HX:=η (oJ.rL HB2.o (Grow.refl _) d8.o IH.o IM.o r_ su);clear t7 r_ su;go_wp2;go_roundw
      case rel=>exact⟨k+1,_,_,_,δ,by go_num,xW.o,HX.o.1,qp.o⟩
      case measure=>simp [intOf];omega
     ·have b3:(r.kind==3)=false:=by simp [k3]
      rw [if_neg k3] at hst;have xW:=η (kY.o.trans hst);have qp:=η (hst▸yF.o);by_cases k1:r.kind=1
      ·have b1:(r.kind==1)=true:=by simp [k1]
       clear hst k1 k2 k3;go_wp2;go_roundw
       case rel=>exact⟨k+1,_,_,_,δ,by go_num,xW.o,HB2.o,qp.o⟩
       case measure=>simp [intOf];omega
      ·have b1:(r.kind==1)=false:=by simp [k1]
       clear hst k1 k2 k3;go_wp2;go_roundw
       case rel=>exact⟨k+1,_,_,_,δ,by go_num,xW.o,HB2.o,qp.o⟩
       case measure=>simp [intOf];omega
  ·have HH:Hid (h=gu l):=by show h=_;rw [<-Tz.o,List.take_of_length_le δ];rfl
   obtain⟨s0,s1,s2,s3,s4,s5,s6⟩:=aT hbox.row;clear hfold hok hbox;go_wp2_with (first|(refine wpList_store_row rfl (.tmp 2) (.tmp 89) rfl rfl rfl gW.o.res dL rfl rfl ?_))
   intro wf r2 g2;obtain⟨p0,p1,p2,p3,p4,p5,p6⟩:=aT r2;have pf:=dA r2;clear s0 s1 s2 s3 s4 s5 s6;go_wp2;refine bodyPost_ret (v:=.agg #[ς al l.length cl,ι h.sums.a,ι h.sums.b,ι h.sums.c,ι h.sums.d,ς ar h.ready.length cr,ς ad h.done.length cd]) (by simp [results,Tryz.results38,go_sem,p0,p1,p2,p3,p4,p5,p6]) rfl ?_;have nY:h.log=l:=by rw [HH.o];exact vN l
   have sub:Sub (hmem w w1 wr (ς al l.length cl) (ς ar h.ready.length cr) (ς ad h.done.length cd)) (ov (fun _=>none) w wf):=fun a u e=>by
    unfold hmem fr at e;split at e
    ·cases e
    ·rename_i hn
     have hne:a.block≠w.heap.size:=fun e=>hn (.inr (by simp [e]));rw [bH δ,dh g2 (World.block_lt_of_cell? wr a e) hne];exact e
   have hb:∀k,w.heap.size+1<=k->k<wr.heap.size->wf.heap[k]? =wr.heap[k]?:=fun k h1 h2=>g2.block k h2 (by simp;omega);have hw1:=gW.o.w1;have e1:=((gW.o.log.mono sub).block fun k hk=>hb k (gW.o.log.lt k hk).1 (gW.o.log.lt k hk).2).slc ε (Sub.refl _) fun a ha=>bH δ;have e2:=((gW.o.ready.mono sub).block fun k hk=>hb k (τ ((gW.o.ready.lt k hk).1)) (gW.o.ready.lt k hk).2).slc ε (Sub.refl _) fun a ha=>bH δ;have e3:=(aI.ints (c:=ov (fun _=>none) w wf) (owns_block gW.o.done fun k hk=>hb k (τ ((gW.o.done.lt k hk).1)) (gW.o.done.lt k hk).2) La.o.ints).slc ε (Sub.refl _) fun a ha=>bH δ;have hs:=La.o.sums;rw [<-HH.o];refine⟨_,rfl,⟨_,rfl,_,_,_,rfl,?_,hs.1,hs.2.1,hs.2.2.1,hs.2.2.2,e2,e3⟩,gW.o.grow.grown g2 (fun k hk=>by simp at hk;omega)⟩;rw [nY];exact e1
structure z_ {α:Type} (P:Program) (T:Ty α) (val:List Value->Value) (w:World) (row:Option Nat) (F:FuncId) (caps:Array Value) (l:List α) (p:α->Bool):Prop where
 ent:∀args w,(callFunc F args).run P w=.ok (.enter F args) w
 say:∀(wx:World) (cs:List Value) (x:α),w.grownBy wx row->x∈l->T.R wx.cell? cs x->Calls P F (#[val cs]++caps) wx fun e w'=>e=.returned (.bool (p x))/\Grow wx w'
theorem z_.tells {α:Type} {P:Program} {T:Ty α} {val:List Value->Value} {w:World} {row:Option Nat} {F:FuncId} {caps:Array Value} {l:List α} {p:α->Bool} (h:z_ P T val w row F caps l p):qF P T val w F caps l p:=
 ⟨h.ent,fun wx cs x hg=>h.say wx cs x (ak hg _)⟩
theorem kK {α:Type} (q:α->Bool) {l:List α} {j:Nat} (h:j<l.length):(l.take (j+1)).filter q=(l.take j).filter q++if q l[j] then [l[j]] else []:=by
 rw [List.take_succ_eq_append_getElem h,List.filter_append];by_cases hq:q l[j]<;>simp [hq]
theorem filter_none {α:Type} {p:α->Bool} {l:List α} (h:l.findIdx? p=none):l.filter (fun x=>!p x)=l:=by
 rw [List.findIdx?_eq_none_iff] at h;rw [List.filter_eq_self];intro x hx;simp [h x hx]
theorem FQ {w:World} {base:Nat} {v:Value} {l:List Pt} {F:FuncId} {caps:Array Value} {p:Pt->Bool} (ho:rE Ty.pt w base 111 v l) (hp:z_ Tryz.prog Ty.pt lQ w v.ownBlock F caps l p):
  Calls Tryz.prog 151 #[v,.func (.func F) #[] caps] w fun e w'=>∃v',e=.returned v'/\rE Ty.pt w' base 111 v' (l.filter fun x=>!p x)/\w.grownBy w' v.ownBlock/\v'.ownBlock=v.ownBlock:=by
 have hIdx:=yh w (ho.sl ε) hp.tells;cases hfi:l.findIdx? p with
 |none=>
  have hx:idxOf p l= -1:=by rw [idxOf,hfi]
  have HF:=η (filter_none hfi);rw [hx] at hIdx;have HI:=η hIdx;have HO:=η ho;clear hIdx hx hfi ho hp;go_enter Tryz.func151,Tryz.ntmps151;go_wp2_with (go_at_call 133;refine HI.o.mono ?_;rintro e w1 ⟨rfl,hb1⟩)
  go_ret;exact⟨_,rfl,by rw [HF.o];exact HO.o.grow hb1,ak hb1 _,rfl⟩
 |some k=>
  have hx:idxOf p l=k:=by rw [idxOf,hfi]
  rw [hx] at hIdx;rw [List.findIdx?_eq_some_iff_getElem] at hfi;obtain⟨hk,hpk,yG⟩:=hfi;obtain⟨css,hown,hcl0,hR⟩:=ho;have hcl:=jM hcl0 hR;obtain⟨hl,⟨rfl,hn⟩|⟨g,cap,cur,rfl,hb,hg,hnc,hcm,hcs,htake⟩⟩:=id hown
  ·omega
  have hbl:(Value.slice (some (⟨g,0,none⟩:Addr)) l.length cap).ownBlock=some g:=rfl;rw [hbl] at hR hp ⊢;have hf0:(l.take (k+1)).filter (fun x=>!p x)=l.take k:=by
   rw [kK _ hk,hpk];simp only [Bool.not_true,Bool.false_eq_true,if_false,List.append_nil];rw [List.filter_eq_self];intro x hx;obtain⟨j,hj,rfl⟩:=List.mem_iff_getElem.1 hx;have:=yG j (by simp at hj;omega);simpa using this
  have hkne:((k:Int)== -1)=false:=by rw [beq_eq_false_iff_ne];omega
  have hcm':cap<=9223372036854775807:=by unfold maxLen at hcm;omega
  have HI:=η hIdx;have HO:=η hown;have HR:=η hR;have HP:=η hp.say;have eg:=hp.ent;have HF:=η hf0;have HC:=η hcl;have Aa:=η hcl0;clear hIdx hown hR hp hf0 hcl hcl0 hl hg htake hcs hb hcm yG hpk hx;go_enter Tryz.func151,Tryz.ntmps151;go_wp2_with (go_at_call 133;refine HI.o.mono ?_;rintro e w1 ⟨rfl,hb1⟩)
  go_loopw [5,6,7] (fun si sj _ wr=>∃(i j:Nat) (jT:List (List Value)),i<j/\j<=l.length/\si=ι i/\sj=ι j/\w.grownBy wr (some g)/\jT.length=l.length/\(∀cs∈jT,cs.length=3)/\
    wr.ownsRow base 111 3 (ς (some ⟨g,0,none⟩) l.length cap) l.length jT.flatten/\jT.drop j=css.drop j/\((l.take j).filter fun x=>!p x).length=i/\
    ∀(a:Nat) (cs:List Value) (x:Pt),a<i->jT[a]? =some cs->((l.take j).filter fun x=>!p x)[a]? =some x->Ty.pt.R (mM w (some g)) cs x) (fun _ sj _ _=>l.length - (intOf sj).toNat)
  case atStart=>
   refine⟨k,k+1,css,δ,δ,rfl,by go_num,ak hb1 _,Aa.o,HC.o,HO.o.kept (ak hb1 none) (by right;simp [Value.ownBlock]),rfl,by rw [HF.o];simp;omega,fun a cs x ha h1 h2=>?_⟩;rw [HF.o,List.getElem?_take,if_pos ha] at h2;exact HR.o a cs x h1 h2
  case round=>
   obtain⟨i,j,jT,hij,hj',rfl,rfl,hgr,hl',hcs',hown',hdrop,hfl,hRi⟩:=hrel;have HOWN:=η hown';have VB:=η hcs';have HD:=η hdrop;have IQ:=η hfl;have eA:=η hRi;have Dq:=η hl';have Bv:=η hgr;clear hown' hcs' hdrop hfl hRi hl' hgr hb1;by_cases hlt:j<l.length
   ·have hjc:css[j]? =some css[j]!:=by rw [List.getElem?_eq_getElem (by rw [Aa.o];exact hlt),getElem!_pos css j (by rw [Aa.o];exact hlt)]
    obtain⟨VD,hRR⟩:=HR.o j _ l[j] hjc (List.getElem?_eq_getElem hlt);have Oz:jT[j]? =some css[j]!:=by
     have:(jT.drop j)[0]? =(css.drop j)[0]?:=by rw [HD.o]
     rw [List.getElem?_drop,List.getElem?_drop,Nat.add_zero,hjc] at this;exact this
    rw [VD] at hjc Oz;have hcj:∀(t:Nat) (u:Value),(l[j].cells)[t]? =some u->t<3->wr.cell? ⟨g,j*3+t,none⟩=some u:=by
     intro t u hu ht;rw [HOWN.o.cellAt _ δ,iT (size:=3) ε jT VB.o,show(j*3+t)/3=j by omega,show(j*3+t) % 3=t by omega,Oz];exact hu
    have hci:∀(t:Nat),t<3->∃u,wr.cell? ⟨g,i*3+t,none⟩=some u:=by
     intro t ht;exact⟨_,by rw [HOWN.o.cellAt _ δ];exact List.getElem?_eq_getElem (by rw [HOWN.o.1];omega)⟩
    have hfz:∀o,wr.frozen? ⟨g,o,none⟩=false:=HOWN.o.frozenAt;have hgl:g<wr.heap.size:=(HOWN.o.lt g rfl).2;have c0:wr.cell? ⟨g,j*3,none⟩=some (ι l[j].h):=hcj 0 _ rfl ε;have c1:wr.cell? ⟨g,j*3+1,none⟩=some (ι l[j].k):=hcj 1 _ rfl ε;have c2:wr.cell? ⟨g,j*3+2,none⟩=some (ι l[j].n):=hcj 2 _ rfl ε;obtain⟨u0,hu0⟩:∃u,wr.cell? ⟨g,i*3,none⟩=some u:=hci 0 ε;obtain⟨u1,hu1⟩:∃u,wr.cell? ⟨g,i*3+1,none⟩=some u:=hci 1 ε;obtain⟨u2,hu2⟩:∃u,wr.cell? ⟨g,i*3+2,none⟩=some u:=hci 2 ε;have eB:Ty.pt.R (mM w (some g)) l[j].cells l[j]:=⟨rfl,hRR⟩;have VE:=fun(W:World) (hW:Grow wr W)=>HP.o W _ l[j] (grownBy_trans Bv.o (ak hW _)) (List.getElem_mem _) (Ty.pt.mono (Sub.trans (sH (grownBy_trans Bv.o (ak hW _))) (yt _ _)) eB);have hstep:=kK (fun x=>!p x) hlt;have HS:=η VE;have HST:=η hstep;have HRW:=η eB;clear VE hstep hcj hci eB hRR hjc Oz VD;simp only [Pt.cells,lQ] at HS;simp only [Pt.cells] at HRW;cases hq:p l[j]
    ·rw [hq] at HS HST
     generalize l[j]=q at*;go_wp2_with (go_at_fn F;refine(HS.o _ ((Grow.refl wr).alloc _)).mono ?_;rintro e w1 ⟨rfl,hb1⟩;have e0:=hb1.sub ⟨wr.heap.size,0,none⟩ _ (World.cell?_alloc_new wr _ _ 0);have e1:=hb1.sub ⟨wr.heap.size,1,none⟩ _ (World.cell?_alloc_new wr _ _ 1);have e2:=hb1.sub ⟨wr.heap.size,2,none⟩ _ (World.cell?_alloc_new wr _ _ 2);simp at e0 e1 e2;have d0:=(((Grow.refl wr).alloc _).trans hb1).sub _ _ hu0;have d1:=(((Grow.refl wr).alloc _).trans hb1).sub _ _ hu1;have d2:=(((Grow.refl wr).alloc _).trans hb1).sub _ _ hu2;have df:∀o,w1.frozen? ⟨g,o,none⟩=false:=fun o=>((((Grow.refl wr).alloc _).trans hb1).frozen (p:=⟨g,o,none⟩) hgl).trans (hfz o);have dz:=hb1.size;have HB1:=η hb1;clear hb1)
     obtain⟨hset,hsg⟩:=Kr (cs:=[ι q.h,ι q.k,ι q.n]) (i:=i) VB.o (HOWN.o.kept (ak (((Grow.refl wr).alloc _).trans HB1.o) none) (by right;simp [Value.ownBlock])) (by rw [Dq.o];omega) rfl;have eC:=η hset;have NQ:=η hsg;clear hset hsg;go_roundw
     case rel=>
      refine⟨i+1,j+1,jT.set i [ι q.h,ι q.k,ι q.n],δ,δ,by go_num,by go_num,grownBy_trans (grownBy_trans Bv.o (ak (((Grow.refl wr).alloc _).trans HB1.o) _)) NQ.o,by simpa using Dq.o,?_,eC.o,?_,?_,?_⟩
      ·intro cs hc
       rcases List.mem_or_eq_of_mem_set hc with h|rfl
       ·exact VB.o cs h
       ·rfl
      ·rw [List.drop_set_of_lt δ]
       have:(jT.drop j).drop 1=(css.drop j).drop 1:=by rw [HD.o]
       simpa [List.drop_drop] using this
      ·rw [HST.o];simp [IQ.o]
      ·intro a cs x ha h1 h2
       rw [HST.o] at h2;simp only [Bool.not_false,if_true] at h2;by_cases hai:a<i
       ·rw [List.getElem?_set_ne δ] at h1
        rw [List.getElem?_append_left (by rw [IQ.o];exact hai)] at h2;exact eA.o a cs x hai h1 h2
       ·obtain rfl:a=i:=by omega
        rw [List.getElem?_append_right (by rw [IQ.o];omega),IQ.o,Nat.sub_self] at h2;rw [List.getElem?_set_self (by rw [Dq.o];omega)] at h1;obtain rfl:=Option.some.inj h1;obtain rfl:=Option.some.inj h2;exact HRW.o
     case measure=>simp [intOf];omega
    ·rw [hq] at HS HST
     generalize l[j]=q at*;go_wp2_with (go_at_fn F;refine(HS.o _ ((Grow.refl wr).alloc _)).mono ?_;rintro e w1 ⟨rfl,hb1⟩)
     have HB1:=η hb1;clear hb1;go_roundw
     case rel=>
      refine⟨i,j+1,jT,δ,δ,rfl,by go_num,grownBy_trans Bv.o (ak (((Grow.refl wr).alloc _).trans HB1.o) _),Dq.o,VB.o,HOWN.o.kept (ak (((Grow.refl wr).alloc _).trans HB1.o) none) (by right;simp [Value.ownBlock]),?_,?_,?_⟩
      ·have:(jT.drop j).drop 1=(css.drop j).drop 1:=by rw [HD.o]
       simpa [List.drop_drop] using this
      ·rw [HST.o];simp [IQ.o]
      ·intro a cs x ha h1 h2
       rw [HST.o] at h2;simp only [Bool.not_true,Bool.false_eq_true,if_false,List.append_nil] at h2;exact eA.o a cs x ha h1 h2
     case measure=>simp [intOf];omega
   ·obtain rfl:j=l.length:=by omega
    have hic:i<=cap:=by omega
    obtain⟨w2,hcl,ql,HG2⟩:=rD Di 0 HOWN.o i (l.length - i) (cap - i) (some ⟨g,i*3,none⟩) δ (fun _=>rfl) δ;have CS:=η hcl;have Iy:=η ql;have FD:=η HG2;clear hcl ql HG2 eg;have hil:i<cap:=by omega
    have Ch:i<=l.length:=by omega
    go_wp2_with fail
    rw [CS.o];go_wp2;go_ret;refine⟨_,rfl,?_,grownBy_trans Bv.o FD.o,rfl⟩;have hfin:(l.filter fun x=>!p x).length=i:=by have:=IQ.o;rw [List.take_of_length_le (Nat.le_refl _)] at this;exact this
    refine⟨jT.take i,?_,by rw [List.length_take,Dq.o,hfin];omega,fun a cs x h1 h2=>?_⟩
    ·have h:=Iy.o
     rw [jD jT i VB.o] at h;rw [hfin];exact h
    ·rw [List.getElem?_take] at h1
     split at h1
     ·rename_i hai
      have h3:=eA.o a cs x hai h1 (by rw [List.take_of_length_le (Nat.le_refl _)];exact h2);exact Ty.pt.mono (sH (grownBy_trans Bv.o FD.o)) h3
     ·cases h1
def GI (p q:Pt):Bool:=q.h==p.h&&q.k==p.k
theorem TA {B:Nat} {p:Pt} (wx:World) (cs:List Value) (x:Pt) (hB:B<wx.heap.size) (c0:wx.cell? ⟨B,0,none⟩=some (ι p.h)) (c1:wx.cell? ⟨B,1,none⟩=some (ι p.k)) (hR:Ty.pt.R wx.cell? cs x):
  Calls Tryz.prog 112 #[.agg cs.toArray,.pointer (some ⟨B,0,none⟩)] wx fun e w'=>e=.returned (.bool (GI p x))/\Grow wx w':=by
 obtain⟨rfl,-⟩:=hR;obtain⟨ph,pk,pn⟩:=p;obtain⟨qh,qk,qn⟩:=x;unfold Pt.cells GI;simp only at c0 c1 ⊢;cases h1:(qh==ph)
 ·go_enter Tryz.func112,Tryz.ntmps112
  go_wp2;go_ret;exact⟨rfl,gY⟩
 ·go_enter Tryz.func112,Tryz.ntmps112
  go_wp2;go_ret;exact⟨bK σ,gY⟩
theorem VF (l:List Pt) (p:Pt):(l.any (GI p))=decide ((p.h,p.k)∈l.map fun q=>(q.h,q.k)):=by
 rw [Bool.eq_iff_iff,List.any_eq_true,decide_eq_true_eq,List.mem_map];constructor
 ·rintro⟨q,hq,h⟩
  simp only [GI,Bool.and_eq_true,beq_iff_eq] at h;exact⟨q,hq,by rw [h.1,h.2]⟩
 ·rintro⟨q,hq,h⟩
  simp only [Prod.mk.injEq] at h;exact⟨q,hq,by simp [GI,h.1,h.2]⟩
theorem VG (p:Pt) (h:Int):(p.h<0)∨(0<=p.h/\h<=p.h)∨(0<=p.h/\p.h<h/\p.k<0)∨(0<=p.h/\p.h<h/\0<=p.k/\4<=p.k)∨(0<=p.h/\p.h<h/\0<=p.k/\p.k<4/\p.n< -1048576)∨(0<=p.h/\p.h<h/\0<=p.k/\p.k<4/\-1048576<=p.n/\1048576<p.n)∨(0<=p.h/\p.h<h/\0<=p.k/\p.k<4/\-1048576<=p.n/\p.n<=1048576):=by omega
theorem Sl.take' {α:Type} {T:Ty α} {c:CM} {a:Option Addr} {n cap:Nat} {l:List α} (h:Sl T c (ς a n cap) l) (m:Nat) (hm:m<=n):Sl T c (ς a m cap) (l.take m):=by
 obtain⟨a',cap',he,h1,h2,h3,hel⟩:=h;simp only [Value.slice.injEq] at he;obtain⟨rfl,rfl,rfl⟩:=he;have hl:(l.take m).length=m:=by simp;omega
 refine⟨a,cap,by rw [hl],by rw [hl];omega,h2,h3,fun i x e=>?_⟩;have hi:=(List.getElem?_eq_some_iff.1 e).1;rw [List.getElem?_take_of_lt δ] at e;exact hel i x e
theorem xq {v:Value} {l:List Pt} {h:Int} (w:World) (hv:m_ w.cell? v l):
  Calls Tryz.prog 76 #[v,ι h] w fun e w'=>e=.returned (ι (bD l h))/\Grow w w':=by
 have HV:=η hv;obtain⟨a,cap,rfl,h1,h2,-,hel⟩:=hv;unfold maxLen at h2;by_cases hl0:l.length=0
 ·have hE:bD l h=5:=by simp [bD,hl0]
  have HE:=η hE;have hl1:l.length<1:=by omega
  clear hel hE hl0;go_enter Tryz.func76,Tryz.ntmps76;go_wp2;go_ret;exact⟨bC HE.o.symm,Grow.refl _⟩
 by_cases hl4:4<l.length
 ·have hE:bD l h=5:=by rw [bD,if_pos (.inr hl4)]
  have HE:=η hE;have hl1:¬l.length<1:=by omega
  clear hel hE hl0;go_enter Tryz.func76,Tryz.ntmps76;go_wp2;go_ret;exact⟨bC HE.o.symm,Grow.refl _⟩
 have hE:bD l h=gU h [] l:=by rw [bD,if_neg δ]
 have HE:=η hE;have hl1:¬l.length<1:=by omega
 clear hE hl0;go_enter Tryz.func76,Tryz.ntmps76;go_wp2;go_loopw [4,5,17] (fun _ _ i wr=>∃(k:Nat),k<=l.length/\i=ι k/\Grow w wr/\bD l h=gU h ((l.take k).map fun q=>(q.h,q.k)) (l.drop k)) (fun _ _ i _=>l.length - (intOf i).toNat)
 case atStart=>exact⟨0,δ,rfl,gY,HE.o⟩
 case round=>
  obtain⟨k,hk',rfl,hb,hE⟩:=hrel;by_cases hlt:k<l.length
  ·obtain⟨b,o,rfl,c0,c1,c2,i0,i1,i2⟩:=m_.at_ hel k hlt
   replace c0:=hb.sub _ _ c0;replace c1:=hb.sub _ _ c1;replace c2:=hb.sub _ _ c2;rw [List.drop_eq_getElem_cons hlt,gU] at hE;have hw:=VG l[k] h;have hbad:∀b,decide (l[k].h<0∨h<=l[k].h∨l[k].k<0∨3<l[k].k∨1048576<l[k].n∨l[k].n< -1048576)=b->Gu l[k] h=b:=fun b hb=>hb;have HB:=η hbad;have HE2:=η hE;have qI:=η (show gU h ((l[k].h,l[k].k)::(l.take k).map fun q=>(q.h,q.k)) (l.drop (k+1))=gU h ((l.take (k+1)).map fun q=>(q.h,q.k)) (l.drop (k+1)) from qU h _ _ _ fun x=>by
    rw [List.take_succ_eq_append_getElem hlt,List.map_append,List.mem_append,List.mem_cons,or_comm];simp)
   have HSL:=η (HV.o.take' k hk');have IP:=η (VF (l.take k) l[k]);clear hel hE hbad HE HV i0 i1 i2;generalize l[k]=p at*;obtain⟨ph,pk,pn⟩:=p;simp only at hw c0 c1 c2;rcases hw with hw|⟨w1,hw⟩|⟨w1,w2,hw⟩|⟨w1,w2,w3,hw⟩|⟨w1,w2,w3,w4,hw⟩|⟨w1,w2,w3,w4,w5,hw⟩|⟨w1,w2,w3,w4,w5,hw⟩
   iterate 6 (· (go_wp2;go_ret;exact⟨bC (by rw [HE2.o,if_pos (HB.o true (by simp only [decide_eq_true_eq];omega))]),gY⟩))
   have hnb:=HB.o false (by simp only [decide_eq_false_iff_not];omega);have dC:=HE2.o;rw [if_neg (by rw [hnb];exact Bool.false_ne_true)] at dC;have IX:=η dC;clear dC hnb HB HE2;have oB:=η (nV (l:=l.take k) (F:=112) (caps:=#[.pointer (some ⟨wr.heap.size,0,none⟩)]) (p:=GI ⟨ph,pk,pn⟩) (wr.alloc (.cells #[ι ph,ι pk,ι pn] 111)) (HSL.o.mono (hb.alloc _).sub) ⟨fun args w=>κ,fun wx cs x hg _ hR=>TA wx cs x (Nat.lt_of_lt_of_le σ hg.size) (hg.sub _ _ (by rw [World.cell?_alloc_new];rfl)) (hg.sub _ _ (by rw [World.cell?_alloc_new];rfl)) hR⟩);rw [IP.o] at oB;simp only at oB;by_cases hin:(ph,pk)∈(l.take k).map fun q=>(q.h,q.k)
   ·rw [decide_eq_true hin] at oB
    have HI:=η hin;clear hin IP HSL;go_wp2_with fail
    refine oB.o.mono ?_;rintro e w3 ⟨rfl,hb3⟩;have HB3:=η ((hb.alloc _).trans hb3);clear hb3;go_wp2;go_ret;exact⟨bC (by rw [IX.o,if_pos HI.o]),HB3.o⟩
   ·rw [decide_eq_false hin] at oB
    have HI:=η hin;clear hin IP HSL;go_wp2_with fail
    refine oB.o.mono ?_;rintro e w3 ⟨rfl,hb3⟩;have HB3:=η ((hb.alloc _).trans hb3);clear hb3;go_wp2;go_roundw
    case rel=>exact⟨k+1,δ,by go_num,HB3.o,by rw [IX.o,if_neg HI.o];exact qI.o⟩
    case measure=>simp [intOf];omega
  ·go_wp2
   go_ret;refine⟨bC ?_,hb⟩;rw [hE,List.drop_of_length_le δ];rfl
def win (lo hi:Nat) (w:World):CM:=fun a=>if lo<=a.block/\a.block<hi then w.cell? a else none
theorem I9 (lo hi:Nat) (w:World):Sub (win lo hi w) w.cell?:=fun a v e=>by
 unfold win at e;split at e
 ·exact e
 ·cases e
theorem sV (W w:World):Sub (ov (fun _=>none) W w) (win W.heap.size w.heap.size w):=fun a v e=>by
 unfold ov at e;split at e
 ·cases e
 ·unfold win
  rw [if_pos ⟨δ,World.block_lt_of_cell? w a e⟩];exact e
theorem VH {lo hi:Nat} {w w':World} {row:Option Nat} (h:w.grownBy w' row) (hr:∀k,row=some k->k<lo∨hi<=k):Sub (win lo hi w) (win lo hi w'):=fun a v e=>by
 unfold win at e ⊢;split at e
 ·rename_i hc
  rw [if_pos hc,World.cell?_of_block (h.block a.block (World.block_lt_of_cell? w a e) (fun e=>by have:=hr a.block e.symm;omega))];exact e
 ·cases e
theorem fK {w w':World} (h:Grow w w') (lo hi:Nat):Sub (win lo hi w) (win lo hi w'):=VH (ak h none) (fun k e=>by cases e)
theorem DW {o:Oper} {y:Nat->Option Bool} {X E:Prop} {inst:Decidable (Region.wanted o y=true)} (hgd:Region.wanted o y=true) (h:X):@ite Prop (Region.wanted o y=true) inst X E:=by
 rw [if_pos hgd];exact h
theorem jE {lo hi:Nat} {w W:World} (h:w.heap.size<=lo):Sub (win lo hi W) (ov (fun _=>none) w W):=fun a v e=>by
 unfold win at e;split at e
 ·unfold ov
  rw [if_neg δ];exact e
 ·cases e
theorem iy {lo hi B:Nat} {w w':World} (h:w.grownBy w' (some B)) (hb:B<lo∨hi<=B):Sub (win lo hi w) (win lo hi w'):=VH h fun k e=>by
 obtain rfl:=Option.some.inj e;exact hb
theorem cell1 {w:World} {B:Nat} {a:Value} {t:TypeId} (h:w.heap[B]? =some (.cells #[a] t (0,0))):w.cell? ⟨B,0,none⟩=some a:=by simp [World.cell?,h]
theorem Lc {W0 w w':World} {v:Value} (hg:Grow w w'):Sub (fr W0 w [v.ownBlock]) (mM w' v.ownBlock):=fun a u e=>by
 unfold fr at e;split at e
 ·cases e
 ·rename_i hn
  have h2:some a.block≠v.ownBlock:=fun e=>hn (.inr (by simp [e]));unfold mM;rw [if_neg h2];exact hg.sub _ _ e
theorem Ld {w w':World} {row:Option Nat} (hg:w.grownBy w' row):Sub (mM w row) w'.cell?:=fun a u e=>by
 unfold mM at e;split at e
 ·cases e
 ·rename_i hn
  rw [World.cell?_of_block (hg.block a.block (World.block_lt_of_cell? w a e) hn)];exact e
theorem TB {v vr:Value} {h:Hs} {r:Rc} (w:World) (hv:Of Ty.hs w.cell? v h) (hr:Of Ty.rc w.cell? vr r) (hk:∀x∈h.log,dw x.parts) (hkr:dw r.parts) (hm:(h.log.length+1)*40<=140737488351232)
  (hp:∀x∈h.log,x.parts.length*24<=140737488355328) (hpr:r.parts.length*24<=140737488355328):
  Calls Tryz.prog 117 #[v,vr] w fun e w'=>∃v',e=.returned v'/\Of Ty.hs (ov (fun _=>none) w w') v' (dV h r)/\Grow w w':=by
 obtain⟨al,cl,ar,cr,ad,cd,rfl⟩:=hv.dF;obtain⟨ap,cp,rfl⟩:=hr.QC;have hl:=(Of.iw hv).1;have hr3:Ty.rc.R w.cell? #[ι r.kind,ι r.deed,ς ap r.parts.length cp].toList r:=Of.cells hr;have HR:=η hr3;have HOWN:=η (fun(W:World) (hW:Grow w W)=>yA W (hl.mono hW.sub) δ hp);have hkk:∀x∈h.log++ [r],dw x.parts:=by
  intro x hx;rcases List.mem_append.1 hx with hx|hx
  ·exact hk x hx
  ·rw [List.mem_singleton.1 hx];exact hkr
 have hpp:∀x∈h.log++ [r],x.parts.length*24<=140737488355328:=by
  intro x hx;rcases List.mem_append.1 hx with hx|hx
  ·exact hp x hx
  ·rw [List.mem_singleton.1 hx];exact hpr
 have YI:=η (fun(v':Value) (W:World) (hv':UD W.cell? v' (h.log++ [r]))=>pK W hv' hkk (by simpa using hm) hpp);have HM:=η hm;have jq:Hid (Grow w (((w.alloc (.cells #[ς al h.log.length cl,ι h.sums.a,ι h.sums.b,ι h.sums.c,ι h.sums.d,ς ar h.ready.length cr,ς ad h.done.length cd] 50)).alloc (.cells #[ι r.kind,ι r.deed,ς ap r.parts.length cp] 79)).alloc (.cells I8 50))):=η ((((Grow.refl w).alloc _).alloc _).alloc _);have HR2:Hid ((((w.alloc (.cells #[ς al h.log.length cl,ι h.sums.a,ι h.sums.b,ι h.sums.c,ι h.sums.d,ς ar h.ready.length cr,ς ad h.done.length cd] 50)).alloc (.cells #[ι r.kind,ι r.deed,ς ap r.parts.length cp] 79)).alloc (.cells I8 50)).heap[w.heap.size]? =some (.cells #[ς al h.log.length cl,ι h.sums.a,ι h.sums.b,ι h.sums.c,ι h.sums.d,ς ar h.ready.length cr,ς ad h.done.length cd] 50 (0,0))):=η (aB (aB (aF _ _) _) _);have HR3:Hid ((((w.alloc (.cells #[ς al h.log.length cl,ι h.sums.a,ι h.sums.b,ι h.sums.c,ι h.sums.d,ς ar h.ready.length cr,ς ad h.done.length cd] 50)).alloc (.cells #[ι r.kind,ι r.deed,ς ap r.parts.length cp] 79)).alloc (.cells I8 50)).heap[w.heap.size+1]? =some (.cells #[ι r.kind,ι r.deed,ς ap r.parts.length cp] 79 (0,0))):=η (aB (by simpa using aF (w.alloc (.cells #[ς al h.log.length cl,ι h.sums.a,ι h.sums.b,ι h.sums.c,ι h.sums.d,ς ar h.ready.length cr,ς ad h.done.length cd] 50)) _) _);have HR4:Hid ((((w.alloc (.cells #[ς al h.log.length cl,ι h.sums.a,ι h.sums.b,ι h.sums.c,ι h.sums.d,ς ar h.ready.length cr,ς ad h.done.length cd] 50)).alloc (.cells #[ι r.kind,ι r.deed,ς ap r.parts.length cp] 79)).alloc (.cells I8 50)).heap[w.heap.size+1+1]? =some (.cells I8 50 (0,0))):=η (by simpa using aF ((w.alloc (.cells #[ς al h.log.length cl,ι h.sums.a,ι h.sums.b,ι h.sums.c,ι h.sums.d,ς ar h.ready.length cr,ς ad h.done.length cd] 50)).alloc (.cells #[ι r.kind,ι r.deed,ς ap r.parts.length cp] 79)) _);clear hv hr hk hkr hm hp hpr hl hr3 hkk hpp;go_enter Tryz.func117,Tryz.ntmps117;go_wp2;obtain⟨w3,aL⟩:∃x:World,x=(((w.alloc (.cells #[ς al h.log.length cl,ι h.sums.a,ι h.sums.b,ι h.sums.c,ι h.sums.d,ς ar h.ready.length cr,ς ad h.done.length cd] 50)).alloc (.cells #[ι r.kind,ι r.deed,ς ap r.parts.length cp] 79)).alloc (.cells I8 50)):=⟨_,rfl⟩;rw [<-aL] at jq HR2 HR3 HR4;rw [<-aL];clear aL;obtain⟨g0,-,-,-,-,-,-⟩:=aT HR2.o;obtain⟨g1,g2,g3⟩:=cells3 HR3.o;have HS:Hid (∀W,Grow w3 W->W.cell? ⟨w.heap.size,0,none⟩=some (ς al h.log.length cl)/\W.cell? ⟨w.heap.size+1,0,none⟩=some (ι r.kind)/\W.cell? ⟨w.heap.size+1,1,none⟩=some (ι r.deed)/\W.cell? ⟨w.heap.size+1,2,none⟩=some (ς ap r.parts.length cp)):=fun W hW=>⟨hW.sub _ _ g0,hW.sub _ _ g1,hW.sub _ _ g2,hW.sub _ _ g3⟩;have hz4:w.heap.size+1+1<w3:=(γ HR4.o);clear g0 g1 g2 g3;refine bf (fun w'=>w'.cell? ⟨w.heap.size,0,none⟩=some (ς al h.log.length cl)/\w'.cell? ⟨w.heap.size+1,0,none⟩=some (ι r.kind)/\w'.cell? ⟨w.heap.size+1,1,none⟩=some (ι r.deed)/\w'.cell? ⟨w.heap.size+1,2,none⟩=some (ς ap r.parts.length cp)) 7 κ ?_;obtain⟨wd,hWd⟩:∃x:World,x=w3.drew:=⟨_,rfl⟩;rw [<-hWd];have GD:Grow w3 wd:=by rw [hWd];exact(Grow.refl _).drew
 have zD:w3.heap.size=wd.heap.size:=by rw [hWd];rfl
 have ZD:=η zD;clear hWd zD;refine ni [0,1,3] 8 κ (fun _ _ _ _ _ h=>h) (HS.o _ GD) ?_;repeat (refine gQ ?_;try simp only [aK])
 refine ny ?_;refine bP 2 4 κ rfl rfl ?_ ?_
 ·intro K HK
  try simp only [aV]
  go_simp;go_at_call 71
  refine(HOWN.o _ (jq.o.trans GD)).mono ?_;rintro e wo ⟨vo,rfl,ho,eD⟩;obtain⟨ao,co,rfl⟩:=ho.form;have HO:=η ho;have GO:=GD.trans eD;have oP:=η eD;have ZO:Hid (w3.heap.size<=(wd).heap.size):=η GD.size;clear ho eD;refine HK.o _ _ ⟨fun _=>HS.o _ GO,?_⟩;clear HK K;try simp only [aK]
  refine bO 4 κ rfl ?_;intro K HK;try simp only [aV]
  go_simp;refine HK.o _ _ ⟨fun _=>HS.o _ (GO.alloc _),?_⟩;clear HK K;try simp only [aK]
  refine bO 5 κ rfl ?_;intro K HK;refine aC rfl ?_;try simp only [aV]
  have YJ:Hid (Sub w.cell? (mM (wo.alloc (.cells #[ι r.kind,ι r.deed,ς ap r.parts.length cp] 79)) (Value.slice ao h.log.length co).ownBlock)):=η (Dk (jq.o.trans (GO.alloc _)) fun q hq=>by have:=(HO.o.lt q hq).1;have:=ZO.o;have:=jq.o.size;omega);refine dD (c:=(mM (wo.alloc (.cells #[ι r.kind,ι r.deed,ς ap r.parts.length cp] 79)) (Value.slice ao h.log.length co).ownBlock)) (base:=wd.heap.size) (l:=h.log) (m:=[r]) jv rfl eY ε (.tmp 7) (.tmp 9) rfl rfl ((HO.o.mono (Lc ((Grow.refl wo).alloc _))).grow ((Grow.refl wo).alloc _)) rfl (Src.bQ (T:=Ty.rc) (cs:=#[ι r.kind,ι r.deed,ς ap r.parts.length cp]) (Ty.rc.mono YJ.o HR.o) _ _ rfl) (by have:=HM.o;simp;omega) (by have:=oP.o.size;(try simp at this ⊢);omega) ?_;intro a5 c5 w5 kJ hg5 hb5;have xX:=η (kJ.sl ε (Ld hg5));have G5:Grow w3 w5:=bn (w0:=w3) (GO.alloc _) hg5 (fun q hq=>by have:=(HO.o.lt q hq).1;have:=ZO.o;omega);clear kJ hg5 hb5;refine HK.o _ _ ⟨fun _=>HS.o _ G5,?_⟩;clear HK K;try simp only [aK]
  refine bO 6 κ rfl ?_;intro K HK;try simp only [aV]
  go_simp;go_at_call 38
  refine(YI.o _ w5 xX.o).mono ?_;rintro e w6 ⟨vx,rfl,hX,hb6⟩;change Of Ty.hs _ _ (dV h r) at hX;obtain⟨x,hx⟩:∃x,x=dV h r:=⟨_,rfl⟩;rw [<-hx] at hX;have IR:=η hx;clear hx;obtain⟨eU,eX,kG,kH,o_,pq,rfl⟩:=hX.dF;have HX:=η hX;have G6:=G5.trans hb6;have Bz:=η hb6;clear hX hb6;refine HK.o _ _ ⟨fun _=>HS.o _ G6,?_⟩;clear HK K;try simp only [aK]
  refine bO 7 κ rfl ?_;intro K HK;refine aC rfl ?_;try simp only [aV]
  refine wp_store_row (.tmp 4) (.tmp 11) rfl rfl rfl (aj HR4.o G6) dL rfl rfl ?_;intro w7 r7 g7;refine HK.o _ _ ⟨fun h=>absurd rfl h,?_⟩;clear HK K;try simp only [aK]
  refine aO κ ?_;obtain⟨p0,p1,p2,p3,p4,p5,p6⟩:=aT r7;go_wp2;refine bodyPost_ret (v:=.agg #[ς eU x.log.length eX,ι x.sums.a,ι x.sums.b,ι x.sums.c,ι x.sums.d,ς kG x.ready.length kH,ς o_ x.done.length pq]) (by simp [results,Tryz.results117,go_sem,p0,p1,p2,p3,p4,p5,p6]) rfl ?_;rw [<-IR.o];refine⟨_,rfl,HX.o.mono fun a u e=>?_,(jq.o.trans G6).grown g7 (fun k hk=>by simp at hk;omega)⟩;have z1:=G5.size;have z2:=jq.o.size;unfold ov at e ⊢;split at e
  ·cases e
  ·rw [if_neg δ,dh g7 (World.block_lt_of_cell? w6 a e) δ];exact e
 ·intro K HK
  try simp only [aV]
  go_simp;refine HK.o _ _ ⟨fun _=>HS.o _ (GD.alloc _),?_⟩;clear HK K;try simp only [aK]
  refine bO 2 κ rfl ?_;intro K HK;try simp only [aV]
  go_simp;go_at_call 71
  refine(HOWN.o _ (jq.o.trans (GD.alloc _))).mono ?_;rintro e wo ⟨vo,rfl,ho,eD⟩;obtain⟨ao,co,rfl⟩:=ho.form;have HO:=η ho;have GO:=(GD.alloc _).trans eD;have oP:=η eD;have ZO:Hid (w3.heap.size<=((wd.alloc (.cells #[ι r.kind,ι r.deed,ς ap r.parts.length cp] 79))).heap.size):=η (GD.alloc _).size;clear ho eD;refine HK.o _ _ ⟨fun _=>HS.o _ GO,?_⟩;clear HK K;try simp only [aK]
  refine bO 5 κ rfl ?_;intro K HK;refine aC rfl ?_;try simp only [aV]
  have YJ:Hid (Sub w.cell? (mM wo (Value.slice ao h.log.length co).ownBlock)):=η (Dk (jq.o.trans GO) fun q hq=>by have:=(HO.o.lt q hq).1;have:=ZO.o;have:=jq.o.size;omega);refine dD (c:=(mM wo (Value.slice ao h.log.length co).ownBlock)) (base:=(wd.alloc (.cells #[ι r.kind,ι r.deed,ς ap r.parts.length cp] 79)).heap.size) (l:=h.log) (m:=[r]) jv rfl eY ε (.tmp 7) (.tmp 9) rfl rfl (HO.o.mono (Lc (Grow.refl wo))) rfl ((Src.bQ (T:=Ty.rc) (cs:=#[ι r.kind,ι r.deed,ς ap r.parts.length cp]) (Ty.rc.mono YJ.o HR.o) wd 79 rfl).grow oP.o) (by have:=HM.o;simp;omega) (by have:=oP.o.size;(try simp at this ⊢);omega) ?_;intro a5 c5 w5 kJ hg5 hb5;have xX:=η (kJ.sl ε (Ld hg5));have G5:Grow w3 w5:=bn (w0:=w3) GO hg5 (fun q hq=>by have:=(HO.o.lt q hq).1;have:=ZO.o;omega);clear kJ hg5 hb5;refine HK.o _ _ ⟨fun _=>HS.o _ G5,?_⟩;clear HK K;try simp only [aK]
  refine bO 6 κ rfl ?_;intro K HK;try simp only [aV]
  go_simp;go_at_call 38
  refine(YI.o _ w5 xX.o).mono ?_;rintro e w6 ⟨vx,rfl,hX,hb6⟩;change Of Ty.hs _ _ (dV h r) at hX;obtain⟨x,hx⟩:∃x,x=dV h r:=⟨_,rfl⟩;rw [<-hx] at hX;have IR:=η hx;clear hx;obtain⟨eU,eX,kG,kH,o_,pq,rfl⟩:=hX.dF;have HX:=η hX;have G6:=G5.trans hb6;have Bz:=η hb6;clear hX hb6;refine HK.o _ _ ⟨fun _=>HS.o _ G6,?_⟩;clear HK K;try simp only [aK]
  refine bO 7 κ rfl ?_;intro K HK;refine aC rfl ?_;try simp only [aV]
  refine wp_store_row (.tmp 4) (.tmp 11) rfl rfl rfl (aj HR4.o G6) dL rfl rfl ?_;intro w7 r7 g7;refine HK.o _ _ ⟨fun h=>absurd rfl h,?_⟩;clear HK K;try simp only [aK]
  refine aO κ ?_;obtain⟨p0,p1,p2,p3,p4,p5,p6⟩:=aT r7;go_wp2;refine bodyPost_ret (v:=.agg #[ς eU x.log.length eX,ι x.sums.a,ι x.sums.b,ι x.sums.c,ι x.sums.d,ς kG x.ready.length kH,ς o_ x.done.length pq]) (by simp [results,Tryz.results117,go_sem,p0,p1,p2,p3,p4,p5,p6]) rfl ?_;rw [<-IR.o];refine⟨_,rfl,HX.o.mono fun a u e=>?_,(jq.o.trans G6).grown g7 (fun k hk=>by simp at hk;omega)⟩;have z1:=G5.size;have z2:=jq.o.size;unfold ov at e ⊢;split at e
  ·cases e
  ·rw [if_neg δ,dh g7 (World.block_lt_of_cell? w6 a e) δ];exact e
theorem Le (h:Hs) (r:Rc):(dV h r).log=h.log++ [r]:=vN _
theorem DX:∀(l:List Rc) (h:Hd) (x:List Rc),(l.foldl b_ { h with log:=x })={ (l.foldl b_ h) with log:=x }
 | [],_,_=>rfl
 |r::l,h,x=>by
  rw [List.foldl_cons,List.foldl_cons,<-DX l];congr 1;unfold b_;split
  ·rfl
  ·split
   ·rfl
   ·split<;>rfl
theorem mQ (l:List Rc) (r:Rc):bT (l++ [r])={ (b_ (bT l) r) with log:=l++ [r] }:=by
 unfold bT;rw [List.foldl_append];have:=DX l ⟨l,0,0,[]⟩ (l++ [r]);simp only at this;rw [this];show b_ _ r=_;unfold b_;split
 ·rfl
 ·split
  ·rfl
  ·split<;>rfl
theorem xu (l:List Rc):(bT l).next=0/\(bT l).log=l:=by
 have:∀(k:List Rc) (h:Hd),(k.foldl b_ h).next=h.next/\(k.foldl b_ h).log=h.log:=by
  intro k;induction k with
  |nil=>intro h;exact⟨rfl,rfl⟩
  |cons r k ih=>
   intro h;rw [List.foldl_cons,(ih _).1,(ih _).2];unfold b_;split
   ·exact⟨rfl,rfl⟩
   ·split
    ·exact⟨rfl,rfl⟩
    ·split<;>exact⟨rfl,rfl⟩
 exact this l _
theorem uQ (l:List Rc) (r:Rc):aW (l++ [r])=if r.kind=5 then aW l++ [⟨r.deed,r.parts⟩] else aW l:=by
 unfold aW;rw [List.filter_append,List.map_append];split
 ·rename_i h
  rw [List.filter_cons_of_pos (by simp [h])];rfl
 ·rename_i h
  rw [List.filter_cons_of_neg (by simp [h])];simp
theorem A1q (l:List Rc):(aW l).length<=l.length:=by
 unfold aW;rw [List.length_map];exact List.length_filter_le _ _
theorem A1f {c:CM} {v:Value} {l:List Rc} (w:World) (hc:Sub c w.cell?) (hv:UD c v l) (hm:l.length*40<=140737488355328):
  Calls Tryz.prog 19 #[v] w fun e w'=>∃v',e=.returned v'/\aI Ty.rd c w' w.heap.size 53 v' (aW l)/\Grow w w':=by
 obtain⟨a,cap,rfl,h1,h2,-,hel⟩:=hv;unfold maxLen at h2;have HM:=η hm;clear hm;go_enter Tryz.func19,Tryz.ntmps19;go_wp2;go_loopw [3,8] (fun s3 i wr=>∃k:Nat,k<=l.length/\i=ι k/\Grow w wr/\aI Ty.rd c wr w.heap.size 53 s3 (aW (l.take k))) (fun _ i _=>l.length - (intOf i).toNat)
 case atStart=>exact⟨0,δ,rfl,Grow.refl _,aI.nil _ _ _ _ _⟩
 case round=>
  obtain⟨k,hk',rfl,hb,hown⟩:=hrel;by_cases hlt:k<l.length
  ·obtain⟨b,o,vp,rfl,c0,c1,c2,i0,i1,hP⟩:=UD.at_ hel k hlt
   obtain⟨ap,cp,rfl,-⟩:=id hP;replace c0:=hb.sub _ _ (hc _ _ c0);replace c1:=hb.sub _ _ (hc _ _ c1);replace c2:=hb.sub _ _ (hc _ _ c2);have htk:aW (l.take (k+1))=if l[k].kind=5 then aW (l.take k)++ [⟨l[k].deed,l[k].parts⟩] else aW (l.take k):=by rw [List.take_succ_eq_append_getElem hlt,uQ]
   have kY:=η htk;have hlk:(aW (l.take k)).length<=l.length:=Nat.le_trans (A1q _) (by simp;omega);have HOWN:=η hown;have HI:=η (And.intro i1 hP);obtain⟨av,cv,rfl⟩:=hown.form;have FK:=η hlk;clear hel hP htk hown i0 i1 hlk;generalize l[k]=r at*;generalize aW (l.take k)=ds at*;by_cases h5:r.kind=5
   ·have b5:(r.kind==5)=true:=by simp [h5]
    have Yi:=η h5;clear h5;go_wp2_with (first|(at_builtin;refine aZ (c:=c) (base:=w.heap.size) (l:=ds) (m:=[⟨r.deed,r.parts⟩]) Dj rfl IB ε rfl (.tmp 15) (.tmp 21) rfl rfl ?own rfl (Src.bQ (T:=Ty.rd) (cs:=#[ι r.deed,ς ap r.parts.length cp]) ⟨_,rfl,HI.o.1,HI.o.2⟩ _ _ ?d1) ?d2 ?d3 ?_))
    case own=>exact HOWN.o.grow (((Grow.refl _).alloc _).alloc _)
    case d1=>simp
    case d2=>have:=HM.o;have:=FK.o;simp;omega
    case d3=>have:=hb.size;simp;omega
    intro a9 c9 w9 fB eF gI;have jL:Hid (Grow w w9):=η (bn (w0:=w) ((hb.alloc _).alloc _) eF (fun q hq=>(HOWN.o.lt q hq).1));have iF:=η fB;clear fB eF gI;go_wp2;go_roundw
    case rel=>exact⟨k+1,δ,by go_num,jL.o,by rw [kY.o,if_pos Yi.o];exact iF.o⟩
    case measure=>simp [intOf];omega
   ·have b5:(r.kind==5)=false:=by simp [h5]
    have Yi:=η h5;clear h5;go_wp2;go_roundw
    case rel=>exact⟨k+1,δ,by go_num,hb.alloc _,by rw [kY.o,if_neg Yi.o];exact HOWN.o.grow ((Grow.refl _).alloc _)⟩
    case measure=>simp [intOf];omega
  ·clear hel
   go_wp2;go_ret;have h9:=hown;rw [List.take_of_length_le δ] at h9;exact⟨_,rfl,h9,hb⟩
theorem rM {c:CM} {w:World} {base:Nat} {v:Value} {l:List Opn} {F:FuncId} {caps:Array Value} {p:Opn->Bool} (hc:Sub c (mM w v.ownBlock)) (ho:aI Ty.opn c w base 58 v l) (hp:z_ Tryz.prog Ty.opn lQ w v.ownBlock F caps l p):
  Calls Tryz.prog 87 #[v,.func (.func F) #[] caps] w fun e w'=>∃v',e=.returned v'/\aI Ty.opn c w' base 58 v' (l.filter fun x=>!p x)/\w.grownBy w' v.ownBlock/\v'.ownBlock=v.ownBlock:=by
 have hIdx:=wJ w (aI.sl ε (hc.trans (yt _ _)) ho) hp.tells;cases hfi:l.findIdx? p with
 |none=>
  have hx:idxOf p l= -1:=by rw [idxOf,hfi]
  have HF:=η (filter_none hfi);rw [hx] at hIdx;have HI:=η hIdx;have HO:=η ho;clear hIdx hx hfi ho hp;go_enter Tryz.func87,Tryz.ntmps87;go_wp2_with (go_at_call 118;refine HI.o.mono ?_;rintro e w1 ⟨rfl,hb1⟩)
  go_ret;exact⟨_,rfl,by rw [HF.o];exact HO.o.grow hb1,ak hb1 _,rfl⟩
 |some k=>
  have hx:idxOf p l=k:=by rw [idxOf,hfi]
  rw [hx] at hIdx;rw [List.findIdx?_eq_some_iff_getElem] at hfi;obtain⟨hk,hpk,yG⟩:=hfi;obtain⟨css,hown,hcl0,hR⟩:=ho;have hcl:=jM hcl0 hR;obtain⟨hl,⟨rfl,hn⟩|⟨g,cap,cur,rfl,hb,hg,hnc,hcm,hcs,htake⟩⟩:=id hown
  ·omega
  have hbl:(Value.slice (some (⟨g,0,none⟩:Addr)) l.length cap).ownBlock=some g:=rfl;rw [hbl] at hp hc ⊢;have aM:=η hc;clear hc;have hf0:(l.take (k+1)).filter (fun x=>!p x)=l.take k:=by
   rw [kK _ hk,hpk];simp only [Bool.not_true,Bool.false_eq_true,if_false,List.append_nil];rw [List.filter_eq_self];intro x hx;obtain⟨j,hj,rfl⟩:=List.mem_iff_getElem.1 hx;have:=yG j (by simp at hj;omega);simpa using this
  have hkne:((k:Int)== -1)=false:=by rw [beq_eq_false_iff_ne];omega
  have hcm':cap<=9223372036854775807:=by unfold maxLen at hcm;omega
  have HI:=η hIdx;have HO:=η hown;have HR:=η hR;have HP:=η hp.say;have eg:=hp.ent;have HF:=η hf0;have HC:=η hcl;have Aa:=η hcl0;clear hIdx hown hR hp hf0 hcl hcl0 hl hg htake hcs hb hcm yG hpk hx;go_enter Tryz.func87,Tryz.ntmps87;go_wp2_with (go_at_call 118;refine HI.o.mono ?_;rintro e w1 ⟨rfl,hb1⟩)
  go_loopw [5,6,7] (fun si sj _ wr=>∃(i j:Nat) (jT:List (List Value)),i<j/\j<=l.length/\si=ι i/\sj=ι j/\w.grownBy wr (some g)/\jT.length=l.length/\(∀cs∈jT,cs.length=4)/\
    wr.ownsRow base 58 4 (ς (some ⟨g,0,none⟩) l.length cap) l.length jT.flatten/\jT.drop j=css.drop j/\((l.take j).filter fun x=>!p x).length=i/\
    ∀(a:Nat) (cs:List Value) (x:Opn),a<i->jT[a]? =some cs->((l.take j).filter fun x=>!p x)[a]? =some x->Ty.opn.R c cs x) (fun _ sj _ _=>l.length - (intOf sj).toNat)
  case atStart=>
   refine⟨k,k+1,css,δ,δ,rfl,by go_num,ak hb1 _,Aa.o,HC.o,HO.o.kept (ak hb1 none) (by right;simp [Value.ownBlock]),rfl,by rw [HF.o];simp;omega,fun a cs x ha h1 h2=>?_⟩;rw [HF.o,List.getElem?_take,if_pos ha] at h2;exact HR.o a cs x h1 h2
  case round=>
   obtain⟨i,j,jT,hij,hj',rfl,rfl,hgr,hl',hcs',hown',hdrop,hfl,hRi⟩:=hrel;have HOWN:=η hown';have VB:=η hcs';have HD:=η hdrop;have IQ:=η hfl;have eA:=η hRi;have Dq:=η hl';have Bv:=η hgr;clear hown' hcs' hdrop hfl hRi hl' hgr hb1;by_cases hlt:j<l.length
   ·have hjc:css[j]? =some css[j]!:=by rw [List.getElem?_eq_getElem (by rw [Aa.o];exact hlt),getElem!_pos css j (by rw [Aa.o];exact hlt)]
    obtain⟨v1,v2,VD,hRR⟩:=HR.o j _ l[j] hjc (List.getElem?_eq_getElem hlt);obtain⟨sa1,rS,rfl,-⟩:=id hRR.2.1;obtain⟨rT,sA,rfl,-⟩:=id hRR.2.2;have Oz:jT[j]? =some css[j]!:=by
     have:(jT.drop j)[0]? =(css.drop j)[0]?:=by rw [HD.o]
     rw [List.getElem?_drop,List.getElem?_drop,Nat.add_zero,hjc] at this;exact this
    rw [VD] at hjc Oz;have hcj:∀(t:Nat) (u:Value),([ι l[j].deed,.slice sa1 l[j].parts.length rS,.bool l[j].dec,.slice rT l[j].heard.length sA])[t]? =some u->t<4->wr.cell? ⟨g,j*4+t,none⟩=some u:=by
     intro t u hu ht;rw [HOWN.o.cellAt _ δ,iT (size:=4) ε jT VB.o,show(j*4+t)/4=j by omega,show(j*4+t) % 4=t by omega,Oz];exact hu
    have hci:∀(t:Nat),t<4->∃u,wr.cell? ⟨g,i*4+t,none⟩=some u:=by
     intro t ht;exact⟨_,by rw [HOWN.o.cellAt _ δ];exact List.getElem?_eq_getElem (by rw [HOWN.o.1];omega)⟩
    have hfz:∀o,wr.frozen? ⟨g,o,none⟩=false:=HOWN.o.frozenAt;have hgl:g<wr.heap.size:=(HOWN.o.lt g rfl).2;have c0:wr.cell? ⟨g,j*4,none⟩=some (ι l[j].deed):=hcj 0 _ rfl ε;have c1:wr.cell? ⟨g,j*4+1,none⟩=some (.slice sa1 l[j].parts.length rS):=hcj 1 _ rfl ε;have c2:wr.cell? ⟨g,j*4+2,none⟩=some (.bool l[j].dec):=hcj 2 _ rfl ε;have c3:wr.cell? ⟨g,j*4+3,none⟩=some (.slice rT l[j].heard.length sA):=hcj 3 _ rfl ε;obtain⟨u0,hu0⟩:∃u,wr.cell? ⟨g,i*4,none⟩=some u:=hci 0 ε;obtain⟨u1,hu1⟩:∃u,wr.cell? ⟨g,i*4+1,none⟩=some u:=hci 1 ε;obtain⟨u2,hu2⟩:∃u,wr.cell? ⟨g,i*4+2,none⟩=some u:=hci 2 ε;obtain⟨u3,hu3⟩:∃u,wr.cell? ⟨g,i*4+3,none⟩=some u:=hci 3 ε;have eB:Ty.opn.R c [ι l[j].deed,.slice sa1 l[j].parts.length rS,.bool l[j].dec,.slice rT l[j].heard.length sA] l[j]:=⟨_,_,rfl,hRR⟩;have VE:=fun(W:World) (hW:Grow wr W)=>HP.o W _ l[j] (grownBy_trans Bv.o (ak hW _)) (List.getElem_mem _) (Ty.opn.mono (Sub.trans aM.o (Sub.trans (sH (grownBy_trans Bv.o (ak hW _))) (yt _ _))) eB);have hstep:=kK (fun x=>!p x) hlt;have HS:=η VE;have HST:=η hstep;have HRW:=η eB;clear VE hstep hcj hci eB hRR hjc Oz VD;simp only [lQ] at HS;cases hq:p l[j]
    ·rw [hq] at HS HST
     generalize l[j]=q at*;go_wp2_with (go_at_fn F;refine(HS.o _ ((Grow.refl wr).alloc _)).mono ?_;rintro e w1 ⟨rfl,hb1⟩;have e0:=hb1.sub ⟨wr.heap.size,0,none⟩ _ (World.cell?_alloc_new wr _ _ 0);have e1:=hb1.sub ⟨wr.heap.size,1,none⟩ _ (World.cell?_alloc_new wr _ _ 1);have e2:=hb1.sub ⟨wr.heap.size,2,none⟩ _ (World.cell?_alloc_new wr _ _ 2);have e3:=hb1.sub ⟨wr.heap.size,3,none⟩ _ (World.cell?_alloc_new wr _ _ 3);simp at e0 e1 e2 e3;have d0:=(((Grow.refl wr).alloc _).trans hb1).sub _ _ hu0;have d1:=(((Grow.refl wr).alloc _).trans hb1).sub _ _ hu1;have d2:=(((Grow.refl wr).alloc _).trans hb1).sub _ _ hu2;have d3:=(((Grow.refl wr).alloc _).trans hb1).sub _ _ hu3;have df:∀o,w1.frozen? ⟨g,o,none⟩=false:=fun o=>((((Grow.refl wr).alloc _).trans hb1).frozen (p:=⟨g,o,none⟩) hgl).trans (hfz o);have dz:=hb1.size;have HB1:=η hb1;clear hb1)
     obtain⟨hset,hsg⟩:=Kr (cs:=[ι q.deed,ς sa1 q.parts.length rS,.bool q.dec,ς rT q.heard.length sA]) (i:=i) VB.o (HOWN.o.kept (ak (((Grow.refl wr).alloc _).trans HB1.o) none) (by right;simp [Value.ownBlock])) (by rw [Dq.o];omega) rfl;have eC:=η hset;have NQ:=η hsg;clear hset hsg;go_roundw
     case rel=>
      refine⟨i+1,j+1,jT.set i [ι q.deed,ς sa1 q.parts.length rS,.bool q.dec,ς rT q.heard.length sA],δ,δ,by go_num,by go_num,grownBy_trans (grownBy_trans Bv.o (ak (((Grow.refl wr).alloc _).trans HB1.o) _)) NQ.o,by simpa using Dq.o,?_,eC.o,?_,?_,?_⟩
      ·intro cs hc
       rcases List.mem_or_eq_of_mem_set hc with h|rfl
       ·exact VB.o cs h
       ·rfl
      ·rw [List.drop_set_of_lt δ]
       have:(jT.drop j).drop 1=(css.drop j).drop 1:=by rw [HD.o]
       simpa [List.drop_drop] using this
      ·rw [HST.o];simp [IQ.o]
      ·intro a cs x ha h1 h2
       rw [HST.o] at h2;simp only [Bool.not_false,if_true] at h2;by_cases hai:a<i
       ·rw [List.getElem?_set_ne δ] at h1
        rw [List.getElem?_append_left (by rw [IQ.o];exact hai)] at h2;exact eA.o a cs x hai h1 h2
       ·obtain rfl:a=i:=by omega
        rw [List.getElem?_append_right (by rw [IQ.o];omega),IQ.o,Nat.sub_self] at h2;rw [List.getElem?_set_self (by rw [Dq.o];omega)] at h1;obtain rfl:=Option.some.inj h1;obtain rfl:=Option.some.inj h2;exact HRW.o
     case measure=>simp [intOf];omega
    ·rw [hq] at HS HST
     generalize l[j]=q at*;go_wp2_with (go_at_fn F;refine(HS.o _ ((Grow.refl wr).alloc _)).mono ?_;rintro e w1 ⟨rfl,hb1⟩)
     have HB1:=η hb1;clear hb1;go_roundw
     case rel=>
      refine⟨i,j+1,jT,δ,δ,rfl,by go_num,grownBy_trans Bv.o (ak (((Grow.refl wr).alloc _).trans HB1.o) _),Dq.o,VB.o,HOWN.o.kept (ak (((Grow.refl wr).alloc _).trans HB1.o) none) (by right;simp [Value.ownBlock]),?_,?_,?_⟩
      ·have:(jT.drop j).drop 1=(css.drop j).drop 1:=by rw [HD.o]
       simpa [List.drop_drop] using this
      ·rw [HST.o];simp [IQ.o]
      ·intro a cs x ha h1 h2
       rw [HST.o] at h2;simp only [Bool.not_true,Bool.false_eq_true,if_false,List.append_nil] at h2;exact eA.o a cs x ha h1 h2
     case measure=>simp [intOf];omega
   ·obtain rfl:j=l.length:=by omega
    have hic:i<=cap:=by omega
    obtain⟨w2,hcl,ql,HG2⟩:=rD h_ 0 HOWN.o i (l.length - i) (cap - i) (some ⟨g,i*4,none⟩) δ (fun _=>rfl) δ;have CS:=η hcl;have Iy:=η ql;have FD:=η HG2;clear hcl ql HG2 eg;have hil:i<cap:=by omega
    have Ch:i<=l.length:=by omega
    go_wp2_with fail
    rw [CS.o];go_wp2;go_ret;refine⟨_,rfl,?_,grownBy_trans Bv.o FD.o,rfl⟩;have hfin:(l.filter fun x=>!p x).length=i:=by have:=IQ.o;rw [List.take_of_length_le (Nat.le_refl _)] at this;exact this
    refine⟨jT.take i,?_,by rw [List.length_take,Dq.o,hfin];omega,fun a cs x h1 h2=>?_⟩
    ·have h:=Iy.o
     rw [jD jT i VB.o] at h;rw [hfin];exact h
    ·rw [List.getElem?_take] at h1
     split at h1
     ·rename_i hai
      have h3:=eA.o a cs x hai h1 (by rw [List.take_of_length_le (Nat.le_refl _)];exact h2);exact h3
     ·cases h1
theorem bU:(Tryz.prog.info? 29).map (·.size)=some 4:=by kernel_rfl
abbrev Lh:Array Value:=#[(),ι 0,ι 0,()]
def Ac (w w1 wr:World) (vl vo:Value):CM:=fr w wr [vl.ownBlock,vo.ownBlock,some w.heap.size,some w1.heap.size]
structure wu (w w1 wr:World) (vl vo:Value) (l:List Rc) (h:Hd):Prop where
 res:wr.heap[w.heap.size]? =some (.cells Lh 29 (0,0))
 row:wr.heap[w1.heap.size]? =some (.cells #[vl,ι h.aG,ι h.next,vo] 29 (0,0))
 log:aI Ty.rc (Ac w w1 wr vl vo) wr (w.heap.size+1) 79 vl l
 opn:aI Ty.opn (Ac w w1 wr vl vo) wr (w1.heap.size+1) 58 vo h.opn
 grow:Grow w wr
 size:w1.heap.size+1<=wr.heap.size
 lt:∀k,vl.ownBlock=some k->k<w1.heap.size
 w1:w.heap.size+1<=w1.heap.size
structure TD (w1 wr w':World) (vo jZ:Value):Prop where
 size:wr.heap.size<=w'.heap.size
 block:∀k,k<wr.heap.size->k≠w1.heap.size->vo.ownBlock≠some k->w'.heap[k]? =wr.heap[k]?
 opn:jZ.ownBlock=vo.ownBlock∨∃g,jZ.ownBlock=some g/\wr.heap.size<=g
theorem TD.mem {w w1 wr w':World} {vl vo jZ:Value} (c:TD w1 wr w' vo jZ):Sub (Ac w w1 wr vl vo) (Ac w w1 w' vl jZ):=by
 refine gZ fun k hk _ hx=>?_;simp only [List.mem_cons,List.not_mem_nil,or_false,not_or] at hx ⊢;obtain⟨x1,x2,x4,x5⟩:=hx;refine⟨c.block k hk (fun e=>x5 (by rw [e])) (fun e=>x2 e.symm),x1,?_,x4,x5⟩;rcases c.opn with e|⟨g,e,hg⟩
 ·rw [e];exact x2
 ·rw [e];simp;omega
theorem wu.put {w w1 wr w':World} {vl vo jZ:Value} {l:List Rc} {h h':Hd} (b:wu w w1 wr vl vo l h) (c:TD w1 wr w' vo jZ) (hG:Grow w w')
  (row:w'.heap[w1.heap.size]? =some (.cells #[vl,ι h'.aG,ι h'.next,jZ] 29 (0,0))) (opn:aI Ty.opn (Ac w w1 w' vl jZ) w' (w1.heap.size+1) 58 jZ h'.opn):wu w w1 w' vl jZ l h' where
 res:=by
  have h1:=b.w1;have h2:=b.size;rw [c.block _ δ δ (fun e=>by have:=(b.opn.lt _ e).1;omega)];exact b.res
 row:=row
 log:=by
  refine(b.log.mono c.mem).block fun k hk=>?_;have h1:=b.lt k hk;have h2:=b.size;exact c.block k δ δ (fun e=>by have:=(b.opn.lt _ e).1;omega)
 opn:=opn
 grow:=hG
 size:=Nat.le_trans b.size c.size
 lt:=b.lt
 w1:=b.w1
theorem wu.later {w w1 wr w':World} {vl vo:Value} {l:List Rc} {h:Hd} (b:wu w w1 wr vl vo l h) (hg:Grow wr w'):wu w w1 w' vl vo l h:=
 have c:TD w1 wr w' vo vo:=⟨hg.size,fun k hk _ _=>hg.block k hk,.inl rfl⟩;b.put c (b.grow.trans hg) (aj b.row hg) ((b.opn.mono c.mem).grow hg)
theorem DY {w:World} {B:Nat} {a b c d:Value} {t:TypeId} (h:w.heap[B]? =some (.cells #[a,b,c,d] t (0,0))) (u:Value):(w.setCell ⟨B,3,none⟩ u).heap[B]? =some (.cells #[a,b,c,u] t (0,0)):=by
 simp only [World.setCell,Array.getElem?_modify,h];simp
theorem DZ {w:World} {B:Nat} {a b c d:Value} {t:TypeId} (h:w.heap[B]? =some (.cells #[a,b,c,d] t (0,0))) (u:Value):(w.setCell ⟨B,1,none⟩ u).heap[B]? =some (.cells #[a,u,c,d] t (0,0)):=by
 simp only [World.setCell,Array.getElem?_modify,h];simp
theorem wu.Lj {w w1 wr wq w':World} {vl vo jZ:Value} {l:List Rc} {h:Hd} {os:List Opn} (b:wu w w1 wr vl vo l h) (hG:Grow wr wq)
  (ho:aI Ty.opn (Ac w w1 wq vl vo) w' (w1.heap.size+1) 58 jZ os) (hg:wq.grownBy w' vo.ownBlock) (hb:jZ.ownBlock=vo.ownBlock∨∃g,jZ.ownBlock=some g/\wq.heap.size<=g):
  wu w w1 (w'.setCell ⟨w1.heap.size,3,none⟩ jZ) vl jZ l { h with opn:=os }:=by
 have bq:=b.later hG;have hs:=hG.size;have hs1:=b.size;have hw1:=b.w1;have hlt:=bq.opn.lt;have hB:∀k,k≠w1.heap.size->(w'.setCell ⟨w1.heap.size,3,none⟩ jZ).heap[k]? =w'.heap[k]?:=fun k hk=>Below.heap_setCell _ _ _ _ (fun e=>hk e);have c1:TD w1 wq (w'.setCell ⟨w1.heap.size,3,none⟩ jZ) vo jZ:=⟨by simpa using hg.size,fun k hk h1 h2=>by rw [hB k h1,hg.block k hk (fun e=>h2 e.symm)],hb⟩;have YG:Grow w (w'.setCell ⟨w1.heap.size,3,none⟩ jZ):=(bq.grow.grown hg (fun k hk=>by have:=(hlt k hk).1;omega)).setCell (by simp;omega) _;exact bq.put c1 YG (DY (aH bq.row hg (fun e=>by have:=(hlt _ e.symm).1;omega)) _) ((ho.mono c1.mem).block fun k hk=>hB k (τ ((ho.lt k hk).1)))
theorem wu.aG {w w1 wr wq:World} {vl vo:Value} {l:List Rc} {h:Hd} (b:wu w w1 wr vl vo l h) (hG:Grow wr wq) (x:Int):wu w w1 (wq.setCell ⟨w1.heap.size,1,none⟩ (ι x)) vl vo l { h with aG:=x }:=by
 have bq:=b.later hG;have hs:=hG.size;have hs1:=b.size;have hw1:=b.w1;have hB:∀k,k≠w1.heap.size->(wq.setCell ⟨w1.heap.size,1,none⟩ (ι x)).heap[k]? =wq.heap[k]?:=fun k hk=>Below.heap_setCell _ _ _ _ (fun e=>hk e);have c1:TD w1 wq (wq.setCell ⟨w1.heap.size,1,none⟩ (ι x)) vo vo:=⟨σ,fun k hk h1 _=>hB k h1,.inl rfl⟩;exact bq.put c1 (bq.grow.setCell (by simp;omega) _) (DZ bq.row _) ((bq.opn.mono c1.mem).block fun k hk=>hB k (τ ((bq.opn.lt k hk).1)))
theorem Ll (w:World) (row:Option Nat) (B:Nat) (d:Int) (l:List Opn) (hc:w.cell? ⟨B,1,none⟩=some (ι d)) (hB:B<w.heap.size) (hr:row≠some B):z_ Tryz.prog Ty.opn lQ w row 108 #[.pointer (some ⟨B,0,none⟩)] l (fun o=>o.deed==d) where
 ent:=fun args w=>by kernel_rfl
 say:=fun wx cs x hg _ hR=>by
  obtain⟨vp,vh,rfl,-,hp,hh⟩:=hR;obtain⟨ap,cp,rfl,-⟩:=hp;obtain⟨ah,ch,rfl,-⟩:=hh;have hBx:B<wx.heap.size:=Nat.lt_of_lt_of_le hB hg.size;have hc2:wx.cell? ⟨B,1,none⟩=some (ι d):=by rw [World.cell?_of_block (hg.block B hB (fun e=>hr e.symm))];exact hc
  clear hc;show Calls _ _ #[.agg #[ι x.deed,ς ap x.parts.length cp,.bool x.dec,ς ah x.heard.length ch],.pointer (some ⟨B,0,none⟩)] _ _;go_enter Tryz.func108,Tryz.ntmps108;go_wp2;go_ret;exact⟨rfl,gY⟩
section
variable {P:Program} {ops:Array Oper} {Q:Exit->Act->World->Prop} {md:Region.Mode} {S:World->Prop} {C:List Nat}
def wpC (P:Program) (md:Region.Mode) (ops:Array Oper) (Q:Exit->Act->World->Prop) (S:World->Prop) (C:List Nat):Nat->Array Bool->Act->World->Prop
 |0,listed,a,w=>Region.ready md ops listed=[]/\Q .normal a w
 |fuel+1,listed,a,w=>(Region.ready md ops listed=[]->Q .normal a w)/\∀i∈Region.ready md ops listed,wpOp P ops Q i (fun a' w'=>(i∈C∨S w')/\wpC P md ops Q S C fuel (listed.setIfInBounds i true) a' w') a w
theorem QM:∀(fuel:Nat) (listed:Array Bool) (a:Act) (w:World),wpC P md ops Q S C fuel listed a w->wpAny P md ops Q fuel listed a w
 |0,_,_,_,h=>h
 |_+1,_,_,_,h=>⟨h.1,fun i hi=>wpOp_mono (fun a' w' h'=>QM _ _ a' w' h'.2) (h.2 i hi)⟩
theorem TF {i f:Nat} {oi:Oper} {v:Value} (hi:ops[i]? =some oi) (hsel:∀(j:Nat) (o:Oper) cs b,ops[j]? =some o->o.op≠ .select cs b)
  (hQ:∀k a w,Q (.panic k) (a.put oi.dst v) w->Q (.panic k) a w) (hw:∀c∈C,waitsFor md ops f i c=true):
  ∀(fuel:Nat) (listed:Array Bool) (a:Act) (w:World),oH md ops listed->
   (∀j oj,ops[j]? =some oj->j≠i->listed.getD j true=false->(∀e∈oj.after,Region.binds md e=true->e.on≠i)->oi.apart ops oj=true)->
   i∈Region.ready md ops listed->YieldsIf P ops S oi v a->S w->
   wpC P md ops Q S C fuel (listed.setIfInBounds i true) (a.put oi.dst v) w->wpC P md ops Q S C (fuel+1) listed a w:=by
 have hun:∀listed:Array Bool,i∈Region.ready md ops listed->listed.getD i false=false:=by
  intro listed hr;have h0:=(mem_ready.1 hr).1;by_cases hl:i<listed.size
  ·simp [hl] at h0 ⊢;exact h0
  ·simp [hl]
 intro fuel;induction fuel with
 |zero=>
  intro listed a w _ _ hr hy hS H;refine⟨fun h=>(by rw [h] at hr;cases hr),fun j hj=>?_⟩;by_cases hji:j=i
  ·subst hji;exact hy.wpOp hi hS ⟨.inr hS,H⟩
  ·have:=ready_mono hj hji
   rw [H.1] at this;cases this
 |succ fuel ih=>
  intro listed a w hcl hfree hr hy hS H;refine⟨fun h=>(by rw [h] at hr;cases hr),fun j hj=>?_⟩;by_cases hji:j=i
  ·subst hji;exact hy.wpOp hi hS ⟨.inr hS,H⟩
  ·have hjc:j∉C:=fun e=>(Dn hcl (hun _ hr) (hw j e)).1 hj
   have h1:=H.2 j (ready_mono hj hji);obtain⟨hjun,oj,hoj,hall⟩:=mem_ready.1 hj;have hnot:∀e∈oj.after,Region.binds md e=true->e.on≠i:=fun e he hb heq=>by
    have h1:=hall e he hb;rw [heq,hun _ hr] at h1;cases h1
   have h2:=wpOp_putIf hoj (hfree j oj hoj hji hjun hnot) (fun cs b=>hsel i oi cs b hi) (fun cs b=>hsel j oj cs b hoj) hQ hy h1;refine wpOp_mono (fun a' w' h3=>have hs3:=h3.2.1.resolve_left hjc;⟨.inr hs3,ih (listed.setIfInBounds j true) a' w' (hcl.set hj) (fun k ok hk hki qD hno=>?_) (ready_mono hr (Ne.symm hji)) h3.1 hs3 ?_⟩) h2
   ·refine hfree k ok hk hki ?_ hno
    by_cases hjk:j=k
    ·subst hjk;exact hjun
    ·rw [getD_set_ne true hjk] at qD;exact qD
   ·rw [Array.setIfInBounds_comm _ _ hji]
    exact h3.2.2
def aR (P:Program) (md:Region.Mode) (ops:Array Oper) (Q:Exit->Act->World->Prop) (S:World->Prop) (C:List Nat) (w:World):List Nat->Nat->Array Bool->Act->Prop
 | [],fuel,listed,a=>wpC P md ops Q S C fuel listed a w
 |i::is,F,listed,a=>∃fuel oi v,F=fuel+1/\ops[i]? =some oi/\YieldsIf P ops S oi v a/\aR P md ops Q S C w is fuel (listed.setIfInBounds i true) (a.put oi.dst v)
def YK (md:Region.Mode) (ops:Array Oper) (C:List Nat) (f:Nat):List Nat->Array Bool->Bool
 | [],_=>true
 |i::is,listed=>Region.free md ops listed i&&((Region.ready md ops listed).contains i&&((C.all fun c=>waitsFor md ops f i c)&&YK md ops C f is (listed.setIfInBounds i true)))
theorem VI {w:World} (hsel:∀(j:Nat) (o:Oper) cs b,ops[j]? =some o->o.op≠ .select cs b) (hQ:∀k d v a w,Q (.panic k) (a.put (some d) v) w->Q (.panic k) a w) (hS:S w) (f:Nat):∀(is:List Nat) (fuel:Nat) (listed:Array Bool) (a:Act),oH md ops listed->YK md ops C f is listed=true->aR P md ops Q S C w is fuel listed a->wpC P md ops Q S C fuel listed a w
 | [],_,_,_,_,_,h=>h
 |i::is,_,listed,a,hd,hb,h=>by
  obtain⟨fuel,oi,v,rfl,hi,hy,h⟩:=h;simp only [YK,Bool.and_eq_true] at hb;obtain⟨b1,b2,b3,b4⟩:=hb;have hr:i∈Region.ready md ops listed:=by simpa using b2
  exact TF hi hsel (fun k a w h=>by
   cases hd:oi.dst with
   |none=>rw [hd] at h;exact h
   |some d=>rw [hd] at h;exact hQ k d _ a w h) (fun c hc=>List.all_eq_true.1 b3 c hc) fuel listed a w hd (Region.free_spec hi b1) hr hy hS (VI hsel hQ hS f is fuel _ _ (hd.set hr) b4 h)
theorem lY (is:List Nat) (f:Nat) {fuel:Nat} {listed:Array Bool} {a:Act} {w:World} (h5:(Region.noSelect ops&&(Ku md ops listed&&YK md ops C f is listed))=true) (hQ:∀k d v a w,Q (.panic k) (a.put (some d) v) w->Q (.panic k) a w) (hS:S w)
  (h:aR P md ops Q S C w is fuel listed a):wpC P md ops Q S C fuel listed a w:=by
 simp only [Bool.and_eq_true] at h5;exact VI (Region.noSelect_spec h5.1) hQ hS f is fuel listed a (II h5.2.1) h5.2.2 h
theorem tNc {i:Nat} {is:List Nat} {fuel:Nat} {listed:Array Bool} {a:Act} {w:World} {oi:Oper} {v:Value} (hi:ops[i]? =some oi) (hw:Region.wanted oi (yielded ops a.tmps)=true) (hy:∀w,S w->(execOp a.eval oi).run P w=.ok (.value v) w)
  (h:aR P md ops Q S C w is fuel (listed.setIfInBounds i true) (a.put oi.dst v)):aR P md ops Q S C w (i::is) (fuel+1) listed a:=⟨fuel,oi,v,rfl,hi,.inl ⟨hw,hy⟩,h⟩
theorem gq {i:Nat} {is:List Nat} {fuel:Nat} {listed:Array Bool} {a:Act} {w:World} {oi:Oper} {v:Value} (h:aR P md ops Q S C w is fuel (listed.setIfInBounds i true) (a.put oi.dst v)) (hi:ops[i]? =some oi:=by rfl) (hw:Region.wanted oi (yielded ops a.tmps)=true:=by rfl) (hy:∀w,S w->(execOp a.eval oi).run P w=.ok (.value v) w:=by(intro w' hSw;(try dsimp only at hSw);repeat (with_reducible (have hq:=And.left hSw;replace hSw:=And.right hSw));go_simp<;>with_reducible rfl)):aR P md ops Q S C w (i::is) (fuel+1) listed a:=tNc hi hw hy h
theorem lZ {fuel:Nat} {listed:Array Bool} {a:Act} {w:World} (h:wpC P md ops Q S C fuel listed a w):aR P md ops Q S C w [] fuel listed a:=h
theorem wO {listed:Array Bool} {a:Act} {w:World} {fuel:Nat} (hr:Region.ready md ops listed=[]) (h:Q .normal a w):wpC P md ops Q S C fuel listed a w:=by
 cases fuel with
 |zero=>exact⟨hr,h⟩
 |succ n=>exact⟨fun _=>h,by rw [hr];simp⟩
theorem iR (i:Nat) {o:Oper} {fuel:Nat} {listed:Array Bool} {a:Act} {w:World} (hr:Region.ready md ops listed=[i]) (hi:ops[i]? =some o)
  (h:∀K:Act->World->Prop,Hid (∀a' w',(i∈C∨S w')/\wpC P md ops Q S C fuel (listed.setIfInBounds i true) a' w'->K a' w')->if Region.wanted o (yielded ops a.tmps)=true then Oper.wp P o a w K Q else K (a.put o.dst undef) w):
  wpC P md ops Q S C (fuel+1) listed a w:=by
 refine⟨fun h0=>absurd (h0.symm.trans hr) σ,fun j hj=>?_⟩;rw [hr] at hj;obtain rfl:j=i:=by simpa using hj
 exact wpOp_step hi fun K hK=>h K (η hK)
theorem eE (i j:Nat) {o o':Oper} {fuel:Nat} {listed:Array Bool} {a:Act} {w:World} (hr:Region.ready md ops listed=[i,j]) (hi:ops[i]? =some o) (hj:ops[j]? =some o')
  (h:∀K:Act->World->Prop,Hid (∀a' w',(i∈C∨S w')/\wpC P md ops Q S C fuel (listed.setIfInBounds i true) a' w'->K a' w')->if Region.wanted o (yielded ops a.tmps)=true then Oper.wp P o a w K Q else K (a.put o.dst undef) w)
  (h':∀K:Act->World->Prop,Hid (∀a' w',(j∈C∨S w')/\wpC P md ops Q S C fuel (listed.setIfInBounds j true) a' w'->K a' w')->if Region.wanted o' (yielded ops a.tmps)=true then Oper.wp P o' a w K Q else K (a.put o'.dst undef) w):
  wpC P md ops Q S C (fuel+1) listed a w:=by
 refine⟨fun h0=>absurd (h0.symm.trans hr) σ,fun x hx=>?_⟩;rw [hr] at hx;have hx:x=i∨x=j:=by simpa using hx
 rcases hx with rfl|rfl
 ·exact wpOp_step hi fun K hK=>h K (η hK)
 ·exact wpOp_step hj fun K hK=>h' K (η hK)
theorem Cm (S:World->Prop) (C:List Nat) {id:Nat} {a:Act} {w:World} (hm:P.follows .mixedOrders=true) (h:∀wd,Grow w wd->w.heap.size=wd.heap.size->wpC P .any ops Q S C ops.size (Array.replicate ops.size false) a wd):(Code.region id ops true).wp P Q a w:=
 wp_region_any hm (QM _ _ _ _ (h w.drew ((Grow.refl _).drew) rfl))
end
end Go.Proofs.YtocnmkefmgmkbaaGreat
