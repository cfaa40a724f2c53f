/- Parts of proofs, joined: Q9, Q10, U1, U2, U3, U4, U5, U6, U7, U8, U9, U10, U11, U12, U21, C4, U20, U20p, U11n. No condition beside those that each theorem names. -/
import Derived.Lib.SlicesCompact
import Derived.Test.YtocnmkefmgmkbaaGreatJW4a
set_option maxRecDepth 100000
set_option maxHeartbeats 40000000
namespace Go.Proofs.YtocnmkefmgmkbaaGreat
open Go.RowKit
def wt (m:Ms):Nat:=if m.kind=1 then 8 else if m.kind=2 then 7 else if m.kind=3 then 4 else if m.kind=4 then 2 else if m.kind=7 then 3 else 1
def mF:List Ms->Nat
 | []=>0
 |m::l=>wt m+mF l
theorem Rh:∀a b:List Ms,mF (a++b)=mF a+mF b
 | [],b=>by simp [mF]
 |m::a,b=>by rw [List.cons_append,mF,mF,Rh a b];omega
theorem Me:∀(l:List Ms) (k:Nat),mF (l.take k)<=mF l
 | [],k=>by simp [mF]
 |m::l,0=>by simp [mF]
 |m::l,k+1=>by rw [List.take_succ_cons,mF,mF];have:=Me l k;omega
theorem MB (net ms:List Ms):mF (bW net ms)<=mF net+mF ms:=by
 unfold bW;rw [Rh];have:=Me ms (24 - net.length);omega
theorem Jp {c:Nat}:∀{l:List Ms},(∀m∈l,wt m<=c)->mF l<=l.length*c
 | [],_=>by simp [mF]
 |m::l,h=>by
  have h1:=h m List.mem_cons_self;have h2:=Jp (l:=l) fun x hx=>h x (List.mem_cons_of_mem _ hx);rw [mF,List.length_cons,Nat.add_mul];omega
theorem EF (m:Ms):1<=wt m:=by
 unfold wt;split
 ·omega
 split
 ·omega
 split
 ·omega
 split
 ·omega
 split
 ·omega
 ·omega
theorem EG (P:List Pt):(aX P).length<=3:=by
 unfold aX;exact Nat.le_trans (List.length_filter_le _ _) ε
theorem Zk (h:Hs) (me:Int) (m:Ms):mF (bG h me m)<wt m:=by
 unfold bG;split
 ·rename_i h1
  have:wt m=8:=by unfold wt;rw [if_pos h1]
  split
  ·rw [this];simp [mF]
  ·split
   ·rw [this];simp [mF,kR,wt]
   ·rw [this];simp [mF,kR,wt]
 ·split
  ·rename_i h4
   have:wt m=2:=by unfold wt;simp [h4]
   split
   ·rw [this];simp [mF,kR,wt]
   ·rw [this];simp [mF]
  ·have:=EF m
   simp only [mF];omega
theorem WB (o:Opn) (m:Ms):mF (dJ o m).2.2<wt m:=by
 have hp:=EF m;unfold dJ;split
 ·rename_i h2
  have:wt m=7:=by unfold wt;simp [h2.1]
  split
  ·have h3:mF (gG { o with dec:=true,heard:=[] })<=(gG { o with dec:=true,heard:=[] }).length*2:=Jp fun x hx=>by
    unfold gG at hx;obtain⟨k,-,rfl⟩:=List.mem_map.1 hx;simp [gV,wt]
   have h4:(gG { o with dec:=true,heard:=[] }).length<=3:=by
    unfold gG;rw [List.length_map];exact Nat.le_trans (List.length_filter_le _ _) (EG _)
   show mF (gG _)<_;omega
  ·show mF []<_
   simp only [mF];omega
 split
 ·rename_i h3
  have:wt m=4:=by unfold wt;simp [h3.1]
  have h3:mF (dG o.deed o.parts)<=(dG o.deed o.parts).length*1:=Jp fun x hx=>by
   unfold dG at hx;obtain⟨k,-,rfl⟩:=List.mem_map.1 hx;simp [wt]
  have h4:(dG o.deed o.parts).length<=3:=by
   unfold dG;rw [List.length_map];exact EG _
  show mF (dG _ _)<_;omega
 split
 ·split
  ·show mF []<_
   simp only [mF];omega
  ·show mF []<_
   simp only [mF];omega
 split
 ·rename_i h7
  have:wt m=3:=by unfold wt;simp [h7.1]
  rw [this];simp [mF,wt]
 ·show mF []<_
  simp only [mF];omega
theorem WC (h:Hd) (m:Ms):mF (fG h m)<wt m:=by
 have hp:=EF m;unfold fG;cases hl:jP m h.opn with
 |none=>
  simp only;split
  ·rename_i h7
   have:wt m=3:=by unfold wt;simp [h7]
   rw [this];simp [mF,wt]
  ·simp only [mF];omega
 |some x=>
  obtain⟨A,o,B,-,-,-,rfl⟩:=xM hl;exact WB o m
theorem Zl (w:AW) (m:Ms):mF (iY w m).net<mF w.net+wt m:=by
 have hp:=EF m;unfold iY;cases w.aA[m.house.toNat]? with
 |none=>simp only;omega
 |some h=>
  simp only;split
  ·have h1:=MB w.net (bG h m.house m)
   have h2:=Zk h m.house m;show mF (bW _ _)<_;omega
  ·have h1:=MB w.net (fG w.head m)
   have h2:=WC w.head m;show mF (bW _ _)<_;omega
def qZ:Nat->AW->AW
 |0,w=>w
 |f+1,w=>match w.net with
  | []=>w
  |m::l=>qZ f (iY { w with net:=l } m)
def pX (w:AW):AW:=qZ (mF w.net) w
theorem xO {w:AW} {m:Ms} {l:List Ms} (h:w.net=m::l):mF (iY { w with net:=l } m).net<mF w.net:=by
 have:=Zl { w with net:=l } m;rw [h,mF];simp only at this;omega
theorem BQ:∀(f g:Nat) (w:AW),mF w.net<=f->f<=g->qZ g w=qZ f w
 |0,g,w,h,_=>by
  have:w.net=[]:=by
   cases hn:w.net with
   |nil=>rfl
   |cons m l=>rw [hn,mF] at h;have:=EF m;omega
  cases g with
  |zero=>rfl
  |succ g=>unfold qZ;rw [this]
 |f+1,0,w,h,hg=>by omega
 |f+1,g+1,w,h,hg=>by
  cases hn:w.net with
  |nil=>unfold qZ;rw [hn]
  |cons m l=>
   have:=xO hn;unfold qZ;rw [hn];exact BQ f g _ δ δ
theorem Uc {w:AW} (h:w.net=[]):pX w=w:=by
 unfold pX;rw [h];rfl
theorem OX {w:AW} {m:Ms} {l:List Ms} (h:w.net=m::l):pX w=pX (iY { w with net:=l } m):=by
 have h1:=xO h;unfold pX;have hp:∃k,mF w.net=k+1:=⟨mF w.net - 1,δ⟩;obtain⟨k,hk⟩:=hp;have e:qZ (k+1) w=qZ k (iY { w with net:=l } m):=by
  show(match w.net with| []=>w|m::l=>qZ k (iY { w with net:=l } m))=_;rw [h]
 rw [hk,e];exact BQ _ _ _ (Nat.le_refl _) δ
theorem BR {p:AW->Prop} (hstep:∀(w:AW) (m:Ms) (l:List Ms),p w->w.net=m::l->p (iY { w with net:=l } m)):∀(f:Nat) (w:AW),mF w.net<=f->p w->p (pX w)/\(pX w).net=[]
 |f,w,hf,hp=>by
  cases hn:w.net with
  |nil=>rw [Uc hn];exact⟨hp,hn⟩
  |cons m l=>
   have h1:=xO hn;rw [OX hn];cases f with
   |zero=>omega
   |succ f=>exact BR hstep f _ δ (hstep w m l hp hn)
theorem WI.vB {n:Nat} {G:Reg} {w:AW} (i:WI n G w) {m:Ms} {l:List Ms} (h:w.net=m::l):WI n G (iY { w with net:=l } m):=by
 have hl:=i.len;rw [h] at hl;simp at hl;have i2:WI n G { w with net:=l }:=⟨i.core,fun x hx=>i.net x (by rw [h];exact List.mem_cons_of_mem _ hx),by show l.length<=24;omega⟩;exact i2.come (i.net m (by rw [h];exact List.mem_cons_self)) i2.len
theorem WI.drain {n:Nat} {G:Reg} {w:AW} (i:WI n G w):WI n G (pX w)/\(pX w).net=[]:=
 BR (p:=fun w=>WI n G w) (fun _ _ _ h e=>h.vB e) _ w (Nat.le_refl _) i
def vD (w:AW) (j:Nat):Prop:=∀h,w.aA[j]? =some h->h.ready=[]
theorem EH:∀{l:List Rd},(∀r∈l,r.parts≠ [])->l.length<=(keysOf l).length
 | [],_=>Nat.zero_le _
 |r::l,h=>by
  have ih:=EH (l:=l) fun x hx=>h x (List.mem_cons_of_mem _ hx);have h1:0<r.parts.length:=List.length_pos_iff.2 (h r List.mem_cons_self);rw [lF,List.length_append,List.length_map,List.length_cons];omega
theorem Hy {n:Nat} {G:Reg} {hd:Hd} {hs:List Hs} (c:Core n G hd hs) {k:Nat} {h:Hs} (hk:hs[k]? =some h):h.ready.length<=4:=by
 have hi:=c.house k h hk;have h1:=EH (l:=h.ready) fun r hr=>by
  obtain⟨P,-,-,hne⟩:=hi.reg r hr;exact hne
 have h2:=OW hi.calm.apart (b:=[0,1,2,3]) fun q hq=>by
  unfold keysOf at hq;obtain⟨r,hr,hq⟩:=List.mem_flatMap.1 hq;obtain⟨P,hP,hp,-⟩:=hi.reg r hr;obtain⟨p,hp',rfl⟩:=List.mem_map.1 hq;rw [hp] at hp';have:=I5 (c.reg.ok _ hP).2 k p hp';simp;omega
 simp only [List.length_cons,List.length_nil] at h2;omega
def vw (w:AW) (k:Nat):AW:=pX (rH w k)
theorem WI.vw {n:Nat} {G:Reg} {w:AW} (i:WI n G w) (k:Nat):WI n G (vw w k)/\(vw w k).net=[]:=(i.tick k).drain
def gD (w:AW):AW:=vw (vw (vw (vw (pX w) 3) 2) 1) 0
structure Quiet (w:AW):Prop where
 net:w.net=[]
 opn:w.head.opn=[]
 ready:∀j,vD w j
theorem WI.round {n:Nat} {G:Reg} {w:AW} (i:WI n G w):WI n G (gD w):=
 ((((i.drain.1.vw 3).1.vw 2).1.vw 1).1.vw 0).1
theorem yQ:∀(l:List Rc) (h:Hd),(l.foldl b_ h).log=h.log
 | [],_=>rfl
 |r::l,h=>by
  rw [List.foldl_cons,yQ l];unfold b_;split
  ·rfl
  ·split
   ·rfl
   ·split<;>rfl
theorem Hz (l:List Rc):(bT l).log=l:=yQ l _
theorem Ud {h:Hs} (m:Ms) {k:Nat} (hk:h.log.length<=k):(bg h m).log.length<=k+1:=by
 have hn:∀r:Rc,(dV h r).log.length<=k+1:=fun r=>by
  rw [show(dV h r).log=h.log++ [r] from vN _];simpa using hk
 unfold bg;split
 ·split
  ·exact hn _
  ·omega
 ·split
  ·split
   ·exact hn _
   ·omega
  ·split
   ·split
    ·exact hn _
    ·omega
   ·omega
theorem Ue (o:Opn) (m:Ms):(dJ o m).2.1.length<=1:=by
 unfold dJ;split
 ·split<;>simp
 ·split
  ·simp
  ·split
   ·split<;>simp
   ·split<;>simp
theorem H7 {m:Ms}:∀{l:List Opn} {x:List Opn×List Rc×List Ms},jP m l=some x->x.2.1.length<=1
 | [],x,h=>by simp [jP] at h
 |o::l,x,h=>by
  rw [jP] at h;split at h
  ·rw [<-Option.some.inj h];exact Ue o m
  ·cases e:jP m l with
   |none=>rw [e] at h;cases h
   |some y=>
    rw [e] at h;rw [<-Option.some.inj h];have h9:=H7 e;exact h9
theorem Uf {h:Hd} (m:Ms) {k:Nat} (hk:h.log.length<=k):(f_ h m).log.length<=k+1:=by
 unfold f_;split
 ·omega
 ·rename_i x e
  have:=H7 e;show(h.log++x.2.1).length<=_;rw [List.length_append];omega
theorem Ug (h:Hd) (P:List Pt):(iH h P).log=h.log:=by
 unfold iH;split<;>rfl
theorem WE {h:Hd} {k:Nat} (hk:h.log.length<=k):(jA h).log.length<=k+1:=by
 unfold jA;split
 ·omega
 ·rw [Hz];simpa using hk
theorem tu.more {k:Nat} {w:AW} (f:tu k w):tu (k+1) w:=⟨by have:=f.log;omega,fun h hh=>by have:=f.logs h hh;omega⟩
theorem tu.come {k:Nat} {w:AW} (f:tu k w) (m:Ms):tu (k+1) (iY w m):=by
 unfold iY;split
 ·exact f.more
 ·rename_i h e
  split
  ·refine⟨by have:=f.log;show w.head.log.length<=_;omega,fun x hx=>?_⟩
   rcases List.mem_or_eq_of_mem_set hx with hx|rfl
   ·have:=f.logs x hx;omega
   ·exact Ud m (f.logs h (List.mem_of_getElem? e))
  ·exact⟨Uf m f.log,fun x hx=>by have:=f.logs x hx;omega⟩
theorem tu.step {k:Nat} {w:AW} (f:tu k w) (s:St):tu (k+1) (iD w s):=by
 have f1:=f.more;have f2:∀net,tu k { w with net:=net }:=fun _=>⟨f.log,f.logs⟩;unfold iD;split
 ·split
  ·exact⟨by show(iH w.head s.parts).log.length<=_;rw [Ug];exact f1.log,f1.logs⟩
  ·exact f1
 ·split
  ·split
   ·exact(f2 _).come _
   ·exact f1
  ·split
   ·split
    ·exact(f2 _).more
    ·exact f1
   ·split
    ·split
     ·exact(f2 _).more
     ·exact f1
    ·split
     ·split
      ·exact⟨WE f.log,f1.logs⟩
      ·exact f1
     ·split
      ·split
       ·unfold rH
        split
        ·exact(f2 _).more
        ·split
         ·exact f1
         ·exact(f2 _).more
       ·exact f1
      ·split
       ·exact⟨f1.log,f1.logs⟩
       ·exact f1
theorem tu.zero (n:Nat):tu 0 (pI n):=⟨by show(bT _).log.length<=_;rw [Hz];simp,fun h hh=>by
 rw [List.eq_of_mem_replicate hh];show(gu []).log.length<=_;rw [vN];simp⟩
theorem tu.play (n:Nat):∀(l:List St) {k:Nat} {w:AW},tu k w->tu (k+l.length) (jG w l)
 | [],k,w,f=>f
 |s::l,k,w,f=>by
  show tu _ (jG (iD w s) l);have:=tu.play n l (f.step s);rw [List.length_cons,show k+(l.length+1)=k+1+l.length by omega];exact this
structure Small (w:AW):Prop where
 few:∃k,k<=1000/\tu k w
 wi:∃n G,WI n G w
theorem H8 {α β:Type} (q:α->Bool) (f:α->β) {l:List α} {j:Nat} (h:j<l.length):((l.take (j+1)).filter q).map f=if q l[j]=true then((l.take j).filter q).map f++ [f l[j]] else((l.take j).filter q).map f:=by
 rw [List.take_succ_eq_append_getElem h,List.filter_append,List.map_append];by_cases hq:q l[j]=true<;>simp [hq]
theorem MC {α β:Type} (f:α->β) {l:List α} {j:Nat} (h:j<l.length):(l.take (j+1)).map f=(l.take j).map f++ [f l[j]]:=by
 rw [List.take_succ_eq_append_getElem h,List.map_append];rfl
theorem H_ {α β:Type} (f:α->List β) {l:List α} {j:Nat} (h:j<l.length):(l.take (j+1)).flatMap f=(l.take j).flatMap f++f l[j]:=by
 rw [List.take_succ_eq_append_getElem h,List.flatMap_append];simp
theorem EJ {α β:Type} (q:α->Bool) (f:α->List β) {l:List α} {j:Nat} (h:j<l.length):((l.take (j+1)).filter q).flatMap f=if q l[j]=true then((l.take j).filter q).flatMap f++f l[j] else((l.take j).filter q).flatMap f:=by
 rw [List.take_succ_eq_append_getElem h,List.filter_append,List.flatMap_append];by_cases hq:q l[j]=true<;>simp [hq]
theorem iC (l:List Pt):(aX l).length<=3:=Nat.le_trans (List.length_filter_le _ _) σ
theorem tC (o:Opn):(gG o).length<=3:=by
 unfold gG;rw [List.length_map];exact Nat.le_trans (List.length_filter_le _ _) (iC _)
theorem oL (d:Int) (l:List Pt):(dG d l).length<=3:=by
 unfold dG;rw [List.length_map];exact iC _
theorem pY {α β:Type} {f:α->List β} {b:Nat} (hf:∀x,(f x).length<=b):∀(l:List α),(l.flatMap f).length<=l.length*b
 | []=>by simp
 |x::l=>by
  rw [List.flatMap_cons,List.length_append,List.length_cons,Nat.add_mul,Nat.one_mul];have:=hf x;have:=pY hf l;omega
structure NW where
 opn:List Opn
 recs:List Rc
 says:List Ms
 known:Bool
def dQ (m:Ms) (s:NW) (o:Opn):NW:=
 if o.deed=m.deed/\s.known=false then⟨s.opn++(dJ o m).1,(dJ o m).2.1,(dJ o m).2.2,true⟩ else { s with opn:=s.opn++ [o] }
def hgo (m:Ms) (l:List Opn):NW:=l.foldl (dQ m) ⟨[],[],[],false⟩
theorem WG (m:Ms) {l:List Opn} {j:Nat} (h:j<l.length):hgo m (l.take (j+1))=dQ m (hgo m (l.take j)) l[j]:=by
 unfold hgo;rw [List.take_succ_eq_append_getElem h,List.foldl_append];rfl
theorem Ia (m:Ms):∀(l:List Opn) (s:NW),s.known=true->l.foldl (dQ m) s={ s with opn:=s.opn++l }
 | [],s,_=>by simp
 |o::l,s,h=>by
  rw [List.foldl_cons];have e:dQ m s o={ s with opn:=s.opn++ [o] }:=by unfold dQ;rw [if_neg (by rw [h];simp)]
  rw [e,Ia m l { s with opn:=s.opn++ [o] } h];simp
theorem Ri (m:Ms):∀(l:List Opn) (p:List Opn),l.foldl (dQ m) ⟨p,[],[],false⟩=match jP m l with
  |none=>⟨p++l,[],[],false⟩
  |some x=>⟨p++x.1,x.2.1,x.2.2,true⟩
 | [],p=>by simp [jP]
 |o::l,p=>by
  rw [List.foldl_cons,jP];by_cases hd:o.deed=m.deed
  ·have e:dQ m ⟨p,[],[],false⟩ o=⟨p++(dJ o m).1,(dJ o m).2.1,(dJ o m).2.2,true⟩:=by unfold dQ;rw [if_pos ⟨hd,rfl⟩]
   rw [e,Ia m l ⟨p++(dJ o m).1,(dJ o m).2.1,(dJ o m).2.2,true⟩ rfl,if_pos hd];simp
  ·have e:dQ m ⟨p,[],[],false⟩ o=⟨p++ [o],[],[],false⟩:=by unfold dQ;rw [if_neg (fun h=>hd h.1)]
   rw [e,Ri m l,if_neg hd];cases jP m l with
   |none=>simp
   |some x=>simp
theorem WH (h:Hd) (m:Ms):f_ h m={ h with opn:=(hgo m h.opn).opn,log:=h.log++(hgo m h.opn).recs }/\fG h m=(if(hgo m h.opn).known=false/\m.kind=7 then [⟨5,m.deed,m.house,[]⟩] else(hgo m h.opn).says):=by
 have e:=Ri m h.opn [];unfold f_ fG hgo;rw [e];cases jP m h.opn with
 |none=>simp
 |some x=>simp
theorem Rj (m:Ms):∀(l:List Opn) (s:NW),(l.foldl (dQ m) s).opn.length<=s.opn.length+l.length
 | [],s=>by simp
 |o::l,s=>by
  rw [List.foldl_cons];have h1:=Rj m l (dQ m s o);have h2:(dQ m s o).opn.length<=s.opn.length+1:=by
   unfold dQ;split
   ·have:(dJ o m).1.length<=1:=by
     unfold dJ;split
     ·split<;>simp
     ·split
      ·simp
      ·split
       ·split<;>simp
       ·split<;>simp
    show(s.opn++_).length<=_;rw [List.length_append];omega
   ·show(s.opn++_).length<=_
    simp
  rw [List.length_cons];omega
theorem fV {P:Program} {ty:TypeId} {w:World} {o:Oper} {a:Act} {K:Act->World->Prop} {Q:Exit->Act->World->Prop} (d s:Operand) (ho:o.op=.store ty d s)
  {g p:Nat} {t:TypeId} {old cells new:Array Value} (hd:a.eval d=.pointer (some ⟨g,p,none⟩)) (hs:a.eval s=.agg cells) (hrow:w.heap[g]? =some (.cells old t (0,0)))
  (hi:(P.info? ty).map (·.size)=some cells.size) (hos:p+cells.size<=old.size) (h1:cells.toList.all (·.oneCell')=true) (hnew:(old.toList.take p++cells.toList++old.toList.drop (p+cells.size)).toArray=new)
  (h:∀w',w'.heap[g]? =some (.cells new t (0,0))->w.grownBy w' (some g)->K (a.put o.dst undef) w'):o.wp P a w K Q:=by
 have hr:=run_storeCells_at (P:=P) g p t cells.toList 0 old w hrow (by simpa using hos) (fun v hv=>by simpa using List.all_eq_true.1 h1 v hv);simp only [Nat.add_zero,Array.length_toList] at hr;rw [hnew] at hr;have hr2:(storeVar ty ⟨g,p,none⟩ (.agg cells)).run P w=.ok () (w.setRow g new):=by
  cases hq:P.info? ty with
  |none=>simp [hq] at hi
  |some q=>
   have hs:cells.size=q.size:=by simp [hq] at hi;omega
   simp [storeVar,sizeOf,typeInfo,hq,Value.cells,hs] at hr ⊢;exact hr
 unfold Oper.wp execOp;simp only [ho,hd,hs,Instr.storeAt,Instr.sureAddr,Sem.run_bind,Sem.run_pure,Result.andThen_ok,hr2];exact h _ (setRow_heap w g old new t _ hrow) ⟨rfl,rfl,rfl,by simp [World.setRow],fun k hk hne=>by
  simp only [World.setRow];rw [Array.getElem?_modify];rw [if_neg (fun e=>hne (by rw [e]))]⟩
theorem qL {P:Program} {ty:TypeId} {ops:Array Oper} {rest:List Oper} {w:World} {o:Oper} {a:Act} {Q:Exit->Act->World->Prop} (hgd:o.guard=none) (d s:Operand) (ho:o.op=.store ty d s)
  {g p:Nat} {t:TypeId} {old cells new:Array Value} (hd:a.eval d=.pointer (some ⟨g,p,none⟩)) (hs:a.eval s=.agg cells) (hrow:w.heap[g]? =some (.cells old t (0,0)))
  (hi:(P.info? ty).map (·.size)=some cells.size) (hos:p+cells.size<=old.size) (h1:cells.toList.all (·.oneCell')=true) (hnew:(old.toList.take p++cells.toList++old.toList.drop (p+cells.size)).toArray=new)
  (h:∀w',w'.heap[g]? =some (.cells new t (0,0))->w.grownBy w' (some g)->wpList P ops Q rest (a.put o.dst undef) w'):wpList P ops Q (o::rest) a w:=
 wpList_plain hgd fun _ hK=>fV d s ho hd hs hrow hi hos h1 hnew fun w' a b=>hK _ _ (h w' a b)
theorem aU {P:Program} {ty:TypeId} {w:World} {o:Oper} {a:Act} {K:Act->World->Prop} {Q:Exit->Act->World->Prop} (d s:Operand) (ho:o.op=.store ty d s)
  {g p:Nat} {t:TypeId} {old new:Array Value} {v:Value} (hd:a.eval d=.pointer (some ⟨g,p,none⟩)) (hs:a.eval s=v) (hv:v.cells=[v].toArray) (hrow:w.heap[g]? =some (.cells old t (0,0)))
  (hi:(P.info? ty).map (·.size)=some 1) (hos:p+1<=old.size) (h1:v.oneCell'=true) (hnew:(old.toList.take p++ [v]++old.toList.drop (p+1)).toArray=new)
  (h:∀w',w'.heap[g]? =some (.cells new t (0,0))->w.grownBy w' (some g)->K (a.put o.dst undef) w'):o.wp P a w K Q:=by
 have hr:=run_storeCells_at (P:=P) g p t [v] 0 old w hrow (by simpa using hos) (fun u hu=>by rw [List.mem_singleton.1 hu];exact h1);simp only [Nat.add_zero,List.length_singleton] at hr;rw [hnew] at hr;have hr2:(storeVar ty ⟨g,p,none⟩ v).run P w=.ok () (w.setRow g new):=by
  cases hq:P.info? ty with
  |none=>simp [hq] at hi
  |some q=>
   have hs:1=q.size:=by simp [hq] at hi;omega
   simp [storeVar,sizeOf,typeInfo,hq,hv,<-hs] at hr ⊢;exact hr
 unfold Oper.wp execOp;simp only [ho,hd,hs,Instr.storeAt,Instr.sureAddr,Sem.run_bind,Sem.run_pure,Result.andThen_ok,hr2];exact h _ (setRow_heap w g old new t _ hrow) ⟨rfl,rfl,rfl,by simp [World.setRow],fun k hk hne=>by
  simp only [World.setRow];rw [Array.getElem?_modify];rw [if_neg (fun e=>hne (by rw [e]))]⟩
theorem aJ {w:World} {B:Nat} {a b c d e f:Value} {t:TypeId} (h:w.heap[B]? =some (.cells #[a,b,c,d,e,f] t (0,0))):
  w.cell? ⟨B,0,none⟩=some a/\w.cell? ⟨B,1,none⟩=some b/\w.cell? ⟨B,2,none⟩=some c/\w.cell? ⟨B,3,none⟩=some d/\w.cell? ⟨B,4,none⟩=some e/\w.cell? ⟨B,5,none⟩=some f:=by
 simp [World.cell?,h]
theorem dZ (net ms:List Ms):gX (net.map aS) ms=(bW net ms).map aS:=by
 unfold gX bW;rw [List.map_append,List.length_map]
theorem WI.right {n:Nat} {G:Reg} {x:AW} (i:WI n G x):∀m∈x.net,aQ m=0:=fun m hm=>vP.2 (i.net m hm).right
theorem WI.says {n:Nat} {G:Reg} {hd:Hd} {hs:List Hs} {ms:List Ms} (h:∀m∈ms,qB n G hd hs m):∀m∈ms,aQ m=0:=fun m hm=>vP.2 (h m hm).right
theorem Ak (net:List Ms) (k:Nat):(net.map aS).take k++(net.map aS).drop (k+1)=(net.eraseIdx k).map aS:=by
 rw [List.eraseIdx_eq_take_drop_succ,List.map_append,List.map_take,List.map_drop]
theorem HI.keys {G:Reg} {D:List Rd} {k:Int} {h:Hs} (i:HI G D k h):∀r∈h.log,dw r.parts:=fun r hr=>by
 have h2:=of_decide_eq_true (i.log r hr);by_cases hp:r.parts=[]
 ·rw [hp];intro p hp;simp at hp
 ·exact sO (h2.2.1 hp)
theorem jI (l:List Pt):∀x∈aX l,I64 x:=fun x hx=>by
 have h:=(List.mem_filter.1 hx).1;simp only [List.mem_cons,List.not_mem_nil,or_false] at h;rcases h with rfl|rfl|rfl<;>(unfold I64;decide)
theorem nD {w:World} {base:Nat} {e:TypeId} {v:Value} {l:List Int} (h:w.ownsRow base e 1 v l.length (l.flatMap dB)) (hok:∀x∈l,I64 x):Sl Ty.int w.cell? v l:=(aI.ints (c:=w.cell?) h hok).sl ε (Sub.refl _)
theorem EK {v:Value} {o:Opn} (w:World) (hv:Of Ty.opn w.cell? v o) (hm:o.parts.length*24<=140737488355328):
  Calls Tryz.prog 100 #[v] w fun e w'=>∃v',e=.returned v'/\aI Ty.ms (fun _=>none) w' w.heap.size 85 v' (dG o.deed o.parts)/\Grow w w':=by
 obtain⟨ap,cp,ah,ch,rfl⟩:=hv.Md;obtain⟨hid,hp,hh⟩:=hv.Hw;have uy:=η (fun(W:World) (hW:Grow w W)=>xw W (hp.mono hW.sub) hm);have fR:=η hid;clear hv hp hh hid;have R1:=η (aF w (.cells #[ι o.deed,ς ap o.parts.length cp,.bool o.dec,ς ah o.heard.length ch] 58));go_enter Tryz.func100,Tryz.ntmps100;go_wp2_with fail
 refine(uy.o _ ((Grow.refl w).alloc _)).mono ?_;rintro e w1 ⟨v1,rfl,ho1,hb1⟩;obtain⟨a1,c1,rfl⟩:=aY ho1;have hix:=nD ho1 (jI o.parts);have R2:=η (aj R1.o hb1);have G1:=η (((Grow.refl w).alloc (.cells #[ι o.deed,ς ap o.parts.length cp,.bool o.dec,ς ah o.heard.length ch] 58)).trans hb1);have HL:=η (iC o.parts);have gE:Hid ((aX o.parts).map (fun n=>(⟨5,o.deed,n,[]⟩:Ms))=dG o.deed o.parts):=η rfl;clear ho1 hb1;generalize aX o.parts=hs at*;obtain⟨a1',c1',he1,-,-,-,hel⟩:=hix;obtain⟨rfl,rfl⟩:a1=a1'/\c1=c1':=by simpa using he1
 clear he1;go_wp2;go_loopw [3,10] (fun s3 i wr=>∃k:Nat,k<=hs.length/\i=ι k/\Grow w1 wr/\aI Ty.ms (fun _=>none) wr w1.heap.size 85 s3 ((hs.take k).map fun n=>(⟨5,o.deed,n,[]⟩:Ms))) (fun _ i _=>hs.length - (intOf i).toNat)
 case atStart=>exact⟨0,δ,rfl,Grow.refl _,aI.nil _ _ _ _ _⟩
 case round=>
  obtain⟨k,hk',rfl,hb,hown⟩:=hrel;have hl3:=HL.o;by_cases hlt:k<hs.length
  ·have kY:=η (MC (fun n=>(⟨5,o.deed,n,[]⟩:Ms)) hlt)
   have FK:=η (show((hs.take k).map fun n=>(⟨5,o.deed,n,[]⟩:Ms)).length<=3 by simp;omega);obtain⟨bx,ox,rfl,x0,hni⟩:=Bd hel k hlt;replace x0:=hb.sub _ _ x0;have OY:=η hni;have HOWN:=η hown;have HB:=η hb;obtain⟨av,cv,rfl⟩:=hown.form;obtain⟨r0,r1,r2,r3⟩:=cells4 (aj R2.o hb);have z1:w.heap.size<wr:=(Array.getElem?_eq_some_iff.1 (aj R2.o hb)).1;clear hown hb hel hni;generalize hs[k]=n at*;generalize (hs.take k).map (fun n=>(⟨5,o.deed,n,[]⟩:Ms))=ms at*;go_wp2_with (first|(at_builtin;refine aZ (c:=fun _=>none) (base:=w1.heap.size) (l:=ms) (m:=[⟨5,o.deed,n,[]⟩]) tN rfl kU ε rfl (.tmp 14) (.tmp 19) rfl rfl ?own rfl (Src.bQ (T:=Ty.ms) (x:=⟨5,o.deed,n,[]⟩) (cs:=#[ι 5,ι o.deed,ι n,()]) ⟨_,rfl,(show I64 5 from by unfold I64;decide),fR.o,OY.o,Sl.nil _ _⟩ _ _ ?d1) ?d2 ?d3 ?_))
   case own=>exact HOWN.o.grow ((Grow.refl _).alloc _)
   case d1=>simp
   case d2=>have:=FK.o;simp;omega
   case d3=>have:=HB.o.size;simp;omega
   intro a9 c9 w9 fB eF gI;have jL:Hid (Grow w1 w9):=η (bn (w0:=w1) (HB.o.alloc _) eF (fun q hq=>(HOWN.o.lt q hq).1));have iF:=η fB;clear fB eF gI;go_wp2;go_roundw
   case rel=>exact⟨k+1,δ,by go_num,jL.o,by rw [kY.o];exact iF.o⟩
   case measure=>simp [intOf];omega
  ·have HOWN:=η hown
   have HB:=η hb;clear hown hb hel;go_wp2;go_ret;have h9:=HOWN.o;rw [List.take_of_length_le δ,gE.o] at h9;exact⟨_,rfl,h9.base G1.o.size,G1.o.trans HB.o⟩
theorem xP {w w1 W:World} {X:List (Option Nat)} (h:w.heap.size<=w1.heap.size):Sub (fr w1 W X) (fr w W X):=fun a v e=>by
 unfold fr at e;split at e
 ·cases e
 ·rename_i hn
  rw [gy (by have h1:¬a.block<w1.heap.size:=fun hx=>hn (.inl hx);omega) (fun hx=>hn (.inr hx))];exact e
theorem vE {l:List Pt} (h:wH l) (n:Int):wH (jF l n):=fun p hp=>h p (List.mem_filter.1 hp).1
abbrev qC (o:Opn) (n:Int):Bool:=!decide (n∈o.heard)
theorem qc {v:Value} {o:Opn} (w:World) (hv:Of Ty.opn w.cell? v o) (hm:o.parts.length*24<=140737488355328):
  Calls Tryz.prog 90 #[v] w fun e w'=>∃v',e=.returned v'/\aI Ty.ms (fr w w' [v'.ownBlock]) w' w.heap.size 85 v' (gG o)/\Grow w w':=by
 obtain⟨ap,cp,ah,ch,rfl⟩:=hv.Md;obtain⟨hid,hp,hh⟩:=hv.Hw;have uy:=η (fun(W:World) (hW:Grow w W)=>xw W (hp.mono hW.sub) hm);have sB:=η (fun(n:Int) (W:World) (hW:Grow w W)=>Ve (n:=n) W (hp.mono hW.sub) hm);have sS:=η (fun(n:Int) (W:World) (hW:Grow w W)=>kQ (n:=n) W (hh.mono hW.sub));have Yd:=η (m_.ok hp);have fR:=η hid;clear hv hp hh hid;have R1:=η (aF w (.cells #[ι o.deed,ς ap o.parts.length cp,.bool o.dec,ς ah o.heard.length ch] 58));go_enter Tryz.func90,Tryz.ntmps90;go_wp2_with fail
 refine(uy.o _ ((Grow.refl w).alloc _)).mono ?_;rintro e w1 ⟨v1,rfl,ho1,hb1⟩;obtain⟨a1,c1,rfl⟩:=aY ho1;have hix:=nD ho1 (jI o.parts);have R2:=η (aj R1.o hb1);have G1:=η (((Grow.refl w).alloc (.cells #[ι o.deed,ς ap o.parts.length cp,.bool o.dec,ς ah o.heard.length ch] 58)).trans hb1);have HL:=η (iC o.parts);have gE:Hid (((aX o.parts).filter (qC o)).map (gV o)=gG o):=η rfl;clear ho1 hb1;generalize aX o.parts=hs at*;obtain⟨a1',c1',he1,-,-,-,hel⟩:=hix;obtain⟨rfl,rfl⟩:a1=a1'/\c1=c1':=by simpa using he1
 clear he1;go_wp2;go_loopw [3,10] (fun s3 i wr=>∃k:Nat,k<=hs.length/\i=ι k/\Grow w1 wr/\aI Ty.ms (fr w1 wr [s3.ownBlock]) wr w1.heap.size 85 s3 (((hs.take k).filter (qC o)).map (gV o))) (fun _ i _=>hs.length - (intOf i).toNat)
 case atStart=>exact⟨0,δ,rfl,Grow.refl _,aI.nil _ _ _ _ _⟩
 case round=>
  obtain⟨k,hk',rfl,hb,hown⟩:=hrel;have hl3:=HL.o;by_cases hlt:k<hs.length
  ·have kY:=η (H8 (qC o) (gV o) hlt)
   have FK:=η (show(((hs.take k).filter (qC o)).map (gV o)).length<=3 by rw [List.length_map];exact Nat.le_trans (List.length_filter_le _ _) (by simp;omega));obtain⟨bx,ox,rfl,x0,hni⟩:=Bd hel k hlt;replace x0:=hb.sub _ _ x0;have OY:=η hni;have HOWN:=η hown;have HB:=η hb;have GW:=η (G1.o.trans hb);have RR:=η (aj R2.o hb);obtain⟨av,cv,rfl⟩:=hown.form;obtain⟨r0,r1,r2,r3⟩:=cells4 RR.o;have z1:w.heap.size<wr:=(γ RR.o);clear hown hb hel hni;generalize hs[k]=n at*;generalize ((hs.take k).filter (qC o)).map (gV o)=ms at*;go_wp2_with fail
   refine(sS.o n _ GW.o).mono ?_;rintro e w2 ⟨rfl,hb2⟩;have G2:=η (GW.o.trans hb2);have HB2:=η (HB.o.trans hb2);have R5:=η (aj RR.o hb2);have ql:=η ((HOWN.o.mono (dO hb2)).grow hb2);clear hb2 r0 r1 r2 r3 z1 x0;obtain⟨r0,r1,r2,r3⟩:=cells4 R5.o;have z1:w.heap.size<w2:=(γ R5.o);by_cases hq:n∈o.heard
   ·have WJ:decide (n∈o.heard)=true:=decide_eq_true hq
    have HT:=η kY.o;rw [if_neg (by show¬qC o n=true;simp [qC,hq])] at HT;rw [WJ];clear hq;go_wp2;go_roundw
    case rel=>exact⟨k+1,δ,by go_num,HB2.o,by rw [HT.o];exact ql.o⟩
    case measure=>simp [intOf];omega
   ·have WJ:decide (n∈o.heard)=false:=decide_eq_false hq
    have HT:=η kY.o;rw [if_pos (by show qC o n=true;simp [qC,hq])] at HT;rw [WJ];clear hq;by_cases hd:o.dec=true
    ·have HCM:Hid (gV o n=⟨4,o.deed,n,[]⟩):=η (by unfold gV;rw [if_pos hd])
     rw [HCM.o] at HT;rw [hd] at r2;clear hd;go_wp2_with (first|(at_builtin;refine aZ (c:=fr w1 w2 [(Value.slice av ms.length cv).ownBlock]) (base:=w1.heap.size) (l:=ms) (m:=[⟨4,o.deed,n,[]⟩]) tN rfl kU ε rfl (.tmp 33) (.tmp 38) rfl rfl ?own rfl (Src.bQ (T:=Ty.ms) (x:=⟨4,o.deed,n,[]⟩) (cs:=#[ι 4,ι o.deed,ι n,()]) ⟨_,rfl,(show I64 4 from by unfold I64;decide),fR.o,OY.o,Sl.nil _ _⟩ _ _ ?d1) ?d2 ?d3 ?_))
     case own=>exact ql.o.grow ((Grow.refl _).alloc _)
     case d1=>simp
     case d2=>have:=FK.o;simp;omega
     case d3=>have:=HB2.o.size;simp;omega
     intro a9 c9 w9 fB eF gI;have jL:Hid (Grow w1 w9):=η (bn (w0:=w1) (HB2.o.alloc _) eF (fun q hq=>(HOWN.o.lt q hq).1));have iF:=η ((fB.mono (dO ((Grow.refl w2).alloc (.cells #[ι 4,ι o.deed,ι n,()] 85)))).mono (pF eF (gI.imp_right fun⟨g,e,hge⟩=>⟨g,e,by simpa using hge⟩)));clear fB eF gI;go_wp2;go_roundw
     case rel=>exact⟨k+1,δ,by go_num,jL.o,by rw [HT.o];exact iF.o⟩
     case measure=>simp [intOf];omega
    ·have hd':o.dec=false:=by simpa using hd
     have HCM:Hid (gV o n=⟨1,o.deed,n,jF o.parts n⟩):=η (by unfold gV;rw [if_neg hd]);rw [HCM.o] at HT;rw [hd'] at r2;clear hd hd';have qp:=η (vE Yd.o n);have HS:Hid (∀W,Grow w2 W->W.cell? ⟨w.heap.size,0,none⟩=some (ι o.deed)/\W.cell? ⟨w.heap.size,1,none⟩=some (ς ap o.parts.length cp)):=fun W hW=>⟨hW.sub _ _ r0,hW.sub _ _ r1⟩;go_upto_region 5 with fail
     refine bf (fun w'=>w'.cell? ⟨w.heap.size,0,none⟩=some (ι o.deed)/\w'.cell? ⟨w.heap.size,1,none⟩=some (ς ap o.parts.length cp)) 11 κ ?_;obtain⟨wd,hWd⟩:∃x:World,x=w2.drew:=⟨_,rfl⟩;rw [<-hWd];have GD:Grow w2 wd:=by rw [hWd];exact(Grow.refl _).drew
     have zD:w2.heap.size=wd.heap.size:=by rw [hWd];rfl
     have ZD:=η zD;clear hWd zD;refine ni [0,1,2,3,4,5,6] 14 κ (fun _ _ _ _ _ h=>h) (HS.o _ GD) ?_;repeat (refine gQ ?_;try simp only [aK])
     refine ny ?_;refine bO 7 κ rfl ?_;intro K HK;try simp only [aV]
     go_simp;go_at_call 20
     refine(sB.o n _ (G2.o.trans GD)).mono ?_;rintro e5 w5 ⟨v5,rfl,kJ,hb5⟩;obtain⟨a5,c5,rfl⟩:=aY kJ;have l9:=η kJ;have G5:=η (Grow.trans GD hb5);have ZD5:=η (GD).size;clear kJ hb5;generalize jF o.parts n=pl at*;refine HK.o _ _ ⟨fun _=>HS.o _ G5.o,?_⟩;clear HK K;try simp only [aK]
     refine bO 8 κ rfl ?_;intro K HK;try simp only [aV]
     go_simp;refine HK.o _ _ ⟨fun _=>HS.o _ G5.o,?_⟩;clear HK K;try simp only [aK]
     refine bO 9 κ rfl ?_;intro K HK;try simp only [aV]
     go_simp;obtain⟨w6,hw6⟩:∃y:World,y=w5.alloc (.cells #[ι 1,ι o.deed,ι n,ς a5 pl.length c5] 85):=⟨_,rfl⟩;have G6:Hid (Grow w5 w6):=η (by rw [hw6];exact(Grow.refl _).alloc _);have QD:=η (G5.o.trans G6.o);have uq:Hid (Src Ty.ms (fr w1 w6 [(Value.slice av ms.length cv).ownBlock]) w6 (ς (some ⟨w5.heap.size,0,none⟩) 1 1) [⟨1,o.deed,n,pl⟩]):=η (by
      have hlt2:=HOWN.o.lt;have hsl:Sl Ty.pt (fr w1 w6 [(Value.slice av ms.length cv).ownBlock]) (ς a5 pl.length c5) pl:=by
       refine I4 (w1:=wd) (g_ l9.o G6.o) qp.o ?_ ?_
       ·have:=HB2.o.size;have:=ZD5.o;omega
       ·intro q hq
        simp only [List.mem_singleton];intro e;have:=(ql.o.lt q e.symm).2;have:=ZD5.o;omega
      rw [hw6] at hsl ⊢;exact Src.bQ (T:=Ty.ms) (x:=⟨1,o.deed,n,pl⟩) (cs:=#[ι 1,ι o.deed,ι n,ς a5 pl.length c5]) ⟨_,rfl,(show I64 1 from by unfold I64;decide),fR.o,OY.o,hsl⟩ _ _ rfl)
     rw [<-hw6];clear hw6;refine HK.o _ _ ⟨fun _=>HS.o _ QD.o,?_⟩;clear HK K;try simp only [aK]
     refine bO 10 κ rfl ?_;intro K HK;refine aC rfl ?_;try simp only [aV]
     refine dD (c:=fr w1 w6 [(Value.slice av ms.length cv).ownBlock]) (base:=w1.heap.size) (l:=ms) (m:=[⟨1,o.deed,n,pl⟩]) (v:=ς av ms.length cv) tN rfl kU ε (.tmp 14) (.tmp 23) rfl rfl ((ql.o.mono (dO QD.o)).grow QD.o) rfl uq.o (by have:=FK.o;simp;omega) (by have:=HB2.o.size;have:=QD.o.size;omega) ?_;intro a9 c9 w9 fB eF gI;have vL:Hid (Grow w1 w9):=η (bn (w0:=w1) (HB2.o.trans QD.o) eF (fun q hq=>(HOWN.o.lt q hq).1));have iF:=η (fB.mono (pF eF (gI.imp_right fun⟨g,e,hge⟩=>⟨g,e,hge⟩)));have Uh:Hid (w9.cell? ⟨w.heap.size,0,none⟩=some (ι o.deed)/\w9.cell? ⟨w.heap.size,1,none⟩=some (ς ap o.parts.length cp)):=η (by obtain⟨k0,k1,-,-⟩:=cells4 (aj R2.o vL.o);exact⟨k0,k1⟩);clear fB eF gI;refine HK.o _ _ ⟨fun _=>Uh.o,?_⟩;clear HK K;try simp only [aK]
     refine bO 11 κ rfl ?_;intro K HK;try simp only [aV]
     go_simp;refine HK.o _ _ ⟨fun h=>absurd rfl h,?_⟩;clear HK K;try simp only [aK]
     refine aO κ ?_;go_wp2;go_roundw
     case rel=>exact⟨k+1,δ,by go_num,vL.o,by rw [HT.o];exact iF.o⟩
     case measure=>simp [intOf];omega
  ·have HOWN:=η hown
   have HB:=η hb;clear hown hb hel;go_wp2;go_ret;have h9:=HOWN.o;rw [List.take_of_length_le δ,gE.o] at h9;exact⟨_,rfl,(h9.mono (xP G1.o.size)).base G1.o.size,G1.o.trans HB.o⟩
theorem Rk {α:Type} {T:Ty α} (h0:0<T.size) {w W w4:World} {e:Nat} {v:Value} {l:List α} {row:Option Nat} (hg:Grow w W) (hr:∀k,row=some k->k<W.heap.size) (h:aI T (fr W w4 [v.ownBlock]) w4 W.heap.size e v l):Src T (fr w w4 [row]) w4 v l:=by
 have hs:=hg.size;have hk:∀k,W.heap.size<=k->some k∉ [row]:=fun k hk=>by
  simp only [List.mem_singleton];intro e;have:=hr _ e.symm;omega
 refine Src.iK h0 (fF _ _ _) (h.slc h0 (fun a v e=>?_) fun a ha=>gy δ (hk _ ha));unfold fr at e;split at e
 ·cases e
 ·rename_i hn
  have h1:¬a.block<W.heap.size:=fun hx=>hn (.inl hx);rw [gy δ (hk _ δ)];exact e
theorem aP {w w':World} {B:Nat} {a:Addr} {v:Value} (h:w.cell? a=some v) (hg:w.grownBy w' (some B)) (hne:a.block≠B):w'.cell? a=some v:=by
 rw [dh hg (World.block_lt_of_cell? w a h) hne];exact h
theorem MF {B:Nat} {c:CM} {a:Addr} {v:Value} (h:wo B c a=some v):a.block≠B:=fun e=>by
 unfold wo at h;rw [if_pos e] at h;cases h
theorem Jq {B:Nat} {w9 w7:World} (h7:w9.grownBy w7 (some B)):Sub (wo B w9.cell?) w7.cell?:=fun a v e=>aP (oZ _ _ a v e) h7 (MF e)
theorem A1s {B:Nat} {w w9:World} (hg:Grow w w9) (hB:w.heap.size<=B):Sub w.cell? (wo B w9.cell?):=(qS (Sub.refl _) hB).trans (Qw hg.sub)
theorem MG {B:Nat} {w9:World} {a:Addr} (h:a.block≠B):wo B w9.cell? a=w9.cell? a:=by
 unfold wo;rw [if_neg h]
theorem WM {c:CM} {w W w1 w':World} {B:Nat} (hW:Grow w W) (h1:Grow W w1) (hB:B<W.heap.size) (hg:w1.grownBy w' (some B)):Sub (ov (wo B (ov c w W)) W w1) (ov c w w'):=fun a v e=>by
 have hs:=hW.size;unfold ov at e;split at e
 ·have ne:=MF e
  have e2:=oZ _ _ a v e;by_cases hl:a.block<w.heap.size
  ·rw [if_pos hl] at e2
   unfold ov;rw [if_pos hl];exact e2
  ·rw [if_neg hl] at e2
   rw [bH δ];exact aP (h1.sub _ _ e2) hg ne
 ·rw [bH δ]
  exact aP e hg δ
theorem Ci.agg {c:CM} {q:Opn} {vp vh:Value} (h1:I64 q.deed) (h2:Sl Ty.pt c vp q.parts) (h3:Sl Ty.int c vh q.heard):Of Ty.opn c (.agg #[ι q.deed,vp,.bool q.dec,vh]) q:=⟨_,rfl,_,_,rfl,h1,h2,h3⟩
structure yR (h:Hd):Prop where
 opn:h.opn.length<=12
 parts:∀o∈h.opn,o.parts.length<=4
 heard:∀o∈h.opn,o.heard.length<=3
 log:h.log.length<=100000
 aG:0<=h.aG/\h.aG<=20
 next:0<=h.next/\h.next<=64
theorem Jr {v:Value} {h:Hd} (w:World) (hv:Of Ty.hd w.cell? v h) (hk:yR h):
  Calls Tryz.prog 57 #[v] w fun e w'=>∃v',e=.returned v'/\aI Ty.ms (fr w w' [v'.ownBlock]) w' w.heap.size 85 v' (pG h)/\Grow w w':=by
 obtain⟨al,cl,ar,cr,rfl⟩:=hv.dS;obtain⟨IK,IL,he,h1,h2,-,hel⟩:=(Of.lq hv).2;obtain⟨rfl,rfl⟩:ar=IK/\cr=IL:=by simpa using he
 unfold maxLen at h2;have Ye:=η hk.parts;have h12:=hk.opn;clear hk he hv;go_enter Tryz.func57,Tryz.ntmps57;go_wp2;go_loopw [3,9] (fun s3 i wr=>∃k:Nat,k<=h.opn.length/\i=ι k/\Grow w wr/\aI Ty.ms (fr w wr [s3.ownBlock]) wr w.heap.size 85 s3 ((h.opn.take k).flatMap gG)) (fun _ i _=>h.opn.length - (intOf i).toNat)
 case atStart=>exact⟨0,δ,rfl,gY,aI.nil _ _ _ _ _⟩
 case round=>
  obtain⟨k,hk',rfl,hb,hown⟩:=hrel;by_cases hlt:k<h.opn.length
  ·obtain⟨b,o,vp,vh,rfl,c0,c1,c2,c3,i0,hP,hH⟩:=Ci.at_ hel k hlt
   obtain⟨ap,cp,rfl,-⟩:=id hP;obtain⟨ah,ch,rfl,-⟩:=id hH;have HAS:=η (fun(W:World) (hW:Grow wr W)=>qc (o:=h.opn[k]) W (Ci.agg i0 (hP.mono (hb.trans hW).sub) (hH.mono (hb.trans hW).sub)) (τ (Ye.o _ (List.getElem_mem hlt))));replace c0:=hb.sub _ _ c0;replace c1:=hb.sub _ _ c1;replace c2:=hb.sub _ _ c2;replace c3:=hb.sub _ _ c3;have kY:=η (H_ gG hlt);have FK:=η (show((h.opn.take k).flatMap gG).length<=36 by have:=pY tC (h.opn.take k);rw [List.length_take] at this;omega);have EM:=η (tC h.opn[k]);have HOWN:=η hown;have HB:=η hb;obtain⟨av,cv,rfl⟩:=hown.form;clear hel hP hH hown hb i0;generalize h.opn[k]=q at*;generalize (h.opn.take k).flatMap gG=ms at*;go_wp2_with fail
   refine(HAS.o _ ((Grow.refl wr).alloc _)).mono ?_;rintro e w4 ⟨v4,rfl,pO,hb4⟩;obtain⟨a4,c4,rfl⟩:=pO.form;have G4:=η (((Grow.refl wr).alloc _).trans hb4);have uq:=η (Rk (w:=w) (row:=(Value.slice av ms.length cv).ownBlock) ε (HB.o.alloc _) (fun q hq=>by have:=(HOWN.o.lt q hq).2;simp;omega) pO);have FB:=η ((HOWN.o.mono (dO G4.o)).grow G4.o);clear pO hb4;generalize gG q=aq at*;go_wp2_with (first|(at_builtin;refine aZ (c:=fr w w4 [(Value.slice av ms.length cv).ownBlock]) (base:=w.heap.size) (l:=ms) (m:=aq) tN rfl kU ε rfl (.tmp 13) (.tmp 15) rfl rfl FB.o rfl uq.o ?d2 ?d3 ?_))
   case d2=>have:=FK.o;have:=EM.o;omega
   case d3=>have:=HB.o.size;have:=G4.o.size;omega
   intro a9 c9 w9 fB eF gI;have jL:Hid (Grow w w9):=η (bn (w0:=w) (HB.o.trans G4.o) eF (fun q hq=>(HOWN.o.lt q hq).1));have iF:=η (fB.mono (pF eF (gI.imp_right fun⟨g,e,hge⟩=>⟨g,e,by simpa using hge⟩)));clear fB eF gI;go_wp2;go_roundw
   case rel=>exact⟨k+1,δ,by go_num,jL.o,by rw [kY.o];exact iF.o⟩
   case measure=>simp [intOf];omega
  ·have HOWN:=η hown
   have HB:=η hb;clear hel hown hb;go_wp2;go_ret;have h9:=HOWN.o;rw [List.take_of_length_le δ] at h9;exact⟨_,rfl,h9,HB.o⟩
theorem WO {c:CM} {v:Value} {h:Hd} (w:World) (hc:Sub c w.cell?) (hv:Of Ty.hd c v h) (hk:yR h):
  Calls Tryz.prog 56 #[v] w fun e w'=>∃v',e=.returned (.tuple #[v',ι (ou h)])/\Of Ty.hd (ov c w w') v' (jA h)/\Grow w w':=by
 obtain⟨al,cl,ar,cr,rfl⟩:=hv.dS;have HV:=η hv;have HC:=η hc;have IU:=η (Of.lq hv).1;have hll:=hk.log;clear hk hv hc;obtain⟨wa,cO⟩:∃y:World,y=w.alloc (.cells #[ς al h.log.length cl,ι h.aG,ι h.next,ς ar h.opn.length cr] 29):=⟨_,rfl⟩;obtain⟨wz,hwz⟩:∃y:World,y=wa.alloc (.cells #[(),ι 0,ι 0,()] 29):=⟨_,rfl⟩;have hsz:wa.heap.size=w.heap.size+1:=by rw [cO];simp
 have R1:Hid (wz.heap[w.heap.size]? =some (.cells #[ς al h.log.length cl,ι h.aG,ι h.next,ς ar h.opn.length cr] 29 (0,0))):=η (by rw [hwz,cO];exact aB (aF _ _) _);have R2:Hid (wz.heap[w.heap.size+1]? =some (.cells #[(),ι 0,ι 0,()] 29 (0,0))):=η (by rw [hwz,<-hsz];exact aF _ _);have G1:Hid (Grow w wz):=η (by rw [hwz,cO];exact((Grow.refl w).alloc _).alloc _);have HZ:Hid (wz.heap.size=w.heap.size+2):=η (by rw [hwz,cO];simp);by_cases hb:19<h.aG
 ·have F5:Hid (jA h=h):=η (by unfold jA;rw [if_pos hb])
  have HE2:Hid (ou h=5):=η (by unfold ou;rw [if_pos hb]);go_enter Tryz.func56,Tryz.ntmps56;go_upto_region 1 with fail
  rw [<-cO];try rw [hsz]
  rw [<-hwz];clear cO hwz hsz;obtain⟨c0,c1,c2,c3⟩:=cells4 R1.o;have z1:w.heap.size<wz:=(γ R1.o);have z2:w.heap.size+1<wz:=(γ R2.o);go_wp2_with (first|(refine wpList_store_row rfl (.tmp 2) (.tmp 7) rfl rfl rfl R2.o bU rfl rfl ?_))
  intro w7 r7 g7;obtain⟨p0,p1,p2,p3⟩:=cells4 r7;clear c0 c1 c2 c3;go_wp2;refine bodyPost_ret (v:=.tuple #[.agg #[ς al h.log.length cl,ι h.aG,ι h.next,ς ar h.opn.length cr],ι 5]) (by simp [results,Tryz.results56,go_sem,p0,p1,p2,p3]) rfl ?_;have G7:=G1.o.grown g7 (fun q hq=>by simp at hq;omega);rw [F5.o,HE2.o];exact⟨_,rfl,HV.o.mono (dM HC.o),G7⟩
 ·have F5:Hid (jA h=bT (h.log++ [⟨4,0,[]⟩])):=η (by unfold jA;rw [if_neg hb])
  have HE2:Hid (ou h=0):=η (by unfold ou;rw [if_neg hb]);have Am:Hid ((h.log++ [(⟨4,0,[]⟩:Rc)]).length=h.log.length+1):=η σ;go_enter Tryz.func56,Tryz.ntmps56;go_upto_region 1 with fail
  rw [<-cO];try rw [hsz]
  rw [<-hwz];clear cO hwz hsz;obtain⟨c0,c1,c2,c3⟩:=cells4 R1.o;have z1:w.heap.size<wz:=(γ R1.o);have z2:w.heap.size+1<wz:=(γ R2.o);go_wp2_with (first|(at_builtin;refine aZ (c:=c) (base:=w.heap.size+2) (l:=[]) (m:=h.log) (v:=ς (some ⟨wz.heap.size,0,none⟩) 0 0) jv rfl eY ε rfl (.tmp 8) (.tmp 10) rfl rfl (aI.jw Ty.rc _ _ _ _ ?c1 ?c1') rfl ?src ?c3 ?c4 ?_))
  case c1=>rw [HZ.o];exact Nat.le_refl _
  case c1'=>rfl
  case src=>exact Src.iK ε (HC.o.trans (G1.o.alloc _).sub) IU.o
  case c3=>(try simp);omega
  case c4=>have:=HZ.o;(try simp);omega
  intro a8 c8 w8 kV rX hb8;try simp only [List.length_nil,Nat.zero_add,List.nil_append] at kV
  try simp only [List.length_nil,Nat.zero_add]
  have qX:=η kV;have G8:=η (bn (w0:=wz) ((Grow.refl wz).alloc _) rX (d_ (Nat.le_refl _)));clear kV rX hb8 c0 c1 c2 c3;go_wp2_with (first|(at_builtin;refine aZ (c:=c) (base:=w.heap.size+2) (l:=h.log) (m:=[⟨4,0,[]⟩]) jv rfl eY ε rfl (.tmp 11) (.tmp 13) rfl rfl (qX.o.grow ((Grow.refl _).alloc _)) rfl (Src.bQ (T:=Ty.rc) (x:=⟨4,0,[]⟩) (cs:=#[ι 4,ι 0,()]) ⟨_,rfl,(show I64 4 from by unfold I64;decide),fP,Sl.nil _ _⟩ _ _ ?d1) ?d2 ?d3 ?_))
  case d1=>first|rfl|simp
  case d2=>(try simp);omega
  case d3=>have:=G8.o.size;have:=HZ.o;(try simp);omega
  intro a9 c9 w9 fB eF gI;have G9:=η (bn (w0:=wz) (G8.o.alloc _) eF (fun q hq=>by have:=(qX.o.lt q hq).1;have:=HZ.o;omega));have Zm:=η (G1.o.trans G9.o);have MH:=η (fB.slc (d:=wo (w.heap.size+1) (ov c w w9)) ε (uJ HC.o δ) fun a ha=>vK δ δ);have C_:=η (aj R2.o G9.o);clear fB eF gI;generalize h.log++ [(⟨4,0,[]⟩:Rc)]=lg at*;go_wp2_with fail
  refine(qg (l:=lg) (c:=wo (w.heap.size+1) (ov c w w9)) w9 (mO HC.o Zm.o) ?hl (by rw [Am.o];omega)).mono ?_
  case hl=>first|exact MH.o|(have h9:=MH.o;rw [Am.o] at h9;simpa using h9)
  rintro e w10 ⟨v10,rfl,hx,iL⟩;obtain⟨eU,eX,kG,kH,rfl⟩:=hx.dS;have EN:=η (aj C_.o iL);have HX:=η hx;have gH:=η iL;have z29:=(γ C_.o);have jc:=η (Zm.o.trans iL);clear hx iL;go_wp2_with (first|(refine wpList_store_row rfl (.tmp 2) (.tmp 15) rfl rfl rfl EN.o bU rfl rfl ?_))
  intro w7 r7 g7;obtain⟨p0,p1,p2,p3⟩:=cells4 r7;go_wp2;refine bodyPost_ret (v:=.tuple #[.agg #[ς eU (bT lg).log.length eX,ι (bT lg).aG,ι (bT lg).next,ς kG (bT lg).opn.length kH],ι 0]) (by simp [results,Tryz.results56,go_sem,p0,p1,p2,p3]) rfl ?_;rw [F5.o,HE2.o];refine⟨_,rfl,?_,jc.o.grown g7 (fun q hq=>by simp at hq;omega)⟩;exact HX.o.mono (WM Zm.o gH.o z29 g7)
theorem aN {P:Program} {ty:TypeId} {ops:Array Oper} {rest:List Oper} {w:World} {o:Oper} {a:Act} {Q:Exit->Act->World->Prop} (hgd:o.guard=none) (d s:Operand) (ho:o.op=.store ty d s)
  {g p:Nat} {t:TypeId} {old new:Array Value} {v:Value} (hd:a.eval d=.pointer (some ⟨g,p,none⟩)) (hs:a.eval s=v) (hv:v.cells=[v].toArray) (hrow:w.heap[g]? =some (.cells old t (0,0)))
  (hi:(P.info? ty).map (·.size)=some 1) (hos:p+1<=old.size) (h1:v.oneCell'=true) (hnew:(old.toList.take p++ [v]++old.toList.drop (p+1)).toArray=new)
  (h:∀w',w'.heap[g]? =some (.cells new t (0,0))->w.grownBy w' (some g)->wpList P ops Q rest (a.put o.dst undef) w'):wpList P ops Q (o::rest) a w:=
 wpList_plain hgd fun _ hK=>aU d s ho hd hs hv hrow hi hos h1 hnew fun w' a b=>hK _ _ (h w' a b)
theorem eH:(Tryz.prog.info? 27).map (·.size)=some 1:=by kernel_rfl
theorem oQ:(Tryz.prog.info? 3).map (·.size)=some 1:=by kernel_rfl
theorem aI.vQ {α:Type} {T:Ty α} {c:CM} {w:World} {base e:Nat} {v:Value} {l:List α} (h:aI T c w base e v l):Src T c w v l:=by
 obtain⟨css,h1,h2,h3⟩:=h;obtain⟨a,cap,rfl⟩:=aY h1;have h4:=Iz h1;exact⟨a,cap,css,rfl,h4.1,by obtain⟨-,⟨-,hn⟩|⟨g,cap',cur,he,-,-,hnc,hcm,-⟩⟩:=h1<;>omega,h2,h3,h4.2⟩
def Apart (u v:Value):Prop:=∀q,u.ownBlock=some q->v.ownBlock≠some q
theorem Apart.keep {α:Type} {T:Ty α} {c:CM} {w w':World} {base e:Nat} {u v:Value} {l:List α} (h:Apart u v) (hv:aI T c w base e v l) (hg:w.grownBy w' u.ownBlock):aI T c w' base e v l:=
 hv.kept hg (by
  cases e:v.ownBlock with
  |none=>exact .inl rfl
  |some q=>exact .inr (fun e2=>h q e2.symm e))
theorem Apart.symm {u v:Value} (h:Apart u v):Apart v u:=fun q e e2=>h q e2 e
theorem Apart.step {α:Type} {T:Ty α} {c:CM} {w:World} {base e:Nat} {u u' v:Value} {l:List α} (h:Apart u v) (hv:aI T c w base e v l) (hb:u'.ownBlock=u.ownBlock∨∃g,u'.ownBlock=some g/\w.heap.size<=g):Apart u' v:=fun q e e2=>by
 rcases hb with hb|⟨g,hb,hge⟩
 ·exact h q (hb.symm.trans e) e2
 ·rw [hb] at e
  obtain rfl:=Option.some.inj e;have:=(hv.lt g e2).2;omega
theorem WQ {c:CM} {v:Value} {h:Hd} (w:World) (hc:Sub c w.cell?) (hv:Of Ty.hd c v h) (hk:yR h):
  Calls Tryz.prog 59 #[v] w fun e w'=>∃v1 v2,e=.returned (.tuple #[v1,v2])/\Of Ty.hd (ov c w w') v1 (kM h)/\Sl Ty.ms (ov c w w') v2 (qH h)/\Grow w w':=by
 obtain⟨al,cl,ar,cr,rfl⟩:=hv.dS;have IU:=η (Of.lq hv).1;have nG:Hid (I64 h.aG/\I64 h.next):=η (by obtain⟨cs,he,_,_,rfl,_,h1,h2,_⟩:=hv;exact⟨h1,h2⟩);obtain⟨IK,IL,he,h1,h2,-,hel⟩:=(Of.lq hv).2;obtain⟨rfl,rfl⟩:ar=IK/\cr=IL:=by simpa using he
 unfold maxLen at h2;have Ye:=η hk.parts;have h12:=hk.opn;have HC:=η hc;clear hk he hv hc;obtain⟨wa,cO⟩:∃y:World,y=w.alloc (.cells #[ς al h.log.length cl,ι h.aG,ι h.next,ς ar h.opn.length cr] 29):=⟨_,rfl⟩;obtain⟨wz,hwz⟩:∃y:World,y=wa.alloc (.cells #[(),ι 0,ι 0,()] 29):=⟨_,rfl⟩;have hsz:wa.heap.size=w.heap.size+1:=by rw [cO];simp
 have R1:Hid (wz.heap[w.heap.size]? =some (.cells #[ς al h.log.length cl,ι h.aG,ι h.next,ς ar h.opn.length cr] 29 (0,0))):=η (by rw [hwz,cO];exact aB (aF _ _) _);have R2:Hid (wz.heap[w.heap.size+1]? =some (.cells #[(),ι 0,ι 0,()] 29 (0,0))):=η (by rw [hwz,<-hsz];exact aF _ _);have G1:Hid (Grow w wz):=η (by rw [hwz,cO];exact((Grow.refl w).alloc _).alloc _);have HZ:Hid (wz.heap.size=w.heap.size+2):=η (by rw [hwz,cO];simp);go_enter Tryz.func59,Tryz.ntmps59;go_upto_region 3 with fail
 rw [<-cO];try rw [hsz]
 rw [<-hwz];clear cO hwz hsz;obtain⟨c0,c1,c2,c3⟩:=cells4 R1.o;have z1:w.heap.size<wz:=(γ R1.o);go_wp2;clear c0 c1 c2 c3;go_loopw [4,5,11] (fun s4 s5 i wr=>∃k:Nat,k<=h.opn.length/\i=ι k/\Grow wz wr/\aI Ty.opn c wr (w.heap.size+2) 58 s4 ((h.opn.take k).filter fun o=>o.dec)/\aI Ty.ms (fun _=>none) wr (w.heap.size+2) 85 s5 (((h.opn.take k).filter fun o=>!o.dec).flatMap fun o=>dG o.deed o.parts)/\Apart s4 s5) (fun _ _ i _=>h.opn.length - (intOf i).toNat)
 case atStart=>exact⟨0,δ,rfl,Grow.refl _,aI.nil _ _ _ _ _,aI.nil _ _ _ _ _,fun q e=>by simp [Value.ownBlock] at e⟩
 case round=>
  obtain⟨k,hk',rfl,hb,gL,gM,hap⟩:=hrel;obtain⟨a4,c4,rfl⟩:=gL.form;obtain⟨a5,c5,rfl⟩:=gM.form;have FB:=η gL;have l9:=η gM;have pA:=η hap;have HB:=η hb;have GB:=η (G1.o.trans hb);clear gL gM hap hb;by_cases hlt:k<h.opn.length
  ·obtain⟨b,o,vp,vh,rfl,c0,c1,c2,c3,i0,hP,hH⟩:=Ci.at_ hel k hlt
   obtain⟨ap,cp,rfl,-⟩:=id hP;obtain⟨ah,ch,rfl,-⟩:=id hH;have lI:=η (And.intro i0 (And.intro hP hH));have hpl:=Ye.o _ (List.getElem_mem hlt);have Tz:=η (rW (fun o:Opn=>o.dec) hlt);have Yh:=η (EJ (fun o:Opn=>!o.dec) (fun o=>dG o.deed o.parts) hlt);have a_:=η (show((h.opn.take k).filter fun o=>o.dec).length<=12 from Nat.le_trans (List.length_filter_le _ _) (by simp;omega));have L0:=η (show(((h.opn.take k).filter fun o=>!o.dec).flatMap fun o=>dG o.deed o.parts).length<=36 by
    have h8:=pY (fun o:Opn=>oL o.deed o.parts) ((h.opn.take k).filter fun o=>!o.dec);have h9:((h.opn.take k).filter fun o=>!o.dec).length<=12:=Nat.le_trans (List.length_filter_le _ _) (by simp;omega);omega)
   replace c0:=GB.o.sub _ _ (HC.o _ _ c0);replace c1:=GB.o.sub _ _ (HC.o _ _ c1);replace c2:=GB.o.sub _ _ (HC.o _ _ c2);replace c3:=GB.o.sub _ _ (HC.o _ _ c3);clear hel hP hH i0;generalize h.opn[k]=q at*;generalize (h.opn.take k).filter (fun o=>o.dec)=rs at*;generalize ((h.opn.take k).filter fun o=>!o.dec).flatMap (fun o=>dG o.deed o.parts)=ms at*;cases hd:q.dec with
   |true=>
    rw [hd] at c2;have UF:=η Tz.o;have HF2:=η Yh.o;rw [if_pos hd] at UF;rw [if_neg (by simp [hd])] at HF2;have uE:Hid (q=⟨q.deed,q.parts,true,q.heard⟩):=η (by cases q;simp_all);clear hd Tz Yh;have q9:wr.heap.size<(wr.alloc (.cells #[ι q.deed,ς ap q.parts.length cp,.bool true,ς ah q.heard.length ch] 58)).heap.size:=by simp
    go_wp2_with (first|(at_builtin;refine aZ (c:=c) (base:=w.heap.size+2) (l:=rs) (m:=[q]) h_ rfl fZ ε rfl (.tmp 17) (.tmp 19) rfl rfl ?own rfl (Src.bQ (T:=Ty.opn) (x:=q) (cs:=#[ι q.deed,ς ap q.parts.length cp,.bool true,ς ah q.heard.length ch]) ?d0 _ _ ?d1) ?d2 ?d3 ?_))
    case own=>exact FB.o.grow (((Grow.refl _).alloc _).alloc _)
    case d0=>rw [uE.o];exact⟨_,_,rfl,lI.o.1,lI.o.2.1,lI.o.2.2⟩
    case d1=>simp
    case d2=>have:=a_.o;simp;omega
    case d3=>have:=HB.o.size;have:=HZ.o;simp;omega
    intro a9 c9 w9 fB eF gI;have jL:Hid (Grow wz w9):=η (bn (w0:=wz) ((HB.o.alloc _).alloc _) eF (fun q hq=>by have:=(FB.o.lt q hq).1;have:=HZ.o;omega));have iF:=η fB;have Yi:=η (l9.o.grow (((Grow.refl wr).alloc (.cells #[ι q.deed,ς ap q.parts.length cp,.bool true,ς ah q.heard.length ch] 58)).alloc (.cells #[ι q.deed,ς ap q.parts.length cp,.bool true,ς ah q.heard.length ch] 58)));have L5:=η (pA.o.keep Yi.o eF);have gN:=η (pA.o.step Yi.o (gI.imp_right fun⟨g,e,hge⟩=>⟨g,e,by simpa using hge⟩));clear fB eF gI Yi q9;go_wp2;go_roundw
    case rel=>exact⟨k+1,δ,by go_num,jL.o,by rw [UF.o];exact iF.o,by rw [HF2.o];exact L5.o,gN.o⟩
    case measure=>simp [intOf];omega
   |false=>
    rw [hd] at c2;have UF:=η Tz.o;have HF2:=η Yh.o;rw [if_neg (by simp [hd])] at UF;rw [if_pos (by simp [hd])] at HF2;have uE:Hid (q=⟨q.deed,q.parts,false,q.heard⟩):=η (by cases q;simp_all);have HAB:=η (fun(W:World) (hW:Grow w W)=>EK (v:=.agg #[ι q.deed,ς ap q.parts.length cp,.bool false,ς ah q.heard.length ch]) (o:=q) W (by rw [uE.o];exact⟨_,rfl,_,_,rfl,lI.o.1,lI.o.2.1.mono (HC.o.trans hW.sub),lI.o.2.2.mono (HC.o.trans hW.sub)⟩) δ);have EM:=η (oL q.deed q.parts);clear hd Tz Yh;have q9:wr.heap.size<(wr.alloc (.cells #[ι q.deed,ς ap q.parts.length cp,.bool false,ς ah q.heard.length ch] 58)).heap.size:=by simp
    go_wp2_with fail
    refine(HAB.o _ (GB.o.alloc _)).mono ?_;rintro e w4 ⟨v4,rfl,pO,hb4⟩;obtain⟨a6,c6,rfl⟩:=pO.form;have G4:=η (((Grow.refl wr).alloc _).trans hb4);have uq:Hid (Src Ty.ms (fun _=>none) w4 (ς a6 (dG q.deed q.parts).length c6) (dG q.deed q.parts)):=η pO.vQ;have gO:=η (FB.o.grow G4.o);have Yi:=η (l9.o.grow G4.o);clear pO hb4 q9 c0 c1 c2 c3;generalize dG q.deed q.parts=aq at*;go_wp2_with (first|(at_builtin;refine aZ (c:=fun _=>none) (base:=w.heap.size+2) (l:=ms) (m:=aq) tN rfl kU ε rfl (.tmp 21) (.tmp 23) rfl rfl Yi.o rfl uq.o ?d2 ?d3 ?_))
    case d2=>have:=L0.o;have:=EM.o;omega
    case d3=>have:=HB.o.size;have:=HZ.o;have:=G4.o.size;omega
    intro a9 c9 w9 fB eF gI;have jL:Hid (Grow wz w9):=η (bn (w0:=wz) (HB.o.trans G4.o) eF (fun q hq=>by have:=(l9.o.lt q hq).1;have:=HZ.o;omega));have iF:=η fB;have L7:=η (pA.o.symm.keep gO.o eF);have gN:=η (pA.o.symm.step gO.o gI).symm;clear fB eF gI gO Yi;go_wp2;go_roundw
    case rel=>exact⟨k+1,δ,by go_num,jL.o,by rw [UF.o];exact L7.o,by rw [HF2.o];exact iF.o,gN.o⟩
    case measure=>simp [intOf];omega
  ·have UF:Hid ((h.opn.take k).filter (fun o=>o.dec)=(kM h).opn):=η (by rw [List.take_of_length_le δ];rfl)
   have HF2:Hid (((h.opn.take k).filter fun o=>!o.dec).flatMap (fun o=>dG o.deed o.parts)=qH h):=η (by rw [List.take_of_length_le δ];rfl);have RR1:=η (aj R1.o HB.o);have RR2:=η (aj R2.o HB.o);rw [UF.o] at FB pA ⊢;rw [HF2.o] at l9 pA ⊢;clear hel UF HF2;generalize hqo:(kM h).opn=qo at*;have HQO:=η hqo;clear hqo;generalize hqm:qH h=qm at*;have gP:=η hqm;clear hqm;go_wp2_with (first|(refine aN rfl (.tmp 27) (.tmp 26) (v:=ς a4 qo.length c4) (new:=#[ς al h.log.length cl,ι h.aG,ι h.next,ς a4 qo.length c4]) rfl rfl ρ ρ RR1.o eH σ ρ ρ ?_))
   intro w8 r8 g8;have G8:=η (GB.o.grown g8 (fun q hq=>by simp at hq;omega));have R8:=η r8;have F6:=η (aH RR2.o g8 (by intro e;have:=Option.some.inj e;omega));have MA:=η (FB.o.kept g8 (by
    cases e:(Value.slice a4 qo.length c4).ownBlock with
    |none=>exact .inl rfl
    |some q=>exact .inr (by have:=(FB.o.lt q e).1;intro e2;have:=Option.some.inj e2;omega)))
   have MD:=η (l9.o.kept g8 (by
    cases e:(Value.slice a5 qm.length c5).ownBlock with
    |none=>exact .inl rfl
    |some q=>exact .inr (by have:=(l9.o.lt q e).1;intro e2;have:=Option.some.inj e2;omega)))
   obtain⟨c0,c1,c2,c3⟩:=cells4 r8;have z8:w.heap.size<w8:=(γ r8);clear r8 g8;go_wp2_with (first|(refine wpList_store_row rfl (.tmp 2) (.tmp 28) rfl rfl rfl F6.o bU rfl rfl ?_))
   intro w7 r7 g7;obtain⟨p0,p1,p2,p3⟩:=cells4 r7;clear c0 c1 c2 c3;go_wp2;refine bodyPost_ret (v:=.tuple #[.agg #[ς al h.log.length cl,ι h.aG,ι h.next,ς a4 qo.length c4],ς a5 qm.length c5]) (by simp [results,Tryz.results59,go_sem,p0,p1,p2,p3]) rfl ?_;have G7:=G8.o.grown g7 (fun q hq=>by simp at hq;omega);refine⟨_,_,rfl,⟨_,rfl,_,_,rfl,IU.o.mono (dM HC.o),nG.o.1,nG.o.2,?_⟩,?_,G7⟩
   ·rw [HQO.o]
    refine aI.slc ε (MA.o.kept g7 ?_) (dM HC.o) fun a ha=>bH δ;cases e:(Value.slice a4 qo.length c4).ownBlock with
    |none=>exact .inl rfl
    |some q=>exact .inr (by have:=(FB.o.lt q e).1;intro e2;have:=Option.some.inj e2;omega)
   ·rw [gP.o]
    refine aI.slc (c:=fun _=>none) ε (MD.o.kept g7 ?_) (fun _ _ e=>by cases e) fun a ha=>bH δ;cases e:(Value.slice a5 qm.length c5).ownBlock with
    |none=>exact .inl rfl
    |some q=>exact .inr (by have:=(l9.o.lt q e).1;intro e2;have:=Option.some.inj e2;omega)
theorem bJ {α:Type} {T:Ty α} {c:CM} {w:World} {base e B:Nat} {v:Value} {l:List α} (h:aI T c w base e v l) (hB:B<base):v.ownBlock=none∨v.ownBlock≠some B:=by
 cases e:v.ownBlock with
 |none=>exact .inl rfl
 |some q=>exact .inr (by have:=(h.lt q e).1;intro e2;have:=Option.some.inj e2;omega)
theorem mX {h:Hd} {P:List Pt} (hf:oz h=true):iH h P=h/\jK h P=[]/\nZ h=9:=by
 unfold iH jK nZ;rw [if_pos hf,if_pos hf,if_pos hf];exact⟨rfl,rfl,rfl⟩
theorem MI {h:Hd} {P:List Pt} (hf:oz h=false):iH h P={ h with opn:=h.opn++ [qV h P],next:=h.next+1 }/\jK h P=gG (qV h P)/\nZ h=0:=by
 unfold iH jK nZ;rw [if_neg (by simp [hf]),if_neg (by simp [hf]),if_neg (by simp [hf])];exact⟨rfl,rfl,rfl⟩
theorem Ui {c:CM} {v vp:Value} {h:Hd} {P:List Pt} (w:World) (hc:Sub c w.cell?) (hv:Of Ty.hd c v h) (hp:m_ c vp P) (hk:yR h) (hP:P.length<=4):
  Calls Tryz.prog 50 #[v,vp] w fun e w'=>∃v1 v2,e=.returned (.tuple #[v1,v2,ι (nZ h)])/\Of Ty.hd (ov c w w') v1 (iH h P)/\Sl Ty.ms (ov c w w') v2 (jK h P)/\Grow w w':=by
 obtain⟨al,cl,ar,cr,rfl⟩:=hv.dS;obtain⟨ap,cp,rfl,-⟩:=id hp;have HV:=η hv;have IU:=η (Of.lq hv).1;have HOG:=η (Of.lq hv).2;have E7:=η hp;have nG:Hid (I64 h.aG/\I64 h.next):=η (by obtain⟨cs,he,_,_,rfl,_,h1,h2,_⟩:=hv;exact⟨h1,h2⟩);have Js:=η hk.opn;obtain⟨hb0,hb1⟩:=hk.aG;obtain⟨hn0,hn1⟩:=hk.next;have HC:=η hc;clear hk hv hp hc;obtain⟨wa,cO⟩:∃y:World,y=w.alloc (.cells #[ς al h.log.length cl,ι h.aG,ι h.next,ς ar h.opn.length cr] 29):=⟨_,rfl⟩;obtain⟨wz,hwz⟩:∃y:World,y=wa.alloc (.cells #[(),ι 0,ι 0,()] 29):=⟨_,rfl⟩;have hsz:wa.heap.size=w.heap.size+1:=by rw [cO];simp
 have R1:Hid (wz.heap[w.heap.size]? =some (.cells #[ς al h.log.length cl,ι h.aG,ι h.next,ς ar h.opn.length cr] 29 (0,0))):=η (by rw [hwz,cO];exact aB (aF _ _) _);have R2:Hid (wz.heap[w.heap.size+1]? =some (.cells #[(),ι 0,ι 0,()] 29 (0,0))):=η (by rw [hwz,<-hsz];exact aF _ _);have G1:Hid (Grow w wz):=η (by rw [hwz,cO];exact((Grow.refl w).alloc _).alloc _);have HZ:Hid (wz.heap.size=w.heap.size+2):=η (by rw [hwz,cO];simp);by_cases hf1:11<h.opn.length
 ·obtain⟨e1,e2,e3⟩:=mX (P:=P) (show oz h=true from decide_eq_true (.inl hf1))
  have F5:=η e1;have HE2:=η e2;have IX:=η e3;have Uj:(11:Int)<(h.opn.length:Int):=by omega
  clear e1 e2 e3 hf1;go_enter Tryz.func50,Tryz.ntmps50;go_upto_region 1 with fail
  rw [<-cO];try rw [hsz]
  rw [<-hwz];clear cO hwz hsz;obtain⟨c0,c1,c2,c3⟩:=cells4 R1.o;have z1:w.heap.size<wz:=(γ R1.o);go_wp2_with (first|(refine wpList_store_row rfl (.tmp 4) (.tmp 17) rfl rfl rfl R2.o bU rfl rfl ?_))
  intro w7 r7 g7;obtain⟨p0,p1,p2,p3⟩:=cells4 r7;clear c0 c1 c2 c3;go_wp2;refine bodyPost_ret (v:=.tuple #[.agg #[ς al h.log.length cl,ι h.aG,ι h.next,ς ar h.opn.length cr],(),ι 9]) (by simp [results,Tryz.results50,go_sem,p0,p1,p2,p3]) rfl ?_;have G7:=G1.o.grown g7 (fun q hq=>by simp at hq;omega);rw [F5.o,HE2.o,IX.o];exact⟨_,_,rfl,HV.o.mono (dM HC.o),Sl.nil _ _,G7⟩
 by_cases hf2:63<h.next
 ·obtain⟨e1,e2,e3⟩:=mX (P:=P) (show oz h=true from decide_eq_true (.inr hf2))
  have F5:=η e1;have HE2:=η e2;have IX:=η e3;have Uj:¬(11:Int)<(h.opn.length:Int):=by omega
  clear e1 e2 e3 hf1;go_enter Tryz.func50,Tryz.ntmps50;go_upto_region 1 with fail
  rw [<-cO];try rw [hsz]
  rw [<-hwz];clear cO hwz hsz;obtain⟨c0,c1,c2,c3⟩:=cells4 R1.o;have z1:w.heap.size<wz:=(γ R1.o);go_wp2_with (first|(refine wpList_store_row rfl (.tmp 4) (.tmp 17) rfl rfl rfl R2.o bU rfl rfl ?_))
  intro w7 r7 g7;obtain⟨p0,p1,p2,p3⟩:=cells4 r7;clear c0 c1 c2 c3;go_wp2;refine bodyPost_ret (v:=.tuple #[.agg #[ς al h.log.length cl,ι h.aG,ι h.next,ς ar h.opn.length cr],(),ι 9]) (by simp [results,Tryz.results50,go_sem,p0,p1,p2,p3]) rfl ?_;have G7:=G1.o.grown g7 (fun q hq=>by simp at hq;omega);rw [F5.o,HE2.o,IX.o];exact⟨_,_,rfl,HV.o.mono (dM HC.o),Sl.nil _ _,G7⟩
 obtain⟨e1,e2,e3⟩:=MI (P:=P) (show oz h=false from decide_eq_false δ);have F5:=η e1;have HE2:=η e2;have IX:=η e3;have Uj:¬(11:Int)<(h.opn.length:Int):=by omega
 have hw1:IntKind.i64.wrap (64*h.aG)=64*h.aG:=IntWalk.i64_in _ δ;have hw2:IntKind.i64.wrap (64*h.aG+h.next)=64*h.aG+h.next:=IntWalk.i64_in _ δ;have hw3:IntKind.i64.wrap (h.next+1)=h.next+1:=IntWalk.i64_in _ δ;have WR:Hid (I64 (64*h.aG+h.next)):=η (iW δ δ);have OY:Hid (I64 (h.next+1)):=η (iW δ δ);clear e1 e2 e3 hf1;go_enter Tryz.func50,Tryz.ntmps50;go_upto_region 1 with fail
 rw [<-cO];try rw [hsz]
 rw [<-hwz];clear cO hwz hsz;obtain⟨c0,c1,c2,c3⟩:=cells4 R1.o;have z1:w.heap.size<wz:=(γ R1.o);go_upto_region 4 with fail
 obtain⟨dd,hdd⟩:∃x,x=64*h.aG+h.next:=⟨_,rfl⟩;rw [<-hdd] at WR ⊢;have UK:=η hdd;obtain⟨EO,hwo⟩:∃y:World,y=wz.alloc (.cells #[ι dd,ς ap P.length cp,.bool false,()] 58):=⟨_,rfl⟩;have R7:Hid (EO.heap[w.heap.size+2]? =some (.cells #[ι dd,ς ap P.length cp,.bool false,()] 58 (0,0))):=η (by rw [hwo,<-HZ.o];exact aF _ _);have GZ:Hid (Grow wz EO):=η (by rw [hwo];exact(Grow.refl _).alloc _);have HZ3:Hid (EO.heap.size=w.heap.size+3):=η (by rw [hwo];simp [HZ.o]);rw [<-hwo];try rw [HZ.o]
 clear hwo hdd hw1 hw2 c0 c1 c2 c3;have R13:=η (aj R1.o GZ.o);have ME:=η (aj R2.o GZ.o);have Ah:=η (G1.o.trans GZ.o);have HS:Hid (∀W,Grow EO W->W.cell? ⟨w.heap.size,3,none⟩=some (ς ar h.opn.length cr)/\W.cell? ⟨w.heap.size+2,0,none⟩=some (ι dd)/\W.cell? ⟨w.heap.size+2,1,none⟩=some (ς ap P.length cp)/\W.cell? ⟨w.heap.size+2,2,none⟩=some (.bool false)/\W.cell? ⟨w.heap.size+2,3,none⟩=some (ς none 0 0)):=fun W hW=>by
  obtain⟨-,-,-,k3⟩:=cells4 (aj R13.o hW);obtain⟨j0,j1,j2,j3⟩:=cells4 (aj R7.o hW);exact⟨k3,j0,j1,j2,j3⟩
 have zJ:=η (fun(W:World) (hW:Grow EO W)=>Src.iK (T:=Ty.opn) ε (HC.o.trans (Ah.o.trans hW).sub) HOG.o);have MM:Hid (Ty.opn.R c [ι dd,ς ap P.length cp,.bool false,()] ⟨dd,P,false,[]⟩):=η ⟨_,_,rfl,WR.o,E7.o,Sl.nil _ _⟩;refine bf (fun w'=>w'.cell? ⟨w.heap.size,3,none⟩=some (ς ar h.opn.length cr)/\w'.cell? ⟨w.heap.size+2,0,none⟩=some (ι dd)/\w'.cell? ⟨w.heap.size+2,1,none⟩=some (ς ap P.length cp)/\w'.cell? ⟨w.heap.size+2,2,none⟩=some (.bool false)/\w'.cell? ⟨w.heap.size+2,3,none⟩=some (ς none 0 0)) 8 κ ?_;obtain⟨wd,hWd⟩:∃x:World,x=EO.drew:=⟨_,rfl⟩;rw [<-hWd];have GD:Grow EO wd:=by rw [hWd];exact(Grow.refl _).drew
 have zD:EO.heap.size=wd.heap.size:=by rw [hWd];rfl
 have ZD:=η zD;clear hWd zD;refine ni [1,2,4] 12 κ (fun _ _ _ _ _ h=>h) (HS.o _ GD) ?_;repeat (refine gQ ?_;try simp only [aK])
 refine ny ?_;refine bP 0 5 κ rfl rfl ?_ ?_
 ·intro K HK
  try simp only [aV]
  go_simp;refine HK.o _ _ ⟨fun _=>HS.o _ (GD.alloc _),?_⟩;clear HK K;try simp only [aK]
  refine bP 3 5 κ rfl rfl ?_ ?_
  ·intro K HK
   refine aC rfl ?_;try simp only [aV]
   refine dD (l:=[]) (m:=h.opn) (v:=ς (some ⟨wd.heap.size,0,none⟩) 0 0) h_ rfl fZ ε (.tmp 26) (.tmp 28) rfl rfl ((aI.jw Ty.opn c _ EO.heap.size _ (φ ZD.o) σ)) rfl (zJ.o _ (GD.alloc _)) (by have:=Js.o;simp;omega) (GD.alloc _).size ?_;intro a3 c3 q3 ho3 hg3 hb3;try simp only [iO,List.nil_append] at ho3
   try simp only [iO] at hb3
   try simp only [iO]
   have G3:=bn (w0:=EO) (GD.alloc _) hg3 (d_ (φ ZD.o));have B3:=η (dW (B:=EO.heap.size) (GD.alloc _).size hb3 (d_ (φ ZD.o)));have nC:=η ho3;have oq:=η hg3;clear ho3 hg3 hb3;refine HK.o _ _ ⟨fun _=>HS.o _ G3,?_⟩;clear HK K;try simp only [aK]
   refine bO 5 κ rfl ?_;intro K HK;try simp only [aV]
   go_simp;refine HK.o _ _ ⟨fun _=>HS.o _ (G3.alloc _),?_⟩;clear HK K;try simp only [aK]
   refine bO 6 κ rfl ?_;intro K HK;refine aC rfl ?_;try simp only [aV]
   refine dD (l:=h.opn) (m:=[⟨dd,P,false,[]⟩]) (v:=ς a3 (h.opn.length) c3) h_ rfl fZ ε (.tmp 29) (.tmp 31) rfl rfl ((nC.o).grow ((Grow.refl _).alloc _)) rfl ((Src.bQ (T:=Ty.opn) (x:=⟨dd,P,false,[]⟩) (c:=c) (cs:=#[ι dd,ς ap P.length cp,.bool false,()]) MM.o _ _ σ)) (by have:=Js.o;simp;omega) (G3.alloc _).size ?_;intro a6 c6 q6 tX zU hb6;try simp only [iO] at tX
   try simp only [iO] at hb6
   try simp only [iO]
   have G6:=bn (w0:=EO) (G3.alloc _) zU B3.o;have B6:=η (dW (B:=EO.heap.size) (G3.alloc _).size hb6 B3.o);have Bl:=η tX;have QD:=η zU;clear tX zU hb6;refine HK.o _ _ ⟨fun _=>HS.o _ G6,?_⟩;clear HK K;try simp only [aK]
   refine bO 7 κ rfl ?_;intro K HK;try simp only [aV]
   go_simp;refine HK.o _ _ ⟨fun _=>HS.o _ G6,?_⟩;clear HK K;try simp only [aK]
   refine bO 8 κ rfl ?_;intro K HK;refine aC rfl ?_;try simp only [aV]
   refine aU (.tmp 33) (.tmp 32) (v:=ς a6 (h.opn.length+1) c6) (new:=#[ς al h.log.length cl,ι h.aG,ι h.next,ς a6 (h.opn.length+1) c6]) rfl rfl ρ ρ (aj R13.o G6) eH σ ρ ρ ?_;intro w8 r8 g8;have OZ:=η r8;have oU:=η g8;have qX:=η (Bl.o.kept g8 (bJ Bl.o (τ HZ3.o)));have WS:=η G6;clear r8 g8;refine HK.o _ _ ⟨fun h=>absurd rfl h,?_⟩;clear HK K;try simp only [aK]
   refine aO κ ?_;go_upto_region 5 with fail
   have G8:=η ((Ah.o.trans WS.o).grown oU.o (fun q hq=>by simp at hq;omega));have F6:=η (aH (aj ME.o WS.o) oU.o (by intro e;have:=Option.some.inj e;omega));have NY:=η (aH (aj R7.o WS.o) oU.o (by intro e;have:=Option.some.inj e;omega));obtain⟨c0,c1,c2,c3⟩:=cells4 OZ.o;have z8:w.heap.size<w8:=(γ OZ.o);go_wp2_with (first|(refine aN rfl (.tmp 37) (.tmp 36) (v:=ι (h.next+1)) (new:=#[ς al h.log.length cl,ι h.aG,ι (h.next+1),ς a6 (h.opn.length+1) c6]) rfl rfl ρ ρ OZ.o oQ σ ρ ρ ?_))
   intro w9 r9 g9;have R9:=η r9;have G9:=η (G8.o.grown g9 (fun q hq=>by simp at hq;omega));have C_:=η (aH F6.o g9 (by intro e;have:=Option.some.inj e;omega));have Rl:=η (aH NY.o g9 (by intro e;have:=Option.some.inj e;omega));have iF:=η (qX.o.kept g9 (bJ qX.o (τ HZ3.o)));clear r9 g9 c0 c1 c2 c3;have HAS:=η (fun(W:World) (hW:Grow w9 W)=>qc (v:=.agg #[ι dd,ς ap P.length cp,.bool false,()]) (o:=⟨dd,P,false,[]⟩) W ⟨_,rfl,_,_,rfl,WR.o,E7.o.mono (HC.o.trans (G9.o.trans hW).sub),Sl.nil _ _⟩ (by show P.length*24<=_;omega));have Uh:Hid (∀W,Grow w9 W->W.cell? ⟨w.heap.size,0,none⟩=some (ς al h.log.length cl)/\W.cell? ⟨w.heap.size,1,none⟩=some (ι h.aG)/\W.cell? ⟨w.heap.size,2,none⟩=some (ι (h.next+1))/\W.cell? ⟨w.heap.size,3,none⟩=some (ς a6 (h.opn.length+1) c6)/\W.cell? ⟨w.heap.size+2,0,none⟩=some (ι dd)/\W.cell? ⟨w.heap.size+2,1,none⟩=some (ς ap P.length cp)/\W.cell? ⟨w.heap.size+2,2,none⟩=some (.bool false)/\W.cell? ⟨w.heap.size+2,3,none⟩=some (ς none 0 0)):=fun W hW=>by
    obtain⟨k0,k1,k2,k3⟩:=cells4 (aj R9.o hW);obtain⟨j0,j1,j2,j3⟩:=cells4 (aj Rl.o hW);exact⟨k0,k1,k2,k3,j0,j1,j2,j3⟩
   go_upto_region 6 with fail
   refine bf (fun w'=>w'.cell? ⟨w.heap.size,0,none⟩=some (ς al h.log.length cl)/\w'.cell? ⟨w.heap.size,1,none⟩=some (ι h.aG)/\w'.cell? ⟨w.heap.size,2,none⟩=some (ι (h.next+1))/\w'.cell? ⟨w.heap.size,3,none⟩=some (ς a6 (h.opn.length+1) c6)/\w'.cell? ⟨w.heap.size+2,0,none⟩=some (ι dd)/\w'.cell? ⟨w.heap.size+2,1,none⟩=some (ς ap P.length cp)/\w'.cell? ⟨w.heap.size+2,2,none⟩=some (.bool false)/\w'.cell? ⟨w.heap.size+2,3,none⟩=some (ς none 0 0)) 5 κ ?_;obtain⟨we,hWd⟩:∃x:World,x=w9.drew:=⟨_,rfl⟩;rw [<-hWd];have GE:Grow w9 we:=by rw [hWd];exact(Grow.refl _).drew
   have zD:w9.heap.size=we.heap.size:=by rw [hWd];rfl
   have ZD:=η zD;clear hWd zD;have WT:Hid (w9.heap.size<=we.heap.size):=η GE.size;refine ni [0,1] 8 κ (fun _ _ _ _ _ h=>h) (Uh.o _ GE) ?_;repeat (refine gQ ?_;try simp only [aK])
   refine ny ?_;refine bO 2 κ rfl ?_;intro K HK;try simp only [aV]
   go_simp;go_at_call 90
   refine(HAS.o _ GE).mono ?_;rintro e10 w10 ⟨v10,rfl,kL,iL⟩;obtain⟨a10,c10,rfl⟩:=kL.form;have uz:=η kL;have jc:=η (Grow.trans GE iL);clear kL iL;generalize hqa:gG ⟨dd,P,false,[]⟩=qa at*;have vR:=η hqa;clear hqa;refine HK.o _ _ ⟨fun _=>Uh.o _ jc.o,?_⟩;clear HK K;try simp only [aK]
   refine bO 3 κ rfl ?_;intro K HK;refine aC rfl ?_;try simp only [aV]
   refine wp_store_row (.tmp 4) (.tmp 38) rfl rfl rfl (aj C_.o jc.o) bU rfl rfl ?_;intro w7 r7 g7;have WU:=η r7;have kE:=η g7;clear r7 g7;have Jt:Hid (w7.cell? ⟨w.heap.size,0,none⟩=some (ς al h.log.length cl)/\w7.cell? ⟨w.heap.size,1,none⟩=some (ι h.aG)/\w7.cell? ⟨w.heap.size,2,none⟩=some (ι (h.next+1))/\w7.cell? ⟨w.heap.size,3,none⟩=some (ς a6 (h.opn.length+1) c6)/\w7.cell? ⟨w.heap.size+2,0,none⟩=some (ι dd)/\w7.cell? ⟨w.heap.size+2,1,none⟩=some (ς ap P.length cp)/\w7.cell? ⟨w.heap.size+2,2,none⟩=some (.bool false)/\w7.cell? ⟨w.heap.size+2,3,none⟩=some (ς none 0 0)):=η (by obtain⟨k0,k1,k2,k3,k4,k5,k6,k7⟩:=Uh.o _ jc.o;exact⟨aP k0 kE.o (by show w.heap.size≠_;omega),aP k1 kE.o (by show w.heap.size≠_;omega),aP k2 kE.o (by show w.heap.size≠_;omega),aP k3 kE.o (by show w.heap.size≠_;omega),aP k4 kE.o (by show w.heap.size+2≠_;omega),aP k5 kE.o (by show w.heap.size+2≠_;omega),aP k6 kE.o (by show w.heap.size+2≠_;omega),aP k7 kE.o (by show w.heap.size+2≠_;omega)⟩);refine HK.o _ _ ⟨fun _=>Jt.o,?_⟩;clear HK K;try simp only [aK]
   refine bO 4 κ rfl ?_;intro K HK;try simp only [aV]
   go_simp;refine HK.o _ _ ⟨fun _=>Jt.o,?_⟩;clear HK K;try simp only [aK]
   refine bO 5 κ rfl ?_;intro K HK;try simp only [aV]
   go_simp;refine HK.o _ _ ⟨fun h=>absurd rfl h,?_⟩;clear HK K;try simp only [aK]
   refine aO κ ?_;obtain⟨p0,p1,p2,p3⟩:=cells4 WU.o;go_wp2;refine bodyPost_ret (v:=.tuple #[.agg #[ς al h.log.length cl,ι h.aG,ι (h.next+1),ς a6 (h.opn.length+1) c6],ς a10 qa.length c10,ι 0]) (by simp [results,Tryz.results50,go_sem,p0,p1,p2,p3]) rfl ?_;have G7:=(G9.o.trans jc.o).grown kE.o (fun q hq=>by simp at hq;omega);rw [F5.o,HE2.o,IX.o];refine⟨_,_,rfl,⟨_,rfl,_,_,rfl,IU.o.mono (dM HC.o),nG.o.1,OY.o,?_⟩,?_,G7⟩
   ·have h9:=(iF.o.grow jc.o).kept kE.o (bJ (iF.o.grow jc.o) (τ HZ3.o))
    have h8:=aI.slc (d:=ov c w w7) ε h9 (dM HC.o) fun a ha=>bH (τ HZ3.o);have e8:qV h P=⟨dd,P,false,[]⟩:=by unfold qV;rw [<-UK.o]
    rw [e8];exact h8
   ·rw [show qV h P=⟨dd,P,false,[]⟩ by unfold qV;rw [<-UK.o],vR.o]
    refine aI.slc (d:=ov c w w7) ε (uz.o.kept kE.o (bJ uz.o (by have:=(γ Rl.o);have:=WT.o;omega))) (fun a v e=>?_) fun a ha=>bH (by have:=(γ Rl.o);have:=WT.o;omega);unfold fr at e;split at e
    ·cases e
    ·rename_i hn
     have h1:¬a.block<we.heap.size:=fun hx=>hn (.inl hx);have:=(γ Rl.o);have:=WT.o;rw [bH δ];exact aP e kE.o δ
  ·intro K HK
   try simp only [aV]
   go_simp;refine HK.o _ _ ⟨fun _=>HS.o _ ((GD.alloc _).alloc _),?_⟩;clear HK K;try simp only [aK]
   refine bO 3 κ rfl ?_;intro K HK;refine aC rfl ?_;try simp only [aV]
   refine dD (l:=[]) (m:=h.opn) (v:=ς (some ⟨wd.heap.size,0,none⟩) 0 0) h_ rfl fZ ε (.tmp 26) (.tmp 28) rfl rfl (((aI.jw Ty.opn c _ EO.heap.size _ (φ ZD.o) σ)).grow ((Grow.refl _).alloc _)) rfl (zJ.o _ ((GD.alloc _).alloc _)) (by have:=Js.o;simp;omega) ((GD.alloc _).alloc _).size ?_;intro a3 c3 q3 ho3 hg3 hb3;try simp only [iO,List.nil_append] at ho3
   try simp only [iO] at hb3
   try simp only [iO]
   have G3:=bn (w0:=EO) ((GD.alloc _).alloc _) hg3 (d_ (φ ZD.o));have B3:=η (dW (B:=EO.heap.size) ((GD.alloc _).alloc _).size hb3 (d_ (φ ZD.o)));have nC:=η ho3;have oq:=η hg3;clear ho3 hg3 hb3;refine HK.o _ _ ⟨fun _=>HS.o _ G3,?_⟩;clear HK K;try simp only [aK]
   refine bO 6 κ rfl ?_;intro K HK;refine aC rfl ?_;try simp only [aV]
   refine dD (l:=h.opn) (m:=[⟨dd,P,false,[]⟩]) (v:=ς a3 (h.opn.length) c3) h_ rfl fZ ε (.tmp 29) (.tmp 31) rfl rfl (nC.o) rfl (((Src.bQ (T:=Ty.opn) (x:=⟨dd,P,false,[]⟩) (c:=c) (cs:=#[ι dd,ς ap P.length cp,.bool false,()]) MM.o _ _ σ)).kept oq.o (by simp [Value.ownBlock])) (by have:=Js.o;simp;omega) G3.size ?_;intro a6 c6 q6 tX zU hb6;try simp only [iO] at tX
   try simp only [iO] at hb6
   try simp only [iO]
   have G6:=bn (w0:=EO) G3 zU B3.o;have B6:=η (dW (B:=EO.heap.size) G3.size hb6 B3.o);have Bl:=η tX;have QD:=η zU;clear tX zU hb6;refine HK.o _ _ ⟨fun _=>HS.o _ G6,?_⟩;clear HK K;try simp only [aK]
   refine bO 7 κ rfl ?_;intro K HK;try simp only [aV]
   go_simp;refine HK.o _ _ ⟨fun _=>HS.o _ G6,?_⟩;clear HK K;try simp only [aK]
   refine bO 8 κ rfl ?_;intro K HK;refine aC rfl ?_;try simp only [aV]
   refine aU (.tmp 33) (.tmp 32) (v:=ς a6 (h.opn.length+1) c6) (new:=#[ς al h.log.length cl,ι h.aG,ι h.next,ς a6 (h.opn.length+1) c6]) rfl rfl ρ ρ (aj R13.o G6) eH σ ρ ρ ?_;intro w8 r8 g8;have OZ:=η r8;have oU:=η g8;have qX:=η (Bl.o.kept g8 (bJ Bl.o (τ HZ3.o)));have WS:=η G6;clear r8 g8;refine HK.o _ _ ⟨fun h=>absurd rfl h,?_⟩;clear HK K;try simp only [aK]
   refine aO κ ?_;go_upto_region 5 with fail
   have G8:=η ((Ah.o.trans WS.o).grown oU.o (fun q hq=>by simp at hq;omega));have F6:=η (aH (aj ME.o WS.o) oU.o (by intro e;have:=Option.some.inj e;omega));have NY:=η (aH (aj R7.o WS.o) oU.o (by intro e;have:=Option.some.inj e;omega));obtain⟨c0,c1,c2,c3⟩:=cells4 OZ.o;have z8:w.heap.size<w8:=(γ OZ.o);go_wp2_with (first|(refine aN rfl (.tmp 37) (.tmp 36) (v:=ι (h.next+1)) (new:=#[ς al h.log.length cl,ι h.aG,ι (h.next+1),ς a6 (h.opn.length+1) c6]) rfl rfl ρ ρ OZ.o oQ σ ρ ρ ?_))
   intro w9 r9 g9;have R9:=η r9;have G9:=η (G8.o.grown g9 (fun q hq=>by simp at hq;omega));have C_:=η (aH F6.o g9 (by intro e;have:=Option.some.inj e;omega));have Rl:=η (aH NY.o g9 (by intro e;have:=Option.some.inj e;omega));have iF:=η (qX.o.kept g9 (bJ qX.o (τ HZ3.o)));clear r9 g9 c0 c1 c2 c3;have HAS:=η (fun(W:World) (hW:Grow w9 W)=>qc (v:=.agg #[ι dd,ς ap P.length cp,.bool false,()]) (o:=⟨dd,P,false,[]⟩) W ⟨_,rfl,_,_,rfl,WR.o,E7.o.mono (HC.o.trans (G9.o.trans hW).sub),Sl.nil _ _⟩ (by show P.length*24<=_;omega));have Uh:Hid (∀W,Grow w9 W->W.cell? ⟨w.heap.size,0,none⟩=some (ς al h.log.length cl)/\W.cell? ⟨w.heap.size,1,none⟩=some (ι h.aG)/\W.cell? ⟨w.heap.size,2,none⟩=some (ι (h.next+1))/\W.cell? ⟨w.heap.size,3,none⟩=some (ς a6 (h.opn.length+1) c6)/\W.cell? ⟨w.heap.size+2,0,none⟩=some (ι dd)/\W.cell? ⟨w.heap.size+2,1,none⟩=some (ς ap P.length cp)/\W.cell? ⟨w.heap.size+2,2,none⟩=some (.bool false)/\W.cell? ⟨w.heap.size+2,3,none⟩=some (ς none 0 0)):=fun W hW=>by
    obtain⟨k0,k1,k2,k3⟩:=cells4 (aj R9.o hW);obtain⟨j0,j1,j2,j3⟩:=cells4 (aj Rl.o hW);exact⟨k0,k1,k2,k3,j0,j1,j2,j3⟩
   go_upto_region 6 with fail
   refine bf (fun w'=>w'.cell? ⟨w.heap.size,0,none⟩=some (ς al h.log.length cl)/\w'.cell? ⟨w.heap.size,1,none⟩=some (ι h.aG)/\w'.cell? ⟨w.heap.size,2,none⟩=some (ι (h.next+1))/\w'.cell? ⟨w.heap.size,3,none⟩=some (ς a6 (h.opn.length+1) c6)/\w'.cell? ⟨w.heap.size+2,0,none⟩=some (ι dd)/\w'.cell? ⟨w.heap.size+2,1,none⟩=some (ς ap P.length cp)/\w'.cell? ⟨w.heap.size+2,2,none⟩=some (.bool false)/\w'.cell? ⟨w.heap.size+2,3,none⟩=some (ς none 0 0)) 5 κ ?_;obtain⟨we,hWd⟩:∃x:World,x=w9.drew:=⟨_,rfl⟩;rw [<-hWd];have GE:Grow w9 we:=by rw [hWd];exact(Grow.refl _).drew
   have zD:w9.heap.size=we.heap.size:=by rw [hWd];rfl
   have ZD:=η zD;clear hWd zD;have WT:Hid (w9.heap.size<=we.heap.size):=η GE.size;refine ni [0,1] 8 κ (fun _ _ _ _ _ h=>h) (Uh.o _ GE) ?_;repeat (refine gQ ?_;try simp only [aK])
   refine ny ?_;refine bO 2 κ rfl ?_;intro K HK;try simp only [aV]
   go_simp;go_at_call 90
   refine(HAS.o _ GE).mono ?_;rintro e10 w10 ⟨v10,rfl,kL,iL⟩;obtain⟨a10,c10,rfl⟩:=kL.form;have uz:=η kL;have jc:=η (Grow.trans GE iL);clear kL iL;generalize hqa:gG ⟨dd,P,false,[]⟩=qa at*;have vR:=η hqa;clear hqa;refine HK.o _ _ ⟨fun _=>Uh.o _ jc.o,?_⟩;clear HK K;try simp only [aK]
   refine bO 3 κ rfl ?_;intro K HK;refine aC rfl ?_;try simp only [aV]
   refine wp_store_row (.tmp 4) (.tmp 38) rfl rfl rfl (aj C_.o jc.o) bU rfl rfl ?_;intro w7 r7 g7;have WU:=η r7;have kE:=η g7;clear r7 g7;have Jt:Hid (w7.cell? ⟨w.heap.size,0,none⟩=some (ς al h.log.length cl)/\w7.cell? ⟨w.heap.size,1,none⟩=some (ι h.aG)/\w7.cell? ⟨w.heap.size,2,none⟩=some (ι (h.next+1))/\w7.cell? ⟨w.heap.size,3,none⟩=some (ς a6 (h.opn.length+1) c6)/\w7.cell? ⟨w.heap.size+2,0,none⟩=some (ι dd)/\w7.cell? ⟨w.heap.size+2,1,none⟩=some (ς ap P.length cp)/\w7.cell? ⟨w.heap.size+2,2,none⟩=some (.bool false)/\w7.cell? ⟨w.heap.size+2,3,none⟩=some (ς none 0 0)):=η (by obtain⟨k0,k1,k2,k3,k4,k5,k6,k7⟩:=Uh.o _ jc.o;exact⟨aP k0 kE.o (by show w.heap.size≠_;omega),aP k1 kE.o (by show w.heap.size≠_;omega),aP k2 kE.o (by show w.heap.size≠_;omega),aP k3 kE.o (by show w.heap.size≠_;omega),aP k4 kE.o (by show w.heap.size+2≠_;omega),aP k5 kE.o (by show w.heap.size+2≠_;omega),aP k6 kE.o (by show w.heap.size+2≠_;omega),aP k7 kE.o (by show w.heap.size+2≠_;omega)⟩);refine HK.o _ _ ⟨fun _=>Jt.o,?_⟩;clear HK K;try simp only [aK]
   refine bO 4 κ rfl ?_;intro K HK;try simp only [aV]
   go_simp;refine HK.o _ _ ⟨fun _=>Jt.o,?_⟩;clear HK K;try simp only [aK]
   refine bO 5 κ rfl ?_;intro K HK;try simp only [aV]
   go_simp;refine HK.o _ _ ⟨fun h=>absurd rfl h,?_⟩;clear HK K;try simp only [aK]
   refine aO κ ?_;obtain⟨p0,p1,p2,p3⟩:=cells4 WU.o;go_wp2;refine bodyPost_ret (v:=.tuple #[.agg #[ς al h.log.length cl,ι h.aG,ι (h.next+1),ς a6 (h.opn.length+1) c6],ς a10 qa.length c10,ι 0]) (by simp [results,Tryz.results50,go_sem,p0,p1,p2,p3]) rfl ?_;have G7:=(G9.o.trans jc.o).grown kE.o (fun q hq=>by simp at hq;omega);rw [F5.o,HE2.o,IX.o];refine⟨_,_,rfl,⟨_,rfl,_,_,rfl,IU.o.mono (dM HC.o),nG.o.1,OY.o,?_⟩,?_,G7⟩
   ·have h9:=(iF.o.grow jc.o).kept kE.o (bJ (iF.o.grow jc.o) (τ HZ3.o))
    have h8:=aI.slc (d:=ov c w w7) ε h9 (dM HC.o) fun a ha=>bH (τ HZ3.o);have e8:qV h P=⟨dd,P,false,[]⟩:=by unfold qV;rw [<-UK.o]
    rw [e8];exact h8
   ·rw [show qV h P=⟨dd,P,false,[]⟩ by unfold qV;rw [<-UK.o],vR.o]
    refine aI.slc (d:=ov c w w7) ε (uz.o.kept kE.o (bJ uz.o (by have:=(γ Rl.o);have:=WT.o;omega))) (fun a v e=>?_) fun a ha=>bH (by have:=(γ Rl.o);have:=WT.o;omega);unfold fr at e;split at e
    ·cases e
    ·rename_i hn
     have h1:¬a.block<we.heap.size:=fun hx=>hn (.inl hx);have:=(γ Rl.o);have:=WT.o;rw [bH δ];exact aP e kE.o δ
 ·intro K HK
  try simp only [aV]
  go_simp;refine HK.o _ _ ⟨fun _=>HS.o _ (GD.alloc _),?_⟩;clear HK K;try simp only [aK]
  refine bO 0 κ rfl ?_;intro K HK;try simp only [aV]
  go_simp;refine HK.o _ _ ⟨fun _=>HS.o _ ((GD.alloc _).alloc _),?_⟩;clear HK K;try simp only [aK]
  refine bO 3 κ rfl ?_;intro K HK;refine aC rfl ?_;try simp only [aV]
  refine dD (l:=[]) (m:=h.opn) (v:=ς (some ⟨wd.heap.size+1,0,none⟩) 0 0) h_ rfl fZ ε (.tmp 26) (.tmp 28) rfl rfl ((aI.jw Ty.opn c _ EO.heap.size _ (φ ZD.o) σ)) rfl (zJ.o _ ((GD.alloc _).alloc _)) (by have:=Js.o;simp;omega) ((GD.alloc _).alloc _).size ?_;intro a3 c3 q3 ho3 hg3 hb3;try simp only [iO,List.nil_append] at ho3
  try simp only [iO] at hb3
  try simp only [iO]
  have G3:=bn (w0:=EO) ((GD.alloc _).alloc _) hg3 (d_ (φ ZD.o));have B3:=η (dW (B:=EO.heap.size) ((GD.alloc _).alloc _).size hb3 (d_ (φ ZD.o)));have nC:=η ho3;have oq:=η hg3;clear ho3 hg3 hb3;refine HK.o _ _ ⟨fun _=>HS.o _ G3,?_⟩;clear HK K;try simp only [aK]
  refine bO 6 κ rfl ?_;intro K HK;refine aC rfl ?_;try simp only [aV]
  refine dD (l:=h.opn) (m:=[⟨dd,P,false,[]⟩]) (v:=ς a3 (h.opn.length) c3) h_ rfl fZ ε (.tmp 29) (.tmp 31) rfl rfl (nC.o) rfl ((((Src.bQ (T:=Ty.opn) (x:=⟨dd,P,false,[]⟩) (c:=c) (cs:=#[ι dd,ς ap P.length cp,.bool false,()]) MM.o _ _ σ)).grow ((Grow.refl _).alloc _)).kept oq.o (by simp [Value.ownBlock])) (by have:=Js.o;simp;omega) G3.size ?_;intro a6 c6 q6 tX zU hb6;try simp only [iO] at tX
  try simp only [iO] at hb6
  try simp only [iO]
  have G6:=bn (w0:=EO) G3 zU B3.o;have B6:=η (dW (B:=EO.heap.size) G3.size hb6 B3.o);have Bl:=η tX;have QD:=η zU;clear tX zU hb6;refine HK.o _ _ ⟨fun _=>HS.o _ G6,?_⟩;clear HK K;try simp only [aK]
  refine bO 7 κ rfl ?_;intro K HK;try simp only [aV]
  go_simp;refine HK.o _ _ ⟨fun _=>HS.o _ G6,?_⟩;clear HK K;try simp only [aK]
  refine bO 8 κ rfl ?_;intro K HK;refine aC rfl ?_;try simp only [aV]
  refine aU (.tmp 33) (.tmp 32) (v:=ς a6 (h.opn.length+1) c6) (new:=#[ς al h.log.length cl,ι h.aG,ι h.next,ς a6 (h.opn.length+1) c6]) rfl rfl ρ ρ (aj R13.o G6) eH σ ρ ρ ?_;intro w8 r8 g8;have OZ:=η r8;have oU:=η g8;have qX:=η (Bl.o.kept g8 (bJ Bl.o (τ HZ3.o)));have WS:=η G6;clear r8 g8;refine HK.o _ _ ⟨fun h=>absurd rfl h,?_⟩;clear HK K;try simp only [aK]
  refine aO κ ?_;go_upto_region 5 with fail
  have G8:=η ((Ah.o.trans WS.o).grown oU.o (fun q hq=>by simp at hq;omega));have F6:=η (aH (aj ME.o WS.o) oU.o (by intro e;have:=Option.some.inj e;omega));have NY:=η (aH (aj R7.o WS.o) oU.o (by intro e;have:=Option.some.inj e;omega));obtain⟨c0,c1,c2,c3⟩:=cells4 OZ.o;have z8:w.heap.size<w8:=(γ OZ.o);go_wp2_with (first|(refine aN rfl (.tmp 37) (.tmp 36) (v:=ι (h.next+1)) (new:=#[ς al h.log.length cl,ι h.aG,ι (h.next+1),ς a6 (h.opn.length+1) c6]) rfl rfl ρ ρ OZ.o oQ σ ρ ρ ?_))
  intro w9 r9 g9;have R9:=η r9;have G9:=η (G8.o.grown g9 (fun q hq=>by simp at hq;omega));have C_:=η (aH F6.o g9 (by intro e;have:=Option.some.inj e;omega));have Rl:=η (aH NY.o g9 (by intro e;have:=Option.some.inj e;omega));have iF:=η (qX.o.kept g9 (bJ qX.o (τ HZ3.o)));clear r9 g9 c0 c1 c2 c3;have HAS:=η (fun(W:World) (hW:Grow w9 W)=>qc (v:=.agg #[ι dd,ς ap P.length cp,.bool false,()]) (o:=⟨dd,P,false,[]⟩) W ⟨_,rfl,_,_,rfl,WR.o,E7.o.mono (HC.o.trans (G9.o.trans hW).sub),Sl.nil _ _⟩ (by show P.length*24<=_;omega));have Uh:Hid (∀W,Grow w9 W->W.cell? ⟨w.heap.size,0,none⟩=some (ς al h.log.length cl)/\W.cell? ⟨w.heap.size,1,none⟩=some (ι h.aG)/\W.cell? ⟨w.heap.size,2,none⟩=some (ι (h.next+1))/\W.cell? ⟨w.heap.size,3,none⟩=some (ς a6 (h.opn.length+1) c6)/\W.cell? ⟨w.heap.size+2,0,none⟩=some (ι dd)/\W.cell? ⟨w.heap.size+2,1,none⟩=some (ς ap P.length cp)/\W.cell? ⟨w.heap.size+2,2,none⟩=some (.bool false)/\W.cell? ⟨w.heap.size+2,3,none⟩=some (ς none 0 0)):=fun W hW=>by
   obtain⟨k0,k1,k2,k3⟩:=cells4 (aj R9.o hW);obtain⟨j0,j1,j2,j3⟩:=cells4 (aj Rl.o hW);exact⟨k0,k1,k2,k3,j0,j1,j2,j3⟩
  go_upto_region 6 with fail
  refine bf (fun w'=>w'.cell? ⟨w.heap.size,0,none⟩=some (ς al h.log.length cl)/\w'.cell? ⟨w.heap.size,1,none⟩=some (ι h.aG)/\w'.cell? ⟨w.heap.size,2,none⟩=some (ι (h.next+1))/\w'.cell? ⟨w.heap.size,3,none⟩=some (ς a6 (h.opn.length+1) c6)/\w'.cell? ⟨w.heap.size+2,0,none⟩=some (ι dd)/\w'.cell? ⟨w.heap.size+2,1,none⟩=some (ς ap P.length cp)/\w'.cell? ⟨w.heap.size+2,2,none⟩=some (.bool false)/\w'.cell? ⟨w.heap.size+2,3,none⟩=some (ς none 0 0)) 5 κ ?_;obtain⟨we,hWd⟩:∃x:World,x=w9.drew:=⟨_,rfl⟩;rw [<-hWd];have GE:Grow w9 we:=by rw [hWd];exact(Grow.refl _).drew
  have zD:w9.heap.size=we.heap.size:=by rw [hWd];rfl
  have ZD:=η zD;clear hWd zD;have WT:Hid (w9.heap.size<=we.heap.size):=η GE.size;refine ni [0,1] 8 κ (fun _ _ _ _ _ h=>h) (Uh.o _ GE) ?_;repeat (refine gQ ?_;try simp only [aK])
  refine ny ?_;refine bO 2 κ rfl ?_;intro K HK;try simp only [aV]
  go_simp;go_at_call 90
  refine(HAS.o _ GE).mono ?_;rintro e10 w10 ⟨v10,rfl,kL,iL⟩;obtain⟨a10,c10,rfl⟩:=kL.form;have uz:=η kL;have jc:=η (Grow.trans GE iL);clear kL iL;generalize hqa:gG ⟨dd,P,false,[]⟩=qa at*;have vR:=η hqa;clear hqa;refine HK.o _ _ ⟨fun _=>Uh.o _ jc.o,?_⟩;clear HK K;try simp only [aK]
  refine bO 3 κ rfl ?_;intro K HK;refine aC rfl ?_;try simp only [aV]
  refine wp_store_row (.tmp 4) (.tmp 38) rfl rfl rfl (aj C_.o jc.o) bU rfl rfl ?_;intro w7 r7 g7;have WU:=η r7;have kE:=η g7;clear r7 g7;have Jt:Hid (w7.cell? ⟨w.heap.size,0,none⟩=some (ς al h.log.length cl)/\w7.cell? ⟨w.heap.size,1,none⟩=some (ι h.aG)/\w7.cell? ⟨w.heap.size,2,none⟩=some (ι (h.next+1))/\w7.cell? ⟨w.heap.size,3,none⟩=some (ς a6 (h.opn.length+1) c6)/\w7.cell? ⟨w.heap.size+2,0,none⟩=some (ι dd)/\w7.cell? ⟨w.heap.size+2,1,none⟩=some (ς ap P.length cp)/\w7.cell? ⟨w.heap.size+2,2,none⟩=some (.bool false)/\w7.cell? ⟨w.heap.size+2,3,none⟩=some (ς none 0 0)):=η (by obtain⟨k0,k1,k2,k3,k4,k5,k6,k7⟩:=Uh.o _ jc.o;exact⟨aP k0 kE.o (by show w.heap.size≠_;omega),aP k1 kE.o (by show w.heap.size≠_;omega),aP k2 kE.o (by show w.heap.size≠_;omega),aP k3 kE.o (by show w.heap.size≠_;omega),aP k4 kE.o (by show w.heap.size+2≠_;omega),aP k5 kE.o (by show w.heap.size+2≠_;omega),aP k6 kE.o (by show w.heap.size+2≠_;omega),aP k7 kE.o (by show w.heap.size+2≠_;omega)⟩);refine HK.o _ _ ⟨fun _=>Jt.o,?_⟩;clear HK K;try simp only [aK]
  refine bO 4 κ rfl ?_;intro K HK;try simp only [aV]
  go_simp;refine HK.o _ _ ⟨fun _=>Jt.o,?_⟩;clear HK K;try simp only [aK]
  refine bO 5 κ rfl ?_;intro K HK;try simp only [aV]
  go_simp;refine HK.o _ _ ⟨fun h=>absurd rfl h,?_⟩;clear HK K;try simp only [aK]
  refine aO κ ?_;obtain⟨p0,p1,p2,p3⟩:=cells4 WU.o;go_wp2;refine bodyPost_ret (v:=.tuple #[.agg #[ς al h.log.length cl,ι h.aG,ι (h.next+1),ς a6 (h.opn.length+1) c6],ς a10 qa.length c10,ι 0]) (by simp [results,Tryz.results50,go_sem,p0,p1,p2,p3]) rfl ?_;have G7:=(G9.o.trans jc.o).grown kE.o (fun q hq=>by simp at hq;omega);rw [F5.o,HE2.o,IX.o];refine⟨_,_,rfl,⟨_,rfl,_,_,rfl,IU.o.mono (dM HC.o),nG.o.1,OY.o,?_⟩,?_,G7⟩
  ·have h9:=(iF.o.grow jc.o).kept kE.o (bJ (iF.o.grow jc.o) (τ HZ3.o))
   have h8:=aI.slc (d:=ov c w w7) ε h9 (dM HC.o) fun a ha=>bH (τ HZ3.o);have e8:qV h P=⟨dd,P,false,[]⟩:=by unfold qV;rw [<-UK.o]
   rw [e8];exact h8
  ·rw [show qV h P=⟨dd,P,false,[]⟩ by unfold qV;rw [<-UK.o],vR.o]
   refine aI.slc (d:=ov c w w7) ε (uz.o.kept kE.o (bJ uz.o (by have:=(γ Rl.o);have:=WT.o;omega))) (fun a v e=>?_) fun a ha=>bH (by have:=(γ Rl.o);have:=WT.o;omega);unfold fr at e;split at e
   ·cases e
   ·rename_i hn
    have h1:¬a.block<we.heap.size:=fun hx=>hn (.inl hx);have:=(γ Rl.o);have:=WT.o;rw [bH δ];exact aP e kE.o δ
def kT:List Value:=[(),ι 0,ι 0,ι 0,ι 0,(),()]
theorem Uk (c:CM):Ty.hs.R c kT hs0:=⟨_,_,_,rfl,Sl.nil _ _,fP,fP,fP,fP,Sl.nil _ _,Sl.nil _ _⟩
theorem BU {n:Nat} (h:1<=n/\n<=3):∃cs:Array Value,(∀w:World,(Instr.makeSlice 30 (ι n) (ι n)).run Tryz.prog w=.ok (ς (some ⟨w.heap.size,0,none⟩) n n) (w.alloc (.cells cs 50)))/\
  ∀(w:World),aI Ty.hs (fun _=>none) (w.alloc (.cells cs 50)) w.heap.size 50 (ς (some ⟨w.heap.size,0,none⟩) n n) (List.replicate n hs0):=by
 have key:∀(m:Nat) (cs:Array Value),m<=3->cs.toList=(List.replicate m hs0).flatMap (fun _=>kT)->∀(w:World),aI Ty.hs (fun _=>none) (w.alloc (.cells cs 50)) w.heap.size 50 (ς (some ⟨w.heap.size,0,none⟩) m m) (List.replicate m hs0):=by
  intro m cs hm hc w;have h1:=World.ownsRow_lit (base:=w.heap.size) (e:=50) (size:=7) w cs m (Nat.le_refl _) (by unfold maxLen;omega) (by rw [<-Array.length_toList,hc,nI (f:=fun _=>kT) (size:=7) (fun _=>rfl)];simp);rw [hc] at h1;exact aI.of_flat (T:=Ty.hs) (f:=fun _=>kT) (c:=fun _=>none) (l:=List.replicate m hs0) (by rw [List.length_replicate];exact h1) (fun x hx=>by
   rw [List.eq_of_mem_replicate hx];exact Uk _)
 obtain⟨h1,h2⟩:=h;match n,h1,h2 with
 |1,_,_=>exact⟨kT.toArray,fun w=>κ,key 1 _ ε rfl⟩
 |2,_,_=>exact⟨(kT++kT).toArray,fun w=>κ,key 2 _ ε rfl⟩
 |3,_,_=>exact⟨(kT++kT++kT).toArray,fun w=>κ,key 3 _ ε rfl⟩
theorem WV:EI Tryz.prog 30 50 7 104:=EI.mk' (z:=.agg #[(),ι 0,ι 0,ι 0,ι 0,(),()]) κ κ rfl ε rfl
theorem bV:(Tryz.prog.info? 33).map (·.size)=some 6:=by kernel_rfl
theorem EP:(Tryz.prog.info? 30).map (·.size)=some 1:=by kernel_rfl
theorem gK:(Tryz.prog.info? 31).map (·.size)=some 1:=by kernel_rfl
theorem MJ {c:CM} {v vh:Value} {x:AW} {h:Hs} {k:Nat} (w:World) (hc:Sub c w.cell?) (hv:Of Ty.wd c v x) (hh:Of Ty.hs c vh h) (hk:k<x.aA.length) (h3:x.aA.length<=3):
  Calls Tryz.prog 54 #[v,ι k,vh] w fun e w'=>∃v',e=.returned v'/\Of Ty.wd (ov c w w') v' { x with aA:=x.aA.set k h }/\Grow w w':=by
 obtain⟨al,cl,ao,co,ah,ch,an,cn,rfl⟩:=hv.fE;obtain⟨eU,eX,kG,kH,o_,pq,rfl⟩:=hh.dF;obtain⟨q1,q2,q3⟩:=hv.eu;have uw:=η q1;have uD:=η q2;have xQ:=η q3;have HHR:Hid (Ty.hs.R c [ς eU h.log.length eX,ι h.sums.a,ι h.sums.b,ι h.sums.c,ι h.sums.d,ς kG h.ready.length kH,ς o_ h.done.length pq] h):=η (by obtain⟨cs,he,hr⟩:=hh;cases he;exact hr);have HC:=η hc;clear hv hh q1 q2 q3 hc;obtain⟨wa,cO⟩:∃y:World,y=w.alloc (.cells #[ς al x.head.log.length cl,ι x.head.aG,ι x.head.next,ς ao x.head.opn.length co,ς ah x.aA.length ch,ς an x.net.length cn] 33):=⟨_,rfl⟩;obtain⟨wb,hwb⟩:∃y:World,y=wa.alloc (.cells #[ς eU h.log.length eX,ι h.sums.a,ι h.sums.b,ι h.sums.c,ι h.sums.d,ς kG h.ready.length kH,ς o_ h.done.length pq] 50):=⟨_,rfl⟩;obtain⟨wz,hwz⟩:∃y:World,y=wb.alloc (.cells #[(),ι 0,ι 0,(),(),()] 33):=⟨_,rfl⟩;have hsa:wa.heap.size=w.heap.size+1:=by rw [cO];simp
 have hsb:wb.heap.size=w.heap.size+2:=by rw [hwb];simp [hsa]
 have R3:Hid (wz.heap[w.heap.size]? =some (.cells #[ς al x.head.log.length cl,ι x.head.aG,ι x.head.next,ς ao x.head.opn.length co,ς ah x.aA.length ch,ς an x.net.length cn] 33 (0,0))):=η (by rw [hwz,hwb,cO];exact aB (aB (aF _ _) _) _);have R5:Hid (wz.heap[w.heap.size+1]? =some (.cells #[ς eU h.log.length eX,ι h.sums.a,ι h.sums.b,ι h.sums.c,ι h.sums.d,ς kG h.ready.length kH,ς o_ h.done.length pq] 50 (0,0))):=η (by rw [hwz,hwb,<-hsa];exact aB (aF _ _) _);have R6:Hid (wz.heap[w.heap.size+2]? =some (.cells #[(),ι 0,ι 0,(),(),()] 33 (0,0))):=η (by rw [hwz,<-hsb];exact aF _ _);have G1:Hid (Grow w wz):=η (by rw [hwz,hwb,cO];exact(((Grow.refl w).alloc _).alloc _).alloc _);have HZ:Hid (wz.heap.size=w.heap.size+3):=η (by rw [hwz];simp [hsb]);go_enter Tryz.func54,Tryz.ntmps54;go_upto_region 1 with fail
 rw [<-cO];try rw [hsa]
 rw [<-hwb];try rw [hsb]
 rw [<-hwz];clear cO hwb hwz hsa hsb;obtain⟨c0,c1,c2,c3,c4,c5⟩:=aJ R3.o;have z1:w.heap.size<wz:=(γ R3.o);go_wp2_with (first|(at_builtin;refine aZ (c:=c) (base:=w.heap.size+3) (l:=[]) (m:=x.aA) (v:=ς (some ⟨wz.heap.size,0,none⟩) 0 0) WV rfl IC ε rfl (.tmp 7) (.tmp 9) rfl rfl (aI.jw Ty.hs _ _ _ _ ?c1 ?c1') rfl ?src ?c3 ?c4 ?_))
 case c1=>rw [HZ.o];exact Nat.le_refl _
 case c1'=>rfl
 case src=>exact Src.iK ε (HC.o.trans (G1.o.alloc _).sub) uD.o
 case c3=>(try simp);omega
 case c4=>have:=HZ.o;(try simp);omega
 intro a8 c8 w8 kV rX hb8;try simp only [List.length_nil,Nat.zero_add,List.nil_append] at kV
 try simp only [List.length_nil,Nat.zero_add]
 have qX:=η kV;have G8:=η (bn (w0:=wz) ((Grow.refl wz).alloc _) rX (d_ (Nat.le_refl _)));have Zn:=η (aj R3.o G8.o);have R58:=η (aj R5.o G8.o);have R68:=η (aj R6.o G8.o);clear kV rX hb8 c0 c1 c2 c3 c4 c5 z1;go_wp2_with (first|(refine aN rfl (.tmp 11) (.tmp 10) (v:=ς a8 x.aA.length c8) (new:=#[ς al x.head.log.length cl,ι x.head.aG,ι x.head.next,ς ao x.head.opn.length co,ς a8 x.aA.length c8,ς an x.net.length cn]) rfl rfl ρ ρ Zn.o EP σ ρ ρ ?_))
 intro w9 r9 g9;have gR:=η r9;have G9:=η ((G1.o.trans G8.o).grown g9 (fun q hq=>by simp at hq;omega));have R59:=η (aH R58.o g9 (by intro e;have:=Option.some.inj e;omega));have MT:=η (aH R68.o g9 (by intro e;have:=Option.some.inj e;omega));have iF:=η (qX.o.kept g9 (bJ qX.o δ));clear r9 g9;obtain⟨g,-,rfl,-,-⟩:=iF.o.get ε k hk;obtain⟨c0,c1,c2,c3,c4,c5⟩:=aJ gR.o;obtain⟨d0,d1,d2,d3,d4,d5,d6⟩:=aT R59.o;have z1:w.heap.size<w9:=(γ gR.o);have z2:w.heap.size+1<w9:=(γ R59.o);have hkc:(k:Int)<(x.aA.length:Int):=by omega
 go_wp2_with (first|(refine CB (T:=Ty.hs) (c:=c) (base:=w.heap.size+3) (i:=k) (l:=x.aA) (x:=h) (cells:=#[ς eU h.log.length eX,ι h.sums.a,ι h.sums.b,ι h.sums.c,ι h.sums.d,ς kG h.ready.length kH,ς o_ h.done.length pq]) rfl (.tmp 16) (.tmp 15) rfl rfl ρ ?ps iF.o hk dL HHR.o rfl ?_))
 case ps=>first|rfl|(simp [Ty.hs];done)|(show _=k*7;omega)
 intro w10 kL g10;have hgl:=(iF.o.lt g rfl).1;have v_:=η (aH gR.o g10 (by intro e;have:=Option.some.inj e;omega));have MU:=η (aH MT.o g10 (by intro e;have:=Option.some.inj e;omega));have uz:=η kL;have jc:=η (G9.o.grown g10 (fun q hq=>by simp at hq;omega));clear kL g10 c0 c1 c2 c3 c4 c5 d0 d1 d2 d3 d4 d5 d6 z1 z2;obtain⟨c0,c1,c2,c3,c4,c5⟩:=aJ v_.o;have z1:w.heap.size<w10:=(γ v_.o);go_wp2_with (first|(refine wpList_store_row rfl (.tmp 6) (.tmp 17) rfl rfl rfl MU.o bV rfl rfl ?_))
 intro w7 r7 g7;obtain⟨p0,p1,p2,p3,p4,p5⟩:=aJ r7;clear c0 c1 c2 c3 c4 c5;go_wp2;refine bodyPost_ret (v:=.agg #[ς al x.head.log.length cl,ι x.head.aG,ι x.head.next,ς ao x.head.opn.length co,ς (some ⟨g,0,none⟩) x.aA.length c8,ς an x.net.length cn]) (by simp [results,Tryz.results54,go_sem,p0,p1,p2,p3,p4,p5]) rfl ?_;have G7:=jc.o.grown g7 (fun q hq=>by simp at hq;omega);refine⟨_,rfl,Of.ku (uw.o.mono (dM HC.o)) ?_ (xQ.o.mono (dM HC.o)),G7⟩;have h9:=aI.slc (d:=ov c w w7) ε (uz.o.kept g7 (.inr (by simp [Value.ownBlock];omega))) (dM HC.o) fun a ha=>bH δ;exact h9
theorem vC {c:CM} (w:World) {b:Nat} (hb:b<=w.heap.size):aI Ty.rc c (w.alloc (.cells #[ι 4,ι 0,()] 79)) b 79 (ς (some ⟨w.heap.size,0,none⟩) 1 1) [⟨4,0,[]⟩]:=
 ⟨[[ι 4,ι 0,()]],World.ownsRow_lit w #[ι 4,ι 0,()] 1 hb ε rfl,rfl,fun i cs x a b=>by
  match i with
  |0=>
   simp only [List.getElem?_cons_zero,Option.some.injEq] at a b;subst a;subst b;exact⟨_,rfl,(show I64 4 by unfold I64;decide),fP,Sl.nil _ _⟩
  |i+1=>simp at a⟩
def nc (c:CM) (w W:World) (X:List (Option Nat)):CM:=fun a=>if some a.block∈X then none else ov c w W a
theorem XB (c:CM) (w W:World) (X:List (Option Nat)):Sub (nc c w W X) (ov c w W):=fun a v e=>by
 unfold nc at e;split at e
 ·cases e
 ·exact e
theorem kI {c:CM} {w W:World} (hc:Sub c w.cell?) (hg:Grow w W) (X:List (Option Nat)):Sub (nc c w W X) W.cell?:=(XB c w W X).trans (sJ hc hg)
theorem kO {c:CM} {w:World} (hc:Sub c w.cell?) {W:World} {X:List (Option Nat)} (hX:∀k,some k∈X->w.heap.size<=k):Sub c (nc c w W X):=fun a v e=>by
 have hl:=World.block_lt_of_cell? w a (hc _ _ e);unfold nc;rw [if_neg (fun h=>by have:=hX _ h;omega)];exact dM hc _ _ e
theorem ZB {c:CM} {w W W':World} {X:List (Option Nat)} (h:Grow W W'):Sub (nc c w W X) (nc c w W' X):=fun a v e=>by
 unfold nc at e ⊢;split at e
 ·cases e
 ·rename_i hn
  rw [if_neg hn];exact sK (Sub.refl _) h a v e
theorem XC {c:CM} {w W W':World} {v v':Value} (_:∀k,v.ownBlock=some k->w.heap.size<=k) (hg:W.grownBy W' v.ownBlock) (hw:w.heap.size<=W.heap.size) (hb:v'.ownBlock=v.ownBlock∨∃g,v'.ownBlock=some g/\W.heap.size<=g):Sub (nc c w W [v.ownBlock]) (nc c w W' [v'.ownBlock]):=fun a u e=>by
 unfold nc at e ⊢;split at e
 ·cases e
 ·rename_i hn
  simp only [List.mem_singleton] at hn;unfold ov at e ⊢;by_cases hl:a.block<w.heap.size
  ·rw [if_pos hl] at e
   rw [if_pos hl,if_neg]
   ·exact e
   ·simp only [List.mem_singleton]
    intro e2;rcases hb with hb|⟨g,hb,hge⟩
    ·rw [hb] at e2;exact hn e2
    ·rw [hb] at e2;have:=Option.some.inj e2;omega
  ·rw [if_neg hl] at e
   rw [if_neg hl];have hlt:=World.block_lt_of_cell? W a e;rw [if_neg,World.cell?_of_block (hg.block a.block hlt hn)]
   ·exact e
   ·simp only [List.mem_singleton]
    intro e2;rcases hb with hb|⟨g,hb,hge⟩
    ·rw [hb] at e2;exact hn e2
    ·rw [hb] at e2;have:=Option.some.inj e2;omega
theorem zE {c:CM} {w W:World} {X:List (Option Nat)}:Sub (fr w W X) (nc c w W X):=fun a v e=>by
 unfold fr at e;split at e
 ·cases e
 ·rename_i hn
  unfold nc;rw [if_neg (fun h=>hn (.inr h)),bH (by have:¬a.block<w.heap.size:=fun h=>hn (.inl h);omega)];exact e
theorem jJ {c:CM} {v vm:Value} {l:List (List UInt8)} {ms:List Ms} (w:World) (hc:Sub c w.cell?) (hv:uH c v l) (hms:nL w.cell? vm ms) (hr:∀m∈ms,aQ m=0) (hm:l.length*24+1000<=140737488355328):
  Calls Tryz.prog 51 #[v,vm] w fun e w'=>∃v',e=.returned v'/\uH (ov c w w') v' (gX l ms)/\Grow w w':=by
 have HR:=η hr;have HV:=η hv;have HC:=η hc;obtain⟨av,cv,rfl,-⟩:=id hv;obtain⟨am,cm,rfl,h1,h2,-,hel⟩:=hms;unfold maxLen at h2;clear hv hr hc;go_enter Tryz.func51,Tryz.ntmps51;go_wp2_with (first|(at_builtin;refine aZ (c:=nc c w (w.alloc (.cells #[] 97)) [(Value.slice (some ⟨w.heap.size,0,none⟩) 0 0).ownBlock]) (base:=w.heap.size) (l:=[]) (m:=l) jU rfl (iZ Ty.byte) ε rfl (.tmp 6) (.tmp 7) rfl rfl (aI.jw Ty.bs _ _ _ _ ?c1 ?c1') rfl ?src ?c3 ?c4 ?_))
 case c1=>exact Nat.le_refl _
 case c1'=>rfl
 case src=>
  have hS:=kO (c:=c) HC.o (W:=w.alloc (.cells #[] 97)) (X:=[(Value.slice (some ⟨w.heap.size,0,none⟩) 0 0).ownBlock]) (fun k hk=>by simp [Value.ownBlock] at hk;omega);exact Src.iK ε (kI HC.o ((Grow.refl _).alloc _) _) (HV.o.mono hS)
 case c3=>simp;omega
 case c4=>simp
 intro a4 c4 w4 pO hg4 hb4;have FB:Hid (aI Ty.bs (nc c w w4 [(Value.slice a4 l.length c4).ownBlock]) w4 w.heap.size 97 (ς a4 l.length c4) l):=η (by
  have hb5:(Value.slice a4 l.length c4).ownBlock=(Value.slice (some ⟨w.heap.size,0,none⟩) 0 0).ownBlock∨∃g,(Value.slice a4 l.length c4).ownBlock=some g/\(w.alloc (.cells #[] 97)).heap.size<=g:=by
   rcases hb4 with e|⟨g,e,hge⟩
   ·exact .inl (by simpa using e)
   ·exact .inr ⟨g,by simpa using e,by simpa using hge⟩
  have h9:=aI.mono (XC (d_ (Nat.le_refl _)) hg4 σ hb5) (by simpa using pO);exact h9)
 have G4:=η (bn (w0:=w) ((Grow.refl w).alloc _) hg4 (d_ (Nat.le_refl _)));try simp only [List.length_nil,Nat.zero_add]
 clear pO hg4 hb4;go_wp2;go_loopw [0,5] (fun bv i wr=>∃k:Nat,k<=ms.length/\i=ι k/\Grow w wr/\aI Ty.bs (nc c w wr [bv.ownBlock]) wr w.heap.size 97 bv (gX l (ms.take k))) (fun _ i _=>ms.length - (intOf i).toNat)
 case atStart=>exact⟨0,δ,rfl,G4.o,by rw [List.take_zero,Hg];exact FB.o⟩
 case round=>
  obtain⟨k,hk',rfl,hb,hown⟩:=hrel;obtain⟨av,cv,rfl⟩:=hown.form;by_cases hlt:k<ms.length
  ·by_cases Yf:(gX l (ms.take k)).length<24
   ·obtain⟨b,o,vp,rfl,c0,c1,c2,c3,i0,i1,i2,hP⟩:=nL.at_ hel k hlt
    obtain⟨ap,cp,rfl,-⟩:=id hP;replace c0:=hb.sub _ _ c0;replace c1:=hb.sub _ _ c1;replace c2:=hb.sub _ _ c2;replace c3:=hb.sub _ _ c3;have hw:=HR.o ms[k] (List.getElem_mem _);have HST:=η (En (l:=l) hlt);have J0:=η (fun(W:World) (hW:Grow wr W)=>TW (m:=ms[k]) W ⟨_,rfl,_,rfl,i0,i1,i2,hP.mono (hb.trans hW).sub⟩ (Em hw) (Hf hw));have HOWN:=η hown;have HB:=η hb;clear hel hP hw hown i0 i1 i2 hb;generalize ms[k]=m at*;generalize gX l (ms.take k)=lk at*;have wY:=η (show gX l (ms.take (k+1))=lk++ [aS m] by rw [HST.o,if_pos Yf]);clear HST;go_wp2_with fail
    refine(J0.o _ (Grow.refl _)).mono ?_;rintro e w2 ⟨v2,rfl,ho2,hb2⟩;obtain⟨a2,cap2,rfl⟩:=aY ho2;have ql:=η ho2;have HB2:=η hb2;clear ho2 hb2;generalize aS m=r at*;go_wp2_with (first|(at_builtin;refine aZ (c:=nc c w (w2.alloc (.cells #[ς a2 r.length cap2] 97)) [(Value.slice av lk.length cv).ownBlock]) (base:=w.heap.size) (l:=lk) (m:=[r]) jU rfl (iZ Ty.byte) ε rfl (.tmp 20) (.tmp 26) rfl rfl ?own rfl (Src.bQ (T:=Ty.bs) (x:=r) (cs:=#[ς a2 r.length cap2]) ?d0 _ _ ?d1) ?d2 ?d3 ?_))
    case own=>exact(HOWN.o.mono (ZB (HB2.o.alloc _))).grow (HB2.o.alloc _)
    case d0=>
     refine⟨_,rfl,?_⟩;have hlt2:=HOWN.o.lt;refine Sl.mono zE (Ja (w1:=wr) ?_ HB.o.size ?_)
     ·exact g_ ql.o ((Grow.refl _).alloc _)
     ·intro q hq
      simp only [List.mem_singleton];intro e;have:=(hlt2 q e.symm).2;omega
    case d1=>simp
    case d2=>simp;omega
    case d3=>have:=(HB2.o.alloc (.cells #[ς a2 r.length cap2] 97)).size;have:=HB.o.size;omega
    intro a5 c5 w5 hown5 hg5 hb5;have QG:Grow w w5:=bn (w0:=w) (HB.o.trans (HB2.o.alloc _)) hg5 (fun q hq=>(HOWN.o.lt q hq).1);have l9:=η (hown5.mono (XC (fun q hq=>(HOWN.o.lt q hq).1) hg5 (by have:=HB.o.size;have:=(HB2.o.alloc (.cells #[ς a2 r.length cap2] 97)).size;omega) (hb5.imp_right fun⟨g,e,hge⟩=>⟨g,e,by simpa using hge⟩)));have rG:=η QG;clear hown5 hg5 hb5 QG;go_wp2;go_roundw
    case rel=>exact⟨k+1,δ,by go_num,rG.o,by rw [wY.o];exact l9.o⟩
    case measure=>simp [intOf];omega
   ·have HF:=η (OU (l:=l) (ms:=ms) (k:=k) δ)
    clear hel;have HOWN:=η hown;have HB:=η hb;clear hown hb;go_wp2;go_ret;exact⟨_,rfl,by rw [HF.o];exact HOWN.o.slc ε (XB _ _ _ _) (fun a ha=>bH ha),HB.o⟩
  ·clear hel
   have HOWN:=η hown;have HB:=η hb;have HF:Hid (gX l (ms.take k)=gX l ms):=η (by rw [List.take_of_length_le δ]);clear hown hb;go_wp2;go_ret;exact⟨_,rfl,by rw [<-HF.o];exact HOWN.o.slc ε (XB _ _ _ _) (fun a ha=>bH ha),HB.o⟩
def fc (c:CM) (W0 w:World) (X:List (Option Nat)):CM:=fun a=>if a.block<W0.heap.size then c a else fr W0 w X a
theorem jQ {c:CM} {W0 w:World} {X:List (Option Nat)} (h:Sub c W0.cell?):Sub c (fc c W0 w X):=fun a v e=>by
 unfold fc;rw [if_pos (World.block_lt_of_cell? W0 a (h _ _ e))];exact e
theorem Pq {c:CM} {W0 w:World} {X:List (Option Nat)} {a:Addr} (h:W0.heap.size<=a.block) (hx:some a.block∉X):fc c W0 w X a=w.cell? a:=by
 unfold fc;rw [if_neg δ,gy h hx]
theorem Jy {c:CM} {W0 w w':World} {X X':List (Option Nat)} (h:∀k,k<w.heap.size->W0.heap.size<=k->some k∉X->w'.heap[k]? =w.heap[k]?/\some k∉X'):Sub (fc c W0 w X) (fc c W0 w' X'):=fun a v e=>by
 unfold fc at e ⊢;split at e
 ·rw [if_pos ‹_›];exact e
 ·rw [if_neg ‹_›];exact gZ h a v e
theorem qM {c:CM} {W0 w w':World} {X:List (Option Nat)} (h:Grow w w'):Sub (fc c W0 w X) (fc c W0 w' X):=Jy fun k hk _ hx=>⟨h.block k hk,hx⟩
theorem Xi {c:CM} {W0 w w':World} {v v':Value} (hg:w.grownBy w' v.ownBlock) (hb:v'.ownBlock=v.ownBlock∨∃g,v'.ownBlock=some g/\w.heap.size<=g):Sub (fc c W0 w [v.ownBlock]) (fc c W0 w' [v'.ownBlock]):=
 Jy fun k hk _ hx=>by
  simp only [List.mem_singleton] at hx;refine⟨hg.block k hk hx,?_⟩;simp only [List.mem_singleton];intro e;rcases hb with hb|⟨g,hb,hge⟩
  ·exact hx (e.trans hb)
  ·have:=Option.some.inj (e.trans hb)
   omega
theorem Ap {c:CM} {W0 w w':World} {B:Nat} {X:List (Option Nat)} (hg:w.grownBy w' (some B)) (hB:B<W0.heap.size):Sub (fc c W0 w X) (fc c W0 w' X):=
 Jy fun k hk h0 hx=>⟨hg.block k hk (fun e=>by have:=Option.some.inj e;omega),hx⟩
theorem Pv {c:CM} {w W0 W w':World} {B:Nat} {X:List (Option Nat)} (hc:Sub c w.cell?) (h0:Grow w W0) (hg:W.grownBy w' (some B)) (hB:B<W0.heap.size):Sub (fc c W0 W X) (ov c w w'):=fun a v e=>by
 have e2:=Ap hg hB a v e;have hs:=h0.size;unfold fc at e2;unfold ov;split at e2
 ·rw [if_pos (World.block_lt_of_cell? w a (hc _ _ e2))];exact e2
 ·rw [if_neg δ];exact fF _ _ _ _ _ e2
theorem Ib (m:Ms):∀(l:List Opn) (s:NW),(s.known=false->s.recs=[]/\s.says=[])->(l.foldl (dQ m) s).known=false->(l.foldl (dQ m) s).recs=[]/\(l.foldl (dQ m) s).says=[]
 | [],s,h=>h
 |o::l,s,h=>by
  rw [List.foldl_cons];refine Ib m l _ fun hk=>?_;unfold dQ at hk ⊢;split at hk
  ·cases hk
  ·rename_i hn
   rw [if_neg hn];exact h hk
theorem Rn (m:Ms):∀(l:List Opn) (s:NW),s.recs.length<=1->(l.foldl (dQ m) s).recs.length<=1
 | [],s,h=>h
 |o::l,s,h=>by
  rw [List.foldl_cons];refine Rn m l _ ?_;unfold dQ;split
  ·show(dJ o m).2.1.length<=1
   unfold dJ;split
   ·split<;>simp
   ·split
    ·simp
    ·split
     ·split<;>simp
     ·split<;>simp
  ·exact h
theorem MQ {m:Ms} {s:NW} {o:Opn} (h:¬(o.deed=m.deed/\s.known=false)):dQ m s o={ s with opn:=s.opn++ [o] }:=by unfold dQ;rw [if_neg h]
theorem hJ {m:Ms} {s:NW} {o:Opn} (h1:o.deed=m.deed) (h2:s.known=false):dQ m s o=⟨s.opn++(dJ o m).1,(dJ o m).2.1,(dJ o m).2.2,true⟩:=by unfold dQ;rw [if_pos ⟨h1,h2⟩]
def mG (o:Opn) (m:Ms):Prop:=m.house∈aX o.parts/\m.house∉o.heard
instance (o:Opn) (m:Ms):Decidable (mG o m):=by unfold mG;infer_instance
def rY (o:Opn):Bool:=decide (o.heard.length+1=(aX o.parts).length)
theorem Jz {o:Opn} {m:Ms} (h:m.kind=2/\o.dec=false/\mG o m) (ha:rY o=true):dJ o m=([⟨o.deed,o.parts,true,[]⟩],[⟨5,o.deed,o.parts⟩],gG ⟨o.deed,o.parts,true,[]⟩):=by
 unfold dJ;rw [if_pos ⟨h.1,h.2.1,h.2.2.1,h.2.2.2⟩,if_pos (of_decide_eq_true ha)]
theorem Ul {o:Opn} {m:Ms} (h:m.kind=2/\o.dec=false/\mG o m) (ha:rY o=false):dJ o m=([⟨o.deed,o.parts,false,o.heard++ [m.house]⟩],[],[]):=by
 unfold dJ;rw [if_pos ⟨h.1,h.2.1,h.2.2.1,h.2.2.2⟩,if_neg (of_decide_eq_false ha)];obtain⟨-,h2,-⟩:=h;cases o;cases h2;rfl
theorem Xj {o:Opn} {m:Ms} (h1:¬(m.kind=2/\o.dec=false/\mG o m)) (h:m.kind=3/\o.dec=false):dJ o m=([],[],dG o.deed o.parts):=by
 unfold dJ;rw [if_neg (fun x=>h1 ⟨x.1,x.2.1,x.2.2.1,x.2.2.2⟩),if_pos h]
theorem JA {o:Opn} {m:Ms} (h1:¬(m.kind=2/\o.dec=false/\mG o m)) (h2:¬(m.kind=3/\o.dec=false)) (h:m.kind=6/\o.dec=true/\mG o m) (ha:rY o=true):dJ o m=([],[⟨6,o.deed,[]⟩],[]):=by
 unfold dJ;rw [if_neg (fun x=>h1 ⟨x.1,x.2.1,x.2.2.1,x.2.2.2⟩),if_neg h2,if_pos ⟨h.1,h.2.1,h.2.2.1,h.2.2.2⟩,if_pos (of_decide_eq_true ha)]
theorem Um {o:Opn} {m:Ms} (h1:¬(m.kind=2/\o.dec=false/\mG o m)) (h2:¬(m.kind=3/\o.dec=false)) (h:m.kind=6/\o.dec=true/\mG o m) (ha:rY o=false):dJ o m=([⟨o.deed,o.parts,true,o.heard++ [m.house]⟩],[],[]):=by
 unfold dJ;rw [if_neg (fun x=>h1 ⟨x.1,x.2.1,x.2.2.1,x.2.2.2⟩),if_neg h2,if_pos ⟨h.1,h.2.1,h.2.2.1,h.2.2.2⟩,if_neg (of_decide_eq_false ha)];obtain⟨-,h3,-⟩:=h;cases o;cases h3;rfl
theorem Un {o:Opn} {m:Ms} (h1:¬(m.kind=2/\o.dec=false/\mG o m)) (h2:¬(m.kind=3/\o.dec=false)) (h3:¬(m.kind=6/\o.dec=true/\mG o m)) (h:m.kind=7/\o.dec=true):dJ o m=([o],[],[⟨4,m.deed,m.house,[]⟩]):=by
 unfold dJ;rw [if_neg (fun x=>h1 ⟨x.1,x.2.1,x.2.2.1,x.2.2.2⟩),if_neg h2,if_neg (fun x=>h3 ⟨x.1,x.2.1,x.2.2.1,x.2.2.2⟩),if_pos h]
theorem Px {o:Opn} {m:Ms} (h1:¬(m.kind=2/\o.dec=false/\mG o m)) (h2:¬(m.kind=3/\o.dec=false)) (h3:¬(m.kind=6/\o.dec=true/\mG o m)) (h:¬(m.kind=7/\o.dec=true)):dJ o m=([o],[],[]):=by
 unfold dJ;rw [if_neg (fun x=>h1 ⟨x.1,x.2.1,x.2.2.1,x.2.2.2⟩),if_neg h2,if_neg (fun x=>h3 ⟨x.1,x.2.1,x.2.2.1,x.2.2.2⟩),if_neg h]
structure iJ (c:CM) (w wz wr:World) (h:Hd) (s:NW) (vl vo vs:Value):Prop where
 row:wr.heap[w.heap.size+3]? =some (.cells #[vl,ι h.aG,ι h.next,vo] 29 (0,0))
 log:Sl Ty.rc (fc c wz wr [vo.ownBlock]) vl (h.log++s.recs)
 opn:aI Ty.opn (fc c wz wr [vo.ownBlock]) wr (w.heap.size+4) 58 vo s.opn
 says:Sl Ty.ms (fc c wz wr [vo.ownBlock]) vs s.says
 old:∀k,k<3->wr.heap[w.heap.size+k]? =wz.heap[w.heap.size+k]?
 grow:Grow w wr
 wU:wz.heap.size=w.heap.size+4
theorem iJ.size {c:CM} {w wz wr:World} {h:Hd} {s:NW} {vl vo vs:Value} (b:iJ c w wz wr h s vl vo vs):w.heap.size+4<=wr.heap.size:=by
 have:=(γ b.row);omega
theorem iJ.later {c:CM} {w wz wr W:World} {h:Hd} {s:NW} {vl vo vs:Value} (b:iJ c w wz wr h s vl vo vs) (hg:Grow wr W):iJ c w wz W h s vl vo vs where
 row:=aj b.row hg
 log:=b.log.mono (qM hg)
 opn:=(b.opn.mono (qM hg)).grow hg
 says:=b.says.mono (qM hg)
 old:=fun k hk=>by rw [hg.block _ (τ b.size)];exact b.old k hk
 grow:=b.grow.trans hg
 wU:=b.wU
theorem iJ.Aq {c:CM} {w wz wr W:World} {h:Hd} {so:List Opn} {sr:List Rc} {ss:List Ms} {sk:Bool} {vl vo vs ED:Value} (b:iJ c w wz wr h ⟨so,sr,ss,sk⟩ vl vo vs) (recs:List Rc) (hg:wr.grownBy W (some (w.heap.size+3)))
  (r:W.heap[w.heap.size+3]? =some (.cells #[ED,ι h.aG,ι h.next,vo] 29 (0,0))) (hl:Sl Ty.rc (fc c wz wr [vo.ownBlock]) ED (h.log++recs)):iJ c w wz W h ⟨so,recs,ss,sk⟩ ED vo vs where
 row:=r
 log:=hl.mono (Ap hg (τ b.wU))
 opn:=(b.opn.mono (Ap hg (τ b.wU))).kept hg (bJ b.opn δ)
 says:=b.says.mono (Ap hg (τ b.wU))
 old:=fun k hk=>by rw [hg.block _ (τ b.size) (fun e=>by have:=Option.some.inj e;omega)];exact b.old k hk
 grow:=b.grow.grown hg (fun q e=>by have:=Option.some.inj e;omega)
 wU:=b.wU
theorem iJ.app {c:CM} {w wz wr wl w9 W:World} {h:Hd} {so:List Opn} {sr:List Rc} {ss:List Ms} {sk:Bool} {vl vo vs v9:Value} (b:iJ c w wz wr h ⟨so,sr,ss,sk⟩ vl vo vs) (o:Opn) (hgl:Grow wr wl) (eF:wl.grownBy w9 vo.ownBlock)
  (gI:v9.ownBlock=vo.ownBlock∨∃g,v9.ownBlock=some g/\wl.heap.size<=g) (fB:aI Ty.opn (fc c wz wr [vo.ownBlock]) w9 (w.heap.size+4) 58 v9 (so++ [o])) (hg:w9.grownBy W (some (w.heap.size+3)))
  (r:W.heap[w.heap.size+3]? =some (.cells #[vl,ι h.aG,ι h.next,v9] 29 (0,0))):iJ c w wz W h ⟨so++ [o],sr,ss,sk⟩ vl v9 vs:=by
 have hsz:=b.size;have hz:=b.wU;have hm:Sub (fc c wz wr [vo.ownBlock]) (fc c wz W [v9.ownBlock]):=
  ((qM hgl).trans (Xi eF gI)).trans (Ap hg δ)
 have E9:∀q,vo.ownBlock=some q->w.heap.size+4<=q:=fun q e=>(b.opn.lt q e).1;refine⟨r,b.log.mono hm,(fB.mono hm).kept hg (bJ fB δ),b.says.mono hm,fun k hk=>?_,?_,hz⟩
 ·rw [hg.block _ (by have:=eF.size;have:=hgl.size;omega) (fun e=>by have:=Option.some.inj e;omega),eF.block _ (τ hgl.size) (fun e=>by have:=E9 _ e.symm;omega),hgl.block _ δ]
  exact b.old k hk
 ·exact((b.grow.trans hgl).grown eF (fun q e=>by have:=E9 q e;omega)).grown hg (fun q e=>by have:=Option.some.inj e;omega)
theorem iJ.kW {c:CM} {w wz W:World} {h:Hd} {so:List Opn} {sr:List Rc} {ss ss':List Ms} {sk:Bool} {vl vo vs vs':Value} (b:iJ c w wz W h ⟨so,sr,ss,sk⟩ vl vo vs) (hs:Sl Ty.ms (fc c wz W [vo.ownBlock]) vs' ss'):iJ c w wz W h ⟨so,sr,ss',true⟩ vl vo vs':=
 ⟨b.row,b.log,b.opn,hs,b.old,b.grow,b.wU⟩
theorem iJ.zle {c:CM} {w wz W:World} {h:Hd} {s:NW} {vl vo vs:Value} (b:iJ c w wz W h s vl vo vs):wz.heap.size<=W.heap.size:=by have:=b.wU;have:=b.size;omega
theorem iJ.nx {c:CM} {w wz W:World} {h:Hd} {s:NW} {vl vo vs:Value} (b:iJ c w wz W h s vl vo vs):∀k,W.heap.size<=k->some k∉ [vo.ownBlock]:=fun k hk=>by
 simp only [List.mem_singleton];intro e;have:=(b.opn.lt k e.symm).2;omega
theorem iJ.qN {α:Type} {T:Ty α} (h0:0<T.size) {c d:CM} {w wz W W4:World} {h:Hd} {s:NW} {vl vo vs v:Value} {e:Nat} {l:List α} (b:iJ c w wz W h s vl vo vs) (hd:Sub d (fc c wz W4 [vo.ownBlock])) (h4:aI T d W4 W.heap.size e v l):Sl T (fc c wz W4 [vo.ownBlock]) v l:=
 h4.slc h0 hd fun a ha=>Pq (τ b.zle) (b.nx _ ha)
theorem iJ.Xk {c:CM} {w wz W W4:World} {h:Hd} {s:NW} {vl vo vs:Value} {Y:List (Option Nat)} (b:iJ c w wz W h s vl vo vs):Sub (fr W W4 Y) (fc c wz W4 [vo.ownBlock]):=fun a v e=>by
 unfold fr at e;split at e
 ·cases e
 ·rename_i hn
  have h1:¬a.block<W.heap.size:=fun hx=>hn (.inl hx);rw [Pq (τ b.zle) (b.nx _ δ)];exact e
theorem vV:(Tryz.prog.info? 48).map (·.size)=some 1:=by kernel_rfl
theorem Uo:(Tryz.prog.info? 4).map (·.size)=some 1:=by kernel_rfl
theorem nT:(Tryz.prog.info? 26).map (·.size)=some 1:=by kernel_rfl
def kC:AW->List St->List Int
 |_,[]=>[]
 |w,s::l=>bI w s::kC (iD w s) l
theorem Ic:∀(l:List St) (w:AW),(kC w l).length=l.length
 | [],_=>rfl
 |s::l,w=>by rw [kC,List.length_cons,List.length_cons,Ic l]
theorem EU:∀(l:List St) (w:AW) (s:St),kC w (l++ [s])=kC w l++ [bI (jG w l) s]
 | [],w,s=>rfl
 |t::l,w,s=>by
  rw [List.cons_append,kC,kC,EU l];rfl
theorem Py (l:List St) (w:AW) (s:St):jG w (l++ [s])=iD (jG w l) s:=by unfold jG;rw [List.foldl_append];rfl
theorem Pz {l:List St} {j:Nat} (h:j<l.length) (w:AW):jG w (l.take (j+1))=iD (jG w (l.take j)) l[j]:=by
 rw [List.take_succ_eq_append_getElem h,Py]
theorem PD {l:List St} {j:Nat} (h:j<l.length) (w:AW):kC w (l.take (j+1))=kC w (l.take j)++ [bI (jG w (l.take j)) l[j]]:=by
 rw [List.take_succ_eq_append_getElem h,EU]
theorem Fz (h:Int):∀(l:List Pt) (had:List (Int×Int)),0<=gU h had l/\gU h had l<=5
 | [],had=>by simp [gU]
 |p::l,had=>by
  unfold gU;split
  ·omega
  ·split
   ·omega
   ·exact Fz h l _
theorem X8 (x:AW) (s:St):I64 (bI x s):=by
 have h:0<=bI x s/\bI x s<=9:=by
  unfold bI;split
  ·split
   ·unfold nZ;split<;>omega
   ·unfold bD
    split
    ·omega
    ·have:=Fz x.aA.length s.parts []
     omega
  ·split
   ·split<;>omega
   ·split
    ·split
     ·unfold ou;split<;>omega
     ·split<;>omega
    ·split
     ·split<;>omega
     ·split<;>omega
 exact iW δ δ
theorem JB {w W W':World} {X:List (Option Nat)} (hg:Grow W W') (hs:w.heap.size<=W.heap.size) (hX:∀k,W.heap.size<=k->some k∉X):Sub (ov (fr w W X) W W') (fr w W' X):=fun a v e=>by
 unfold ov at e;split at e
 ·exact dO hg a v e
 ·rw [gy δ (hX _ δ)];exact e
theorem JC {w w9 w7:World} (h7:w9.grownBy w7 (some w.heap.size)):Sub (fr w w9 [some w.heap.size]) (ov (fun _=>none) w w7):=fun a v e=>by
 unfold fr at e;split at e
 ·cases e
 ·rename_i hn
  have h1:¬a.block<w.heap.size:=fun hx=>hn (.inl hx);have h2:a.block≠w.heap.size:=fun hx=>hn (.inr (by rw [hx];simp));rw [bH δ];exact aP e h7 h2
theorem Xl {n:Nat} (w:World) (hn:1<=n/\n<=3):
  Calls Tryz.prog 12 #[ι n] w fun e w'=>∃v',e=.returned (.tuple #[v',ι 0])/\Of Ty.wd (ov (fun _=>none) w w') v' (pI n)/\Grow w w':=by
 obtain⟨cs,hmk,hms⟩:=BU hn;have lM:=η hms;have hn1:¬(n:Int)<1:=by omega
 have hn3:¬(3:Int)<(n:Int):=by omega
 clear hms;obtain⟨wz,hwz⟩:∃y:World,y=w.alloc (.cells #[(),ι 0,ι 0,(),(),()] 33):=⟨_,rfl⟩;have R2:Hid (wz.heap[w.heap.size]? =some (.cells #[(),ι 0,ι 0,(),(),()] 33 (0,0))):=η (by rw [hwz];exact aF _ _);have G1:Hid (Grow w wz):=η (by rw [hwz];exact(Grow.refl w).alloc _);have HZ:Hid (wz.heap.size=w.heap.size+1):=η (by rw [hwz];simp);go_enter Tryz.func12,Tryz.ntmps12;go_upto_region 3 with fail
 rw [<-hwz];clear hwz;have n_:Hid (∀W,Grow wz W->True):=fun _ _=>trivial;refine bf (fun w'=>True) 7 κ ?_;obtain⟨wd,hWd⟩:∃x:World,x=wz.drew:=⟨_,rfl⟩;rw [<-hWd];have GD:Grow wz wd:=by rw [hWd];exact(Grow.refl _).drew
 have zD:wz.heap.size=wd.heap.size:=by rw [hWd];rfl
 have ZD:=η zD;clear hWd zD;refine ni [0,3] 10 κ (fun _ _ _ _ _ h=>h) (n_.o _ GD) ?_;repeat (refine tNm (v:=?_) rfl ρ ?_ ?_;rotate_left;(· (intro w' hSw;(try dsimp only at hSw);go_simp<;>with_reducible rfl));try simp only [aK])
 refine ny ?_;refine bP 1 4 κ rfl rfl ?_ ?_
 ·intro K HK
  try simp only [aV]
  go_simp;obtain⟨y1,hy1⟩:∃y:World,y=wd.alloc (.cells #[ι 4,ι 0,()] 79):=⟨_,rfl⟩;obtain⟨MY,O1⟩:∃y,y=wd.heap.size:=⟨_,rfl⟩;have gS:Hid (Grow wd y1):=η (by rw [hy1];exact(Grow.refl _).alloc _);have CO:=η (Grow.trans (GD) gS.o);have ER:Hid (aI Ty.rc (fun _=>none) y1 (w.heap.size+1) 79 (ς (some ⟨MY,0,none⟩) 1 1) [⟨4,0,[]⟩]):=η (by rw [hy1,O1];exact vC _ (by have:=(GD).size;have:=HZ.o;omega));rw [<-hy1,<-O1];clear hy1 O1;refine HK.o _ _ ⟨fun _=>n_.o _ CO.o,?_⟩;clear HK K;try simp only [aK]
  refine bP 2 4 κ rfl rfl ?_ ?_
  ·intro K HK
   try simp only [aV]
   go_simp;go_at_call 39
   refine(qg (l:=[⟨4,0,[]⟩]) (c:=fr w y1 [some w.heap.size]) y1 (fF _ _ _) (aI.slc (d:=fr w y1 [some w.heap.size]) ε (ER.o) (fun _ _ e=>by cases e) fun a ha=>gy δ (by simp;omega)) ε).mono ?_;rintro e y2 ⟨vh,rfl,hx,O4⟩;obtain⟨eU,eX,kG,kH,rfl⟩:=hx.dS;have gT:Hid (Grow y1 y2):=η (O4);have O7:=η (Grow.trans (CO.o) gT.o);have WW:=η (Of.mono (JB O4 (by have:=(CO.o).size;have:=HZ.o;omega) (fun k9 hk9=>by have:=(CO.o).size;have:=HZ.o;simp;omega)) hx);clear hx O4;generalize ES:bT [⟨4,0,[]⟩]=qh at*;have WX:=η ES;clear ES;refine HK.o _ _ ⟨fun _=>n_.o _ O7.o,?_⟩;clear HK K;try simp only [aK]
   refine bO 4 κ rfl ?_;intro K HK;try simp only [aV]
   have ET:=hmk y2;go_simp;clear ET;obtain⟨y3,hy3⟩:∃y:World,y=y2.alloc (.cells cs 50):=⟨_,rfl⟩;obtain⟨wA,O9⟩:∃y,y=y2.heap.size:=⟨_,rfl⟩;have WY:Hid (Grow y2 y3):=η (by rw [hy3];exact(Grow.refl _).alloc _);have Ju:=η (Grow.trans (O7.o) WY.o);have WZ:=η (Of.mono (dO WY.o) (WW.o));have MK:Hid (aI Ty.hs (fun _=>none) y3 (w.heap.size+1) 50 (ς (some ⟨wA,0,none⟩) n n) (List.replicate n hs0)):=η (by rw [hy3,O9];exact(lM.o _).base (by have:=(O7.o).size;have:=HZ.o;omega));rw [<-hy3,<-O9];clear hy3 O9;refine HK.o _ _ ⟨fun _=>n_.o _ Ju.o,?_⟩;clear HK K;try simp only [aK]
   refine bO 5 κ rfl ?_;intro K HK;try simp only [aV]
   go_simp;refine HK.o _ _ ⟨fun _=>n_.o _ Ju.o,?_⟩;clear HK K;try simp only [aK]
   refine bO 6 κ rfl ?_;intro K HK;refine aC rfl ?_;try simp only [aV]
   refine wp_store_row (.tmp 2) (.tmp 16) rfl rfl rfl (aj R2.o (Ju.o)) bV rfl rfl ?_;intro w7 r7 g7;refine HK.o _ _ ⟨fun _=>trivial,?_⟩;clear HK K;try simp only [aK]
   refine bO 7 κ rfl ?_;intro K HK;try simp only [aV]
   go_simp;refine HK.o _ _ ⟨fun h=>absurd rfl h,?_⟩;clear HK K;try simp only [aK]
   refine aO κ ?_;obtain⟨p0,p1,p2,p3,p4,p5⟩:=aJ r7;go_wp2;refine bodyPost_ret (v:=.tuple #[.agg #[ς eU qh.log.length eX,ι qh.aG,ι qh.next,ς kG qh.opn.length kH,ς (some ⟨wA,0,none⟩) n n,()],ι 0]) (by simp [results,Tryz.results12,go_sem,p0,p1,p2,p3,p4,p5]) rfl ?_;have G7:=(G1.o.trans (Ju.o)).grown g7 (fun q hq=>by simp at hq;omega);refine⟨_,rfl,?_,G7⟩;unfold pI;rw [WX.o];refine Of.ku ((WZ.o).mono (JC g7)) ?_ (Sl.nil _ _);have h9:=aI.slc (T:=Ty.hs) (c:=fun _=>none) (d:=ov (fun _=>none) w w7) ε ((MK.o).kept g7 (bJ (MK.o) δ)) (fun _ _ e=>by cases e) fun a ha=>bH δ;exact h9
  ·intro K HK
   try simp only [aV]
   have ET:=hmk y1;go_simp;clear ET;obtain⟨y4,hy4⟩:∃y:World,y=y1.alloc (.cells cs 50):=⟨_,rfl⟩;obtain⟨wD,O_⟩:∃y,y=y1.heap.size:=⟨_,rfl⟩;have W_:Hid (Grow y1 y4):=η (by rw [hy4];exact(Grow.refl _).alloc _);have ML:=η (Grow.trans (CO.o) W_.o);have Pe:=η (aI.grow (ER.o) W_.o);have Xa:Hid (aI Ty.hs (fun _=>none) y4 (w.heap.size+1) 50 (ς (some ⟨wD,0,none⟩) n n) (List.replicate n hs0)):=η (by rw [hy4,O_];exact(lM.o _).base (by have:=(CO.o).size;have:=HZ.o;omega));rw [<-hy4,<-O_];clear hy4 O_;refine HK.o _ _ ⟨fun _=>n_.o _ ML.o,?_⟩;clear HK K;try simp only [aK]
   refine bO 2 κ rfl ?_;intro K HK;try simp only [aV]
   go_simp;go_at_call 39
   refine(qg (l:=[⟨4,0,[]⟩]) (c:=fr w y4 [some w.heap.size]) y4 (fF _ _ _) (aI.slc (d:=fr w y4 [some w.heap.size]) ε (Pe.o) (fun _ _ e=>by cases e) fun a ha=>gy δ (by simp;omega)) ε).mono ?_;rintro e y5 ⟨vh,rfl,hx,Pg⟩;obtain⟨eU,eX,kG,kH,rfl⟩:=hx.dS;have Xb:Hid (Grow y4 y5):=η (Pg);have Jv:=η (Grow.trans (ML.o) Xb.o);have MN:=η (aI.grow (Xa.o) Xb.o);have Xc:=η (Of.mono (JB Pg (by have:=(ML.o).size;have:=HZ.o;omega) (fun k9 hk9=>by have:=(ML.o).size;have:=HZ.o;simp;omega)) hx);clear hx Pg;generalize ES:bT [⟨4,0,[]⟩]=qh at*;have WX:=η ES;clear ES;refine HK.o _ _ ⟨fun _=>n_.o _ Jv.o,?_⟩;clear HK K;try simp only [aK]
   refine bO 5 κ rfl ?_;intro K HK;try simp only [aV]
   go_simp;refine HK.o _ _ ⟨fun _=>n_.o _ Jv.o,?_⟩;clear HK K;try simp only [aK]
   refine bO 6 κ rfl ?_;intro K HK;refine aC rfl ?_;try simp only [aV]
   refine wp_store_row (.tmp 2) (.tmp 16) rfl rfl rfl (aj R2.o (Jv.o)) bV rfl rfl ?_;intro w7 r7 g7;refine HK.o _ _ ⟨fun _=>trivial,?_⟩;clear HK K;try simp only [aK]
   refine bO 7 κ rfl ?_;intro K HK;try simp only [aV]
   go_simp;refine HK.o _ _ ⟨fun h=>absurd rfl h,?_⟩;clear HK K;try simp only [aK]
   refine aO κ ?_;obtain⟨p0,p1,p2,p3,p4,p5⟩:=aJ r7;go_wp2;refine bodyPost_ret (v:=.tuple #[.agg #[ς eU qh.log.length eX,ι qh.aG,ι qh.next,ς kG qh.opn.length kH,ς (some ⟨wD,0,none⟩) n n,()],ι 0]) (by simp [results,Tryz.results12,go_sem,p0,p1,p2,p3,p4,p5]) rfl ?_;have G7:=(G1.o.trans (Jv.o)).grown g7 (fun q hq=>by simp at hq;omega);refine⟨_,rfl,?_,G7⟩;unfold pI;rw [WX.o];refine Of.ku ((Xc.o).mono (JC g7)) ?_ (Sl.nil _ _);have h9:=aI.slc (T:=Ty.hs) (c:=fun _=>none) (d:=ov (fun _=>none) w w7) ε ((MN.o).kept g7 (bJ (MN.o) δ)) (fun _ _ e=>by cases e) fun a ha=>bH δ;exact h9
 ·intro K HK
  try simp only [aV]
  have ET:=hmk wd;go_simp;clear ET;obtain⟨y6,Zp⟩:∃y:World,y=wd.alloc (.cells cs 50):=⟨_,rfl⟩;obtain⟨wN,Ph⟩:∃y,y=wd.heap.size:=⟨_,rfl⟩;have hI:Hid (Grow wd y6):=η (by rw [Zp];exact(Grow.refl _).alloc _);have Pj:=η (Grow.trans (GD) hI.o);have Xd:Hid (aI Ty.hs (fun _=>none) y6 (w.heap.size+1) 50 (ς (some ⟨wN,0,none⟩) n n) (List.replicate n hs0)):=η (by rw [Zp,Ph];exact(lM.o _).base (by have:=(GD).size;have:=HZ.o;omega));rw [<-Zp,<-Ph];clear Zp Ph;refine HK.o _ _ ⟨fun _=>n_.o _ Pj.o,?_⟩;clear HK K;try simp only [aK]
  refine bO 1 κ rfl ?_;intro K HK;try simp only [aV]
  go_simp;obtain⟨y7,F7⟩:∃y:World,y=y6.alloc (.cells #[ι 4,ι 0,()] 79):=⟨_,rfl⟩;obtain⟨M0,Pm⟩:∃y,y=y6.heap.size:=⟨_,rfl⟩;have Xe:Hid (Grow y6 y7):=η (by rw [F7];exact(Grow.refl _).alloc _);have MO:=η (Grow.trans (Pj.o) Xe.o);have Xf:=η (aI.grow (Xd.o) Xe.o);have Pn:Hid (aI Ty.rc (fun _=>none) y7 (w.heap.size+1) 79 (ς (some ⟨M0,0,none⟩) 1 1) [⟨4,0,[]⟩]):=η (by rw [F7,Pm];exact vC _ (by have:=(Pj.o).size;have:=HZ.o;omega));rw [<-F7,<-Pm];clear F7 Pm;refine HK.o _ _ ⟨fun _=>n_.o _ MO.o,?_⟩;clear HK K;try simp only [aK]
  refine bO 2 κ rfl ?_;intro K HK;try simp only [aV]
  go_simp;go_at_call 39
  refine(qg (l:=[⟨4,0,[]⟩]) (c:=fr w y7 [some w.heap.size]) y7 (fF _ _ _) (aI.slc (d:=fr w y7 [some w.heap.size]) ε (Pn.o) (fun _ _ e=>by cases e) fun a ha=>gy δ (by simp;omega)) ε).mono ?_;rintro e y8 ⟨vh,rfl,hx,Po⟩;obtain⟨eU,eX,kG,kH,rfl⟩:=hx.dS;have Xg:Hid (Grow y7 y8):=η (Po);have Jw:=η (Grow.trans (MO.o) Xg.o);have MP:=η (aI.grow (Xf.o) Xg.o);have Xh:=η (Of.mono (JB Po (by have:=(MO.o).size;have:=HZ.o;omega) (fun k9 hk9=>by have:=(MO.o).size;have:=HZ.o;simp;omega)) hx);clear hx Po;generalize ES:bT [⟨4,0,[]⟩]=qh at*;have WX:=η ES;clear ES;refine HK.o _ _ ⟨fun _=>n_.o _ Jw.o,?_⟩;clear HK K;try simp only [aK]
  refine bO 5 κ rfl ?_;intro K HK;try simp only [aV]
  go_simp;refine HK.o _ _ ⟨fun _=>n_.o _ Jw.o,?_⟩;clear HK K;try simp only [aK]
  refine bO 6 κ rfl ?_;intro K HK;refine aC rfl ?_;try simp only [aV]
  refine wp_store_row (.tmp 2) (.tmp 16) rfl rfl rfl (aj R2.o (Jw.o)) bV rfl rfl ?_;intro w7 r7 g7;refine HK.o _ _ ⟨fun _=>trivial,?_⟩;clear HK K;try simp only [aK]
  refine bO 7 κ rfl ?_;intro K HK;try simp only [aV]
  go_simp;refine HK.o _ _ ⟨fun h=>absurd rfl h,?_⟩;clear HK K;try simp only [aK]
  refine aO κ ?_;obtain⟨p0,p1,p2,p3,p4,p5⟩:=aJ r7;go_wp2;refine bodyPost_ret (v:=.tuple #[.agg #[ς eU qh.log.length eX,ι qh.aG,ι qh.next,ς kG qh.opn.length kH,ς (some ⟨wN,0,none⟩) n n,()],ι 0]) (by simp [results,Tryz.results12,go_sem,p0,p1,p2,p3,p4,p5]) rfl ?_;have G7:=(G1.o.trans (Jw.o)).grown g7 (fun q hq=>by simp at hq;omega);refine⟨_,rfl,?_,G7⟩;unfold pI;rw [WX.o];refine Of.ku ((Xh.o).mono (JC g7)) ?_ (Sl.nil _ _);have h9:=aI.slc (T:=Ty.hs) (c:=fun _=>none) (d:=ov (fun _=>none) w w7) ε ((MP.o).kept g7 (bJ (MP.o) δ)) (fun _ _ e=>by cases e) fun a ha=>bH δ;exact h9
end Go.Proofs.YtocnmkefmgmkbaaGreat
