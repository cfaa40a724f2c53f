/- Parts of proofs, joined: E3, G26, G34, K28, Trod, Trod2, Trod3. No condition beside those that each theorem names. -/
import Derived.Deep.Slices
import Derived.OpenShut
import Derived.Below
import Derived.ChangeOld
import Derived.ProofKit
import Derived.SizedLaws
import Derived.Test.YtocnmkefmgmkbaaGreatJW1b
import Derived.Test.YtocnmkefmgmkbaaGreatJW6a
import Derived.Test.YtocnmkefmgmkbaaGreatJW4b
import Derived.Test.YtocnmkefmgmkbaaGreatJWUa
import Derived.Test.YtocnmkefmgmkbaaGreatJWHa
import Derived.Test.YtocnmkefmgmkbaaGreatJW7a
import Derived.Test.YtocnmkefmgmkbaaGreatJW8a
import Derived.Test.YtocnmkefmgmkbaaGreatJWXa
import Derived.Test.YtocnmkefmgmkbaaGreatJW9a
import Derived.Test.YtocnmkefmgmkbaaGreatJW3a
import Derived.Test.YtocnmkefmgmkbaaGreatJW2a
import Derived.Test.YtocnmkefmgmkbaaGreatJWGa
import Derived.Test.YtocnmkefmgmkbaaGreatJW5a
set_option maxRecDepth 100000
set_option maxHeartbeats 40000000
namespace Go.Proofs.YtocnmkefmgmkbaaGreat
open Go.RowKit
theorem Gj {v v':Value} {h h':Hs} (w:World) (hv:Of Ty.hs w.cell? v h) (hv':Of Ty.hs w.cell? v' h'):
  Calls Tryz.prog 25 #[v,v'] w fun e w'=>e=.returned (.bool (decide (h=h')))/\Grow w w':=by
 obtain⟨al,cl,ar,cr,ad,cd,rfl⟩:=hv.dF;obtain⟨eU,eX,kG,kH,o_,pq,rfl⟩:=hv'.dF;have k:=Of.iw hv;have k':=Of.iw hv';have HSL:=η (fun(W:World) (hW:Grow w W)=>BL W (k.1.mono hW.sub) (k'.1.mono hW.sub));have uq:=η (fun(W:World) (hW:Grow w W)=>FT W (k.2.1.mono hW.sub) (k'.2.1.mono hW.sub));have TK:=η (fun(W:World) (hW:Grow w W)=>yI W (k.2.2.mono hW.sub) (k'.2.2.mono hW.sub));have jq:Hid (Grow w ((w.alloc (.cells #[ς al h.log.length cl,ι h.sums.a,ι h.sums.b,ι h.sums.c,ι h.sums.d,ς ar h.ready.length cr,ς ad h.done.length cd] 50)).alloc (.cells #[ς eU h'.log.length eX,ι h'.sums.a,ι h'.sums.b,ι h'.sums.c,ι h'.sums.d,ς kG h'.ready.length kH,ς o_ h'.done.length pq] 50))):=η (((Grow.refl w).alloc _).alloc _);clear hv hv' k k';by_cases hl:h.log=h'.log
 ·by_cases hs:h.sums=h'.sums
  ·by_cases hr:h.ready=h'.ready
   ·by_cases hd:h.done=h'.done
    ·have HE:Hid (decide (h=h')=true):=by show _=_;rw [decide_eq_true_eq];cases h;cases h';simp_all
     have DL:=η (decide_eq_true hl);have HQ:∀u:World,(binOp .eql 47 (.agg #[ι h.sums.a,ι h.sums.b,ι h.sums.c,ι h.sums.d]) (.agg #[ι h'.sums.a,ι h'.sums.b,ι h'.sums.c,ι h'.sums.d])).run Tryz.prog u=.ok (.bool true) u:=fun u=>by rw [Jd,decide_eq_true hs]
     have hg:=yM;have DR:=η (decide_eq_true hr);have DD:=η (decide_eq_true hd);clear hl hs hr hd;go_enter Tryz.func25,Tryz.ntmps25;go_wp2_with fail
     refine(HSL.o _ jq.o).mono ?_;rw [DL.o];rintro e w1 ⟨rfl,dI⟩;(obtain⟨KI,NS⟩:=fJ dI;have w_:w.heap.size<w1:=(ω dI.size);have Ji:w.heap.size+1<w1:=(ω dI.size);have tY:=η dI;clear dI)
     go_wp2_with fail
     refine(uq.o _ (jq.o.trans tY.o)).mono ?_;rw [DR.o];rintro e w2 ⟨rfl,hbw2⟩;(obtain⟨aD,aE⟩:=fJ hbw2;have SY:w.heap.size<w2:=(ω hbw2.size);have Wn:w.heap.size+1<w2:=(ω hbw2.size);have KL:=η hbw2;clear hbw2)
     go_wp2_with fail
     refine(TK.o _ ((jq.o.trans tY.o).trans KL.o)).mono ?_;rw [DD.o];rintro e w3 ⟨rfl,hbw3⟩;(obtain⟨LI,LN⟩:=fJ hbw3;have f8:w.heap.size<w3:=(ω hbw3.size);have gA:w.heap.size+1<w3:=(ω hbw3.size);have gC:=η hbw3;clear hbw3)
     go_wp2;go_ret;exact⟨bK HE.o.symm,(((jq.o.trans tY.o).trans KL.o).trans gC.o)⟩
    ·have HE:Hid (decide (h=h')=false):=by show _=_;rw [decide_eq_false_iff_not];rintro rfl;exact hd rfl
     have DL:=η (decide_eq_true hl);have HQ:∀u:World,(binOp .eql 47 (.agg #[ι h.sums.a,ι h.sums.b,ι h.sums.c,ι h.sums.d]) (.agg #[ι h'.sums.a,ι h'.sums.b,ι h'.sums.c,ι h'.sums.d])).run Tryz.prog u=.ok (.bool true) u:=fun u=>by rw [Jd,decide_eq_true hs]
     have hg:=yM;have DR:=η (decide_eq_true hr);have DD:=η (decide_eq_false hd);clear hl hs hr hd;go_enter Tryz.func25,Tryz.ntmps25;go_wp2_with fail
     refine(HSL.o _ jq.o).mono ?_;rw [DL.o];rintro e w1 ⟨rfl,dI⟩;(obtain⟨KI,NS⟩:=fJ dI;have w_:w.heap.size<w1:=(ω dI.size);have Ji:w.heap.size+1<w1:=(ω dI.size);have tY:=η dI;clear dI)
     go_wp2_with fail
     refine(uq.o _ (jq.o.trans tY.o)).mono ?_;rw [DR.o];rintro e w2 ⟨rfl,hbw2⟩;(obtain⟨aD,aE⟩:=fJ hbw2;have SY:w.heap.size<w2:=(ω hbw2.size);have Wn:w.heap.size+1<w2:=(ω hbw2.size);have KL:=η hbw2;clear hbw2)
     go_wp2_with fail
     refine(TK.o _ ((jq.o.trans tY.o).trans KL.o)).mono ?_;rw [DD.o];rintro e w3 ⟨rfl,hbw3⟩;(obtain⟨LI,LN⟩:=fJ hbw3;have f8:w.heap.size<w3:=(ω hbw3.size);have gA:w.heap.size+1<w3:=(ω hbw3.size);have gC:=η hbw3;clear hbw3)
     go_wp2;go_ret;exact⟨bK HE.o.symm,(((jq.o.trans tY.o).trans KL.o).trans gC.o)⟩
   ·have HE:Hid (decide (h=h')=false):=by show _=_;rw [decide_eq_false_iff_not];rintro rfl;exact hr rfl
    have DL:=η (decide_eq_true hl);have HQ:∀u:World,(binOp .eql 47 (.agg #[ι h.sums.a,ι h.sums.b,ι h.sums.c,ι h.sums.d]) (.agg #[ι h'.sums.a,ι h'.sums.b,ι h'.sums.c,ι h'.sums.d])).run Tryz.prog u=.ok (.bool true) u:=fun u=>by rw [Jd,decide_eq_true hs]
    have hg:=yM;have DR:=η (decide_eq_false hr);clear hl hs hr;go_enter Tryz.func25,Tryz.ntmps25;go_wp2_with fail
    refine(HSL.o _ jq.o).mono ?_;rw [DL.o];rintro e w1 ⟨rfl,dI⟩;(obtain⟨KI,NS⟩:=fJ dI;have w_:w.heap.size<w1:=(ω dI.size);have Ji:w.heap.size+1<w1:=(ω dI.size);have tY:=η dI;clear dI)
    go_wp2_with fail
    refine(uq.o _ (jq.o.trans tY.o)).mono ?_;rw [DR.o];rintro e w2 ⟨rfl,hbw2⟩;(obtain⟨aD,aE⟩:=fJ hbw2;have SY:w.heap.size<w2:=(ω hbw2.size);have Wn:w.heap.size+1<w2:=(ω hbw2.size);have KL:=η hbw2;clear hbw2)
    go_wp2;go_ret;exact⟨bK HE.o.symm,((jq.o.trans tY.o).trans KL.o)⟩
  ·have HE:Hid (decide (h=h')=false):=by show _=_;rw [decide_eq_false_iff_not];rintro rfl;exact hs rfl
   have DL:=η (decide_eq_true hl);have HQ:∀u:World,(binOp .eql 47 (.agg #[ι h.sums.a,ι h.sums.b,ι h.sums.c,ι h.sums.d]) (.agg #[ι h'.sums.a,ι h'.sums.b,ι h'.sums.c,ι h'.sums.d])).run Tryz.prog u=.ok (.bool false) u:=fun u=>by rw [Jd,decide_eq_false hs]
   have hg:=yM;clear hl hs;go_enter Tryz.func25,Tryz.ntmps25;go_wp2_with fail
   refine(HSL.o _ jq.o).mono ?_;rw [DL.o];rintro e w1 ⟨rfl,dI⟩;(obtain⟨KI,NS⟩:=fJ dI;have w_:w.heap.size<w1:=(ω dI.size);have Ji:w.heap.size+1<w1:=(ω dI.size);have tY:=η dI;clear dI)
   go_wp2;go_ret;exact⟨bK HE.o.symm,(jq.o.trans tY.o)⟩
 ·have HE:Hid (decide (h=h')=false):=by show _=_;rw [decide_eq_false_iff_not];rintro rfl;exact hl rfl
  have DL:=η (decide_eq_false hl);clear hl;go_enter Tryz.func25,Tryz.ntmps25;go_wp2_with fail
  refine(HSL.o _ jq.o).mono ?_;rw [DL.o];rintro e w1 ⟨rfl,dI⟩;(obtain⟨KI,NS⟩:=fJ dI;have w_:w.heap.size<w1:=(ω dI.size);have Ji:w.heap.size+1<w1:=(ω dI.size);have tY:=η dI;clear dI)
  go_wp2;go_ret;exact⟨bK HE.o.symm,(jq.o.trans tY.o)⟩
theorem Gl {v v':Value} {x:AW} (w:World) (hv:Of Ty.wd w.cell? v x) (hv':Of Ty.wd w.cell? v' x) (h3:x.aA.length<=3):
  Calls Tryz.prog 13 #[v,v'] w fun e w'=>e=.returned (.bool true)/\Grow w w':=by
 obtain⟨al,cl,ao,co,ah,ch,an,cn,rfl⟩:=hv.fE;obtain⟨eU,eX,kN,kP,pM,cK,A7,BB,rfl⟩:=hv'.fE;obtain⟨q1,q2,q3⟩:=hv.eu;obtain⟨u1,u2,u3⟩:=hv'.eu;have HSH:=η (fun(W:World) (hW:Grow w W)=>Jh W (q1.mono hW.sub) (u1.mono hW.sub));have HSN:=η (fun(W:World) (hW:Grow w W)=>Lu W (q3.mono hW.sub) (u3.mono hW.sub));obtain⟨FG,ch',he,h1,h2,-,hel⟩:=q2;obtain⟨rfl,rfl⟩:ah=FG/\ch=ch':=by simpa using he
 obtain⟨BC,ch3,he',h1',h2',-,jX⟩:=u2;obtain⟨rfl,rfl⟩:pM=BC/\cK=ch3:=by simpa using he'
 unfold maxLen at h2 h2';clear hv hv' q1 q3 u1 u3 he he';have lI:=η hel;have TE:=η jX;clear hel jX;obtain⟨wa,cO⟩:∃y:World,y=w.alloc (.cells #[ς al x.head.log.length cl,ι x.head.aG,ι x.head.next,ς ao x.head.opn.length co,ς ah x.aA.length ch,ς an x.net.length cn] 33):=⟨_,rfl⟩;obtain⟨wz,hwz⟩:∃y:World,y=wa.alloc (.cells #[ς eU x.head.log.length eX,ι x.head.aG,ι x.head.next,ς kN x.head.opn.length kP,ς pM x.aA.length cK,ς A7 x.net.length BB] 33):=⟨_,rfl⟩;have hsz:wa.heap.size=w.heap.size+1:=by rw [cO];simp
 have R1:Hid (wz.heap[w.heap.size]? =some (.cells #[ς al x.head.log.length cl,ι x.head.aG,ι x.head.next,ς ao x.head.opn.length co,ς ah x.aA.length ch,ς an x.net.length cn] 33 (0,0))):=η (by rw [hwz,cO];exact aB (aF _ _) _);have R2:Hid (wz.heap[w.heap.size+1]? =some (.cells #[ς eU x.head.log.length eX,ι x.head.aG,ι x.head.next,ς kN x.head.opn.length kP,ς pM x.aA.length cK,ς A7 x.net.length BB] 33 (0,0))):=η (by rw [hwz,<-hsz];exact aF _ _);have G1:Hid (Grow w wz):=η (by rw [hwz,cO];exact((Grow.refl w).alloc _).alloc _);go_enter Tryz.func13,Tryz.ntmps13;go_upto_region 1 with fail
 rw [<-cO];try rw [hsz]
 rw [<-hwz];clear cO hwz hsz;obtain⟨x1,x2,x3,x4,x5,x6⟩:=aJ R1.o;obtain⟨y1,y2,y3,y4,y5,y6⟩:=aJ R2.o;have zX:w.heap.size+1<wz:=(γ R2.o);have DH:Hid (decide (x.head=x.head)=true):=η σ;have DN:Hid (decide (x.net.map aS=x.net.map aS)=true):=η σ;go_wp2_with fail
 refine(HSH.o _ G1.o).mono ?_;rw [DH.o];rintro e w1 ⟨rfl,hb1⟩;have R11:=η (aj R1.o hb1);have UR:=η (aj R2.o hb1);have G2:=η (G1.o.trans hb1);clear x1 x2 x3 x4 x5 x6 y1 y2 y3 y4 y5 y6 zX hb1;obtain⟨x1,x2,x3,x4,x5,x6⟩:=aJ R11.o;obtain⟨y1,y2,y3,y4,y5,y6⟩:=aJ UR.o;have zX:w.heap.size+1<w1:=(γ UR.o);go_wp2_with fail
 refine(HSN.o _ G2.o).mono ?_;rw [DN.o];rintro e w2 ⟨rfl,hb2⟩;have R12:=η (aj R11.o hb2);have Gf:=η (aj UR.o hb2);have G3:=η (G2.o.trans hb2);clear x1 x2 x3 x4 x5 x6 y1 y2 y3 y4 y5 y6 zX hb2;obtain⟨x1,x2,x3,x4,x5,x6⟩:=aJ R12.o;obtain⟨y1,y2,y3,y4,y5,y6⟩:=aJ Gf.o;have zX:w.heap.size+1<w2:=(γ Gf.o);have tl:((x.aA.length:Int) !=(x.aA.length:Int))=false:=by simp
 go_wp2;clear x1 x2 x3 x4 x5 x6 y1 y2 y3 y4 y5 y6 zX;go_loopw [32] (fun i wr=>∃k:Nat,k<=x.aA.length/\i=ι k/\Grow w2 wr) (fun i _=>x.aA.length - (intOf i).toNat)
 case atStart=>exact⟨0,δ,rfl,Grow.refl _⟩
 case round=>
  obtain⟨k,hk',rfl,hgr⟩:=hrel;have Bv:=η hgr;have GR:=η (G3.o.trans hgr);clear hgr;by_cases hlt:k<x.aA.length
  ·obtain⟨b,o,vl,vr,vd,rfl,e0,e1,e2,e3,e4,e5,e6,hH1,i1,i2,i3,i4,hH2,hH3⟩:=nQ.at_ lI.o k hlt
   obtain⟨b2,o2,ST,vr2,vd2,rfl,f0,f1,f2,f3,f4,f5,f6,TH,-,-,-,-,TO,TX⟩:=nQ.at_ TE.o k hlt;obtain⟨FL,FO,rfl,-⟩:=id hH1;obtain⟨FR,Br,rfl,-⟩:=id hH2;obtain⟨id1,F0,rfl,-⟩:=id hH3;obtain⟨Rx,Ry,rfl,-⟩:=id TH;obtain⟨Rz,RF,rfl,-⟩:=id TO;obtain⟨id2,RI,rfl,-⟩:=id TX;have HSE:=η (fun(W:World) (hW:Grow w W)=>Gj W (v:=.agg #[.slice FL x.aA[k].log.length FO,ι x.aA[k].sums.a,ι x.aA[k].sums.b,ι x.aA[k].sums.c,ι x.aA[k].sums.d,.slice FR x.aA[k].ready.length Br,.slice id1 x.aA[k].done.length F0]) (v':=.agg #[.slice Rx x.aA[k].log.length Ry,ι x.aA[k].sums.a,ι x.aA[k].sums.b,ι x.aA[k].sums.c,ι x.aA[k].sums.d,.slice Rz x.aA[k].ready.length RF,.slice id2 x.aA[k].done.length RI]) (h:=x.aA[k]) (h':=x.aA[k]) ((show Of Ty.hs w.cell? (.agg #[.slice FL x.aA[k].log.length FO,ι x.aA[k].sums.a,ι x.aA[k].sums.b,ι x.aA[k].sums.c,ι x.aA[k].sums.d,.slice FR x.aA[k].ready.length Br,.slice id1 x.aA[k].done.length F0]) x.aA[k] from⟨_,rfl,_,_,_,rfl,hH1,i1,i2,i3,i4,hH2,hH3⟩).mono hW.sub) ((show Of Ty.hs w.cell? (.agg #[.slice Rx x.aA[k].log.length Ry,ι x.aA[k].sums.a,ι x.aA[k].sums.b,ι x.aA[k].sums.c,ι x.aA[k].sums.d,.slice Rz x.aA[k].ready.length RF,.slice id2 x.aA[k].done.length RI]) x.aA[k] from⟨_,rfl,_,_,_,rfl,TH,i1,i2,i3,i4,TO,TX⟩).mono hW.sub));have DE:Hid (decide (x.aA[k]=x.aA[k])=true):=η σ;clear hH1 hH2 hH3 TH TO TX i1 i2 i3 i4;generalize x.aA[k]=h at*;have HE:=η (And.intro e0 (And.intro e1 (And.intro e2 (And.intro e3 (And.intro e4 (And.intro e5 e6))))));have HF:=η (And.intro f0 (And.intro f1 (And.intro f2 (And.intro f3 (And.intro f4 (And.intro f5 f6))))));clear e0 e1 e2 e3 e4 e5 e6 f0 f1 f2 f3 f4 f5 f6;go_upto_region 6 with fail
   have HS:Hid (∀W,Grow wr W->W.cell? ⟨w.heap.size,4,none⟩=some (ς (some ⟨b,o,none⟩) x.aA.length ch)/\W.cell? ⟨w.heap.size+1,4,none⟩=some (ς (some ⟨b2,o2,none⟩) x.aA.length cK)/\W.cell? ⟨b,o+k*7,none⟩=some (ς FL h.log.length FO)/\W.cell? ⟨b,o+k*7+1,none⟩=some (ι h.sums.a)/\W.cell? ⟨b,o+k*7+2,none⟩=some (ι h.sums.b)/\W.cell? ⟨b,o+k*7+3,none⟩=some (ι h.sums.c)/\W.cell? ⟨b,o+k*7+4,none⟩=some (ι h.sums.d)/\W.cell? ⟨b,o+k*7+5,none⟩=some (ς FR h.ready.length Br)/\W.cell? ⟨b,o+k*7+6,none⟩=some (ς id1 h.done.length F0)/\W.cell? ⟨b2,o2+k*7,none⟩=some (ς Rx h.log.length Ry)/\W.cell? ⟨b2,o2+k*7+1,none⟩=some (ι h.sums.a)/\W.cell? ⟨b2,o2+k*7+2,none⟩=some (ι h.sums.b)/\W.cell? ⟨b2,o2+k*7+3,none⟩=some (ι h.sums.c)/\W.cell? ⟨b2,o2+k*7+4,none⟩=some (ι h.sums.d)/\W.cell? ⟨b2,o2+k*7+5,none⟩=some (ς Rz h.ready.length RF)/\W.cell? ⟨b2,o2+k*7+6,none⟩=some (ς id2 h.done.length RI)):=fun W hW=>by
    have hs:=(GR.o.trans hW).sub;obtain⟨e0,e1,e2,e3,e4,e5,e6⟩:=HE.o;obtain⟨f0,f1,f2,f3,f4,f5,f6⟩:=HF.o;obtain⟨-,-,-,-,x5,-⟩:=aJ (aj R12.o (Bv.o.trans hW));obtain⟨-,-,-,-,y5,-⟩:=aJ (aj Gf.o (Bv.o.trans hW));exact⟨x5,y5,hs _ _ e0,hs _ _ e1,hs _ _ e2,hs _ _ e3,hs _ _ e4,hs _ _ e5,hs _ _ e6,hs _ _ f0,hs _ _ f1,hs _ _ f2,hs _ _ f3,hs _ _ f4,hs _ _ f5,hs _ _ f6⟩
   refine Cm (fun w'=>w'.cell? ⟨w.heap.size,4,none⟩=some (ς (some ⟨b,o,none⟩) x.aA.length ch)/\w'.cell? ⟨w.heap.size+1,4,none⟩=some (ς (some ⟨b2,o2,none⟩) x.aA.length cK)/\w'.cell? ⟨b,o+k*7,none⟩=some (ς FL h.log.length FO)/\w'.cell? ⟨b,o+k*7+1,none⟩=some (ι h.sums.a)/\w'.cell? ⟨b,o+k*7+2,none⟩=some (ι h.sums.b)/\w'.cell? ⟨b,o+k*7+3,none⟩=some (ι h.sums.c)/\w'.cell? ⟨b,o+k*7+4,none⟩=some (ι h.sums.d)/\w'.cell? ⟨b,o+k*7+5,none⟩=some (ς FR h.ready.length Br)/\w'.cell? ⟨b,o+k*7+6,none⟩=some (ς id1 h.done.length F0)/\w'.cell? ⟨b2,o2+k*7,none⟩=some (ς Rx h.log.length Ry)/\w'.cell? ⟨b2,o2+k*7+1,none⟩=some (ι h.sums.a)/\w'.cell? ⟨b2,o2+k*7+2,none⟩=some (ι h.sums.b)/\w'.cell? ⟨b2,o2+k*7+3,none⟩=some (ι h.sums.c)/\w'.cell? ⟨b2,o2+k*7+4,none⟩=some (ι h.sums.d)/\w'.cell? ⟨b2,o2+k*7+5,none⟩=some (ς Rz h.ready.length RF)/\w'.cell? ⟨b2,o2+k*7+6,none⟩=some (ς id2 h.done.length RI)) [] κ ?_;intro wd GD zD;have ZD:=η zD;clear zD;refine lY [0,1,2,3,4,5,6,7,8,9] 14 κ (fun _ _ _ _ _ h=>h) (HS.o _ GD) ?_;repeat (refine gq ?_;try simp only [aK])
   refine lZ ?_;refine iR 10 κ rfl ?_;intro K HK;try simp only [aV]
   go_simp;go_at_call 25
   refine(HSE.o _ (GR.o.trans GD)).mono ?_;rw [DE.o];rintro e w5 ⟨rfl,hb5⟩;have G5:=η (Grow.trans GD hb5);clear hb5;refine HK.o _ _ ⟨.inr (HS.o _ G5.o),?_⟩;clear HK K;try simp only [aK]
   refine lY [11] 14 κ (fun _ _ _ _ _ h=>h) (HS.o _ G5.o) ?_;repeat (refine gq ?_;try simp only [aK])
   refine lZ ?_;refine wO κ ?_;go_wp2;go_roundw
   case rel=>exact⟨k+1,δ,by go_num,Bv.o.trans G5.o⟩
   case measure=>simp [intOf];omega
  ·obtain rfl:k=x.aA.length:=by omega
   go_wp2;go_ret;exact⟨rfl,GR.o⟩
theorem A0K {n:Int} (w:World) (hn:¬(1<=n/\n<=3)):
  Calls Tryz.prog 12 #[ι n] w fun e w'=>e=.returned (.tuple #[.agg #[(),ι 0,ι 0,(),(),()],ι 3])/\Grow w w':=by
 have t:(decide (n<1)=true∨(decide (n<1)=false/\decide (3<n)=true)):=by
  by_cases h:n<1
  ·left;simp [h]
  ·right;simp;omega
 obtain⟨wz,hwz⟩:∃y:World,y=w.alloc (.cells #[(),ι 0,ι 0,(),(),()] 33):=⟨_,rfl⟩;have R2:Hid (wz.heap[w.heap.size]? =some (.cells #[(),ι 0,ι 0,(),(),()] 33 (0,0))):=η (by rw [hwz];exact aF _ _);have G1:Hid (Grow w wz):=η (by rw [hwz];exact(Grow.refl w).alloc _);clear hn;go_enter Tryz.func12,Tryz.ntmps12;go_upto_region 1 with fail
 rw [<-hwz];clear hwz;rcases t with t|⟨t1,t2⟩
 all_goals
  go_wp2_with (first|(refine wpList_store_row rfl (.tmp 2) (.tmp 10) rfl rfl rfl R2.o bV rfl rfl ?_))
  intro wf rf gf;obtain⟨p0,p1,p2,p3,p4,p5⟩:=aJ rf;go_wp2;refine bodyPost_ret (v:=.tuple #[.agg #[(),ι 0,ι 0,(),(),()],ι 3]) (by simp [results,Tryz.results12,go_sem,p0,p1,p2,p3,p4,p5]) rfl ?_;exact⟨rfl,G1.o.grown gf (fun q hq=>by have:=Option.some.inj hq;omega)⟩
theorem A0J {n0:Int} {v vs:Value} {l:List St} {s:St} (w:World) (_hn:I64 n0) (hv:Sl Ty.st w.cell? v l) (_hs:l.length*40<=140737488351232) (hst:Of Ty.st w.cell? vs s):
  Calls Tryz.prog 3 #[ι n0,v,vs] w fun e w'=>e=.returned (.bool true)/\Grow w w':=by
 obtain⟨aps,cps,rfl⟩:=hst.je;obtain⟨av,cv,rfl,-⟩:=id hv;obtain⟨wa,hwq⟩:∃zq:World,zq=w.alloc (.cells #[ι s.kind,ι s.n,ς aps s.parts.length cps] 25):=⟨_,rfl⟩;obtain⟨B5,hBq⟩:∃zq,zq=w.heap.size:=⟨_,rfl⟩;have GA:Hid (Grow w wa):=η (by rw [hwq];exact(Grow.refl _).alloc _);have R5:Hid (wa.heap[B5]? =some (.cells #[ι s.kind,ι s.n,ς aps s.parts.length cps] 25 (0,0))):=η (by rw [hwq,hBq];exact aF _ _);by_cases hin:1<=n0/\n0<=3;rotate_left
 ·have sS:=η hin
  clear hv hst hin;go_enter Tryz.func3,Tryz.ntmps3;go_upto_region 1 with fail
  rw [<-hwq,<-hBq];clear hwq hBq;go_wp2_with fail
  refine(P_ wa sS.o).mono ?_;rintro e w1 ⟨rfl,hb1⟩;have G1:=η hb1;clear hb1;obtain⟨w2,hwq⟩:∃zq:World,zq=w1.alloc (.cells #[(),ι 0,ι 0,(),(),()] 33):=⟨_,rfl⟩;obtain⟨B7,hBq⟩:∃zq,zq=w1.heap.size:=⟨_,rfl⟩;have wG:Hid (Grow w1 w2):=η (by rw [hwq];exact(Grow.refl _).alloc _);have R7:Hid (w2.heap[B7]? =some (.cells #[(),ι 0,ι 0,(),(),()] 33 (0,0))):=η (by rw [hwq,hBq];exact aF _ _);go_upto_region 2 with fail
  rw [<-hwq,<-hBq];clear hwq hBq;go_wp2_with fail
  refine(A0K w2 sS.o).mono ?_;rintro e w3 ⟨rfl,hb3⟩;have R73:=η (aj R7.o hb3);have G3:=η (GA.o.trans (G1.o.trans (wG.o.trans hb3)));clear hb3;obtain⟨w4,hwq⟩:∃zq:World,zq=w3.alloc (.cells #[(),ι 0,ι 0,(),(),()] 33):=⟨_,rfl⟩;obtain⟨A0v,hBq⟩:∃zq,zq=w3.heap.size:=⟨_,rfl⟩;have RJ:Hid (Grow w3 w4):=η (by rw [hwq];exact(Grow.refl _).alloc _);have R9:Hid (w4.heap[A0v]? =some (.cells #[(),ι 0,ι 0,(),(),()] 33 (0,0))):=η (by rw [hwq,hBq];exact aF _ _);go_upto_region 3 with fail
  rw [<-hwq,<-hBq];clear hwq hBq;obtain⟨a0,a1,a2,a3,a4,a5⟩:=aJ (aj R73.o RJ.o);obtain⟨b0,b1,b2,b3,b4,b5⟩:=aJ R9.o;have za:B7<w4.heap.size:=(Array.getElem?_eq_some_iff.1 (aj R73.o RJ.o)).1;have zb:A0v<w4.heap.size:=(γ R9.o);have HZW:Hid (Of Ty.wd w4.cell? (.agg #[(),ι 0,ι 0,(),(),()]) ⟨⟨[],0,0,[]⟩,[],[]⟩):=η (Of.ku ⟨_,rfl,_,_,rfl,Sl.nil _ _,fP,fP,Sl.nil _ _⟩ (Sl.nil _ _) (Sl.nil _ _));go_wp2_with fail
  refine(Gl w4 HZW.o HZW.o (Nat.zero_le _)).mono ?_;rintro e w5 ⟨rfl,hb5⟩;have G5:=η (G3.o.trans (RJ.o.trans hb5));clear hb5 a0 a1 a2 a3 a4 a5 b0 b1 b2 b3 b4 b5 za zb;go_wp2;go_ret;exact⟨rfl,G5.o⟩
 obtain⟨n,rfl⟩:∃n:Nat,n0=(n:Int):=⟨n0.toNat,δ⟩;have hn:1<=n/\n<=3:=by omega
 obtain⟨G,hwi,-⟩:=WI.Zi hn (l.take 150);have hfw:=tu.play n (l.take 150) (tu.zero n);rw [Nat.zero_add] at hfw;have hwk:=WK.play hn (l.take 150) (by rw [List.length_take];omega);have hk9:(l.take 150).length<=90000:=by rw [List.length_take];omega
 have hwy:=hwk.step s δ;have HNW:=η (fun(W:World)=>Uz W hn);have HNR:=η (fun(W:World)=>Xl W hn);have KH:=η (fun(W:World) (hW:Grow w W)=>X9 (l:=l) W hn (hv.mono hW.sub));have Z0:=η (fun(W:World) (v:Value) (h1:Of Ty.wd W.cell? v (jG (pI n) (l.take 150))) (h2:Of Ty.st W.cell? (.agg #[ι s.kind,ι s.n,ς aps s.parts.length cps]) s)=>XQ W h1 h2 hwk);have HDR:=η (fun(W:World) (v:Value) (h1:Of Ty.wd W.cell? v (jG (pI n) (l.take 150))) (h2:Of Ty.st W.cell? (.agg #[ι s.kind,ι s.n,ς aps s.parts.length cps]) s)=>Cc (c:=W.cell?) W (Sub.refl _) h1 h2 hwi hfw hk9);have HOW:=η (fun(W:World) (v:Value) (h1:Of Ty.wd W.cell? v (jG (pI n) (l.take 150)))=>Ip W h1 hwk);have cJ:=η hwk.XG.2;have HY3:=η hwy.XG.2;have HZ3:Hid ((pI n).aA.length<=3):=η (WK.zero hn).XG.2;have HST:=η hst;have hee:∀q:Int,(q==q)=true:=fun q=>by simp
 have hne:∀q:Int,(q !=q)=false:=fun q=>by simp
 have HER:=η (hee (bI (jG (pI n) (l.take 150)) s));clear hv hst hin hn hwi hfw hwk hk9 hwy hee hne;generalize jG (pI n) (l.take 150)=x at*;generalize pI n=x0 at*;go_enter Tryz.func3,Tryz.ntmps3;go_upto_region 1 with fail
 rw [<-hwq,<-hBq];clear hwq hBq;go_wp2_with fail
 refine(HNW.o wa).mono ?_;rintro e w1 ⟨v1,rfl,hx1,hb1⟩;obtain⟨al1,cl1,ao1,co1,ah1,ch1,an1,cn1,rfl⟩:=hx1.fE;have Jg:=η (hx1.mono (qK _ _));have G1:=η (GA.o.trans hb1);have R51:=η (aj R5.o hb1);clear hx1 hb1 HNW;obtain⟨w2,hwq⟩:∃zq:World,zq=w1.alloc (.cells #[ς al1 x0.head.log.length cl1,ι x0.head.aG,ι x0.head.next,ς ao1 x0.head.opn.length co1,ς ah1 x0.aA.length ch1,ς an1 x0.net.length cn1] 33):=⟨_,rfl⟩;obtain⟨B7,hBq⟩:∃zq,zq=w1.heap.size:=⟨_,rfl⟩;have wG:Hid (Grow w1 w2):=η (by rw [hwq];exact(Grow.refl _).alloc _);have R7:Hid (w2.heap[B7]? =some (.cells #[ς al1 x0.head.log.length cl1,ι x0.head.aG,ι x0.head.next,ς ao1 x0.head.opn.length co1,ς ah1 x0.aA.length ch1,ς an1 x0.net.length cn1] 33 (0,0))):=η (by rw [hwq,hBq];exact aF _ _);go_upto_region 2 with fail
 rw [<-hwq,<-hBq];clear hwq hBq;go_wp2_with fail
 refine(HNR.o w2).mono ?_;rintro e w3 ⟨v3,rfl,hx3,hb3⟩;obtain⟨CX,CY,Rw,co3,BC,ch3,PX,cn3,rfl⟩:=hx3.fE;have A0P:=η (hx3.mono (qK _ _));have cI:=η (wG.o.trans hb3);have R73:=η (aj R7.o hb3);clear hx3 hb3 HNR;obtain⟨w4,hwq⟩:∃zq:World,zq=w3.alloc (.cells #[ς CX x0.head.log.length CY,ι x0.head.aG,ι x0.head.next,ς Rw x0.head.opn.length co3,ς BC x0.aA.length ch3,ς PX x0.net.length cn3] 33):=⟨_,rfl⟩;obtain⟨A0v,hBq⟩:∃zq,zq=w3.heap.size:=⟨_,rfl⟩;have RJ:Hid (Grow w3 w4):=η (by rw [hwq];exact(Grow.refl _).alloc _);have R9:Hid (w4.heap[A0v]? =some (.cells #[ς CX x0.head.log.length CY,ι x0.head.aG,ι x0.head.next,ς Rw x0.head.opn.length co3,ς BC x0.aA.length ch3,ς PX x0.net.length cn3] 33 (0,0))):=η (by rw [hwq,hBq];exact aF _ _);go_upto_region 3 with fail
 rw [<-hwq,<-hBq];clear hwq hBq;have cA:=η (cI.o.trans RJ.o);have Yj:=η (aj R73.o RJ.o);obtain⟨a0,a1,a2,a3,a4,a5⟩:=aJ Yj.o;obtain⟨b0,b1,b2,b3,b4,b5⟩:=aJ R9.o;have za:B7<w4.heap.size:=(γ Yj.o);have zb:A0v<w4.heap.size:=(γ R9.o);go_wp2_with fail
 refine(Gl w4 (Jg.o.mono cA.o.sub) (A0P.o.mono RJ.o.sub) HZ3.o).mono ?_;rintro e w5 ⟨rfl,hb5⟩;have G15:=η (cA.o.trans hb5);have G5:=η (G1.o.trans G15.o);have Io:=η (aj R51.o G15.o);clear hb5 a0 a1 a2 a3 a4 a5 b0 b1 b2 b3 b4 b5 za zb Jg A0P R7 R73 Yj R9 R5 R51;go_wp2_with fail
 refine(KH.o w5 G5.o).mono ?_;rintro e w6 ⟨v6,es6,rfl,hx6,-,hb6⟩;obtain⟨al,cl,ao,co,ah,ch,an,cn,rfl⟩:=hx6.fE;have HX6:=η hx6;have R56:=η (aj Io.o hb6);have G6:=η (G5.o.trans hb6);clear hx6 hb6 KH;obtain⟨w7,hwq⟩:∃zq:World,zq=w6.alloc (.cells #[ς al x.head.log.length cl,ι x.head.aG,ι x.head.next,ς ao x.head.opn.length co,ς ah x.aA.length ch,ς an x.net.length cn] 33):=⟨_,rfl⟩;obtain⟨B11,hBq⟩:∃zq,zq=w6.heap.size:=⟨_,rfl⟩;have G67:Hid (Grow w6 w7):=η (by rw [hwq];exact(Grow.refl _).alloc _);have R11:Hid (w7.heap[B11]? =some (.cells #[ς al x.head.log.length cl,ι x.head.aG,ι x.head.next,ς ao x.head.opn.length co,ς ah x.aA.length ch,ς an x.net.length cn] 33 (0,0))):=η (by rw [hwq,hBq];exact aF _ _);go_upto_region 8 with fail
 rw [<-hwq,<-hBq];clear hwq hBq;have M_:=η (HX6.o.mono G67.o.sub);have R57:=η (aj R56.o G67.o);have G7:=η (G6.o.trans G67.o);obtain⟨a0,a1,a2,a3,a4,a5⟩:=aJ R11.o;obtain⟨b0,b1,b2⟩:=cells3 R57.o;have za:B11<w7.heap.size:=(γ R11.o);have zb:B5<w7.heap.size:=(γ R57.o);go_wp2_with fail
 refine(Z0.o w7 _ M_.o (HST.o.mono G7.o.sub)).mono ?_;rintro e w8 ⟨v8,rfl,hx8,hb8⟩;obtain⟨y,hy⟩:∃q,q=iD x s:=⟨_,rfl⟩;obtain⟨er,her⟩:∃q,q=bI x s:=⟨_,rfl⟩;rw [<-hy] at HY3 hx8 HDR;rw [<-her] at HER HDR ⊢;clear hy her;obtain⟨Si,Sj,Sr,Sv,ah8,ch8,an8,cn8,rfl⟩:=hx8.fE;have pT:=η (hx8.mono (qK _ _));have nF:=η hb8;clear hx8 hb8 Z0 a0 a1 a2 a3 a4 a5 b0 b1 b2 za zb;obtain⟨w9,hwq⟩:∃zq:World,zq=w8.alloc (.cells #[ς Si y.head.log.length Sj,ι y.head.aG,ι y.head.next,ς Sr y.head.opn.length Sv,ς ah8 y.aA.length ch8,ς an8 y.net.length cn8] 33):=⟨_,rfl⟩;obtain⟨B13,hBq⟩:∃zq,zq=w8.heap.size:=⟨_,rfl⟩;have G89:Hid (Grow w8 w9):=η (by rw [hwq];exact(Grow.refl _).alloc _);have R13:Hid (w9.heap[B13]? =some (.cells #[ς Si y.head.log.length Sj,ι y.head.aG,ι y.head.next,ς Sr y.head.opn.length Sv,ς ah8 y.aA.length ch8,ς an8 y.net.length cn8] 33 (0,0))):=η (by rw [hwq,hBq];exact aF _ _);go_upto_region 9 with fail
 rw [<-hwq,<-hBq];clear hwq hBq;have G79:=η (nF.o.trans G89.o);have A0M:=η (aj R11.o G79.o);have R59:=η (aj R57.o G79.o);obtain⟨a0,a1,a2,a3,a4,a5⟩:=aJ A0M.o;obtain⟨b0,b1,b2⟩:=cells3 R59.o;have za:B11<w9.heap.size:=(γ A0M.o);have zb:B5<w9.heap.size:=(γ R59.o);go_wp2_with fail
 refine(HDR.o w9 _ (M_.o.mono G79.o.sub) (HST.o.mono (G7.o.trans G79.o).sub)).mono ?_;rintro e w10 ⟨v10,rfl,A0N,iL⟩;obtain⟨CT,C0,C2,C3,C5,C6,an9,cn9,rfl⟩:=A0N.fE;have X6:=η (A0N.mono (sJ (Sub.refl _) iL));have A00:=η iL;clear A0N iL HDR a0 a1 a2 a3 a4 a5 b0 b1 b2 za zb;obtain⟨ru,hwq⟩:∃zq:World,zq=w10.alloc (.cells #[ς CT y.head.log.length C0,ι y.head.aG,ι y.head.next,ς C2 y.head.opn.length C3,ς C5 y.aA.length C6,ς an9 y.net.length cn9] 33):=⟨_,rfl⟩;obtain⟨B14,hBq⟩:∃zq,zq=w10.heap.size:=⟨_,rfl⟩;have A0L:Hid (Grow w10 ru):=η (by rw [hwq];exact(Grow.refl _).alloc _);have R14:Hid (ru.heap[B14]? =some (.cells #[ς CT y.head.log.length C0,ι y.head.aG,ι y.head.next,ς C2 y.head.opn.length C3,ς C5 y.aA.length C6,ς an9 y.net.length cn9] 33 (0,0))):=η (by rw [hwq,hBq];exact aF _ _);go_upto_region 10 with fail
 rw [<-hwq,<-hBq];clear hwq hBq;have A0Q:=η (A00.o.trans A0L.o);have A0R:=η (G89.o.trans A0Q.o);have A0O:=η (nF.o.trans A0R.o);have b8:=η (G7.o.trans A0O.o);have A0S:=η (aj R13.o A0Q.o);have A0T:=η (aj R11.o A0O.o);have HA:=η (pT.o.mono A0R.o.sub);have HB:=η (X6.o.mono A0L.o.sub);have HX:=η (M_.o.mono A0O.o.sub);have HS:Hid (∀W,Grow ru W->W.cell? ⟨B11,0,none⟩=some (ς al x.head.log.length cl)/\W.cell? ⟨B11,1,none⟩=some (ι x.head.aG)/\W.cell? ⟨B11,2,none⟩=some (ι x.head.next)/\W.cell? ⟨B11,3,none⟩=some (ς ao x.head.opn.length co)/\W.cell? ⟨B11,4,none⟩=some (ς ah x.aA.length ch)/\W.cell? ⟨B11,5,none⟩=some (ς an x.net.length cn)/\W.cell? ⟨B13,0,none⟩=some (ς Si y.head.log.length Sj)/\W.cell? ⟨B13,1,none⟩=some (ι y.head.aG)/\W.cell? ⟨B13,2,none⟩=some (ι y.head.next)/\W.cell? ⟨B13,3,none⟩=some (ς Sr y.head.opn.length Sv)/\W.cell? ⟨B13,4,none⟩=some (ς ah8 y.aA.length ch8)/\W.cell? ⟨B13,5,none⟩=some (ς an8 y.net.length cn8)/\W.cell? ⟨B14,0,none⟩=some (ς CT y.head.log.length C0)/\W.cell? ⟨B14,1,none⟩=some (ι y.head.aG)/\W.cell? ⟨B14,2,none⟩=some (ι y.head.next)/\W.cell? ⟨B14,3,none⟩=some (ς C2 y.head.opn.length C3)/\W.cell? ⟨B14,4,none⟩=some (ς C5 y.aA.length C6)/\W.cell? ⟨B14,5,none⟩=some (ς an9 y.net.length cn9)):=fun W hW=>by
  obtain⟨a0,a1,a2,a3,a4,a5⟩:=aJ (aj A0T.o hW);obtain⟨b0,b1,b2,b3,b4,b5⟩:=aJ (aj A0S.o hW);obtain⟨e0,e1,e2,e3,e4,e5⟩:=aJ (aj R14.o hW);exact⟨a0,a1,a2,a3,a4,a5,b0,b1,b2,b3,b4,b5,e0,e1,e2,e3,e4,e5⟩
 have her:=HER.o;clear HX6 M_ pT X6 Io R56 R57 R59 A0M R11 R13;refine Cm (fun w'=>w'.cell? ⟨B11,0,none⟩=some (ς al x.head.log.length cl)/\w'.cell? ⟨B11,1,none⟩=some (ι x.head.aG)/\w'.cell? ⟨B11,2,none⟩=some (ι x.head.next)/\w'.cell? ⟨B11,3,none⟩=some (ς ao x.head.opn.length co)/\w'.cell? ⟨B11,4,none⟩=some (ς ah x.aA.length ch)/\w'.cell? ⟨B11,5,none⟩=some (ς an x.net.length cn)/\w'.cell? ⟨B13,0,none⟩=some (ς Si y.head.log.length Sj)/\w'.cell? ⟨B13,1,none⟩=some (ι y.head.aG)/\w'.cell? ⟨B13,2,none⟩=some (ι y.head.next)/\w'.cell? ⟨B13,3,none⟩=some (ς Sr y.head.opn.length Sv)/\w'.cell? ⟨B13,4,none⟩=some (ς ah8 y.aA.length ch8)/\w'.cell? ⟨B13,5,none⟩=some (ς an8 y.net.length cn8)/\w'.cell? ⟨B14,0,none⟩=some (ς CT y.head.log.length C0)/\w'.cell? ⟨B14,1,none⟩=some (ι y.head.aG)/\w'.cell? ⟨B14,2,none⟩=some (ι y.head.next)/\w'.cell? ⟨B14,3,none⟩=some (ς C2 y.head.opn.length C3)/\w'.cell? ⟨B14,4,none⟩=some (ς C5 y.aA.length C6)/\w'.cell? ⟨B14,5,none⟩=some (ς an9 y.net.length cn9)) [] κ ?_;intro wd GD zD;have ZD:=η zD;clear zD;refine lY [0,1,2,3,4,5] 17 κ (fun _ _ _ _ _ h=>h) (HS.o _ GD) ?_;repeat (refine gq ?_;try simp only [aK])
 refine lZ ?_;refine iR 6 κ rfl ?_;intro K HK;refine DW ρ ?_;try simp only [aV]
 go_simp;go_at_call 13
 refine(Gl _ (HA.o.mono (Grow.sub GD)) (HB.o.mono (Grow.sub GD)) HY3.o).mono ?_;rintro A0w A0x ⟨rfl,hbA⟩;have GA:=η (Grow.trans GD hbA);clear hbA;refine HK.o _ _ ⟨.inr (HS.o _ GA.o),?_⟩;clear HK K;try simp only [aK]
 refine lY [7,8,9,11] 17 κ (fun _ _ _ _ _ h=>h) (HS.o _ GA.o) ?_;repeat (refine gq ?_;try simp only [aK])
 refine lZ ?_;refine iR 10 κ rfl ?_;intro K HK;refine DW ρ ?_;try simp only [aV]
 go_simp;go_at_call 17
 refine(HOW.o _ _ (HX.o.mono (Grow.sub GA.o))).mono ?_;rintro eo wo ⟨vlo,voo,vho,vno,A0y,rfl,hbx⟩;have HXO:=η (hbx.of.mono (qK _ _));have Go:=η (Grow.trans GA.o hbx.grow);obtain⟨alo,clo,aoo,coo,aho,cho,ano,cno,rfl,rfl,rfl,rfl⟩:=hbx.form;clear hbx;refine HK.o _ _ ⟨.inr (HS.o _ Go.o),?_⟩;clear HK K;try simp only [aK]
 refine iR 12 κ rfl ?_;intro K HK;refine DW ρ ?_;try simp only [aV]
 go_simp;go_at_call 13
 refine(Gl _ HXO.o (HX.o.mono (Grow.sub Go.o)) cJ.o).mono ?_;rintro A0z A0A ⟨rfl,hbB⟩;have GB:=η (Grow.trans Go.o hbB);clear hbB;refine HK.o _ _ ⟨.inr (HS.o _ GB.o),?_⟩;clear HK K;try simp only [aK]
 refine lY [13,14] 17 κ (fun _ _ _ _ _ h=>h) (HS.o _ GB.o) ?_;repeat (refine gq ?_;try simp only [aK])
 refine lZ ?_;refine wO κ ?_;go_wp2;go_ret;exact⟨rfl,b8.o.trans GB.o⟩
end Go.Proofs.YtocnmkefmgmkbaaGreat
namespace Go.Proofs.YtocnmkefmgmkbaaGreat
open Go.RowKit Go.ChangeShapes Go.WideShapes Go.ChangeAt
def Reads {α:Type} (P:Program) (t:TypeId) (T:Ty α):Prop:=∀(H:Type) (enc:TypeId×Value->H) (W:World) (fuel:Nat) (cs:List Value) (x:DataW H×List MemPlace),
 DataW.trod enc P W 0 (fun _=>true) true fuel t cs=some x->∃y,T.R W.cell? cs y
theorem A19 {P:Program} {t:TypeId} (ht:P.underlying t=some (.int .i64)):Reads P t Ty.int:=by
 intro H enc W fuel cs x h;obtain⟨n,rfl,_,hw⟩:=DataW.trod_int ht h;exact⟨n,rfl,hw⟩
theorem A2a {α:Type} {P:Program} {t e:TypeId} {T:Ty α} (hR:Reads P e T) (ht:P.underlying t=some (.slice e)) (hc:P.cellsOf e=T.size) (h0:0<T.size):Reads P t T.sl:=by
 intro H enc W fuel cs x h;rcases Deep.open_slice ht h with⟨rfl,_⟩|⟨a,len,cap,m,n,D,Pl,rfl,_,hl,hm,hmm,hxe,hx⟩
 ·exact⟨[],_,rfl,none,0,rfl,Nat.le_refl _,Nat.zero_le _,fun _=>rfl,fun i x e=>by simp at e⟩
 ·simp only [if_true] at hmm
  subst m;have h2:∀i,i<len->∃(p:List Value×α),T.R W.cell? p.1 p.2/\W.cells? 0 (a.add (i*T.size)) T.size=some p.1:=by
   intro i hi;obtain⟨cs',h1,h2⟩:=hx i δ;obtain⟨y,hy⟩:=hR H enc W n cs' _ h2;rw [hc] at h1;exact⟨(cs',y),hy,h1⟩
  have h3:∃l:List α,l.length=len/\∀i y,l[i]? =some y->∃cs',T.R W.cell? cs' y/\W.cells? 0 (a.add (i*T.size)) T.size=some cs':=by
   clear hx hl h hxe;induction len with
   |zero=>exact⟨[],rfl,σ⟩
   |succ len ih=>
    obtain⟨l,hl,hi⟩:=ih (by intro i hi;exact h2 i δ);obtain⟨⟨cs',y⟩,hy,h1⟩:=h2 len δ;refine⟨l++ [y],by simp [hl],fun i z hz=>?_⟩;rcases Nat.lt_or_ge i l.length with hlt|hge
    ·rw [List.getElem?_append_left hlt] at hz;exact hi i z hz
    ·have hb:=(List.getElem?_eq_some_iff.1 hz).1
     simp at hb;obtain rfl:i=len:=by omega
     rw [List.getElem?_append_right hge,hl] at hz;simp at hz;subst hz;exact⟨cs',hy,h1⟩
  obtain⟨l,hlen,hl2⟩:=h3;refine⟨l,_,rfl,some a,cap,by rw [hlen],δ,hm,σ,fun i y hy=>?_⟩;obtain⟨cs',hR',hcs⟩:=hl2 i y hy;obtain⟨_,hlen',hat⟩:=World.cells?_some hcs;have hpos:0<l.length:=by have:=(List.getElem?_eq_some_iff.1 hy).1;omega
  obtain⟨cs0,_,hcs0⟩:=hl2 0 l[0] (List.getElem?_eq_getElem hpos);obtain⟨_,hlen0,A2k⟩:=World.cells?_some hcs0;have hfirst:=A2k 0 h0;rw [List.getElem?_eq_getElem δ] at hfirst;have hsp:=World.cell?_spot hfirst;obtain⟨b,o,s⟩:=a;have hs:s=none:=by simpa [Addr.add] using hsp
  subst hs;refine⟨b,o,cs',rfl,hR',fun j u hu=>?_⟩;have hj:j<T.size:=by rw [<-hlen'];exact(List.getElem?_eq_some_iff.1 hu).1
  have:=hat j hj;rw [Addr.add_lit,Addr.add_lit,hu] at this;exact this
def structOf (P:Program) (t:TypeId):Option (List (TypeId×Nat×Nat)):=
 match P.underlying t with
 |some (.struct fs)=>some (fs.toList.map fun f=>(f.type,f.offset,P.cellsOf f.type))
 |_=>none
theorem A1_ {P:Program} {t:TypeId} {fs':List (TypeId×Nat×Nat)} (hs:structOf P t=some fs') {H:Type} {enc:TypeId×Value->H} {W:World} {fuel:Nat} {cs:List Value} {x:DataW H×List MemPlace}
  (h:DataW.trod enc P W 0 (fun _=>true) true fuel t cs=some x):cs.length=P.cellsOf t/\∀(i:Nat) (f:TypeId×Nat×Nat),fs'[i]? =some f->∃n y,DataW.trod enc P W 0 (fun _=>true) true n f.1 ((cs.drop f.2.1).take f.2.2)=some y:=by
 unfold structOf at hs;split at hs
 ·rename_i fs hu
  obtain rfl:=Option.some.inj hs;obtain⟨xs,n,_,_,hl,hlen,hf⟩:=DataW.trod_struct hu h;refine⟨hl,fun i f hi=>?_⟩;rw [List.getElem?_map] at hi;cases hfi:fs.toList[i]? with
  |none=>rw [hfi] at hi;cases hi
  |some fd=>
   rw [hfi] at hi;obtain rfl:=Option.some.inj hi;have A2i:fs[i]? =some fd:=by simpa using hfi
   have hlt:i<xs.length:=by rw [hlen];exact(Array.getElem?_eq_some_iff.1 A2i).1
   have:=hf i fd A2i;rw [List.getElem?_eq_getElem hlt] at this;exact⟨n,_,this⟩
 ·cases hs
theorem A2e:Reads Tryz.prog 111 Ty.pt:=by
 intro H enc W fuel cs x h;obtain⟨hl,hf⟩:=A1_ (fs':=[(3,0,1),(3,1,1),(3,2,1)]) κ h;rw [show(Tryz.prog).cellsOf 111=3 by kernel_rfl] at hl;match cs,hl with
 | [a,b,c],_=>
  obtain⟨_,_,h0⟩:=hf 0 _ rfl;obtain⟨_,_,h1⟩:=hf 1 _ rfl;obtain⟨_,_,h2⟩:=hf 2 _ rfl;obtain⟨x0,e0,w0⟩:=A19 κ _ _ _ _ _ _ h0;obtain⟨x1,e1,w1⟩:=A19 κ _ _ _ _ _ _ h1;obtain⟨x2,e2,w2⟩:=A19 κ _ _ _ _ _ _ h2;refine⟨⟨x0,x1,x2⟩,?_,w0,w1,w2⟩;simp at e0 e1 e2;subst e0 e1 e2;rfl
theorem A2c:Reads Tryz.prog 23 Ty.pts:=A2a A2e κ κ ε
theorem A2g {α:Type} {P:Program} {t e:TypeId} {T:Ty α} (hR:Reads P t T.sl) (ht:P.underlying t=some (.slice e)) {H:Type} {enc:TypeId×Value->H} {W:World} {r:Reach} {b:Nat} {v:Value} {d:DataW H} {p:List MemPlace}
  (hval:Value.okWide P W r b t v) (h:DataW.Trod enc P W 0 (fun _=>true) true t v d p):∃l,Sl T W.cell? v l:=by
 obtain⟨a,len,cap,rfl⟩:=okWide_slice ht hval;obtain⟨fuel,hf⟩:=h;obtain⟨l,v,e,hv⟩:=hR _ _ _ _ _ _ hf;simp [Value.cells] at e;subst e;exact⟨l,hv⟩
theorem own:ownKnob (Tryz.prog).godebug=none:=by kernel_rfl
theorem laidOut:laidOutB Tryz.prog=true:=by kernel_rfl
end Go.Proofs.YtocnmkefmgmkbaaGreat
namespace Go.Proofs.YtocnmkefmgmkbaaGreat
open Go.RowKit Go.ChangeShapes Go.WideShapes Go.ChangeAt
theorem A2h {α:Type} {T:Ty α} {c:CM} {a:Option Addr} {n cap:Nat} {l:List α} (h:Sl T c (ς a n cap) l):l.length=n:=by
 obtain⟨a',cap',he,_⟩:=h;simp only [Value.slice.injEq] at he;exact he.2.1.symm
theorem A2f {α:Type} {P:Program} {t e:TypeId} {T:Ty α} {k:Nat} (ht:P.underlying t=some (.slice e)) (hb:P.bytesOf e=k) {H:Type} {enc:TypeId×Value->H} {W:World} {r:Reach} {b:Nat} {v:Value} {d:DataW H} {p:List MemPlace} {ts:List TypeId} {ds:List (DataW H)} {j:Nat}
  (hsz:(DataW.weightsEach P ts ds).all (· <=reachBytes)=true) (hj:ts[j]? =some t) (hd:ds[j]? =some d)
  (hval:Value.okWide P W r b t v) (h:DataW.Trod enc P W 0 (fun _=>true) true t v d p) {l:List α} (hl:Sl T W.cell? v l):l.length*k<=140737488351232:=by
 obtain⟨a,len,cap,rfl⟩:=okWide_slice ht hval;obtain⟨fuel,hf⟩:=h;have hll:=A2h hl;rcases Deep.open_slice ht hf with⟨he,_⟩|⟨a',len',cap',m,n,D,Pl,he,_,hlc,_,hmm,hxe,_⟩
 ·simp [Value.cells] at he
  rw [hll,he.2.1];simp
 ·simp [Value.cells] at he
  obtain⟨_,rfl,rfl⟩:=he;obtain rfl:d=.slice ((List.range len).map D) ((List.range (m - len)).map fun j=>D (len+j)):=by simpa using congrArg Prod.fst hxe
  have:=sized_slice hsz hj hd ht;rw [hb,List.length_map,List.length_range] at this;rw [hll];have h2:len*k<=(len+((List.range (m - len)).map fun j=>D (len+j)).length)*k:=Nat.mul_le_mul_right _ (Nat.le_add_right _ _);have h3:reachBytes=140737488351232:=rfl;omega
theorem A2j {α:Type} {P:Program} {t:TypeId} {fs:Array Field} {T:Ty α} (hR:Reads P t T) (ht:P.underlying t=some (.struct fs)) {H:Type} {enc:TypeId×Value->H} {W:World} {r:Reach} {b:Nat} {v:Value} {d:DataW H} {p:List MemPlace}
  (hval:Value.okWide P W r b t v) (h:DataW.Trod enc P W 0 (fun _=>true) true t v d p):∃x,Of T W.cell? v x:=by
 obtain⟨cs,rfl,_⟩:=okWide_struct ht hval;obtain⟨fuel,hf⟩:=h;obtain⟨x,hx⟩:=hR _ _ _ _ _ _ hf;exact⟨x,cs.toList,rfl,hx⟩
theorem A2b:Reads Tryz.prog 25 Ty.st:=by
 intro H enc W fuel cs x h;obtain⟨hl,hf⟩:=A1_ (fs':=[(3,0,1),(3,1,1),(23,2,1)]) κ h;rw [show(Tryz.prog).cellsOf 25=3 by kernel_rfl] at hl;match cs,hl with
 | [a,b,c],_=>
  obtain⟨_,_,h0⟩:=hf 0 _ rfl;obtain⟨_,_,h1⟩:=hf 1 _ rfl;obtain⟨_,_,h2⟩:=hf 2 _ rfl;obtain⟨x0,e0,w0⟩:=A19 κ _ _ _ _ _ _ h0;obtain⟨x1,e1,w1⟩:=A19 κ _ _ _ _ _ _ h1;obtain⟨x2,v2,e2,w2⟩:=A2c _ _ _ _ _ _ h2;refine⟨⟨x0,x1,x2⟩,v2,?_,w0,w1,w2⟩;simp at e0 e1 e2;subst e0 e1 e2;rfl
theorem A2d:Reads Tryz.prog 22 (Ty.sl Ty.st):=A2a A2b κ κ ε
end Go.Proofs.YtocnmkefmgmkbaaGreat
