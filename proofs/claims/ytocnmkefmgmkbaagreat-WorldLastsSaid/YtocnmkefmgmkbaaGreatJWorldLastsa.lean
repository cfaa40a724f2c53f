/- Parts of proofs, joined: E3, G26, A10, C3, K31, Trod, Trod2, Trod3. No condition beside those that each theorem names. -/
import Derived.Deep.Slices
import Derived.OpenShut
import Derived.Below
import Derived.ChangeOld
import Derived.ProofKit
import Derived.SizedLaws
import Derived.Test.YtocnmkefmgmkbaaGreatJW1b
import Derived.Test.YtocnmkefmgmkbaaGreatJW6a
import Derived.Test.YtocnmkefmgmkbaaGreatJW4b
import Derived.Test.YtocnmkefmgmkbaaGreatJWUa
import Derived.Test.YtocnmkefmgmkbaaGreatJWHa
import Derived.Test.YtocnmkefmgmkbaaGreatJW7a
import Derived.Test.YtocnmkefmgmkbaaGreatJW8a
import Derived.Test.YtocnmkefmgmkbaaGreatJWXa
import Derived.Test.YtocnmkefmgmkbaaGreatJW9a
import Derived.Test.YtocnmkefmgmkbaaGreatJW3a
import Derived.Test.YtocnmkefmgmkbaaGreatJW2a
import Derived.Test.YtocnmkefmgmkbaaGreatJWGa
import Derived.Test.YtocnmkefmgmkbaaGreatJW5a
set_option maxRecDepth 100000
set_option maxHeartbeats 40000000
namespace Go.Proofs.YtocnmkefmgmkbaaGreat
open Go.RowKit
theorem Gj {v v':Value} {h h':Hs} (w:World) (hv:Of Ty.hs w.cell? v h) (hv':Of Ty.hs w.cell? v' h'):
  Calls Tryz.prog 25 #[v,v'] w fun e w'=>e=.returned (.bool (decide (h=h')))/\Grow w w':=by
 obtain⟨al,cl,ar,cr,ad,cd,rfl⟩:=hv.dF;obtain⟨eU,eX,kG,kH,o_,pq,rfl⟩:=hv'.dF;have k:=Of.iw hv;have k':=Of.iw hv';have HSL:=η (fun(W:World) (hW:Grow w W)=>BL W (k.1.mono hW.sub) (k'.1.mono hW.sub));have uq:=η (fun(W:World) (hW:Grow w W)=>FT W (k.2.1.mono hW.sub) (k'.2.1.mono hW.sub));have TK:=η (fun(W:World) (hW:Grow w W)=>yI W (k.2.2.mono hW.sub) (k'.2.2.mono hW.sub));have jq:Hid (Grow w ((w.alloc (.cells #[ς al h.log.length cl,ι h.sums.a,ι h.sums.b,ι h.sums.c,ι h.sums.d,ς ar h.ready.length cr,ς ad h.done.length cd] 50)).alloc (.cells #[ς eU h'.log.length eX,ι h'.sums.a,ι h'.sums.b,ι h'.sums.c,ι h'.sums.d,ς kG h'.ready.length kH,ς o_ h'.done.length pq] 50))):=η (((Grow.refl w).alloc _).alloc _);clear hv hv' k k';by_cases hl:h.log=h'.log
 ·by_cases hs:h.sums=h'.sums
  ·by_cases hr:h.ready=h'.ready
   ·by_cases hd:h.done=h'.done
    ·have HE:Hid (decide (h=h')=true):=by show _=_;rw [decide_eq_true_eq];cases h;cases h';simp_all
     have DL:=η (decide_eq_true hl);have HQ:∀u:World,(binOp .eql 47 (.agg #[ι h.sums.a,ι h.sums.b,ι h.sums.c,ι h.sums.d]) (.agg #[ι h'.sums.a,ι h'.sums.b,ι h'.sums.c,ι h'.sums.d])).run Tryz.prog u=.ok (.bool true) u:=fun u=>by rw [Jd,decide_eq_true hs]
     have hg:=yM;have DR:=η (decide_eq_true hr);have DD:=η (decide_eq_true hd);clear hl hs hr hd;go_enter Tryz.func25,Tryz.ntmps25;go_wp2_with fail
     refine(HSL.o _ jq.o).mono ?_;rw [DL.o];rintro e w1 ⟨rfl,dI⟩;(obtain⟨KI,NS⟩:=fJ dI;have w_:w.heap.size<w1:=(ω dI.size);have Ji:w.heap.size+1<w1:=(ω dI.size);have tY:=η dI;clear dI)
     go_wp2_with fail
     refine(uq.o _ (jq.o.trans tY.o)).mono ?_;rw [DR.o];rintro e w2 ⟨rfl,hbw2⟩;(obtain⟨aD,aE⟩:=fJ hbw2;have SY:w.heap.size<w2:=(ω hbw2.size);have Wn:w.heap.size+1<w2:=(ω hbw2.size);have KL:=η hbw2;clear hbw2)
     go_wp2_with fail
     refine(TK.o _ ((jq.o.trans tY.o).trans KL.o)).mono ?_;rw [DD.o];rintro e w3 ⟨rfl,hbw3⟩;(obtain⟨LI,LN⟩:=fJ hbw3;have f8:w.heap.size<w3:=(ω hbw3.size);have gA:w.heap.size+1<w3:=(ω hbw3.size);have gC:=η hbw3;clear hbw3)
     go_wp2;go_ret;exact⟨bK HE.o.symm,(((jq.o.trans tY.o).trans KL.o).trans gC.o)⟩
    ·have HE:Hid (decide (h=h')=false):=by show _=_;rw [decide_eq_false_iff_not];rintro rfl;exact hd rfl
     have DL:=η (decide_eq_true hl);have HQ:∀u:World,(binOp .eql 47 (.agg #[ι h.sums.a,ι h.sums.b,ι h.sums.c,ι h.sums.d]) (.agg #[ι h'.sums.a,ι h'.sums.b,ι h'.sums.c,ι h'.sums.d])).run Tryz.prog u=.ok (.bool true) u:=fun u=>by rw [Jd,decide_eq_true hs]
     have hg:=yM;have DR:=η (decide_eq_true hr);have DD:=η (decide_eq_false hd);clear hl hs hr hd;go_enter Tryz.func25,Tryz.ntmps25;go_wp2_with fail
     refine(HSL.o _ jq.o).mono ?_;rw [DL.o];rintro e w1 ⟨rfl,dI⟩;(obtain⟨KI,NS⟩:=fJ dI;have w_:w.heap.size<w1:=(ω dI.size);have Ji:w.heap.size+1<w1:=(ω dI.size);have tY:=η dI;clear dI)
     go_wp2_with fail
     refine(uq.o _ (jq.o.trans tY.o)).mono ?_;rw [DR.o];rintro e w2 ⟨rfl,hbw2⟩;(obtain⟨aD,aE⟩:=fJ hbw2;have SY:w.heap.size<w2:=(ω hbw2.size);have Wn:w.heap.size+1<w2:=(ω hbw2.size);have KL:=η hbw2;clear hbw2)
     go_wp2_with fail
     refine(TK.o _ ((jq.o.trans tY.o).trans KL.o)).mono ?_;rw [DD.o];rintro e w3 ⟨rfl,hbw3⟩;(obtain⟨LI,LN⟩:=fJ hbw3;have f8:w.heap.size<w3:=(ω hbw3.size);have gA:w.heap.size+1<w3:=(ω hbw3.size);have gC:=η hbw3;clear hbw3)
     go_wp2;go_ret;exact⟨bK HE.o.symm,(((jq.o.trans tY.o).trans KL.o).trans gC.o)⟩
   ·have HE:Hid (decide (h=h')=false):=by show _=_;rw [decide_eq_false_iff_not];rintro rfl;exact hr rfl
    have DL:=η (decide_eq_true hl);have HQ:∀u:World,(binOp .eql 47 (.agg #[ι h.sums.a,ι h.sums.b,ι h.sums.c,ι h.sums.d]) (.agg #[ι h'.sums.a,ι h'.sums.b,ι h'.sums.c,ι h'.sums.d])).run Tryz.prog u=.ok (.bool true) u:=fun u=>by rw [Jd,decide_eq_true hs]
    have hg:=yM;have DR:=η (decide_eq_false hr);clear hl hs hr;go_enter Tryz.func25,Tryz.ntmps25;go_wp2_with fail
    refine(HSL.o _ jq.o).mono ?_;rw [DL.o];rintro e w1 ⟨rfl,dI⟩;(obtain⟨KI,NS⟩:=fJ dI;have w_:w.heap.size<w1:=(ω dI.size);have Ji:w.heap.size+1<w1:=(ω dI.size);have tY:=η dI;clear dI)
    go_wp2_with fail
    refine(uq.o _ (jq.o.trans tY.o)).mono ?_;rw [DR.o];rintro e w2 ⟨rfl,hbw2⟩;(obtain⟨aD,aE⟩:=fJ hbw2;have SY:w.heap.size<w2:=(ω hbw2.size);have Wn:w.heap.size+1<w2:=(ω hbw2.size);have KL:=η hbw2;clear hbw2)
    go_wp2;go_ret;exact⟨bK HE.o.symm,((jq.o.trans tY.o).trans KL.o)⟩
  ·have HE:Hid (decide (h=h')=false):=by show _=_;rw [decide_eq_false_iff_not];rintro rfl;exact hs rfl
   have DL:=η (decide_eq_true hl);have HQ:∀u:World,(binOp .eql 47 (.agg #[ι h.sums.a,ι h.sums.b,ι h.sums.c,ι h.sums.d]) (.agg #[ι h'.sums.a,ι h'.sums.b,ι h'.sums.c,ι h'.sums.d])).run Tryz.prog u=.ok (.bool false) u:=fun u=>by rw [Jd,decide_eq_false hs]
   have hg:=yM;clear hl hs;go_enter Tryz.func25,Tryz.ntmps25;go_wp2_with fail
   refine(HSL.o _ jq.o).mono ?_;rw [DL.o];rintro e w1 ⟨rfl,dI⟩;(obtain⟨KI,NS⟩:=fJ dI;have w_:w.heap.size<w1:=(ω dI.size);have Ji:w.heap.size+1<w1:=(ω dI.size);have tY:=η dI;clear dI)
   go_wp2;go_ret;exact⟨bK HE.o.symm,(jq.o.trans tY.o)⟩
 ·have HE:Hid (decide (h=h')=false):=by show _=_;rw [decide_eq_false_iff_not];rintro rfl;exact hl rfl
  have DL:=η (decide_eq_false hl);clear hl;go_enter Tryz.func25,Tryz.ntmps25;go_wp2_with fail
  refine(HSL.o _ jq.o).mono ?_;rw [DL.o];rintro e w1 ⟨rfl,dI⟩;(obtain⟨KI,NS⟩:=fJ dI;have w_:w.heap.size<w1:=(ω dI.size);have Ji:w.heap.size+1<w1:=(ω dI.size);have tY:=η dI;clear dI)
  go_wp2;go_ret;exact⟨bK HE.o.symm,(jq.o.trans tY.o)⟩
theorem Gl {v v':Value} {x:AW} (w:World) (hv:Of Ty.wd w.cell? v x) (hv':Of Ty.wd w.cell? v' x) (h3:x.aA.length<=3):
  Calls Tryz.prog 13 #[v,v'] w fun e w'=>e=.returned (.bool true)/\Grow w w':=by
 obtain⟨al,cl,ao,co,ah,ch,an,cn,rfl⟩:=hv.fE;obtain⟨eU,eX,kN,kP,pM,cK,A7,BB,rfl⟩:=hv'.fE;obtain⟨q1,q2,q3⟩:=hv.eu;obtain⟨u1,u2,u3⟩:=hv'.eu;have HSH:=η (fun(W:World) (hW:Grow w W)=>Jh W (q1.mono hW.sub) (u1.mono hW.sub));have HSN:=η (fun(W:World) (hW:Grow w W)=>Lu W (q3.mono hW.sub) (u3.mono hW.sub));obtain⟨FG,ch',he,h1,h2,-,hel⟩:=q2;obtain⟨rfl,rfl⟩:ah=FG/\ch=ch':=by simpa using he
 obtain⟨BC,ch3,he',h1',h2',-,jX⟩:=u2;obtain⟨rfl,rfl⟩:pM=BC/\cK=ch3:=by simpa using he'
 unfold maxLen at h2 h2';clear hv hv' q1 q3 u1 u3 he he';have lI:=η hel;have TE:=η jX;clear hel jX;obtain⟨wa,cO⟩:∃y:World,y=w.alloc (.cells #[ς al x.head.log.length cl,ι x.head.aG,ι x.head.next,ς ao x.head.opn.length co,ς ah x.aA.length ch,ς an x.net.length cn] 33):=⟨_,rfl⟩;obtain⟨wz,hwz⟩:∃y:World,y=wa.alloc (.cells #[ς eU x.head.log.length eX,ι x.head.aG,ι x.head.next,ς kN x.head.opn.length kP,ς pM x.aA.length cK,ς A7 x.net.length BB] 33):=⟨_,rfl⟩;have hsz:wa.heap.size=w.heap.size+1:=by rw [cO];simp
 have R1:Hid (wz.heap[w.heap.size]? =some (.cells #[ς al x.head.log.length cl,ι x.head.aG,ι x.head.next,ς ao x.head.opn.length co,ς ah x.aA.length ch,ς an x.net.length cn] 33 (0,0))):=η (by rw [hwz,cO];exact aB (aF _ _) _);have R2:Hid (wz.heap[w.heap.size+1]? =some (.cells #[ς eU x.head.log.length eX,ι x.head.aG,ι x.head.next,ς kN x.head.opn.length kP,ς pM x.aA.length cK,ς A7 x.net.length BB] 33 (0,0))):=η (by rw [hwz,<-hsz];exact aF _ _);have G1:Hid (Grow w wz):=η (by rw [hwz,cO];exact((Grow.refl w).alloc _).alloc _);go_enter Tryz.func13,Tryz.ntmps13;go_upto_region 1 with fail
 rw [<-cO];try rw [hsz]
 rw [<-hwz];clear cO hwz hsz;obtain⟨x1,x2,x3,x4,x5,x6⟩:=aJ R1.o;obtain⟨y1,y2,y3,y4,y5,y6⟩:=aJ R2.o;have zX:w.heap.size+1<wz:=(γ R2.o);have DH:Hid (decide (x.head=x.head)=true):=η σ;have DN:Hid (decide (x.net.map aS=x.net.map aS)=true):=η σ;go_wp2_with fail
 refine(HSH.o _ G1.o).mono ?_;rw [DH.o];rintro e w1 ⟨rfl,hb1⟩;have R11:=η (aj R1.o hb1);have UR:=η (aj R2.o hb1);have G2:=η (G1.o.trans hb1);clear x1 x2 x3 x4 x5 x6 y1 y2 y3 y4 y5 y6 zX hb1;obtain⟨x1,x2,x3,x4,x5,x6⟩:=aJ R11.o;obtain⟨y1,y2,y3,y4,y5,y6⟩:=aJ UR.o;have zX:w.heap.size+1<w1:=(γ UR.o);go_wp2_with fail
 refine(HSN.o _ G2.o).mono ?_;rw [DN.o];rintro e w2 ⟨rfl,hb2⟩;have R12:=η (aj R11.o hb2);have Gf:=η (aj UR.o hb2);have G3:=η (G2.o.trans hb2);clear x1 x2 x3 x4 x5 x6 y1 y2 y3 y4 y5 y6 zX hb2;obtain⟨x1,x2,x3,x4,x5,x6⟩:=aJ R12.o;obtain⟨y1,y2,y3,y4,y5,y6⟩:=aJ Gf.o;have zX:w.heap.size+1<w2:=(γ Gf.o);have tl:((x.aA.length:Int) !=(x.aA.length:Int))=false:=by simp
 go_wp2;clear x1 x2 x3 x4 x5 x6 y1 y2 y3 y4 y5 y6 zX;go_loopw [32] (fun i wr=>∃k:Nat,k<=x.aA.length/\i=ι k/\Grow w2 wr) (fun i _=>x.aA.length - (intOf i).toNat)
 case atStart=>exact⟨0,δ,rfl,Grow.refl _⟩
 case round=>
  obtain⟨k,hk',rfl,hgr⟩:=hrel;have Bv:=η hgr;have GR:=η (G3.o.trans hgr);clear hgr;by_cases hlt:k<x.aA.length
  ·obtain⟨b,o,vl,vr,vd,rfl,e0,e1,e2,e3,e4,e5,e6,hH1,i1,i2,i3,i4,hH2,hH3⟩:=nQ.at_ lI.o k hlt
   obtain⟨b2,o2,ST,vr2,vd2,rfl,f0,f1,f2,f3,f4,f5,f6,TH,-,-,-,-,TO,TX⟩:=nQ.at_ TE.o k hlt;obtain⟨FL,FO,rfl,-⟩:=id hH1;obtain⟨FR,Br,rfl,-⟩:=id hH2;obtain⟨id1,F0,rfl,-⟩:=id hH3;obtain⟨Rx,Ry,rfl,-⟩:=id TH;obtain⟨Rz,RF,rfl,-⟩:=id TO;obtain⟨id2,RI,rfl,-⟩:=id TX;have HSE:=η (fun(W:World) (hW:Grow w W)=>Gj W (v:=.agg #[.slice FL x.aA[k].log.length FO,ι x.aA[k].sums.a,ι x.aA[k].sums.b,ι x.aA[k].sums.c,ι x.aA[k].sums.d,.slice FR x.aA[k].ready.length Br,.slice id1 x.aA[k].done.length F0]) (v':=.agg #[.slice Rx x.aA[k].log.length Ry,ι x.aA[k].sums.a,ι x.aA[k].sums.b,ι x.aA[k].sums.c,ι x.aA[k].sums.d,.slice Rz x.aA[k].ready.length RF,.slice id2 x.aA[k].done.length RI]) (h:=x.aA[k]) (h':=x.aA[k]) ((show Of Ty.hs w.cell? (.agg #[.slice FL x.aA[k].log.length FO,ι x.aA[k].sums.a,ι x.aA[k].sums.b,ι x.aA[k].sums.c,ι x.aA[k].sums.d,.slice FR x.aA[k].ready.length Br,.slice id1 x.aA[k].done.length F0]) x.aA[k] from⟨_,rfl,_,_,_,rfl,hH1,i1,i2,i3,i4,hH2,hH3⟩).mono hW.sub) ((show Of Ty.hs w.cell? (.agg #[.slice Rx x.aA[k].log.length Ry,ι x.aA[k].sums.a,ι x.aA[k].sums.b,ι x.aA[k].sums.c,ι x.aA[k].sums.d,.slice Rz x.aA[k].ready.length RF,.slice id2 x.aA[k].done.length RI]) x.aA[k] from⟨_,rfl,_,_,_,rfl,TH,i1,i2,i3,i4,TO,TX⟩).mono hW.sub));have DE:Hid (decide (x.aA[k]=x.aA[k])=true):=η σ;clear hH1 hH2 hH3 TH TO TX i1 i2 i3 i4;generalize x.aA[k]=h at*;have HE:=η (And.intro e0 (And.intro e1 (And.intro e2 (And.intro e3 (And.intro e4 (And.intro e5 e6))))));have HF:=η (And.intro f0 (And.intro f1 (And.intro f2 (And.intro f3 (And.intro f4 (And.intro f5 f6))))));clear e0 e1 e2 e3 e4 e5 e6 f0 f1 f2 f3 f4 f5 f6;go_upto_region 6 with fail
   have HS:Hid (∀W,Grow wr W->W.cell? ⟨w.heap.size,4,none⟩=some (ς (some ⟨b,o,none⟩) x.aA.length ch)/\W.cell? ⟨w.heap.size+1,4,none⟩=some (ς (some ⟨b2,o2,none⟩) x.aA.length cK)/\W.cell? ⟨b,o+k*7,none⟩=some (ς FL h.log.length FO)/\W.cell? ⟨b,o+k*7+1,none⟩=some (ι h.sums.a)/\W.cell? ⟨b,o+k*7+2,none⟩=some (ι h.sums.b)/\W.cell? ⟨b,o+k*7+3,none⟩=some (ι h.sums.c)/\W.cell? ⟨b,o+k*7+4,none⟩=some (ι h.sums.d)/\W.cell? ⟨b,o+k*7+5,none⟩=some (ς FR h.ready.length Br)/\W.cell? ⟨b,o+k*7+6,none⟩=some (ς id1 h.done.length F0)/\W.cell? ⟨b2,o2+k*7,none⟩=some (ς Rx h.log.length Ry)/\W.cell? ⟨b2,o2+k*7+1,none⟩=some (ι h.sums.a)/\W.cell? ⟨b2,o2+k*7+2,none⟩=some (ι h.sums.b)/\W.cell? ⟨b2,o2+k*7+3,none⟩=some (ι h.sums.c)/\W.cell? ⟨b2,o2+k*7+4,none⟩=some (ι h.sums.d)/\W.cell? ⟨b2,o2+k*7+5,none⟩=some (ς Rz h.ready.length RF)/\W.cell? ⟨b2,o2+k*7+6,none⟩=some (ς id2 h.done.length RI)):=fun W hW=>by
    have hs:=(GR.o.trans hW).sub;obtain⟨e0,e1,e2,e3,e4,e5,e6⟩:=HE.o;obtain⟨f0,f1,f2,f3,f4,f5,f6⟩:=HF.o;obtain⟨-,-,-,-,x5,-⟩:=aJ (aj R12.o (Bv.o.trans hW));obtain⟨-,-,-,-,y5,-⟩:=aJ (aj Gf.o (Bv.o.trans hW));exact⟨x5,y5,hs _ _ e0,hs _ _ e1,hs _ _ e2,hs _ _ e3,hs _ _ e4,hs _ _ e5,hs _ _ e6,hs _ _ f0,hs _ _ f1,hs _ _ f2,hs _ _ f3,hs _ _ f4,hs _ _ f5,hs _ _ f6⟩
   refine Cm (fun w'=>w'.cell? ⟨w.heap.size,4,none⟩=some (ς (some ⟨b,o,none⟩) x.aA.length ch)/\w'.cell? ⟨w.heap.size+1,4,none⟩=some (ς (some ⟨b2,o2,none⟩) x.aA.length cK)/\w'.cell? ⟨b,o+k*7,none⟩=some (ς FL h.log.length FO)/\w'.cell? ⟨b,o+k*7+1,none⟩=some (ι h.sums.a)/\w'.cell? ⟨b,o+k*7+2,none⟩=some (ι h.sums.b)/\w'.cell? ⟨b,o+k*7+3,none⟩=some (ι h.sums.c)/\w'.cell? ⟨b,o+k*7+4,none⟩=some (ι h.sums.d)/\w'.cell? ⟨b,o+k*7+5,none⟩=some (ς FR h.ready.length Br)/\w'.cell? ⟨b,o+k*7+6,none⟩=some (ς id1 h.done.length F0)/\w'.cell? ⟨b2,o2+k*7,none⟩=some (ς Rx h.log.length Ry)/\w'.cell? ⟨b2,o2+k*7+1,none⟩=some (ι h.sums.a)/\w'.cell? ⟨b2,o2+k*7+2,none⟩=some (ι h.sums.b)/\w'.cell? ⟨b2,o2+k*7+3,none⟩=some (ι h.sums.c)/\w'.cell? ⟨b2,o2+k*7+4,none⟩=some (ι h.sums.d)/\w'.cell? ⟨b2,o2+k*7+5,none⟩=some (ς Rz h.ready.length RF)/\w'.cell? ⟨b2,o2+k*7+6,none⟩=some (ς id2 h.done.length RI)) [] κ ?_;intro wd GD zD;have ZD:=η zD;clear zD;refine lY [0,1,2,3,4,5,6,7,8,9] 14 κ (fun _ _ _ _ _ h=>h) (HS.o _ GD) ?_;repeat (refine gq ?_;try simp only [aK])
   refine lZ ?_;refine iR 10 κ rfl ?_;intro K HK;try simp only [aV]
   go_simp;go_at_call 25
   refine(HSE.o _ (GR.o.trans GD)).mono ?_;rw [DE.o];rintro e w5 ⟨rfl,hb5⟩;have G5:=η (Grow.trans GD hb5);clear hb5;refine HK.o _ _ ⟨.inr (HS.o _ G5.o),?_⟩;clear HK K;try simp only [aK]
   refine lY [11] 14 κ (fun _ _ _ _ _ h=>h) (HS.o _ G5.o) ?_;repeat (refine gq ?_;try simp only [aK])
   refine lZ ?_;refine wO κ ?_;go_wp2;go_roundw
   case rel=>exact⟨k+1,δ,by go_num,Bv.o.trans G5.o⟩
   case measure=>simp [intOf];omega
  ·obtain rfl:k=x.aA.length:=by omega
   go_wp2;go_ret;exact⟨rfl,GR.o⟩
def A1g:List St:=[⟨1,0,[⟨1,0,7⟩]⟩,⟨2,0,[]⟩,⟨5,1,[]⟩,⟨2,0,[]⟩,⟨2,0,[]⟩]
structure F10 (X:Nat->AW) (L:List St):Prop where
 l:L=A1g
 x0:X 0=pI 2
 s:∀k (h:k<L.length),X (k+1)=iD (X k) L[k]
 e:∀k (h:k<L.length),bI (X k) L[k]=0
 w:∀k,k<=5->WK 5 (X k)
 n:(X 5).aA.length=2
 a:(X 5).aA[1]?.map (fun h=>h.sums.a)=some 7
 t:(X 5).net.length=1
theorem A14 (a:Option Addr) (n c:Nat) (v0 v1 v2 v3 v4:Value) (w:World):(Instr.field 33 (.agg #[v0,v1,v2,v3,v4,ς a n c]) 2).run Tryz.prog w=.ok (ς a n c) w:=by kernel_rfl
theorem f10:∃X L,F10 X L:=by
 refine⟨fun k=>jG (pI 2) (A1g.take k),A1g,rfl,rfl,fun k h=>Pz h _,fun k h=>?_,fun k h=>?_,κ,κ,κ⟩
 ·have:k=0∨k=1∨k=2∨k=3∨k=4:=by simp [A1g] at h;omega
  rcases this with rfl|rfl|rfl|rfl|rfl
  all_goals
   show bI _ _=0;kernel_rfl
 ·exact(WK.play ε _ (by rw [List.length_take];omega)).up (by rw [List.length_take];omega) ε
theorem A1h (w:World):Calls Tryz.prog 18 #[] w fun e w'=>e=.returned (.bool true)/\Grow w w':=by
 obtain⟨X,L,hF⟩:=f10;have HF:=η hF;have HL:Hid (L.length=5):=η (by rw [hF.l];rfl);clear hF;have HNW:=Uz (n:=2) w ε;rw [show((2:Nat):Int)=2 from rfl,<-HF.o.x0] at HNW;obtain⟨x,hx⟩:∃y,y=X 0:=⟨_,rfl⟩;rw [<-hx] at HNW;have HNW:=η HNW;have HX0:=η hx;clear hx;go_enter Tryz.func18,Tryz.ntmps18;go_wp2_with fail
 refine HNW.o.mono ?_;rintro e w1 ⟨v1,rfl,hx1,hb1⟩;obtain⟨al,cl,ao,co,ah,ch,an,cn,rfl⟩:=hx1.fE;have Jg:=η hx1;have G1:=η hb1;clear hx1 hb1 HNW;obtain⟨w2,hw2⟩:∃y:World,y=w1.alloc (.cells #[ς al x.head.log.length cl,ι x.head.aG,ι x.head.next,ς ao x.head.opn.length co,ς ah x.aA.length ch,ς an x.net.length cn] 33):=⟨_,rfl⟩;obtain⟨B1,hB1⟩:∃y,y=w1.heap.size:=⟨_,rfl⟩;have wG:Hid (Grow w1 w2):=η (by rw [hw2];exact(Grow.refl _).alloc _);have R1:Hid (w2.heap[B1]? =some (.cells #[ς al x.head.log.length cl,ι x.head.aG,ι x.head.next,ς ao x.head.opn.length co,ς ah x.aA.length ch,ς an x.net.length cn] 33 (0,0))):=η (by rw [hw2,hB1];exact aF _ _);have HS2:Hid (w2.heap.size=B1+1/\w.heap.size<=B1):=η (by rw [hw2,hB1];have:=G1.o.size;simp;omega);have UQ:Hid (Of Ty.wd (fr w w2 [some B1]) (.agg #[ς al x.head.log.length cl,ι x.head.aG,ι x.head.next,ς ao x.head.opn.length co,ς ah x.aA.length ch,ς an x.net.length cn]) x):=η (Jg.o.mono fun a9 v9 e9=>by
  unfold ov at e9;split at e9
  ·cases e9
  ·have hl:=World.block_lt_of_cell? w1 a9 e9
   rw [gy δ (fun hm=>by simp at hm;omega)];exact wG.o.sub _ _ e9)
 go_upto_region 2 with fail
 rw [<-hw2,<-hB1];clear hw2 hB1;obtain⟨wp,hwp⟩:∃y:World,y=w2.alloc (.cells #[ι 1,ι 0,ι 7] 111):=⟨_,rfl⟩;obtain⟨A01,hBP⟩:∃y,y=w2.heap.size:=⟨_,rfl⟩;have G2P:Hid (Grow w2 wp):=η (by rw [hwp];exact(Grow.refl _).alloc _);have HPT:Hid (Sl Ty.pt (fr w wp [some B1]) (ς (some ⟨A01,0,none⟩) 1 1) [⟨1,0,7⟩]):=η (by
  have h9:=aI.lit (T:=Ty.pt) (c:=fun _=>none) (base:=B1+1) (e:=111) w2 (cs:=#[ι 1,ι 0,ι 7]) [[ι 1,ι 0,ι 7]] (l:=[⟨1,0,7⟩]) (n:=1) hBP rfl (τ HS2.o) (by show 1<=maxLen;decide) rfl ⟨⟨rfl,(show I64 1 from by unfold I64;decide),(show I64 0 from by unfold I64;decide),(show I64 7 from by unfold I64;decide)⟩,trivial⟩;rw [<-hwp] at h9;exact h9.slc (d:=fr w wp [some B1]) ε (fun _ _ e9=>by cases e9) fun a9 h8=>gy (τ HS2.o) (fun hm=>by simp at hm;have:=HS2.o;omega))
 have HPS:Hid (wp.heap.size=w2.heap.size+1):=η (by rw [hwp];simp);obtain⟨wz,hwz⟩:∃y:World,y=wp.alloc (.cells #[ι 1,ι 0,ς (some ⟨A01,0,none⟩) 1 1,ι 2,ι 0,(),ι 5,ι 1,(),ι 2,ι 0,(),ι 2,ι 0,()] 25):=⟨_,rfl⟩;obtain⟨A02,hBL⟩:∃y,y=w2.heap.size+1:=⟨_,rfl⟩;have GPZ:Hid (Grow wp wz):=η (by rw [hwz];exact(Grow.refl _).alloc _);have S_:Hid (Sl Ty.st (fr w wz [some B1]) (ς (some ⟨A02,0,none⟩) L.length 5) L):=η (by
  have h9:=aI.lit (T:=Ty.st) (c:=fr w wp [some B1]) (base:=B1+1) (e:=25) wp (cs:=#[ι 1,ι 0,ς (some ⟨A01,0,none⟩) 1 1,ι 2,ι 0,(),ι 5,ι 1,(),ι 2,ι 0,(),ι 2,ι 0,()]) [[ι 1,ι 0,ς (some ⟨A01,0,none⟩) 1 1],[ι 2,ι 0,()],[ι 5,ι 1,()],[ι 2,ι 0,()],[ι 2,ι 0,()]] (l:=A1g) (g:=A02) (n:=5) (by rw [hBL];exact HPS.o.symm) rfl (by have:=HS2.o;have:=G2P.o.size;omega) (by show 5<=maxLen;decide) rfl ⟨⟨_,rfl,(show I64 1 from by unfold I64;decide),(show I64 0 from by unfold I64;decide),HPT.o⟩,⟨_,rfl,(show I64 2 from by unfold I64;decide),(show I64 0 from by unfold I64;decide),Sl.nil _ _⟩,⟨_,rfl,(show I64 5 from by unfold I64;decide),(show I64 1 from by unfold I64;decide),Sl.nil _ _⟩,⟨_,rfl,(show I64 2 from by unfold I64;decide),(show I64 0 from by unfold I64;decide),Sl.nil _ _⟩,⟨_,rfl,(show I64 2 from by unfold I64;decide),(show I64 0 from by unfold I64;decide),Sl.nil _ _⟩,trivial⟩;rw [<-hwz] at h9;rw [HL.o,HF.o.l];exact h9.slc (d:=fr w wz [some B1]) ε (dO GPZ.o) fun a9 h8=>gy (τ HS2.o) (fun hm=>by simp at hm;have:=HS2.o;omega))
 go_wp2;rw [<-hwp,<-hBL,<-hBP,<-hwz];clear hwp hBP hwz hBL HPT;have G2Z:=η (G2P.o.trans GPZ.o);have RZ:=η (aj R1.o G2Z.o);have HXZ:=η (UQ.o.mono (dO G2Z.o));have GZ:=η ((G1.o.trans wG.o).trans G2Z.o);go_loopw [22] (fun i wr=>∃(k:Nat) (row:Array Value),k<=5/\i=ι k/\wr.heap[B1]? =some (.cells row 33 (0,0))/\Of Ty.wd (fr w wr [some B1]) (.agg row) (X k)/\Sl Ty.st (fr w wr [some B1]) (ς (some ⟨A02,0,none⟩) L.length 5) L/\Grow w wr) (fun i _=>5 - (intOf i).toNat)
 case atStart=>exact⟨0,_,δ,rfl,RZ.o,by rw [<-HX0.o];exact HXZ.o,S_.o,GZ.o⟩
 case round=>
  obtain⟨k,row,hk',rfl,hrow,hx,hsl,hb⟩:=hrel;obtain⟨eU,eX,kN,kP,pM,cK,A7,BB,hrw⟩:=hx.fE;simp only [Value.agg.injEq] at hrw;subst hrw;have wV:=η (HF.o.w k hk');have yw:=η hrow;have HX:=η hx;have HSL:=η hsl;have HB:=η hb;have hBr:B1<wr.heap.size:=(γ hrow);clear hrow hx hsl hb;by_cases hlt:k<5
  ·obtain⟨aq,cq,heq,-,-,-,hel⟩:=HSL.o
   simp only [Value.slice.injEq] at heq;obtain⟨rfl,-,rfl⟩:=heq;have hlL:k<L.length:=by rw [HL.o];exact hlt
   obtain⟨b,o,vp,hae,c0,c1,c2,i0,i1,hP⟩:=Sts.at_ hel k hlL;simp only [Option.some.injEq,Addr.mk.injEq,and_true] at hae;obtain⟨rfl,rfl⟩:=hae;obtain⟨ap,cp,rfl,-⟩:=id hP;simp only [Nat.zero_add] at c0 c1 c2;have HST:Hid (Of Ty.st wr.cell? (.agg #[ι L[k].kind,ι L[k].n,.slice ap L[k].parts.length cp]) L[k]):=η ⟨_,rfl,_,rfl,i0,i1,hP.mono (fF _ _ _)⟩;have x8:=η (HF.o.s k hlL);have og:=η (HF.o.e k hlL);replace c0:=fF _ _ _ _ _ c0;replace c1:=fF _ _ _ _ _ c1;replace c2:=fF _ _ _ _ _ c2;clear hel hP i0 i1;generalize L[k]=st at*;generalize hxk:X k=x1 at*;have PH:=η hxk;clear hxk hlL;go_upto_region 5 with fail
   obtain⟨ws,hws⟩:∃y:World,y=wr.alloc (.cells #[ι st.kind,ι st.n,ς ap st.parts.length cp] 25):=⟨_,rfl⟩;obtain⟨BS,hBS⟩:∃y,y=wr.heap.size:=⟨_,rfl⟩;have GS:Hid (Grow wr ws):=η (by rw [hws];exact(Grow.refl _).alloc _);have RS:Hid (ws.heap[BS]? =some (.cells #[ι st.kind,ι st.n,ς ap st.parts.length cp] 25 (0,0))):=η (by rw [hws,hBS];exact aF _ _);rw [<-hws,<-hBS];clear hws hBS c0 c1 c2;have RWS:=η (aj yw.o GS.o);have p9:=η (HB.o.trans GS.o);obtain⟨x1',x2,x3,x4,x5,x6⟩:=aJ RWS.o;obtain⟨s0,s1,s2⟩:=cells3 RS.o;have zX:B1<ws.heap.size:=(γ RWS.o);have zS:BS<ws.heap.size:=(γ RS.o);have nW:=η (XQ (s:=st) ws ((HX.o.mono (dO GS.o)).mono (fF _ _ _)) (HST.o.mono GS.o.sub) wV.o);clear wV;go_wp2_with fail
   refine nW.o.mono ?_;rintro e w3 ⟨v3,rfl,hx3,hb3⟩;obtain⟨CX,CY,Rw,co3,BC,ch3,PX,cn3,rfl⟩:=hx3.fE;rw [og.o];have cJ:Hid (Of Ty.wd (fr w w3 [some B1]) (.agg #[ς CX (iD x1 st).head.log.length CY,ι (iD x1 st).head.aG,ι (iD x1 st).head.next,ς Rw (iD x1 st).head.opn.length co3,ς BC (iD x1 st).aA.length ch3,ς PX (iD x1 st).net.length cn3]) (iD x1 st)):=η (hx3.mono (PV p9.o (fun q hq=>by simp at hq;omega)));have RW3:=η (aj RWS.o hb3);have G3:=η (GS.o.trans hb3);clear hx3 hb3 nW x1' x2 x3 x4 x5 x6 s0 s1 s2 zX zS og;generalize iD x1 st=y at*;obtain⟨w4,hw4⟩:∃y9:World,y9=w3.alloc (.cells #[ς CX y.head.log.length CY,ι y.head.aG,ι y.head.next,ς Rw y.head.opn.length co3,ς BC y.aA.length ch3,ς PX y.net.length cn3] 33):=⟨_,rfl⟩;obtain⟨BX,GQ⟩:∃y9,y9=w3.heap.size:=⟨_,rfl⟩;have RJ:Hid (Grow w3 w4):=η (by rw [hw4];exact(Grow.refl _).alloc _);have RX4:Hid (w4.heap[BX]? =some (.cells #[ς CX y.head.log.length CY,ι y.head.aG,ι y.head.next,ς Rw y.head.opn.length co3,ς BC y.aA.length ch3,ς PX y.net.length cn3] 33 (0,0))):=η (by rw [hw4,GQ];exact aF _ _);go_upto_region 6 with fail
   rw [<-hw4,<-GQ];clear hw4 GQ;have RW4:=η (aj RW3.o RJ.o);have G4:=η (G3.o.trans RJ.o);obtain⟨x1',x2,x3,x4,x5,x6⟩:=aJ RX4.o;have zX:BX<w4.heap.size:=(γ RX4.o);go_wp2_with (first|(refine wpList_store_row rfl (.tmp 1) (.tmp 34) rfl rfl rfl RW4.o bV rfl rfl ?_))
   intro w5 r5 g5;have R15:=η r5;have UM:=η ((HB.o.trans G4.o).grown g5 (fun q hq=>by have:=Option.some.inj hq;have:=HS2.o;omega));have HX5:=η ((cJ.o.mono (dO RJ.o)).mono (XA g5 σ));have L0:=η ((HSL.o.mono (dO G4.o)).mono (XA g5 σ));clear r5 g5 x1' x2 x3 x4 x5 x6 zX;go_wp2;go_roundw
   case rel=>exact⟨k+1,_,δ,by go_num,R15.o,by rw [x8.o];exact HX5.o,L0.o,UM.o⟩
   case measure=>simp [intOf];omega
  ·obtain rfl:k=5:=by omega
   have hn:=HF.o.n;have ha:=HF.o.a;have ht:=HF.o.t;generalize X 5=y at*;obtain⟨hh,h1,h7⟩:∃h,y.aA[1]? =some h/\h.sums.a=7:=by
    cases e9:y.aA[1]? with
    |none=>rw [e9] at ha;cases ha
    |some h=>rw [e9] at ha;exact⟨h,rfl,Option.some.inj ha⟩
   obtain⟨q1,q2,q3⟩:=HX.o.eu;obtain⟨aq,cq,heq,-,-,-,hel⟩:=q2;simp only [Value.slice.injEq] at heq;obtain⟨rfl,-,rfl⟩:=heq;obtain⟨bh,oh,cs,rfl,hR,hAt⟩:=hel 1 hh h1;obtain⟨vl9,vr9,vd9,rfl,-⟩:=hR;have c1:=fF _ _ _ _ _ (hAt 1 _ rfl);have u1:((y.aA.length:Int)==2)=true:=by rw [hn];rfl
   have u2:(hh.sums.a==7)=true:=by rw [h7];rfl
   have u3:((y.net.length:Int)==1)=true:=by rw [ht];rfl
   have u4:(1:Int)<(y.aA.length:Int):=by rw [hn];decide
   have u5:1<y.aA.length:=by rw [hn];decide
   have C1:=η c1;clear hel hAt q1 q3 c1 hn ha ht h1 h7 hlt;have TY:=P_ (n:=0) wr ε;have TY:=η TY;go_wp2_with fail
   refine TY.o.mono ?_;rintro e w6 ⟨rfl,hb6⟩;have G6:=η hb6;clear hb6 TY;obtain⟨w7,hw7⟩:∃y9:World,y9=w6.alloc (.cells #[(),ι 0,ι 0,(),(),()] 33):=⟨_,rfl⟩;obtain⟨B7,yL⟩:∃y9,y9=w6.heap.size:=⟨_,rfl⟩;have G67:Hid (Grow w6 w7):=η (by rw [hw7];exact(Grow.refl _).alloc _);go_upto_region 11 with fail
   rw [<-hw7,<-yL];clear hw7 yL;have G7:=η (G6.o.trans G67.o);have R17:=η (aj yw.o G7.o);obtain⟨x1,x2,x3,x4,x5,x6⟩:=aJ R17.o;have zX:B1<w7.heap.size:=(γ R17.o);have c1:=G7.o.sub _ _ C1.o;have c8:w7.cell? ⟨bh,oh+7+1,none⟩=some (ι hh.sums.a):=c1;have c9:w7.cell? ⟨bh,oh+8,none⟩=some (ι hh.sums.a):=c1;go_wp2_with fail
   refine(Ip w7 ((HX.o.mono (fF _ _ _)).mono G7.o.sub) wV.o).mono ?_;rintro eo wo ⟨vlo,voo,vho,vno,A0y,rfl,hbx⟩;have GO:=η ((HB.o.trans G7.o).trans hbx.grow);obtain⟨alo,clo,aoo,coo,aho,cho,ano,cno,rfl,rfl,rfl,rfl⟩:=hbx.form;clear hbx x1 x2 x3 x4 x5 x6 zX c1 c8 c9;have hfn:=A14;go_wp2;go_ret;exact⟨rfl,GO.o⟩
theorem A1o {a b:List Int} (ha:a.Nodup) (hb:b.Nodup) (h:∀x,x∈a↔x∈b):a.length=b.length:=
 Nat.le_antisymm (OW ha fun k hk=>(h k).1 hk) (OW hb fun k hk=>(h k).2 hk)
theorem A1k {n:Nat} {G:Reg} {hd:Hd} {hs:List Hs} (c:Core n G hd hs) (hb:¬19<hd.aG):jA hd={ log:=hd.log++ [⟨4,0,[]⟩],aG:=hd.aG+1,next:=0,opn:=(bT hd.log).opn }:=by
 have hb2:=c.aG;have e:jA hd={ log:=hd.log++ [⟨4,0,[]⟩],aG:=wrap64 ((bT hd.log).aG+1),next:=0,opn:=(bT hd.log).opn }:=by
  unfold jA;rw [if_neg hb,mQ];have:=xu hd.log;unfold b_;simp [this.1]
 have hw:wrap64 ((bT hd.log).aG+1)=hd.aG+1:=by rw [c.pV];unfold wrap64;omega
 rw [e,hw]
theorem A1p {n:Nat} {G:Reg} {hd:Hd} {hs:List Hs} (c:Core n G hd hs) (hb:¬19<hd.aG):
  aW (jA hd).log=aW hd.log/\(jA hd).aG=hd.aG+1/\(jA hd).next=0/\(jA hd).opn.length=(hd.opn.filter fun o=>o.dec).length/\
  (∀o∈hd.opn,o.dec=true->∃q∈(jA hd).opn,q.deed=o.deed/\q.dec=true)/\(∀o∈hd.opn,o.deed≠64*(hd.aG+1))/\∀r∈hd.log,r.kind=5->r.deed≠64*(hd.aG+1):=by
 have hb2:=c.aG;have hn:=c.next;rw [A1k c hb];refine⟨by rw [uQ];rfl,rfl,rfl,?_,fun o ho hd1=>?_,fun o ho e=>?_,fun r hr h5 e=>?_⟩
 ·have h:=A1o (a:=(bT hd.log).opn.map (·.deed)) (b:=(hd.opn.filter fun o=>o.dec).map (·.deed)) c.Mc (List.Nodup.sublist (List.Sublist.map _ List.filter_sublist) c.NV) fun x=>by
   constructor
   ·intro hx
    obtain⟨o,ho,rfl⟩:=List.mem_map.1 hx;obtain⟨q,hq,e1,e2,e3⟩:=(c.tq o.deed o.parts).1 ⟨o,ho,rfl,rfl⟩;exact List.mem_map.2 ⟨q,List.mem_filter.2 ⟨hq,e3⟩,e1⟩
   ·intro hx
    obtain⟨o,ho,rfl⟩:=List.mem_map.1 hx;obtain⟨ho,hd1⟩:=List.mem_filter.1 ho;obtain⟨q,hq,e1,e2⟩:=(c.tq o.deed o.parts).2 ⟨o,ho,rfl,rfl,hd1⟩;exact List.mem_map.2 ⟨q,hq,e1⟩
  simpa using h
 ·obtain⟨q,hq,e1,-⟩:=(c.tq o.deed o.parts).2 ⟨o,ho,rfl,rfl,hd1⟩
  exact⟨q,hq,e1,(c.qY q hq).1⟩
 ·have:=c.old _ (c.nO o ho)
  simp only at this;omega
 ·have:=c.old _ (c.dec.reg ⟨r.deed,r.parts⟩ (List.mem_map.2 ⟨r,List.mem_filter.2 ⟨hr,by simp [h5]⟩,rfl⟩))
  simp only at this;omega
inductive A1t (O:List Opn) (L:List Rc) (d:Int) (P:List Pt) (Y:List Int):Hd->Prop
 |wait (hd:Hd) (heard:List Int) (hl:hd.log=L) (ho:hd.opn=O++ [⟨d,P,false,heard⟩]) (hn:heard.Nodup) (hh:∀k,k∈heard↔k∈aX P/\k∈Y) (hlt:heard.length<(aX P).length):A1t O L d P Y hd
 |dec (hd:Hd) (heard:List Int) (hl:hd.log=L++ [⟨5,d,P⟩]) (ho:hd.opn=O++ [⟨d,P,true,heard⟩]) (A05:∀k∈aX P,k∈Y):A1t O L d P Y hd
 |done (hd:Hd) (hl:hd.log=L++ [⟨5,d,P⟩]++ [⟨6,d,[]⟩]) (ho:hd.opn=O) (A05:∀k∈aX P,k∈Y):A1t O L d P Y hd
theorem A1l {x:AW} {who:Int} (h:who≠3∨19<x.head.aG):iD x ⟨5,who,[]⟩=x:=by
 unfold iD;by_cases h3:who=3
 ·have hb:19<x.head.aG:=h.resolve_left (fun e=>e h3)
  simp [h3,jA,hb]
 ·simp [h3]
theorem A1i {x:AW} {who:Int} (h:who=3):bI x ⟨5,who,[]⟩=ou x.head:=by
 unfold bI;simp [h]
theorem A1m {n0 who:Int} {v:Value} {l:List St} (w:World) (_hn:I64 n0) (hv:Sl Ty.st w.cell? v l) (_hs:l.length*40<=140737488351232) (hwh:I64 who):
  Calls Tryz.prog 6 #[ι n0,v,ι who] w fun e w'=>e=.returned (.bool true)/\Grow w w':=by
 obtain⟨av,cv,rfl,-⟩:=id hv;by_cases hin:1<=n0/\n0<=3;rotate_left
 ·have t:(decide (n0<1)=true∨(decide (n0<1)=false/\decide (3<n0)=true)):=by
   by_cases h:n0<1
   ·left;simp [h]
   ·right;simp;omega
  clear hv hin;go_enter Tryz.func6,Tryz.ntmps6;go_wp2_with fail
  refine(A1h _).mono ?_;rintro e w1 ⟨rfl,hb1⟩;rcases t with t|⟨t1,t2⟩
  all_goals
   go_wp2;go_ret;exact⟨rfl,hb1⟩
 obtain⟨n,rfl⟩:∃n:Nat,n0=(n:Int):=⟨n0.toNat,δ⟩;have hn:1<=n/\n<=3:=by omega
 have tn1:decide ((n:Int)<1)=false:=by simp;omega
 have tn3:decide ((3:Int)<(n:Int))=false:=by simp;omega
 obtain⟨G,hwi,-⟩:=WI.Zi hn (l.take 150);have hfw:=tu.play n (l.take 150) (tu.zero n);have hwk:=WK.play hn (l.take 150) (by rw [List.length_take];omega);have KH:=η (fun(W:World) (hW:Grow w W)=>X9 (l:=l) W hn (hv.mono hW.sub));have Z0:=η (fun(W:World) (v:Value) (h1:Of Ty.wd W.cell? v (jG (pI n) (l.take 150)))=>XQ (s:=⟨5,who,[]⟩) (vs:=.agg #[ι 5,ι who,()]) W h1 ⟨_,rfl,_,rfl,(show I64 5 from by unfold I64;decide),hwh,Sl.nil _ _⟩ hwk);have cJ:=η hwk.XG.2;have HLW:=η (fun hb=>(A1p hwi.core hb).1);have Am:Hid ((jG (pI n) (l.take 150)).head.log.length<=200):=η (by have:=hfw.log;rw [List.length_take] at this;omega);clear hv hin hn hwi hfw hwk;generalize jG (pI n) (l.take 150)=x at*;go_enter Tryz.func6,Tryz.ntmps6;go_wp2_with fail
 refine(A1h _).mono ?_;rintro e w1 ⟨rfl,hb1⟩;have G1:=η hb1;clear hb1;go_wp2_with fail
 refine(KH.o _ G1.o).mono ?_;rintro e w2 ⟨v2,es2,rfl,hx2,-,hb2⟩;obtain⟨al,cl,ao,co,ah,ch,an,cn,rfl⟩:=hx2.fE;have UQ:=η hx2;have G2:=η (G1.o.trans hb2);clear hx2 hb2 KH tn1 tn3;obtain⟨w3,hwq⟩:∃zq:World,zq=w2.alloc (.cells #[ς al x.head.log.length cl,ι x.head.aG,ι x.head.next,ς ao x.head.opn.length co,ς ah x.aA.length ch,ς an x.net.length cn] 33):=⟨_,rfl⟩;obtain⟨B7,hBq⟩:∃zq,zq=w2.heap.size:=⟨_,rfl⟩;have cI:Hid (Grow w2 w3):=η (by rw [hwq];exact(Grow.refl _).alloc _);have R7:Hid (w3.heap[B7]? =some (.cells #[ς al x.head.log.length cl,ι x.head.aG,ι x.head.next,ς ao x.head.opn.length co,ς ah x.aA.length ch,ς an x.net.length cn] 33 (0,0))):=η (by rw [hwq,hBq];exact aF _ _);go_upto_region 6 with fail
 rw [<-hwq,<-hBq];clear hwq hBq;have HX:=η (UQ.o.mono cI.o.sub);have G3:=η (G2.o.trans cI.o);obtain⟨a0,a1,a2,a3,a4,a5⟩:=aJ R7.o;have za:B7<w3.heap.size:=(γ R7.o);go_wp2_with fail
 refine(Z0.o w3 _ HX.o).mono ?_;rintro e w4 ⟨v4,rfl,hx4,hb4⟩;clear a0 a1 a2 a3 a4 a5 za Z0;have RJ:=η hb4;have Yj:=η (aj R7.o hb4);by_cases hwho:who=3/\¬19<x.head.aG;rotate_left
 ·have hor:who≠3∨19<x.head.aG:=by
   by_cases h3:who=3
   ·exact .inr (Decidable.byContradiction fun h=>hwho ⟨h3,h⟩)
   ·exact .inl h3
  have ht:(who !=3)=true∨((who !=3)=false/\(bI x ⟨5,who,[]⟩ !=0)=true):=by
   by_cases h3:who=3
   ·right
    have hb:19<x.head.aG:=hor.resolve_left (fun e=>e h3);rw [A1i h3];unfold ou;rw [if_pos hb];exact⟨by simp [h3],ε⟩
   ·left;simpa using h3
  rw [A1l hor] at hx4;obtain⟨al4,cl4,PM,PP,ah4,ch4,an4,cn4,rfl⟩:=hx4.fE;have HX4:=η (hx4.mono (qK _ _));clear hx4 hb4 hor hwho;generalize bI x ⟨5,who,[]⟩=er at*;obtain⟨w5,hwq⟩:∃zq:World,zq=w4.alloc (.cells #[ς al4 x.head.log.length cl4,ι x.head.aG,ι x.head.next,ς PM x.head.opn.length PP,ς ah4 x.aA.length ch4,ς an4 x.net.length cn4] 33):=⟨_,rfl⟩;obtain⟨A0v,hBq⟩:∃zq,zq=w4.heap.size:=⟨_,rfl⟩;have G45:Hid (Grow w4 w5):=η (by rw [hwq];exact(Grow.refl _).alloc _);have R9:Hid (w5.heap[A0v]? =some (.cells #[ς al4 x.head.log.length cl4,ι x.head.aG,ι x.head.next,ς PM x.head.opn.length PP,ς ah4 x.aA.length ch4,ς an4 x.net.length cn4] 33 (0,0))):=η (by rw [hwq,hBq];exact aF _ _);go_upto_region 7 with fail
  rw [<-hwq,<-hBq];clear hwq hBq;have G35:=η (RJ.o.trans G45.o);have R75:=η (aj Yj.o G45.o);obtain⟨a0,a1,a2,a3,a4,a5⟩:=aJ R75.o;obtain⟨b0,b1,b2,b3,b4,b5⟩:=aJ R9.o;have za:B7<w5.heap.size:=(γ R75.o);have zb:A0v<w5.heap.size:=(γ R9.o);rcases ht with ht|⟨ht,ht2⟩
  all_goals
   go_wp2_with fail
   refine(Gl w5 (HX4.o.mono G45.o.sub) (HX.o.mono G35.o.sub) cJ.o).mono ?_;rintro e w6 ⟨rfl,hb6⟩;clear a0 a1 a2 a3 a4 a5 b0 b1 b2 b3 b4 b5 za zb;go_wp2;go_ret;exact⟨rfl,G3.o.trans (G35.o.trans hb6)⟩
 obtain⟨rfl,A1r⟩:=hwho;have he:bI x ⟨5,3,[]⟩=0:=by rw [A1i rfl];unfold ou;rw [if_neg A1r]
 have hA:iD x ⟨5,3,[]⟩=⟨jA x.head,x.aA,x.net⟩:=by unfold iD;simp
 rw [hA] at hx4;rw [he];have HLD:=η (HLW.o δ);have HL2:Hid ((jA x.head).log.length<=300):=η (by have:=Am.o;unfold jA;rw [if_neg A1r,Hz];simp;omega);clear HLW he hA A1r;generalize jA x.head=h2 at*;obtain⟨al4,cl4,PM,PP,ah4,ch4,an4,cn4,rfl⟩:∃al4 cl4 PM PP ah4 ch4 an4 cn4,v4=.agg #[ς al4 h2.log.length cl4,ι h2.aG,ι h2.next,ς PM h2.opn.length PP,ς ah4 x.aA.length ch4,ς an4 x.net.length cn4]:=hx4.fE;have HX4:=η (hx4.mono (qK _ _));clear hx4 hb4;obtain⟨w5,hwq⟩:∃zq:World,zq=w4.alloc (.cells #[ς al4 h2.log.length cl4,ι h2.aG,ι h2.next,ς PM h2.opn.length PP,ς ah4 x.aA.length ch4,ς an4 x.net.length cn4] 33):=⟨_,rfl⟩;obtain⟨A0v,hBq⟩:∃zq,zq=w4.heap.size:=⟨_,rfl⟩;have G45:Hid (Grow w4 w5):=η (by rw [hwq];exact(Grow.refl _).alloc _);have R9:Hid (w5.heap[A0v]? =some (.cells #[ς al4 h2.log.length cl4,ι h2.aG,ι h2.next,ς PM h2.opn.length PP,ς ah4 x.aA.length ch4,ς an4 x.net.length cn4] 33 (0,0))):=η (by rw [hwq,hBq];exact aF _ _);go_upto_region 7 with fail
 rw [<-hwq,<-hBq];clear hwq hBq;have G35:=η (RJ.o.trans G45.o);have R75:=η (aj Yj.o G45.o);have HA:=η (HX4.o.mono G45.o.sub).eu;have HB:=η (HX.o.mono G35.o.sub).eu;go_upto_region 9 with fail
 have HS:Hid (∀W,Grow w5 W->W.cell? ⟨A0v,0,none⟩=some (ς al4 h2.log.length cl4)/\W.cell? ⟨A0v,5,none⟩=some (ς an4 x.net.length cn4)/\W.cell? ⟨B7,0,none⟩=some (ς al x.head.log.length cl)/\W.cell? ⟨B7,5,none⟩=some (ς an x.net.length cn)):=fun W hW=>by
  obtain⟨a0,a1,a2,a3,a4,a5⟩:=aJ (aj R75.o hW);obtain⟨b0,b1,b2,b3,b4,b5⟩:=aJ (aj R9.o hW);exact⟨b0,b5,a0,a5⟩
 have dd:Hid (decide (aW h2.log=aW x.head.log)=true):=η (decide_eq_true HLD.o);have dn:Hid (decide (x.net.map aS=x.net.map aS)=true):=η (decide_eq_true rfl);refine Cm (fun w'=>w'.cell? ⟨A0v,0,none⟩=some (ς al4 h2.log.length cl4)/\w'.cell? ⟨A0v,5,none⟩=some (ς an4 x.net.length cn4)/\w'.cell? ⟨B7,0,none⟩=some (ς al x.head.log.length cl)/\w'.cell? ⟨B7,5,none⟩=some (ς an x.net.length cn)) [] κ ?_;intro wd GD zD;have ZD:=η zD;clear zD;refine lY [0,1,2,4,5,6] 20 κ (fun _ _ _ _ _ h=>h) (HS.o _ GD) ?_;repeat (refine gq ?_;try simp only [aK])
 refine lZ ?_;refine iR 3 κ rfl ?_;intro K HK;try simp only [aV]
 go_simp;go_at_call 19
 refine(A1f (c:=World.cell? wd) _ (Sub.refl _) ((Of.lq HA.o.1).1.mono (Grow.sub GD)) (by show h2.log.length*40<=_;have:=HL2.o;omega)).mono ?_;rintro A0w A0x ⟨A06,rfl,hoA,hbA⟩;have A07:=η (hoA.sl ε (Grow.sub hbA));have A08:=η hbA;have GA:=η (Grow.trans GD hbA);obtain⟨adA,cdA,rfl⟩:=hoA.form;clear hoA hbA;refine HK.o _ _ ⟨.inr (HS.o _ GA.o),?_⟩;clear HK K;try simp only []
 refine iR 7 κ rfl ?_;intro K HK;try simp only [aV]
 go_simp;go_at_call 19
 refine(A1f (c:=World.cell? A0x) _ (Sub.refl _) ((Of.lq HB.o.1).1.mono (Grow.sub GA.o)) (τ Am.o)).mono ?_;rintro A0z A0A ⟨A09,rfl,hoB,hbB⟩;have A0_:=η (hoB.sl ε (Grow.sub hbB));have A1a:=η hbB;have GB:=η (Grow.trans GA.o hbB);obtain⟨adB,cdB,rfl⟩:=hoB.form;clear hoB hbB;refine HK.o _ _ ⟨.inr (HS.o _ GB.o),?_⟩;clear HK K;try simp only [aK]
 refine iR 8 κ rfl ?_;intro K HK;try simp only [aV]
 go_simp;go_at_call 23
 refine(FT _ (A07.o.mono (Grow.sub A1a.o)) A0_.o).mono ?_;rw [dd.o];rintro A1b A1c ⟨rfl,hbC⟩;have GC:=η (Grow.trans GB.o hbC);clear hbC;refine HK.o _ _ ⟨.inr (HS.o _ GC.o),?_⟩;clear HK K;try simp only [aK]
 refine lY [9,10,11,12,13,14] 20 κ (fun _ _ _ _ _ h=>h) (HS.o _ GC.o) ?_;repeat (refine gq ?_;try simp only [aK])
 refine lZ ?_;refine iR 15 κ rfl ?_;intro K HK;refine DW ρ ?_;try simp only [aV]
 go_simp;go_at_call 24
 refine(Lu _ (HA.o.2.2.mono (Grow.sub GC.o)) (HB.o.2.2.mono (Grow.sub GC.o))).mono ?_;rw [dn.o];rintro A1d A1e ⟨rfl,hbE⟩;have GE:=η (Grow.trans GC.o hbE);clear hbE;refine HK.o _ _ ⟨.inr (HS.o _ GE.o),?_⟩;clear HK K;try simp only [aK]
 refine lY [16,17] 20 κ (fun _ _ _ _ _ h=>h) (HS.o _ GE.o) ?_;repeat (refine gq ?_;try simp only [aK])
 refine lZ ?_;refine wO κ ?_;have A0P:=cJ.o;have R7E:=η (aj R75.o GE.o);have R9E:=η (aj R9.o GE.o);have GE5:=η GE.o;obtain⟨ahq,chq,heq,-,-,-,hel⟩:=HA.o.2.1;obtain⟨rfl,rfl⟩:ah4=ahq/\ch4=chq:=by simpa using heq
 obtain⟨ahq,chq,heq2,-,-,-,A1u⟩:=HB.o.2.1;obtain⟨rfl,rfl⟩:ah=ahq/\ch=chq:=by simpa using heq2
 have lI:=η hel;have TE:=η A1u;clear heq heq2 hel A1u HS dd dn;obtain⟨a0,a1,a2,a3,a4,a5⟩:=aJ R7E.o;have za:B7<A1e.heap.size:=(γ R7E.o);go_wp2;clear a0 a1 a2 a3 a4 a5 za;go_loopw [63] (fun i wr=>∃k:Nat,k<=x.aA.length/\i=ι k/\Grow A1e wr) (fun i _=>x.aA.length - (intOf i).toNat)
 case atStart=>exact⟨0,δ,rfl,Grow.refl _⟩
 case round=>
  obtain⟨k,hk',rfl,hgr⟩:=hrel;have Bv:=η hgr;have GR:=η (GE5.o.trans hgr);clear hgr;by_cases hlt:k<x.aA.length
  ·obtain⟨b,o,vl,vr,vd,rfl,e0,e1,e2,e3,e4,e5,e6,hH1,i1,i2,i3,i4,hH2,hH3⟩:=nQ.at_ lI.o k hlt
   obtain⟨b2,o2,ST,vr2,vd2,rfl,f0,f1,f2,f3,f4,f5,f6,TH,-,-,-,-,TO,TX⟩:=nQ.at_ TE.o k hlt;obtain⟨FL,FO,rfl,-⟩:=id hH1;obtain⟨FR,Br,rfl,-⟩:=id hH2;obtain⟨id1,F0,rfl,-⟩:=id hH3;obtain⟨Rx,Ry,rfl,-⟩:=id TH;obtain⟨Rz,RF,rfl,-⟩:=id TO;obtain⟨id2,RI,rfl,-⟩:=id TX;have HSE:=η (fun(W:World) (hW:Grow w5 W)=>Gj W (v:=.agg #[.slice FL x.aA[k].log.length FO,ι x.aA[k].sums.a,ι x.aA[k].sums.b,ι x.aA[k].sums.c,ι x.aA[k].sums.d,.slice FR x.aA[k].ready.length Br,.slice id1 x.aA[k].done.length F0]) (v':=.agg #[.slice Rx x.aA[k].log.length Ry,ι x.aA[k].sums.a,ι x.aA[k].sums.b,ι x.aA[k].sums.c,ι x.aA[k].sums.d,.slice Rz x.aA[k].ready.length RF,.slice id2 x.aA[k].done.length RI]) (h:=x.aA[k]) (h':=x.aA[k]) ((show Of Ty.hs w5.cell? (.agg #[.slice FL x.aA[k].log.length FO,ι x.aA[k].sums.a,ι x.aA[k].sums.b,ι x.aA[k].sums.c,ι x.aA[k].sums.d,.slice FR x.aA[k].ready.length Br,.slice id1 x.aA[k].done.length F0]) x.aA[k] from⟨_,rfl,_,_,_,rfl,hH1,i1,i2,i3,i4,hH2,hH3⟩).mono hW.sub) ((show Of Ty.hs w5.cell? (.agg #[.slice Rx x.aA[k].log.length Ry,ι x.aA[k].sums.a,ι x.aA[k].sums.b,ι x.aA[k].sums.c,ι x.aA[k].sums.d,.slice Rz x.aA[k].ready.length RF,.slice id2 x.aA[k].done.length RI]) x.aA[k] from⟨_,rfl,_,_,_,rfl,TH,i1,i2,i3,i4,TO,TX⟩).mono hW.sub));have DE:Hid (decide (x.aA[k]=x.aA[k])=true):=η σ;clear hH1 hH2 hH3 TH TO TX i1 i2 i3 i4;generalize x.aA[k]=h at*;have HE:=η (And.intro e0 (And.intro e1 (And.intro e2 (And.intro e3 (And.intro e4 (And.intro e5 e6))))));have HF:=η (And.intro f0 (And.intro f1 (And.intro f2 (And.intro f3 (And.intro f4 (And.intro f5 f6))))));clear e0 e1 e2 e3 e4 e5 e6 f0 f1 f2 f3 f4 f5 f6;go_upto_region 14 with fail
   have HS:Hid (∀W,Grow wr W->W.cell? ⟨A0v,4,none⟩=some (ς (some ⟨b,o,none⟩) x.aA.length ch4)/\W.cell? ⟨B7,4,none⟩=some (ς (some ⟨b2,o2,none⟩) x.aA.length ch)/\W.cell? ⟨b,o+k*7,none⟩=some (ς FL h.log.length FO)/\W.cell? ⟨b,o+k*7+1,none⟩=some (ι h.sums.a)/\W.cell? ⟨b,o+k*7+2,none⟩=some (ι h.sums.b)/\W.cell? ⟨b,o+k*7+3,none⟩=some (ι h.sums.c)/\W.cell? ⟨b,o+k*7+4,none⟩=some (ι h.sums.d)/\W.cell? ⟨b,o+k*7+5,none⟩=some (ς FR h.ready.length Br)/\W.cell? ⟨b,o+k*7+6,none⟩=some (ς id1 h.done.length F0)/\W.cell? ⟨b2,o2+k*7,none⟩=some (ς Rx h.log.length Ry)/\W.cell? ⟨b2,o2+k*7+1,none⟩=some (ι h.sums.a)/\W.cell? ⟨b2,o2+k*7+2,none⟩=some (ι h.sums.b)/\W.cell? ⟨b2,o2+k*7+3,none⟩=some (ι h.sums.c)/\W.cell? ⟨b2,o2+k*7+4,none⟩=some (ι h.sums.d)/\W.cell? ⟨b2,o2+k*7+5,none⟩=some (ς Rz h.ready.length RF)/\W.cell? ⟨b2,o2+k*7+6,none⟩=some (ς id2 h.done.length RI)):=fun W hW=>by
    have hs:=(GR.o.trans hW).sub;obtain⟨e0,e1,e2,e3,e4,e5,e6⟩:=HE.o;obtain⟨f0,f1,f2,f3,f4,f5,f6⟩:=HF.o;obtain⟨-,-,-,-,x5,-⟩:=aJ (aj R9E.o (Bv.o.trans hW));obtain⟨-,-,-,-,y5,-⟩:=aJ (aj R7E.o (Bv.o.trans hW));exact⟨x5,y5,hs _ _ e0,hs _ _ e1,hs _ _ e2,hs _ _ e3,hs _ _ e4,hs _ _ e5,hs _ _ e6,hs _ _ f0,hs _ _ f1,hs _ _ f2,hs _ _ f3,hs _ _ f4,hs _ _ f5,hs _ _ f6⟩
   refine Cm (fun w'=>w'.cell? ⟨A0v,4,none⟩=some (ς (some ⟨b,o,none⟩) x.aA.length ch4)/\w'.cell? ⟨B7,4,none⟩=some (ς (some ⟨b2,o2,none⟩) x.aA.length ch)/\w'.cell? ⟨b,o+k*7,none⟩=some (ς FL h.log.length FO)/\w'.cell? ⟨b,o+k*7+1,none⟩=some (ι h.sums.a)/\w'.cell? ⟨b,o+k*7+2,none⟩=some (ι h.sums.b)/\w'.cell? ⟨b,o+k*7+3,none⟩=some (ι h.sums.c)/\w'.cell? ⟨b,o+k*7+4,none⟩=some (ι h.sums.d)/\w'.cell? ⟨b,o+k*7+5,none⟩=some (ς FR h.ready.length Br)/\w'.cell? ⟨b,o+k*7+6,none⟩=some (ς id1 h.done.length F0)/\w'.cell? ⟨b2,o2+k*7,none⟩=some (ς Rx h.log.length Ry)/\w'.cell? ⟨b2,o2+k*7+1,none⟩=some (ι h.sums.a)/\w'.cell? ⟨b2,o2+k*7+2,none⟩=some (ι h.sums.b)/\w'.cell? ⟨b2,o2+k*7+3,none⟩=some (ι h.sums.c)/\w'.cell? ⟨b2,o2+k*7+4,none⟩=some (ι h.sums.d)/\w'.cell? ⟨b2,o2+k*7+5,none⟩=some (ς Rz h.ready.length RF)/\w'.cell? ⟨b2,o2+k*7+6,none⟩=some (ς id2 h.done.length RI)) [] κ ?_;intro wd GD zD;have ZD:=η zD;clear zD;refine lY [0,1,2,3,4,5,6,7,8,9] 14 κ (fun _ _ _ _ _ h=>h) (HS.o _ GD) ?_;repeat (refine gq ?_;try simp only [aK])
   refine lZ ?_;refine iR 10 κ rfl ?_;intro K HK;try simp only [aV]
   go_simp;go_at_call 25
   refine(HSE.o _ (GR.o.trans GD)).mono ?_;rw [DE.o];rintro e w8 ⟨rfl,hb8⟩;have G8:=η (Grow.trans GD hb8);clear hb8;refine HK.o _ _ ⟨.inr (HS.o _ G8.o),?_⟩;clear HK K;try simp only [aK]
   refine lY [11] 14 κ (fun _ _ _ _ _ h=>h) (HS.o _ G8.o) ?_;repeat (refine gq ?_;try simp only [aK])
   refine lZ ?_;refine wO κ ?_;go_wp2;go_roundw
   case rel=>exact⟨k+1,δ,by go_num,Bv.o.trans G8.o⟩
   case measure=>simp [intOf];omega
  ·obtain rfl:k=x.aA.length:=by omega
   go_wp2;go_ret;exact⟨rfl,G3.o.trans (G35.o.trans GR.o)⟩
end Go.Proofs.YtocnmkefmgmkbaaGreat
namespace Go.Proofs.YtocnmkefmgmkbaaGreat
open Go.RowKit Go.ChangeShapes Go.WideShapes Go.ChangeAt
def Reads {α:Type} (P:Program) (t:TypeId) (T:Ty α):Prop:=∀(H:Type) (enc:TypeId×Value->H) (W:World) (fuel:Nat) (cs:List Value) (x:DataW H×List MemPlace),
 DataW.trod enc P W 0 (fun _=>true) true fuel t cs=some x->∃y,T.R W.cell? cs y
theorem A19 {P:Program} {t:TypeId} (ht:P.underlying t=some (.int .i64)):Reads P t Ty.int:=by
 intro H enc W fuel cs x h;obtain⟨n,rfl,_,hw⟩:=DataW.trod_int ht h;exact⟨n,rfl,hw⟩
theorem A2a {α:Type} {P:Program} {t e:TypeId} {T:Ty α} (hR:Reads P e T) (ht:P.underlying t=some (.slice e)) (hc:P.cellsOf e=T.size) (h0:0<T.size):Reads P t T.sl:=by
 intro H enc W fuel cs x h;rcases Deep.open_slice ht h with⟨rfl,_⟩|⟨a,len,cap,m,n,D,Pl,rfl,_,hl,hm,hmm,hxe,hx⟩
 ·exact⟨[],_,rfl,none,0,rfl,Nat.le_refl _,Nat.zero_le _,fun _=>rfl,fun i x e=>by simp at e⟩
 ·simp only [if_true] at hmm
  subst m;have h2:∀i,i<len->∃(p:List Value×α),T.R W.cell? p.1 p.2/\W.cells? 0 (a.add (i*T.size)) T.size=some p.1:=by
   intro i hi;obtain⟨cs',h1,h2⟩:=hx i δ;obtain⟨y,hy⟩:=hR H enc W n cs' _ h2;rw [hc] at h1;exact⟨(cs',y),hy,h1⟩
  have h3:∃l:List α,l.length=len/\∀i y,l[i]? =some y->∃cs',T.R W.cell? cs' y/\W.cells? 0 (a.add (i*T.size)) T.size=some cs':=by
   clear hx hl h hxe;induction len with
   |zero=>exact⟨[],rfl,σ⟩
   |succ len ih=>
    obtain⟨l,hl,hi⟩:=ih (by intro i hi;exact h2 i δ);obtain⟨⟨cs',y⟩,hy,h1⟩:=h2 len δ;refine⟨l++ [y],by simp [hl],fun i z hz=>?_⟩;rcases Nat.lt_or_ge i l.length with hlt|hge
    ·rw [List.getElem?_append_left hlt] at hz;exact hi i z hz
    ·have hb:=(List.getElem?_eq_some_iff.1 hz).1
     simp at hb;obtain rfl:i=len:=by omega
     rw [List.getElem?_append_right hge,hl] at hz;simp at hz;subst hz;exact⟨cs',hy,h1⟩
  obtain⟨l,hlen,hl2⟩:=h3;refine⟨l,_,rfl,some a,cap,by rw [hlen],δ,hm,σ,fun i y hy=>?_⟩;obtain⟨cs',hR',hcs⟩:=hl2 i y hy;obtain⟨_,hlen',hat⟩:=World.cells?_some hcs;have hpos:0<l.length:=by have:=(List.getElem?_eq_some_iff.1 hy).1;omega
  obtain⟨cs0,_,hcs0⟩:=hl2 0 l[0] (List.getElem?_eq_getElem hpos);obtain⟨_,hlen0,A2k⟩:=World.cells?_some hcs0;have hfirst:=A2k 0 h0;rw [List.getElem?_eq_getElem δ] at hfirst;have hsp:=World.cell?_spot hfirst;obtain⟨b,o,s⟩:=a;have hs:s=none:=by simpa [Addr.add] using hsp
  subst hs;refine⟨b,o,cs',rfl,hR',fun j u hu=>?_⟩;have hj:j<T.size:=by rw [<-hlen'];exact(List.getElem?_eq_some_iff.1 hu).1
  have:=hat j hj;rw [Addr.add_lit,Addr.add_lit,hu] at this;exact this
def structOf (P:Program) (t:TypeId):Option (List (TypeId×Nat×Nat)):=
 match P.underlying t with
 |some (.struct fs)=>some (fs.toList.map fun f=>(f.type,f.offset,P.cellsOf f.type))
 |_=>none
theorem A1_ {P:Program} {t:TypeId} {fs':List (TypeId×Nat×Nat)} (hs:structOf P t=some fs') {H:Type} {enc:TypeId×Value->H} {W:World} {fuel:Nat} {cs:List Value} {x:DataW H×List MemPlace}
  (h:DataW.trod enc P W 0 (fun _=>true) true fuel t cs=some x):cs.length=P.cellsOf t/\∀(i:Nat) (f:TypeId×Nat×Nat),fs'[i]? =some f->∃n y,DataW.trod enc P W 0 (fun _=>true) true n f.1 ((cs.drop f.2.1).take f.2.2)=some y:=by
 unfold structOf at hs;split at hs
 ·rename_i fs hu
  obtain rfl:=Option.some.inj hs;obtain⟨xs,n,_,_,hl,hlen,hf⟩:=DataW.trod_struct hu h;refine⟨hl,fun i f hi=>?_⟩;rw [List.getElem?_map] at hi;cases hfi:fs.toList[i]? with
  |none=>rw [hfi] at hi;cases hi
  |some fd=>
   rw [hfi] at hi;obtain rfl:=Option.some.inj hi;have A2i:fs[i]? =some fd:=by simpa using hfi
   have hlt:i<xs.length:=by rw [hlen];exact(Array.getElem?_eq_some_iff.1 A2i).1
   have:=hf i fd A2i;rw [List.getElem?_eq_getElem hlt] at this;exact⟨n,_,this⟩
 ·cases hs
theorem A2e:Reads Tryz.prog 111 Ty.pt:=by
 intro H enc W fuel cs x h;obtain⟨hl,hf⟩:=A1_ (fs':=[(3,0,1),(3,1,1),(3,2,1)]) κ h;rw [show(Tryz.prog).cellsOf 111=3 by kernel_rfl] at hl;match cs,hl with
 | [a,b,c],_=>
  obtain⟨_,_,h0⟩:=hf 0 _ rfl;obtain⟨_,_,h1⟩:=hf 1 _ rfl;obtain⟨_,_,h2⟩:=hf 2 _ rfl;obtain⟨x0,e0,w0⟩:=A19 κ _ _ _ _ _ _ h0;obtain⟨x1,e1,w1⟩:=A19 κ _ _ _ _ _ _ h1;obtain⟨x2,e2,w2⟩:=A19 κ _ _ _ _ _ _ h2;refine⟨⟨x0,x1,x2⟩,?_,w0,w1,w2⟩;simp at e0 e1 e2;subst e0 e1 e2;rfl
theorem A2c:Reads Tryz.prog 23 Ty.pts:=A2a A2e κ κ ε
theorem A2g {α:Type} {P:Program} {t e:TypeId} {T:Ty α} (hR:Reads P t T.sl) (ht:P.underlying t=some (.slice e)) {H:Type} {enc:TypeId×Value->H} {W:World} {r:Reach} {b:Nat} {v:Value} {d:DataW H} {p:List MemPlace}
  (hval:Value.okWide P W r b t v) (h:DataW.Trod enc P W 0 (fun _=>true) true t v d p):∃l,Sl T W.cell? v l:=by
 obtain⟨a,len,cap,rfl⟩:=okWide_slice ht hval;obtain⟨fuel,hf⟩:=h;obtain⟨l,v,e,hv⟩:=hR _ _ _ _ _ _ hf;simp [Value.cells] at e;subst e;exact⟨l,hv⟩
theorem own:ownKnob (Tryz.prog).godebug=none:=by kernel_rfl
theorem laidOut:laidOutB Tryz.prog=true:=by kernel_rfl
end Go.Proofs.YtocnmkefmgmkbaaGreat
namespace Go.Proofs.YtocnmkefmgmkbaaGreat
open Go.RowKit Go.ChangeShapes Go.WideShapes Go.ChangeAt
theorem A2h {α:Type} {T:Ty α} {c:CM} {a:Option Addr} {n cap:Nat} {l:List α} (h:Sl T c (ς a n cap) l):l.length=n:=by
 obtain⟨a',cap',he,_⟩:=h;simp only [Value.slice.injEq] at he;exact he.2.1.symm
theorem A2f {α:Type} {P:Program} {t e:TypeId} {T:Ty α} {k:Nat} (ht:P.underlying t=some (.slice e)) (hb:P.bytesOf e=k) {H:Type} {enc:TypeId×Value->H} {W:World} {r:Reach} {b:Nat} {v:Value} {d:DataW H} {p:List MemPlace} {ts:List TypeId} {ds:List (DataW H)} {j:Nat}
  (hsz:(DataW.weightsEach P ts ds).all (· <=reachBytes)=true) (hj:ts[j]? =some t) (hd:ds[j]? =some d)
  (hval:Value.okWide P W r b t v) (h:DataW.Trod enc P W 0 (fun _=>true) true t v d p) {l:List α} (hl:Sl T W.cell? v l):l.length*k<=140737488351232:=by
 obtain⟨a,len,cap,rfl⟩:=okWide_slice ht hval;obtain⟨fuel,hf⟩:=h;have hll:=A2h hl;rcases Deep.open_slice ht hf with⟨he,_⟩|⟨a',len',cap',m,n,D,Pl,he,_,hlc,_,hmm,hxe,_⟩
 ·simp [Value.cells] at he
  rw [hll,he.2.1];simp
 ·simp [Value.cells] at he
  obtain⟨_,rfl,rfl⟩:=he;obtain rfl:d=.slice ((List.range len).map D) ((List.range (m - len)).map fun j=>D (len+j)):=by simpa using congrArg Prod.fst hxe
  have:=sized_slice hsz hj hd ht;rw [hb,List.length_map,List.length_range] at this;rw [hll];have h2:len*k<=(len+((List.range (m - len)).map fun j=>D (len+j)).length)*k:=Nat.mul_le_mul_right _ (Nat.le_add_right _ _);have h3:reachBytes=140737488351232:=rfl;omega
theorem A2b:Reads Tryz.prog 25 Ty.st:=by
 intro H enc W fuel cs x h;obtain⟨hl,hf⟩:=A1_ (fs':=[(3,0,1),(3,1,1),(23,2,1)]) κ h;rw [show(Tryz.prog).cellsOf 25=3 by kernel_rfl] at hl;match cs,hl with
 | [a,b,c],_=>
  obtain⟨_,_,h0⟩:=hf 0 _ rfl;obtain⟨_,_,h1⟩:=hf 1 _ rfl;obtain⟨_,_,h2⟩:=hf 2 _ rfl;obtain⟨x0,e0,w0⟩:=A19 κ _ _ _ _ _ _ h0;obtain⟨x1,e1,w1⟩:=A19 κ _ _ _ _ _ _ h1;obtain⟨x2,v2,e2,w2⟩:=A2c _ _ _ _ _ _ h2;refine⟨⟨x0,x1,x2⟩,v2,?_,w0,w1,w2⟩;simp at e0 e1 e2;subst e0 e1 e2;rfl
theorem A2d:Reads Tryz.prog 22 (Ty.sl Ty.st):=A2a A2b κ κ ε
end Go.Proofs.YtocnmkefmgmkbaaGreat
