/- Parts of proofs, joined: U25. No condition beside those that each theorem names. -/
import Derived.Test.YtocnmkefmgmkbaaGreatJE1b
import Derived.Test.YtocnmkefmgmkbaaGreatJE6a
import Derived.Test.YtocnmkefmgmkbaaGreatJE4b
import Derived.Test.YtocnmkefmgmkbaaGreatJEUa
import Derived.Test.YtocnmkefmgmkbaaGreatJEHa
import Derived.Test.YtocnmkefmgmkbaaGreatJE7b
import Derived.Test.YtocnmkefmgmkbaaGreatJEDa
set_option maxRecDepth 100000
set_option maxHeartbeats 40000000
namespace Go.Proofs.YtocnmkefmgmkbaaGreat
open Go.RowKit
theorem IF {c:CM} {W0 w:World} {X:List (Option Nat)} (h:Sub c w.cell?):Sub (fc c W0 w X) w.cell?:=fun a v e=>by
 unfold fc at e;split at e
 ·exact h _ _ e
 ·exact iO _ _ _ _ _ e
theorem IH {c:CM} {W0 wr W W1:World} {X:List (Option Nat)} (N:aK wr W1) (h0:W0.heap.size<=W.heap.size) (hX:∀k,W.heap.size<=k->some k∉X):Sub (ov (fc c W0 wr X) W W1) (fc c W0 W1 X):=fun a v e=>by
 unfold ov at e;split at e
 ·exact xI N a v e
 ·rw [Xe V (hX _ V)];exact e
theorem cV {c:CM} {v:Value} {l:List St} {n:Nat} (w:World) (hn:1<=n/\n<=3) (hc:Sub c w.cell?) (hv:Sl Ty.st c v l):
  Calls Tryz.prog 14 #[J n,v] w fun e w'=>∃v1 v2,e=.returned (.tuple #[v1,v2])/\Of Ty.wd (ov c w w') v1 (d_ (gK n) (l.take 150))/\Sl Ty.int (ov (fun _=>none) w w') v2 (jK (gK n) (l.take 150))/\aK w w':=by
 have HC:=I hc;clear hc;obtain⟨a,cap,rfl,N,Y,-,hel⟩:=hv;unfold maxLen at Y;have HN:=I hn;clear hn;obtain⟨wb,hwb⟩:=χ (w.alloc (.cells #[(),J 0,J 0,(),(),()] 33));have RB:Hid (wb.heap[w.heap.size]? =some (.cells #[(),J 0,J 0,(),(),()] 33 (0,0))):=I (by rw [hwb];exact bn _ _);have IM:Hid (aK w wb):=I (by rw [hwb];exact(aG w).alloc _);have HSB:Hid (wb.heap.size=w.heap.size+1):=I (by rw [hwb];simp);have HWB:=I hwb;clear hwb;go_enter Tryz.func14,Tryz.ntmps14;go_upto_region 1 with fail
 rw [<-HWB.o];clear HWB;go_wp2_with fail
 refine(MV wb HN.o).mono ?_;rintro e w2 ⟨v2,rfl,pV,gB⟩;obtain⟨al,cl,ao,co,ah,ch,an,cn,rfl⟩:=pV.dJ;have AX:Hid (Of Ty.wd (wo w.heap.size (ov c w w2)) _ (gK n)):=I (pV.mono (fun a9 v9 e9=>by
  unfold ov at e9;split at e9
  ·cases e9
  ·unfold wo
   rw [aV (τ HSB.o),dY (τ HSB.o)];exact e9))
 have G2:=I (IM.o.trans gB);have RB2:=I (aF RB.o gB);have HSW:Hid (w.heap.size<w2):=I (by have:=gB.size;have:=HSB.o;omega);have HC2:Hid (Sub c (wo w.heap.size (ov c w w2))):=I (A8 HC.o (Nat.le_refl _));clear pV gB;obtain⟨x0,J6⟩:=χ (gK n);rw [<-J6] at AX ⊢;have Y9:=I J6;clear J6;go_upto_region 2 with fail
 obtain⟨wz,hwz⟩:=χ (w2.alloc (.cells #[U al x0.aN.bg.length cl,J x0.aN.aW,J x0.aN.next,U ao x0.aN.bG.length co,U ah x0.aI.length ch,U an x0.bM.length cn] 33));obtain⟨B6,J7⟩:=χ w2.heap.size;have GZ:Hid (aK w2 wz):=I (by rw [hwz];exact(aG _).alloc _);have R6:Hid (wz.heap[B6]? =some (.cells #[U al x0.aN.bg.length cl,J x0.aN.aW,J x0.aN.next,U ao x0.aN.bG.length co,U ah x0.aI.length ch,U an x0.bM.length cn] 33 (0,0))):=I (by rw [hwz,J7];exact bn _ _);have ON:Hid (wz.heap.size=B6+1):=I (by rw [hwz,J7];simp);have jq:Hid (B6=w2.heap.size):=I J7;rw [<-hwz,<-J7];clear hwz J7;go_wp2;go_loopw [8,20] (fun s8 i wr=>∃(k:Nat) (row:Array Value),k<=l.length/\k<=150/\i=J k/\wr.heap[B6]? =some (.cells row 33 (0,0))/\Of Ty.wd (fc (wo w.heap.size (ov c w w2)) wz wr [s8.ownBlock]) (.agg row) (d_ x0 (l.take k))/\bK Ty.int (fun _=>none) wr (B6+1) 34 s8 (jK x0 (l.take k))/\aK w2 wr) (fun _ i _=>l.length - (intOf i).toNat)
 case atStart=>exact⟨0,_,V,V,rfl,R6.o,AX.o.mono (nU ((rU HC.o G2.o).trans GZ.o.sub)),bK.nil _ _ _ _ _,GZ.o⟩
 case round=>
  obtain⟨k,row,hk',hk5,rfl,hrow,Z,how,hb⟩:=hrel;obtain⟨a8,c8,rfl⟩:=how.form;obtain⟨iC,iD,lY,lZ,Nq,IY,OL,OM,hrw⟩:=Z.dJ;simp only [Value.agg.injEq] at hrw;subst hrw;have pU:Hid ((jK x0 (l.take k)).length<=150):=I (by rw [Iq,List.length_take];omega);have yV:Hid (∃G,WI n G (d_ x0 (l.take k))):=I (by rw [Y9.o];obtain⟨G,hw,-⟩:=WI.sQ HN.o (l.take k);exact⟨G,hw⟩);have N0:Hid (Ih k (d_ x0 (l.take k))):=I (by rw [Y9.o];have h9:=Ih.play n (l.take k) (Ih.zero n);rw [List.length_take,Nat.min_eq_left hk',Nat.zero_add] at h9;exact h9);have jw:=I hrow;have HX:=I Z;have HOW:=I how;have HB:=I hb;have RZR:=I (aF RB2.o hb);have hBr:B6<wr.heap.size:=(γ hrow);have HCR:Hid (Sub (fc (wo w.heap.size (ov c w w2)) wz wr [(Value.slice a8 (jK x0 (l.take k)).length c8).ownBlock]) wr.cell?):=I (IF ((rU HC.o G2.o).trans hb.sub));have A0f:Hid (∀q,(Value.slice a8 (jK x0 (l.take k)).length c8).ownBlock=some q->B6+1<=q/\q<wr.heap.size):=I how.lt;clear hrow Z how hb;by_cases hlt:k<l.length
  ·obtain⟨b,o,vp,rfl,c0,c1,c2,i0,i1,hP⟩:=Sts.at_ hel k hlt
   obtain⟨ap,cp,rfl,-⟩:=id hP;have HST:Hid (Of Ty.st c (.agg #[J l[k].aX,J l[k].n,.slice ap l[k].aH.length cp]) l[k]):=I ⟨_,rfl,_,rfl,i0,i1,hP⟩;have HNA:Hid (d_ x0 (l.take (k+1))=jZ (d_ x0 (l.take k)) l[k]):=I (MQ hlt x0);have rE:Hid (jK x0 (l.take (k+1))=jK x0 (l.take k)++ [eU (d_ x0 (l.take k)) l[k]]):=I (MR hlt x0);have NA:Hid (k=150->d_ x0 (l.take 150)=d_ x0 (l.take k)/\jK x0 (l.take 150)=jK x0 (l.take k)):=I (fun e=>by rw [e];exact⟨rfl,rfl⟩);have gs:=G2.o.trans HB.o;replace c0:=gs.sub _ _ (HC.o _ _ c0);replace c1:=gs.sub _ _ (HC.o _ _ c1);replace c2:=gs.sub _ _ (HC.o _ _ c2);clear hel hP i0 i1 gs;generalize l[k]=st at*;generalize d_ x0 (l.take k)=x at*;generalize jK x0 (l.take k)=es at*;go_upto_region 6 with fail
   obtain⟨ws,hws⟩:=χ (wr.alloc (.cells #[J st.aX,J st.n,U ap st.aH.length cp] 25));obtain⟨BS,hBS⟩:=χ wr.heap.size;have GS:Hid (aK wr ws):=I (by rw [hws];exact(aG _).alloc _);have RS:Hid (ws.heap[BS]? =some (.cells #[J st.aX,J st.n,U ap st.aH.length cp] 25 (0,0))):=I (by rw [hws,hBS];exact bn _ _);rw [<-hws,<-hBS];clear hws hBS c0 c1 c2;have RWS:=I (aF jw.o GS.o);have RZS:=I (aF RZR.o GS.o);have A0:=I (HB.o.trans GS.o);have HXS:=I (HX.o.mono (xI GS.o));have A1:=I (HOW.o.grow GS.o);obtain⟨x1,x2,x3,x4,x5,x6⟩:=bF RWS.o;obtain⟨s0,s1,s2⟩:=iI RS.o;have zX:B6<ws.heap.size:=(γ RWS.o);have zS:BS<ws.heap.size:=(γ RS.o);by_cases Vm:k=150
   ·have A1Y:((k:Int)==150)=true:=by simp;omega
    obtain⟨ea,ee⟩:=NA.o Vm;have OK:=I ea;have HEE:=I ee;clear ea ee Vm;go_wp2_with (first|(refine aQ rfl (.tmp 4) (.tmp 39) rfl rfl rfl RZS.o dN rfl rfl ?_))
    intro w7 r7 g7;obtain⟨p0,p1,p2,p3,p4,p5⟩:=bF r7;clear x1 x2 x3 x4 x5 x6;go_wp2;refine dw (v:=.tuple #[.agg #[U iC x.aN.bg.length iD,J x.aN.aW,J x.aN.next,U lY x.aN.bG.length lZ,U Nq x.aI.length IY,U OL x.bM.length OM],U a8 es.length c8]) (by simp [results,Tryz.results14,go_sem,p0,p1,p2,p3,p4,p5]) rfl ?_;have hs1:=HSW.o;have hs2:=jq.o;have hsub:Sub (fc (wo w.heap.size (ov c w w2)) wz ws [(Value.slice a8 es.length c8).ownBlock]) (ov c w w7):=fun a9 v9 e9=>by
     have hl:=ON.o;unfold fc at e9;split at e9
     ·have e8:=qL _ _ _ _ e9
      unfold ov at e8 ⊢;split at e8
      ·rw [bC ‹_›];exact e8
      ·rw [aV ‹_›];exact bV (A0.o.sub _ _ e8) g7 (PN e9)
     ·rw [dY V];exact bV (iO _ _ _ _ _ e9) g7 V
    have G7:aK w w7:=(G2.o.trans A0.o).grown g7 (fun q O=>by have:=bI O;omega);rw [<-Y9.o,OK.o,HEE.o];exact⟨_,_,rfl,HXS.o.mono hsub,(A1.o.kept g7 (eF A1.o V)).slc ε (fun _ _ e9=>by cases e9) fun a9 h9=>dY V,G7⟩
   ·have A1Y:((k:Int)==150)=false:=by simp;omega
    obtain⟨G,hwi⟩:=yV.o;have Ol:=I (BI (s:=st) ws ((HCR.o).trans GS.o.sub) HX.o (HST.o.mono (HC2.o.trans (nU ((rU HC.o G2.o).trans GZ.o.sub)))) hwi N0.o V);clear hwi yV N0 NA;go_wp2_with fail
    refine Ol.o.mono ?_;rintro e w3 ⟨v3,rfl,FY,fB⟩;obtain⟨Dh,Di,Kr,co3,Vo,ch3,JU,cn3,rfl⟩:=FY.dJ;have Dj:Hid (Of Ty.wd (fc (wo w.heap.size (ov c w w2)) wz w3 [(Value.slice a8 es.length c8).ownBlock]) (.agg #[U Dh (jZ x st).aN.bg.length Di,J (jZ x st).aN.aW,J (jZ x st).aN.next,U Kr (jZ x st).aN.bG.length co3,U Vo (jZ x st).aI.length ch3,U JU (jZ x st).bM.length cn3]) (jZ x st)):=I (FY.mono (IH (GS.o.trans fB) (τ ON.o) (fun k9 hk9=>by simp only [List.mem_singleton];intro e9;have:=(A0f.o _ e9.symm).2;have:=GS.o.size;omega)));have RW3:=I (aF RWS.o fB);have GB3:=I (A0.o.trans fB);have n_:=I (A1.o.grow fB);have HEI:=I (UU x st);clear FY fB Ol x1 x2 x3 x4 x5 x6 s0 s1 s2 zX zS;generalize jZ x st=y at*;generalize eU x st=er at*;go_upto_region 8 with fail
    obtain⟨w4,NZ⟩:=χ (w3.alloc (.cells #[U Dh y.aN.bg.length Di,J y.aN.aW,J y.aN.next,U Kr y.aN.bG.length co3,U Vo y.aI.length ch3,U JU y.bM.length cn3] 33));obtain⟨BX,hBX⟩:=χ w3.heap.size;have xM:Hid (aK w3 w4):=I (by rw [NZ];exact(aG _).alloc _);have RX4:Hid (w4.heap[BX]? =some (.cells #[U Dh y.aN.bg.length Di,J y.aN.aW,J y.aN.next,U Kr y.aN.bG.length co3,U Vo y.aI.length ch3,U JU y.bM.length cn3] 33 (0,0))):=I (by rw [NZ,hBX];exact bn _ _);rw [<-NZ,<-hBX];clear NZ hBX;have RW4:=I (aF RW3.o xM.o);obtain⟨x1,x2,x3,x4,x5,x6⟩:=bF RX4.o;have zX:BX<w4.heap.size:=(γ RX4.o);go_wp2_with (first|(refine aQ rfl (.tmp 6) (.tmp 33) rfl rfl rfl RW4.o dN rfl rfl ?_))
    intro w5 r5 g5;have R65:=I r5;have YX:=I ((GB3.o.trans xM.o).grown g5 (fun q O=>by have:=bI O;have:=jq.o;omega));have F5:=I ((Dj.o.mono (xI xM.o)).mono (Io g5 (τ ON.o)));have oQ:=I ((n_.o.grow xM.o).kept g5 (eF n_.o V));have Y_:Hid (B6+1<=w5.heap.size):=I (τ (γ r5));clear r5 g5 x1 x2 x3 x4 x5 x6 zX;go_wp2_with (first|(at_builtin;refine cO (c:=fun _=>none) (base:=B6+1) (l:=es) (m:=[er]) Kz rfl jX ε rfl (.tmp 34) (.tmp 36) rfl rfl (oQ.o.grow ((aG _).alloc _)) rfl (Src.dU (T:=Ty.int) (x:=er) (cs:=#[J er]) ⟨rfl,HEI.o⟩ _ _ ?d1) ?d2 ?d3 ?_))
    case d1=>first|rfl|simp
    case d2=>have:=pU.o;simp;omega
    case d3=>have:=Y_.o;simp;omega
    intro a9 c9 w9 gX fV iE;have JV:=oQ.o.lt;have OE:=I ((F5.o.mono (xI ((aG w5).alloc (.cells #[J er] 34)))).mono (oE fV (iE.imp_right fun⟨g,e,hge⟩=>⟨g,e,by simpa using hge⟩)));have R69:=I (bJ (aF R65.o ((aG w5).alloc (.cells #[J er] 34))) fV (by intro e;have:=(JV _ e.symm).1;omega));have SH:=I ((YX.o.alloc (.cells #[J er] 34)).grown fV (fun q O=>by have:=(JV q O).1;have:=jq.o;omega));have jE:=I gX;clear gX fV iE JV;go_wp2;go_roundw
    case rel=>exact⟨k+1,_,V,V,by go_num,R69.o,by rw [HNA.o];exact OE.o,by rw [rE.o];exact jE.o,SH.o⟩
    case measure=>simp [intOf];omega
  ·have OK:Hid (d_ x0 (l.take 150)=d_ x0 (l.take k)):=I (by rw [eG V,eG V])
   have HEE:Hid (jK x0 (l.take 150)=jK x0 (l.take k)):=I (by rw [eG V,eG V]);clear hel;generalize d_ x0 (l.take k)=x at*;generalize jK x0 (l.take k)=es at*;have RZS:=I RZR.o;have A0:=I HB.o;have HXS:=I HX.o;have A1:=I HOW.o;obtain⟨x1,x2,x3,x4,x5,x6⟩:=bF jw.o;go_wp2_with (first|(refine aQ rfl (.tmp 4) (.tmp 39) rfl rfl rfl RZS.o dN rfl rfl ?_))
   intro w7 r7 g7;obtain⟨p0,p1,p2,p3,p4,p5⟩:=bF r7;clear x1 x2 x3 x4 x5 x6;go_wp2;refine dw (v:=.tuple #[.agg #[U iC x.aN.bg.length iD,J x.aN.aW,J x.aN.next,U lY x.aN.bG.length lZ,U Nq x.aI.length IY,U OL x.bM.length OM],U a8 es.length c8]) (by simp [results,Tryz.results14,go_sem,p0,p1,p2,p3,p4,p5]) rfl ?_;have hs1:=HSW.o;have hs2:=jq.o;have hsub:Sub (fc (wo w.heap.size (ov c w w2)) wz wr [(Value.slice a8 es.length c8).ownBlock]) (ov c w w7):=fun a9 v9 e9=>by
    have hl:=ON.o;unfold fc at e9;split at e9
    ·have e8:=qL _ _ _ _ e9
     unfold ov at e8 ⊢;split at e8
     ·rw [bC ‹_›];exact e8
     ·rw [aV ‹_›];exact bV (A0.o.sub _ _ e8) g7 (PN e9)
    ·rw [dY V];exact bV (iO _ _ _ _ _ e9) g7 V
   have G7:aK w w7:=(G2.o.trans A0.o).grown g7 (fun q O=>by have:=bI O;omega);rw [<-Y9.o,OK.o,HEE.o];exact⟨_,_,rfl,HXS.o.mono hsub,(A1.o.kept g7 (eF A1.o V)).slc ε (fun _ _ e9=>by cases e9) fun a9 h9=>dY V,G7⟩
theorem BJ {v:Value} {l:List St} {n:Nat} (w:World) (hn:1<=n/\n<=3) (hv:Sl Ty.st w.cell? v l):
  Calls Tryz.prog 14 #[J n,v] w fun e w'=>∃v1 v2,e=.returned (.tuple #[v1,v2])/\Of Ty.wd w'.cell? v1 (d_ (gK n) (l.take 150))/\Sl Ty.int w'.cell? v2 (jK (gK n) (l.take 150))/\aK w w':=
 (cV w hn (Sub.refl _) hv).mono fun _ w' ⟨v1,v2,he,N,Y,hg⟩=>⟨v1,v2,he,N.mono (xR (Sub.refl _) hg),Y.mono (fG w w'),hg⟩
end Go.Proofs.YtocnmkefmgmkbaaGreat
