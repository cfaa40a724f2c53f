/- Parts of proofs, joined: U24. No condition beside those that each theorem names. -/
import Derived.Deep.DeepCutAuto
import Derived.Test.YtocnmkefmgmkbaaGreatJE1b
import Derived.Test.YtocnmkefmgmkbaaGreatJE6a
import Derived.Test.YtocnmkefmgmkbaaGreatJE4b
set_option maxRecDepth 100000
set_option maxHeartbeats 40000000
namespace Go.Proofs.YtocnmkefmgmkbaaGreat
open Go.RowKit
theorem Rj {c:CM} {v vm:Value} {h:Hd} {m:Ms} (w:World) (hc:Sub c w.cell?) (hv:Of Ty.hd c v h) (hm:Of Ty.ms c vm m) (hk:FK h):
  Calls Tryz.prog 55 #[v,vm] w fun e w'=>∃v1 v2,e=.returned (.tuple #[v1,v2])/\Of Ty.hd (ov c w w') v1 (gQ h m)/\Sl Ty.ms (ov c w w') v2 (iQ h m)/\aK w w':=by
 obtain⟨al,cl,ar,cr,rfl⟩:=hv.iw;have FN:Hid (I64 m.aX/\I64 m.aJ/\I64 m.aU):=I (by obtain⟨cs,he,vp,rfl,i0,i1,i2,-⟩:=hm;exact⟨i0,i1,i2⟩);obtain⟨ap,cp,rfl⟩:=hm.ny;have G_:=I (Of.lM hv).1;have rG:Hid (I64 h.aW/\I64 h.next):=I (by obtain⟨cs,he,_,_,rfl,_,N,Y,_⟩:=hv;exact⟨N,Y⟩);obtain⟨Oi,Oj,he,N,Y,-,hel⟩:=(Of.lM hv).2;obtain⟨rfl,rfl⟩:ar=Oi/\cr=Oj:=by simpa using he
 unfold maxLen at Y;have Ux:=I hk.aH;have HHE:=I hk.aZ;have T9:=hk.bG;have Et:=I hk.bg;have HC:=I hc;clear hk he hv hm hc;obtain⟨wa,fZ⟩:=χ (w.alloc (.cells #[U al h.bg.length cl,J h.aW,J h.next,U ar h.bG.length cr] 29));obtain⟨wb,hwb⟩:=χ (wa.alloc (.cells #[J m.aX,J m.aJ,J m.aU,U ap m.aH.length cp] 85));obtain⟨wq,hwq⟩:=χ (wb.alloc (.cells #[(),J 0,J 0,()] 29));obtain⟨wz,hwz⟩:=χ (wq.alloc (.cells #[U al h.bg.length cl,J h.aW,J h.next,()] 29));have hsa:wa.heap.size=w.heap.size+1:=by rw [fZ];simp
 have hsb:wb.heap.size=w.heap.size+2:=by rw [hwb];simp [hsa]
 have hsq:wq.heap.size=w.heap.size+3:=by rw [hwq];simp [hsb]
 have RQ:Hid (wq.heap[w.heap.size]? =some (.cells #[U al h.bg.length cl,J h.aW,J h.next,U ar h.bG.length cr] 29 (0,0))):=I (by rw [hwq,hwb,fZ];exact bQ (bQ (bn _ _) _) _);have R1:Hid (wz.heap[w.heap.size]? =some (.cells #[U al h.bg.length cl,J h.aW,J h.next,U ar h.bG.length cr] 29 (0,0))):=I (by rw [hwz];exact bQ RQ.o _);have R2:Hid (wz.heap[w.heap.size+1]? =some (.cells #[J m.aX,J m.aJ,J m.aU,U ap m.aH.length cp] 85 (0,0))):=I (by rw [hwz,hwq,hwb,<-hsa];exact bQ (bQ (bn _ _) _) _);have R3:Hid (wz.heap[w.heap.size+2]? =some (.cells #[(),J 0,J 0,()] 29 (0,0))):=I (by rw [hwz,hwq,<-hsb];exact bQ (bn _ _) _);have R4:Hid (wz.heap[w.heap.size+3]? =some (.cells #[U al h.bg.length cl,J h.aW,J h.next,()] 29 (0,0))):=I (by rw [hwz,<-hsq];exact bn _ _);have G1:Hid (aK w wz):=I (by rw [hwz,hwq,hwb,fZ];exact((((aG w).alloc _).alloc _).alloc _).alloc _);have HZ:Hid (wz.heap.size=w.heap.size+4):=I (by rw [hwz];simp [hsq]);have C8:=I hwz;have HSQ:=I hsq;clear hwz hsq;go_enter Tryz.func55,Tryz.ntmps55;go_upto_region 1 with fail
 rw [<-fZ];try rw [hsa]
 rw [<-hwb];try rw [hsb]
 rw [<-hwq];clear fZ hwb hwq hsa hsb;obtain⟨c0,c1,c2,c3⟩:=aT RQ.o;have z0:w.heap.size<wq:=(γ RQ.o);go_upto_region 2 with fail
 rw [<-C8.o];try rw [HSQ.o]
 clear C8 HSQ c0 c1 c2 c3 z0 RQ;obtain⟨c0,c1,c2,c3⟩:=aT R1.o;have z0:w.heap.size<wz:=(γ R1.o);go_wp2;clear c0 c1 c2 c3 z0;go_loopw [7,8,24] (fun s7 s8 i wr=>∃(k:Nat) (vl vo:Value),k<=h.bG.length/\i=J k/\s8=.bool (hgo m (h.bG.take k)).known/\kX c w wz wr h (hgo m (h.bG.take k)) vl vo s7) (fun _ _ i _=>h.bG.length - (intOf i).toNat)
 case atStart=>exact⟨0,_,_,V,rfl,rfl,⟨R4.o,by simpa [hgo] using G_.o.mono (nU (HC.o.trans G1.o.sub)),bK.nil _ _ _ _ _,Sl.nil _ _,fun _ _=>rfl,G1.o,HZ.o⟩⟩
 case round=>
  obtain⟨k,vl,vo,hk',rfl,h8,hbx⟩:=hrel;by_cases hlt:k<h.bG.length
  ·have og:=I (m5 m hlt)
   have CK:Hid ((hgo m (h.bG.take k)).known=false->(hgo m (h.bG.take k)).recs=[]/\(hgo m (h.bG.take k)).says=[]):=I (PU m (h.bG.take k) ⟨[],[],[],false⟩ (fun _=>⟨rfl,rfl⟩));have HSL:Hid ((hgo m (h.bG.take k)).bG.length<=12):=I (by have h9:=YN m (h.bG.take k) ⟨[],[],[],false⟩;rw [List.length_take] at h9;unfold hgo;simp at h9;omega);obtain⟨b,o,vp,vh,rfl,c0,c1,c2,c3,i0,hP,hH⟩:=EP.at_ hel k hlt;obtain⟨wU,wV,rfl,-⟩:=id hP;obtain⟨ah,ch,rfl,-⟩:=id hH;have nH:=I (And.intro i0 (And.intro hP hH));have pU:=I (Ux.o _ (List.getElem_mem hlt));have HHL:=I (HHE.o _ (List.getElem_mem hlt));replace c0:=hbx.grow.sub _ _ (HC.o _ _ c0);replace c1:=hbx.grow.sub _ _ (HC.o _ _ c1);replace c2:=hbx.grow.sub _ _ (HC.o _ _ c2);replace c3:=hbx.grow.sub _ _ (HC.o _ _ c3);clear hel hP hH i0;generalize h.bG[k]=q at*;generalize hgo m (h.bG.take k)=s at*;obtain⟨so,sr,ss,sk⟩:=s;have h8':_=Value.bool sk:=h8;subst h8';have OD:=hbx.bG;have MW:=hbx.says;have uq:=hbx.bg;dsimp only at OD MW uq;obtain⟨ao,co,rfl⟩:=OD.form;obtain⟨av,cv,rfl,-⟩:=id MW;obtain⟨AF,AG,rfl,-⟩:=id uq;clear h8 OD MW uq;generalize (h.bg++sr).length=nl at*;have A1O:Hid (sk=false->sr=[]/\ss=[]):=I CK.o;have A1P:Hid (so.length<=12):=I HSL.o;clear CK HSL;have HSL:=I A1P.o;clear A1P;obtain⟨wo,hwo⟩:=χ (wr.alloc (.cells #[J q.aJ,U wU q.aH.length wV,.bool q.dec,U ah q.aZ.length ch] 58));have GO:Hid (aK wr wo):=I (by rw [hwo];exact(aG _).alloc _);have vw:=I (hbx.dL GO.o);have PV:=I hbx;obtain⟨BO,Aq⟩:=χ wr.heap.size;have RO:Hid (wo.heap[BO]? =some (.cells #[J q.aJ,U wU q.aH.length wV,.bool q.dec,U ah q.aZ.length ch] 58 (0,0))):=I (by rw [hwo,Aq];exact bn _ _);have fT:Hid (BO=wr.heap.size):=I Aq;go_upto_region 7 with fail
   rw [<-hwo,<-Aq];clear hwo Aq c0 c1 c2 c3 hbx;obtain⟨e0,e1,e2,e3⟩:=aT RO.o;have zO:BO<wo.heap.size:=(γ RO.o);have zU:=I ((vw.o.old 0 V).trans R1.o);have yM:=I ((vw.o.old 1 V).trans R2.o);obtain⟨y0,y1,y2,y3⟩:=aT zU.o;obtain⟨d0,d1,d2,d3⟩:=aT yM.o;obtain⟨x0,x1,x2,x3⟩:=aT vw.o.row;have zz:=vw.o.size;have zA:w.heap.size<wo:=by omega
   have zB:w.heap.size+1<wo:=by omega
   have zX:w.heap.size+3<wo:=by omega
   by_cases hd:q.aJ=m.aJ
   ·have hdb:(q.aJ !=m.aJ)=false:=by simp [hd]
    cases sk with
    |true=>
     have HST:Hid (gV m ⟨so,sr,ss,true⟩ q=⟨so++ [q],sr,ss,true⟩):=I (UR (fun h=>by have:=h.2;simp at this));clear hd;go_wp2_with (first|(at_builtin;refine cO (c:=fc c wz wo [(Value.slice ao so.length co).ownBlock]) (base:=w.heap.size+4) (l:=so) (m:=[q]) kF rfl jG ε rfl (.tmp 37) (.tmp 39) rfl rfl ?own rfl (Src.dU (T:=Ty.bG) (x:=q) (cs:=#[J q.aJ,U wU q.aH.length wV,.bool q.dec,U ah q.aZ.length ch]) ?d0 _ _ ?d1) ?d2 ?d3 ?_))
     case own=>exact bK.grow vw.o.bG ((aG _).alloc _)
     case d0=>exact⟨_,_,rfl,nH.o.1,nH.o.2.1.mono (nU (HC.o.trans G1.o.sub)),nH.o.2.2.mono (nU (HC.o.trans G1.o.sub))⟩
     case d1=>first|rfl|simp
     case d2=>have:=HSL.o;simp;omega
     case d3=>have:=vw.o.size;simp;omega
     intro a9 c9 w9 gX fV iE;have R9:=I (bJ (aF vw.o.row ((aG _).alloc (.cells #[J q.aJ,U wU q.aH.length wV,.bool q.dec,U ah q.aZ.length ch] 58))) fV (by intro e;have:=(vw.o.bG.lt _ e.symm).1;omega));have jE:=I gX;have kR:=I fV;have Aj:=I iE;clear gX fV iE;go_wp2_with (first|(refine bY rfl (.tmp 41) (.tmp 40) (v:=U a9 (so.length+1) c9) (new:=#[U AF nl AG,J h.aW,J h.next,U a9 (so.length+1) c9]) rfl rfl ρ ρ R9.o iW σ ρ ρ ?_))
     intro yt DK xg;have AP:=I (kX.app vw.o q ((aG _).alloc (.cells #[J q.aJ,U wU q.aH.length wV,.bool q.dec,U ah q.aZ.length ch] 58)) kR.o (Aj.o.imp_right fun⟨g,e,hge⟩=>⟨g,e,by simpa using hge⟩) jE.o xg DK);clear DK xg;go_wp2;go_roundw
     case rel=>exact⟨k+1,_,_,V,by go_num,by rw [og.o,HST.o],by rw [og.o,HST.o];exact AP.o⟩
     case measure=>simp [intOf];omega
    |false=>
     obtain⟨e1r,e1s⟩:=A1O.o rfl;subst e1r;subst e1s;have HAT:=I (VM (s:=⟨so,[],[],false⟩) hd rfl);clear hd A1O;have AL:=I (fun(W:World) (hW:aK w W)=>Ee (v:=U wU q.aH.length wV) (l:=q.aH) W (nH.o.2.1.mono (HC.o.trans hW.sub)) (τ pU.o));have yF:=I (fun(n:Int) (W:World) (hW:aK w W)=>zC (v:=U ah q.aZ.length ch) (l:=q.aZ) (n:=n) W (nH.o.2.2.mono (HC.o.trans hW.sub)));go_upto_region 10 with fail
     clear e0 e1 e2 e3 zO;clear y0 y1 y2 y3 d0 d1 d2 d3 x0 x1 x2 x3 zz zA zB zX zU yM;have HS:Hid (∀W,aK wo W->W.cell? ⟨BO,1,none⟩=some (U wU q.aH.length wV)/\W.cell? ⟨BO,3,none⟩=some (U ah q.aZ.length ch)/\W.cell? ⟨w+1,2,none⟩=some (J m.aU)):=fun W hW=>by
      obtain⟨-,k1,-,k3⟩:=aT (aF RO.o hW);obtain⟨-,-,j2,-⟩:=aT (aF ((vw.o.old 1 V).trans R2.o) hW);exact⟨k1,k3,j2⟩
     obtain⟨tn,htn⟩:=χ (decide (rJ q m));have Rk:=I htn;clear htn;go_cut [11,158,159,160,161,162,163,164,165,166,167,168,169,170,171,172] from 42 (fun s11 Iu Iw Iy Iz IB IC IE IG II IJ IK IL IQ IU IV wc=>s11=.bool tn/\(Iu=undef/\Iw=undef/\Iy=undef/\Iz=undef/\IB=undef/\IC=undef/\IE=undef/\IG=undef/\II=undef/\IJ=undef/\IK=undef/\IL=undef/\IQ=undef/\IU=undef/\IV=undef)/\aK wo wc)
     case first=>
      by_cases N:m.aU∈dB q.aH
      ·have AH:=I N
       clear N;refine dH (fun w'=>w'.cell? ⟨BO,1,none⟩=some (U wU q.aH.length wV)/\w'.cell? ⟨BO,3,none⟩=some (U ah q.aZ.length ch)/\w'.cell? ⟨w+1,2,none⟩=some (J m.aU)) 14 κ ?_;obtain⟨wd,hWd⟩:=χ wo.drew;rw [<-hWd];have GD:aK wo wd:=by rw [hWd];exact(aG _).drew
       have zD:wo.heap.size=wd.heap.size:=by rw [hWd];rfl
       have ZD:=I zD;clear hWd zD;refine qJ [0,1,3,4] 18 κ (fun _ _ _ _ _ h=>h) (HS.o _ GD) ?_;repeat (refine jY ?_;try simp only [bT])
       refine qK ?_;refine bO 2 κ rfl ?_;intro K M;try simp only [dD]
       go_simp;go_at_call 99
       refine(AL.o _ (vw.o.grow.trans GD)).mono ?_;rintro e2x w2 ⟨v2,rfl,wS,gB⟩;obtain⟨a2,c2,rfl⟩:=dG wS;have HI2:=I (sU wS (mJ q.aH));have G2:=I (aK.trans GD gB);clear wS gB;refine ψ M (fun _=>HS.o _ G2.o) ?_;try simp only [bT]
       refine bO 5 κ rfl ?_;intro K M;try simp only [dD]
       go_simp;go_at_call 68
       refine(zC (n:=m.aU) _ HI2.o).mono ?_;rintro e5 w5 ⟨rfl,iY⟩;rw [decide_eq_true AH.o];have G5:=I (aK.trans G2.o iY);clear iY;refine ψ M (fun _=>HS.o _ G5.o) ?_;try simp only [bT]
       refine bO 6 κ rfl ?_;intro K M;try simp only [dD]
       go_simp;refine ψ M (fun _=>HS.o _ G5.o) ?_;try simp only [bT]
       refine qJ [7,8,9,10] 18 κ (fun _ _ _ _ _ h=>h) (HS.o _ G5.o) ?_;repeat (refine jY ?_;try simp only [bT])
       refine qK ?_;refine bO 11 κ rfl ?_;intro K M;refine qc ρ ?_;try simp only [dD]
       go_simp;go_at_call 68
       refine(yF.o m.aU _ (vw.o.grow.trans G5.o)).mono ?_;rintro e6 w6 ⟨rfl,nS⟩;have G6:=I (aK.trans G5.o nS);clear nS;refine ψ M (fun _=>HS.o _ G6.o) ?_;try simp only [bT]
       refine bO 12 κ rfl ?_;intro K M;refine qc ρ ?_;try simp only [dD]
       go_simp;refine ψ M (fun _=>HS.o _ G6.o) ?_;try simp only [bT]
       refine bO 13 κ rfl ?_;intro K M;try simp only [dD]
       go_simp;refine ψ M (fun _=>HS.o _ G6.o) ?_;try simp only [bT]
       refine bO 14 κ rfl ?_;intro K M;try simp only [dD]
       go_simp;refine ψ M (fun h=>absurd rfl h) ?_;try simp only [bT]
       refine bW κ ?_;go_wp2;go_meet
       case rel=>exact⟨by have N:=AH.o;rw [Rk.o];simp [rJ,N],⟨rfl,rfl,rfl,rfl,rfl,rfl,rfl,rfl,rfl,rfl,rfl,rfl,rfl,rfl,rfl⟩,G6.o⟩
      ·have AH:=I N
       clear N;refine dH (fun w'=>w'.cell? ⟨BO,1,none⟩=some (U wU q.aH.length wV)/\w'.cell? ⟨BO,3,none⟩=some (U ah q.aZ.length ch)/\w'.cell? ⟨w+1,2,none⟩=some (J m.aU)) 14 κ ?_;obtain⟨wd,hWd⟩:=χ wo.drew;rw [<-hWd];have GD:aK wo wd:=by rw [hWd];exact(aG _).drew
       have zD:wo.heap.size=wd.heap.size:=by rw [hWd];rfl
       have ZD:=I zD;clear hWd zD;refine qJ [0,1,3,4] 18 κ (fun _ _ _ _ _ h=>h) (HS.o _ GD) ?_;repeat (refine jY ?_;try simp only [bT])
       refine qK ?_;refine bO 2 κ rfl ?_;intro K M;try simp only [dD]
       go_simp;go_at_call 99
       refine(AL.o _ (vw.o.grow.trans GD)).mono ?_;rintro e2x w2 ⟨v2,rfl,wS,gB⟩;obtain⟨a2,c2,rfl⟩:=dG wS;have HI2:=I (sU wS (mJ q.aH));have G2:=I (aK.trans GD gB);clear wS gB;refine ψ M (fun _=>HS.o _ G2.o) ?_;try simp only [bT]
       refine bO 5 κ rfl ?_;intro K M;try simp only [dD]
       go_simp;go_at_call 68
       refine(zC (n:=m.aU) _ HI2.o).mono ?_;rintro e5 w5 ⟨rfl,iY⟩;rw [decide_eq_false AH.o];have G5:=I (aK.trans G2.o iY);clear iY;refine ψ M (fun _=>HS.o _ G5.o) ?_;try simp only [bT]
       refine bO 6 κ rfl ?_;intro K M;try simp only [dD]
       go_simp;refine ψ M (fun _=>HS.o _ G5.o) ?_;try simp only [bT]
       refine yC (i:=7) (v:=undef) 18 rfl κ κ κ κ κ (fun _ _ _ h=>h) (HS.o _ G5.o) (Or.inr ⟨ρ,rfl⟩) ?_;try simp only [bT]
       refine yC (i:=8) (v:=undef) 18 rfl κ κ κ κ κ (fun _ _ _ h=>h) (HS.o _ G5.o) (Or.inr ⟨ρ,rfl⟩) ?_;try simp only [bT]
       refine yC (i:=9) (v:=undef) 18 rfl κ κ κ κ κ (fun _ _ _ h=>h) (HS.o _ G5.o) (Or.inr ⟨ρ,rfl⟩) ?_;try simp only [bT]
       refine yC (i:=10) (v:=undef) 18 rfl κ κ κ κ κ (fun _ _ _ h=>h) (HS.o _ G5.o) (Or.inr ⟨ρ,rfl⟩) ?_;try simp only [bT]
       refine yC (i:=11) (v:=undef) 18 rfl κ κ κ κ κ (fun _ _ _ h=>h) (HS.o _ G5.o) (Or.inr ⟨ρ,rfl⟩) ?_;try simp only [bT]
       refine yC (i:=12) (v:=undef) 18 rfl κ κ κ κ κ (fun _ _ _ h=>h) (HS.o _ G5.o) (Or.inr ⟨ρ,rfl⟩) ?_;try simp only [bT]
       refine bO 13 κ rfl ?_;intro K M;try simp only [dD]
       go_simp;refine ψ M (fun _=>HS.o _ G5.o) ?_;try simp only [bT]
       refine bO 14 κ rfl ?_;intro K M;try simp only [dD]
       go_simp;refine ψ M (fun h=>absurd rfl h) ?_;try simp only [bT]
       refine bW κ ?_;go_wp2;go_meet
       case rel=>exact⟨by have N:=AH.o;rw [Rk.o];simp [rJ,N],⟨rfl,rfl,rfl,rfl,rfl,rfl,rfl,rfl,rfl,rfl,rfl,rfl,rfl,rfl,rfl⟩,G5.o⟩
     case rest=>
     obtain⟨rfl,⟨rfl,rfl,rfl,rfl,rfl,rfl,rfl,rfl,rfl,rfl,rfl,rfl,rfl,rfl,rfl⟩,hgc⟩:=hcut;obtain⟨yT,rfl⟩:=χ wc;have Rl:=I hgc;clear hgc;have Xi:=I (vw.o.dL Rl.o);have F4:=I (aF RO.o Rl.o);clear HS;have D7:=I (fun(W:World) (hW:aK yT W)=>Src.kK (T:=Ty.int) ε (HC.o.trans (Xi.o.grow.trans hW).sub) nH.o.2.2);have HS:Hid (∀W,aK yT W->W.cell? ⟨BO,3,none⟩=some (U ah q.aZ.length ch)/\W.cell? ⟨w+1,2,none⟩=some (J m.aU)):=fun W hW=>by
      obtain⟨-,-,-,k3⟩:=aT (aF F4.o hW);obtain⟨-,-,j2,-⟩:=aT (aF ((Xi.o.old 1 V).trans R2.o) hW);exact⟨k3,j2⟩
     go_upto_region 11 with fail
     go_cut [12,158,159,160,161,162,163,164,165,166,167,168,169,170,171,172] from 56 (fun s12 Iu Iw Iy Iz IB IC IE IG II IJ IK IL IQ IU IV wc=>(∃YS YT,s12=U YS (q.aZ.length+1) YT/\bK Ty.int c wc yT.heap.size 3 (U YS (q.aZ.length+1) YT) (q.aZ++ [m.aU]))/\(Iu=undef/\Iw=undef/\Iy=undef/\Iz=undef/\IB=undef/\IC=undef/\IE=undef/\IG=undef/\II=undef/\IJ=undef/\IK=undef/\IL=undef/\IQ=undef/\IU=undef/\IV=undef)/\aK yT wc)
     case first=>
      refine dH (fun w'=>w'.cell? ⟨BO,3,none⟩=some (U ah q.aZ.length ch)/\w'.cell? ⟨w+1,2,none⟩=some (J m.aU)) 8 κ ?_;obtain⟨wd,hWd⟩:=χ yT.drew;rw [<-hWd];have GD:aK yT wd:=by rw [hWd];exact(aG _).drew
      have zD:yT.heap.size=wd.heap.size:=by rw [hWd];rfl
      have ZD:=I zD;clear hWd zD;refine qJ [1,2,4,5] 12 κ (fun _ _ _ _ _ h=>h) (HS.o _ GD) ?_;repeat (refine jY ?_;try simp only [bT])
      refine qK ?_;refine bP 0 6 κ rfl rfl ?_ ?_
      ·intro K M
       try simp only [dD]
       go_simp;refine ψ M (fun _=>HS.o _ (GD.alloc _)) ?_;try simp only [bT]
       refine bP 3 6 κ rfl rfl ?_ ?_
       ·intro K M
        refine aY rfl ?_;try simp only [dD]
        refine fP (l:=[]) (m:=q.aZ) (v:=U (some ⟨wd,0,none⟩) 0 0) jL rfl jX ε (.tmp 56) (.tmp 58) rfl rfl ((bK.mY Ty.int c _ yT.heap.size _ (φ ZD.o) σ)) rfl (D7.o _ (GD.alloc _)) (by have:=HHL.o;simp;omega) (GD.alloc _).size ?_;intro a3 c3 q3 mZ o9 fB;try simp only [lu,List.nil_append] at mZ
        try simp only [lu] at fB
        try simp only [lu]
        have G3:=dI (w0:=yT) (GD.alloc _) o9 (iM (φ ZD.o));have B3:=I (ni (B:=yT.heap.size) (GD.alloc _).size fB (iM (φ ZD.o)));have n_:=I mZ;have uF:=I o9;clear mZ o9 fB;refine ψ M (fun _=>HS.o _ G3) ?_;try simp only [bT]
        refine bO 6 κ rfl ?_;intro K M;try simp only [dD]
        go_simp;refine ψ M (fun _=>HS.o _ (G3.alloc _)) ?_;try simp only [bT]
        refine bO 7 κ rfl ?_;intro K M;refine aY rfl ?_;try simp only [dD]
        refine fP (l:=q.aZ) (m:=[m.aU]) (v:=U a3 (q.aZ.length) c3) jL rfl jX ε (.tmp 59) (.tmp 62) rfl rfl ((n_.o).grow ((aG _).alloc _)) rfl ((Src.dU (T:=Ty.int) (x:=m.aU) (c:=c) (cs:=#[J m.aU]) (show Ty.int.R c _ m.aU from⟨rfl,FN.o.2.2⟩) _ _ σ)) (by have:=HHL.o;simp;omega) (G3.alloc _).size ?_;intro a7 c7 q7 yR AB jQ;try simp only [lu] at yR
        try simp only [lu] at jQ
        try simp only [lu]
        have G7:=dI (w0:=yT) (G3.alloc _) AB B3.o;have zN:=I yR;clear yR AB jQ;refine ψ M (fun _=>HS.o _ G7) ?_;try simp only [bT]
        refine bO 8 κ rfl ?_;intro K M;try simp only [dD]
        go_simp;refine ψ M (fun h=>absurd rfl h) ?_;try simp only [bT]
        refine bW κ ?_;go_wp2;go_meet
        case rel=>exact⟨⟨_,_,rfl,zN.o⟩,⟨rfl,rfl,rfl,rfl,rfl,rfl,rfl,rfl,rfl,rfl,rfl,rfl,rfl,rfl,rfl⟩,G7⟩
       ·intro K M
        try simp only [dD]
        go_simp;refine ψ M (fun _=>HS.o _ ((GD.alloc _).alloc _)) ?_;try simp only [bT]
        refine bO 3 κ rfl ?_;intro K M;refine aY rfl ?_;try simp only [dD]
        refine fP (l:=[]) (m:=q.aZ) (v:=U (some ⟨wd,0,none⟩) 0 0) jL rfl jX ε (.tmp 56) (.tmp 58) rfl rfl (((bK.mY Ty.int c _ yT.heap.size _ (φ ZD.o) σ)).grow ((aG _).alloc _)) rfl (D7.o _ ((GD.alloc _).alloc _)) (by have:=HHL.o;simp;omega) ((GD.alloc _).alloc _).size ?_;intro a3 c3 q3 mZ o9 fB;try simp only [lu,List.nil_append] at mZ
        try simp only [lu] at fB
        try simp only [lu]
        have G3:=dI (w0:=yT) ((GD.alloc _).alloc _) o9 (iM (φ ZD.o));have B3:=I (ni (B:=yT.heap.size) ((GD.alloc _).alloc _).size fB (iM (φ ZD.o)));have n_:=I mZ;have uF:=I o9;clear mZ o9 fB;refine ψ M (fun _=>HS.o _ G3) ?_;try simp only [bT]
        refine bO 7 κ rfl ?_;intro K M;refine aY rfl ?_;try simp only [dD]
        refine fP (l:=q.aZ) (m:=[m.aU]) (v:=U a3 (q.aZ.length) c3) jL rfl jX ε (.tmp 59) (.tmp 62) rfl rfl (n_.o) rfl (((Src.dU (T:=Ty.int) (x:=m.aU) (c:=c) (cs:=#[J m.aU]) (show Ty.int.R c _ m.aU from⟨rfl,FN.o.2.2⟩) _ _ σ)).kept uF.o (by simp [Value.ownBlock])) (by have:=HHL.o;simp;omega) G3.size ?_;intro a7 c7 q7 yR AB jQ;try simp only [lu] at yR
        try simp only [lu] at jQ
        try simp only [lu]
        have G7:=dI (w0:=yT) G3 AB B3.o;have zN:=I yR;clear yR AB jQ;refine ψ M (fun _=>HS.o _ G7) ?_;try simp only [bT]
        refine bO 8 κ rfl ?_;intro K M;try simp only [dD]
        go_simp;refine ψ M (fun h=>absurd rfl h) ?_;try simp only [bT]
        refine bW κ ?_;go_wp2;go_meet
        case rel=>exact⟨⟨_,_,rfl,zN.o⟩,⟨rfl,rfl,rfl,rfl,rfl,rfl,rfl,rfl,rfl,rfl,rfl,rfl,rfl,rfl,rfl⟩,G7⟩
      ·intro K M
       try simp only [dD]
       go_simp;refine ψ M (fun _=>HS.o _ (GD.alloc _)) ?_;try simp only [bT]
       refine bO 0 κ rfl ?_;intro K M;try simp only [dD]
       go_simp;refine ψ M (fun _=>HS.o _ ((GD.alloc _).alloc _)) ?_;try simp only [bT]
       refine bO 3 κ rfl ?_;intro K M;refine aY rfl ?_;try simp only [dD]
       refine fP (l:=[]) (m:=q.aZ) (v:=U (some ⟨wd+1,0,none⟩) 0 0) jL rfl jX ε (.tmp 56) (.tmp 58) rfl rfl ((bK.mY Ty.int c _ yT.heap.size _ (φ ZD.o) σ)) rfl (D7.o _ ((GD.alloc _).alloc _)) (by have:=HHL.o;simp;omega) ((GD.alloc _).alloc _).size ?_;intro a3 c3 q3 mZ o9 fB;try simp only [lu,List.nil_append] at mZ
       try simp only [lu] at fB
       try simp only [lu]
       have G3:=dI (w0:=yT) ((GD.alloc _).alloc _) o9 (iM (φ ZD.o));have B3:=I (ni (B:=yT.heap.size) ((GD.alloc _).alloc _).size fB (iM (φ ZD.o)));have n_:=I mZ;have uF:=I o9;clear mZ o9 fB;refine ψ M (fun _=>HS.o _ G3) ?_;try simp only [bT]
       refine bO 7 κ rfl ?_;intro K M;refine aY rfl ?_;try simp only [dD]
       refine fP (l:=q.aZ) (m:=[m.aU]) (v:=U a3 (q.aZ.length) c3) jL rfl jX ε (.tmp 59) (.tmp 62) rfl rfl (n_.o) rfl ((((Src.dU (T:=Ty.int) (x:=m.aU) (c:=c) (cs:=#[J m.aU]) (show Ty.int.R c _ m.aU from⟨rfl,FN.o.2.2⟩) _ _ σ)).grow ((aG _).alloc _)).kept uF.o (by simp [Value.ownBlock])) (by have:=HHL.o;simp;omega) G3.size ?_;intro a7 c7 q7 yR AB jQ;try simp only [lu] at yR
       try simp only [lu] at jQ
       try simp only [lu]
       have G7:=dI (w0:=yT) G3 AB B3.o;have zN:=I yR;clear yR AB jQ;refine ψ M (fun _=>HS.o _ G7) ?_;try simp only [bT]
       refine bO 8 κ rfl ?_;intro K M;try simp only [dD]
       go_simp;refine ψ M (fun h=>absurd rfl h) ?_;try simp only [bT]
       refine bW κ ?_;go_wp2;go_meet
       case rel=>exact⟨⟨_,_,rfl,zN.o⟩,⟨rfl,rfl,rfl,rfl,rfl,rfl,rfl,rfl,rfl,rfl,rfl,rfl,rfl,rfl,rfl⟩,G7⟩
     case rest=>
     obtain⟨⟨YS,YT,rfl,A1Q⟩,⟨rfl,rfl,rfl,rfl,rfl,rfl,rfl,rfl,rfl,rfl,rfl,rfl,rfl,rfl,rfl⟩,hgc⟩:=hcut;obtain⟨NY,rfl⟩:=χ wc;have Rn:=I hgc;clear hgc;have A2J:=I A1Q;clear A1Q HS;have A1R:=I (Xi.o.dL Rn.o);have YY:=I (aF F4.o Rn.o);obtain⟨ta,hta⟩:=χ (yL q);have NA:=I hta;clear hta;go_upto_region 12 with fail
     obtain⟨e0,e1,e2,e3⟩:=aT YY.o;have zO:BO<NY.heap.size:=(γ YY.o);go_cut [13,158,159,160,161,162,163,164,165,166,167,168,169,170,171,172] from 64 (fun s13 Iu Iw Iy Iz IB IC IE IG II IJ IK IL IQ IU IV wc=>s13=.bool ta/\(Iu=undef/\Iw=undef/\Iy=undef/\Iz=undef/\IB=undef/\IC=undef/\IE=undef/\IG=undef/\II=undef/\IJ=undef/\IK=undef/\IL=undef/\IQ=undef/\IU=undef/\IV=undef)/\aK NY wc)
     case first=>
      go_wp2_with fail
      refine(AL.o _ A1R.o.grow).mono ?_;rintro e2x w2 ⟨v2,rfl,wS,gB⟩;obtain⟨a2,c2,rfl⟩:=dG wS;clear wS;go_wp2;go_meet
      case rel=>exact⟨by rw [NA.o];unfold yL;congr 1;first|rfl|(rw [Bool.eq_iff_iff];simp;omega),⟨rfl,rfl,rfl,rfl,rfl,rfl,rfl,rfl,rfl,rfl,rfl,rfl,rfl,rfl,rfl⟩,gB⟩
     case rest=>
     obtain⟨rfl,⟨rfl,rfl,rfl,rfl,rfl,rfl,rfl,rfl,rfl,rfl,rfl,rfl,rfl,rfl,rfl⟩,hgc⟩:=hcut;obtain⟨yU,rfl⟩:=χ wc;have MX:=I hgc;clear hgc;have pz:=I (A1R.o.dL MX.o);have zV:=I (aF YY.o MX.o);have F_:=I (A2J.o.grow MX.o);try clear e0 e1 e2 e3 zO
     obtain⟨t71,A1S⟩:=χ (decide (m.aX=2/\q.dec=false/\rJ q m));have oY:=I A1S;clear A1S;go_upto_region 13 with fail
     obtain⟨e0,e1,e2,e3⟩:=aT zV.o;have zO:BO<yU.heap.size:=(γ zV.o);have zU:=I ((pz.o.old 0 V).trans R1.o);have yM:=I ((pz.o.old 1 V).trans R2.o);obtain⟨y0,y1,y2,y3⟩:=aT zU.o;obtain⟨d0,d1,d2,d3⟩:=aT yM.o;obtain⟨x0,x1,x2,x3⟩:=aT pz.o.row;have zz:=pz.o.size;have zA:w.heap.size<yU:=by omega
     have zB:w.heap.size+1<yU:=by omega
     have zX:w.heap.size+3<yU:=by omega
     go_cut [71,158,159,160,161,162,163,164,165,166,167,168,169,170,171,172] from 72 (fun s71 Iu Iw Iy Iz IB IC IE IG II IJ IK IL IQ IU IV wc=>s71=.bool t71/\(Iu=undef/\Iw=undef/\Iy=undef/\Iz=undef/\IB=undef/\IC=undef/\IE=undef/\IG=undef/\II=undef/\IJ=undef/\IK=undef/\IL=undef/\IQ=undef/\IU=undef/\IV=undef)/\yU=wc)
     case first=>
      by_cases hk:m.aX=2
      ·have hkb:(m.aX==2)=true:=by simp [hk]
       have M:=I hk;clear hk;obtain⟨db,Tj⟩:=χ q.dec;rw [<-Tj] at e2;have pA:=I Tj;clear Tj;cases db with
       |true=>
        go_wp2;go_meet
        case rel=>exact⟨by have N:=M.o;have Y:=pA.o.symm;rw [oY.o];(try rw [Rk.o]);simp [N,Y],⟨rfl,rfl,rfl,rfl,rfl,rfl,rfl,rfl,rfl,rfl,rfl,rfl,rfl,rfl,rfl⟩,rfl⟩
       |false=>
        go_wp2;go_meet
        case rel=>exact⟨by have N:=M.o;have Y:=pA.o.symm;rw [oY.o];(try rw [Rk.o]);simp [N,Y],⟨rfl,rfl,rfl,rfl,rfl,rfl,rfl,rfl,rfl,rfl,rfl,rfl,rfl,rfl,rfl⟩,rfl⟩
      ·have hkb:(m.aX==2)=false:=by simp [hk]
       have M:=I hk;clear hk;go_wp2;go_meet
       case rel=>exact⟨by have N:=M.o;rw [oY.o];simp [N],⟨rfl,rfl,rfl,rfl,rfl,rfl,rfl,rfl,rfl,rfl,rfl,rfl,rfl,rfl,rfl⟩,rfl⟩
     case rest=>
     obtain⟨rfl,⟨rfl,rfl,rfl,rfl,rfl,rfl,rfl,rfl,rfl,rfl,rfl,rfl,rfl,rfl,rfl⟩,rfl⟩:=hcut;clear e0 e1 e2 e3 zO y0 y1 y2 y3 d0 d1 d2 d3 x0 x1 x2 x3 zz zA zB zX zU yM;cases t71 with
     |true=>
      as_aux_lemma=>
       have HA:=I (of_decide_eq_true oY.o.symm);have hdc:=HA.o.2.1;rw [hdc] at zV;clear hdc;go_wp2_with (first|(refine bY rfl (.tmp 84) (.tmp 83) (v:=U YS (q.aZ.length+1) YT) (new:=#[J q.aJ,U wU q.aH.length wV,.bool false,U YS (q.aZ.length+1) YT]) rfl rfl ρ ρ zV.o CY σ ρ ρ ?_))
       intro CZ ZS AI;have OH:=I ZS;have fW:Hid (aK wr CZ):=I ((((GO.o.trans Rl.o).trans Rn.o).trans MX.o).grown AI (fun q9 e9=>by have:=bI e9;have:=fT.o;omega));have uY:=I (PV.o.dL fW.o);have ZZ:=I (F_.o.kept AI (eF F_.o (τ (γ F4.o))));clear ZS AI;cases ta with
       |true=>
        have AJ:=I NA.o.symm;have HST:Hid (gV m ⟨so,[],[],false⟩ q=⟨so++ [⟨q.aJ,q.aH,true,[]⟩],[⟨5,q.aJ,q.aH⟩],jD ⟨q.aJ,q.aH,true,[]⟩,true⟩):=I (by rw [HAT.o,Q_ HA.o AJ.o];try simp);go_wp2_with (first|(refine bY rfl (.tmp 86) (.const (.bool true)) (v:=.bool true) (new:=#[J q.aJ,U wU q.aH.length wV,.bool true,U YS (q.aZ.length+1) YT]) rfl rfl ρ ρ OH.o cN σ ρ ρ ?_))
        intro w15 r15 g15;have A2K:=I r15;have G15:Hid (aK wr w15):=I (fW.o.grown g15 (fun q9 e9=>by have:=bI e9;have:=fT.o;omega));clear r15 g15;go_wp2_with (first|(refine bY rfl (.tmp 87) (.const (U none 0 0)) (v:=U none 0 0) (new:=#[J q.aJ,U wU q.aH.length wV,.bool true,()]) rfl rfl ρ ρ A2K.o CY σ ρ ρ ?_))
        intro SK r16 g16;have GF:=I r16;have G16:Hid (aK wr SK):=I (G15.o.grown g16 (fun q9 e9=>by have:=bI e9;have:=fT.o;omega));clear r16 g16;have MZ:=I (PV.o.dL G16.o);have Xj:=I (fun(W:World) (hW:aK SK W)=>Src.kK (T:=Ty.rc) ε (HC.o.trans (MZ.o.grow.trans hW).sub) G_.o);have HS:Hid (∀W,aK SK W->W.cell? ⟨w,0,none⟩=some (U al h.bg.length cl)/\W.cell? ⟨BO,0,none⟩=some (J q.aJ)/\W.cell? ⟨BO,1,none⟩=some (U wU q.aH.length wV)):=fun W hW=>by
         obtain⟨k0,k1,-,-⟩:=aT (aF GF.o hW);obtain⟨j0,-,-,-⟩:=aT (aF ((MZ.o.old 0 V).trans R1.o) hW);exact⟨j0,k0,k1⟩
        go_upto_region 17 with fail
        refine dH (fun w'=>w'.cell? ⟨w,0,none⟩=some (U al h.bg.length cl)/\w'.cell? ⟨BO,0,none⟩=some (J q.aJ)/\w'.cell? ⟨BO,1,none⟩=some (U wU q.aH.length wV)) 12 κ ?_;obtain⟨wd,hWd⟩:=χ SK.drew;rw [<-hWd];have GD:aK SK wd:=by rw [hWd];exact(aG _).drew
        have zD:SK.heap.size=wd.heap.size:=by rw [hWd];rfl
        have ZD:=I zD;clear hWd zD;refine qJ [1,2,4,5,6,7,8] 16 κ (fun _ _ _ _ _ h=>h) (HS.o _ GD) ?_;repeat (refine jY ?_;try simp only [bT])
        refine qK ?_;refine bP 0 9 κ rfl rfl ?_ ?_
        ·intro K M
         try simp only [dD]
         go_simp;refine ψ M (fun _=>HS.o _ (GD.alloc _)) ?_;try simp only [bT]
         refine bP 3 9 κ rfl rfl ?_ ?_
         ·intro K M
          refine aY rfl ?_;try simp only [dD]
          refine fP (l:=[]) (m:=h.bg) (v:=U (some ⟨wd,0,none⟩) 0 0) mX rfl jc ε (.tmp 88) (.tmp 90) rfl rfl ((bK.mY Ty.rc c _ SK.heap.size _ (φ ZD.o) σ)) rfl (Xj.o _ (GD.alloc _)) (by have:=Et.o;simp;omega) (GD.alloc _).size ?_;intro a3 c3 q3 mZ o9 fB;try simp only [lu,List.nil_append] at mZ
          try simp only [lu] at fB
          try simp only [lu]
          have G3:=dI (w0:=SK) (GD.alloc _) o9 (iM (φ ZD.o));have B3:=I (ni (B:=SK.heap.size) (GD.alloc _).size fB (iM (φ ZD.o)));have n_:=I mZ;have uF:=I o9;clear mZ o9 fB;refine ψ M (fun _=>HS.o _ G3) ?_;try simp only [bT]
          refine bO 9 κ rfl ?_;intro K M;try simp only [dD]
          go_simp;refine ψ M (fun _=>HS.o _ (G3.alloc _)) ?_;try simp only [bT]
          refine bO 10 κ rfl ?_;intro K M;refine aY rfl ?_;try simp only [dD]
          refine fP (l:=h.bg) (m:=[⟨5,q.aJ,q.aH⟩]) (v:=U a3 (h.bg.length) c3) mX rfl jc ε (.tmp 91) (.tmp 97) rfl rfl ((n_.o).grow ((aG _).alloc _)) rfl ((Src.dU (T:=Ty.rc) (x:=⟨5,q.aJ,q.aH⟩) (c:=c) (cs:=#[J 5,J q.aJ,U wU q.aH.length wV]) (show Ty.rc.R c _ (⟨5,q.aJ,q.aH⟩:Rc) from⟨_,rfl,(show I64 5 from by unfold I64;decide),nH.o.1,nH.o.2.1⟩) _ _ σ)) (by have:=Et.o;simp;omega) (G3.alloc _).size ?_;intro EL EM q10 oV UZ lQ;try simp only [lu] at oV
          try simp only [lu] at lQ
          try simp only [lu]
          have lX:=dI (w0:=SK) (G3.alloc _) UZ B3.o;have AO:=I oV;clear oV UZ lQ;refine ψ M (fun _=>HS.o _ lX) ?_;try simp only [bT]
          refine bO 11 κ rfl ?_;intro K M;try simp only [dD]
          go_simp;refine ψ M (fun _=>HS.o _ lX) ?_;try simp only [bT]
          refine bO 12 κ rfl ?_;intro K M;refine aY rfl ?_;try simp only [dD]
          refine dF (.tmp 99) (.tmp 98) (v:=U EL (h.bg.length+1) EM) (new:=#[U EL (h.bg.length+1) EM,J h.aW,J h.next,U ao so.length co]) rfl rfl ρ ρ (aF MZ.o.row lX) tH σ ρ ρ ?_;intro pB U_ M_;have Fv:=I (kX.Ip (MZ.o.dL lX) [⟨5,q.aJ,q.aH⟩] M_ U_ (by
           have h9:=MZ.o.xJ ε (nU (HC.o.trans G1.o.sub)) AO.o;simpa using h9))
          have FP:=I (bJ (aF GF.o lX) M_ (by intro e;have:=bI e;have:=fT.o;have:=PV.o.size;omega));clear U_ M_;refine ψ M (fun h=>absurd rfl h) ?_;try simp only [bT]
          refine bW κ ?_;have HAS:=I (fun(W:World) (hW:aK w W)=>vY (v:=.agg #[J q.aJ,U wU q.aH.length wV,.bool true,()]) (o:=⟨q.aJ,q.aH,true,[]⟩) W ⟨_,rfl,_,_,rfl,nH.o.1,nH.o.2.1.mono (HC.o.trans hW.sub),Sl.nil _ _⟩ (by show q.aH.length*24<=_;have:=pU.o;omega));obtain⟨e0,e1,e2,e3⟩:=aT FP.o;have zO:BO<pB.heap.size:=(γ FP.o);go_wp2_with fail
          refine(HAS.o _ Fv.o.grow).mono ?_;rintro e18 C9 ⟨v18,rfl,Eu,FQ⟩;obtain⟨a18,c18,rfl⟩:=Eu.form;have Na:=I (aF FP.o FQ);have kJ:=I ((Fv.o.dL FQ).pW (Fv.o.xJ ε Fv.o.oR Eu));clear Eu FQ e0 e1 e2 e3 zO;obtain⟨e0,e1,e2,e3⟩:=aT Na.o;have zO:BO<C9.heap.size:=(γ Na.o);have zU:=I ((kJ.o.old 0 V).trans R1.o);have yM:=I ((kJ.o.old 1 V).trans R2.o);obtain⟨y0,y1,y2,y3⟩:=aT zU.o;obtain⟨d0,d1,d2,d3⟩:=aT yM.o;obtain⟨x0,x1,x2,x3⟩:=aT kJ.o.row;have zz:=kJ.o.size;have zA:w.heap.size<C9:=by omega
          have zB:w.heap.size+1<C9:=by omega
          have zX:w.heap.size+3<C9:=by omega
          go_wp2_with (first|(at_builtin;refine cO (c:=fc c wz C9 [(Value.slice ao so.length co).ownBlock]) (base:=w.heap.size+4) (l:=so) (m:=[⟨q.aJ,q.aH,true,[]⟩]) kF rfl jG ε rfl (.tmp 152) (.tmp 154) rfl rfl ?own rfl (Src.dU (T:=Ty.bG) (x:=⟨q.aJ,q.aH,true,[]⟩) (cs:=#[J q.aJ,U wU q.aH.length wV,.bool true,()]) ?d0 _ _ ?d1) ?d2 ?d3 ?_))
          case own=>exact bK.grow kJ.o.bG ((aG _).alloc _)
          case d0=>exact⟨_,_,rfl,nH.o.1,nH.o.2.1.mono (nU (HC.o.trans G1.o.sub)),Sl.nil _ _⟩
          case d1=>first|rfl|simp
          case d2=>have:=HSL.o;simp;omega
          case d3=>have:=kJ.o.size;simp;omega
          intro a9 c9 w9 gX fV iE;have R9:=I (bJ (aF kJ.o.row ((aG _).alloc (.cells #[J q.aJ,U wU q.aH.length wV,.bool true,()] 58))) fV (by intro e;have:=(kJ.o.bG.lt _ e.symm).1;omega));have jE:=I gX;have kR:=I fV;have Aj:=I iE;clear gX fV iE;go_wp2_with (first|(refine bY rfl (.tmp 156) (.tmp 155) (v:=U a9 (so.length+1) c9) (new:=#[U EL (h.bg.length+1) EM,J h.aW,J h.next,U a9 (so.length+1) c9]) rfl rfl ρ ρ R9.o iW σ ρ ρ ?_))
          intro yt DK xg;have AP:=I (kX.app kJ.o ⟨q.aJ,q.aH,true,[]⟩ ((aG _).alloc (.cells #[J q.aJ,U wU q.aH.length wV,.bool true,()] 58)) kR.o (Aj.o.imp_right fun⟨g,e,hge⟩=>⟨g,e,by simpa using hge⟩) jE.o xg DK);clear DK xg;go_wp2;go_roundw
          case rel=>exact⟨k+1,_,_,V,by go_num,by rw [og.o,HST.o],by rw [og.o,HST.o];exact AP.o⟩
          case measure=>simp [intOf];omega
         ·intro K M
          try simp only [dD]
          go_simp;refine ψ M (fun _=>HS.o _ ((GD.alloc _).alloc _)) ?_;try simp only [bT]
          refine bO 3 κ rfl ?_;intro K M;refine aY rfl ?_;try simp only [dD]
          refine fP (l:=[]) (m:=h.bg) (v:=U (some ⟨wd,0,none⟩) 0 0) mX rfl jc ε (.tmp 88) (.tmp 90) rfl rfl (((bK.mY Ty.rc c _ SK.heap.size _ (φ ZD.o) σ)).grow ((aG _).alloc _)) rfl (Xj.o _ ((GD.alloc _).alloc _)) (by have:=Et.o;simp;omega) ((GD.alloc _).alloc _).size ?_;intro a3 c3 q3 mZ o9 fB;try simp only [lu,List.nil_append] at mZ
          try simp only [lu] at fB
          try simp only [lu]
          have G3:=dI (w0:=SK) ((GD.alloc _).alloc _) o9 (iM (φ ZD.o));have B3:=I (ni (B:=SK.heap.size) ((GD.alloc _).alloc _).size fB (iM (φ ZD.o)));have n_:=I mZ;have uF:=I o9;clear mZ o9 fB;refine ψ M (fun _=>HS.o _ G3) ?_;try simp only [bT]
          refine bO 10 κ rfl ?_;intro K M;refine aY rfl ?_;try simp only [dD]
          refine fP (l:=h.bg) (m:=[⟨5,q.aJ,q.aH⟩]) (v:=U a3 (h.bg.length) c3) mX rfl jc ε (.tmp 91) (.tmp 97) rfl rfl (n_.o) rfl (((Src.dU (T:=Ty.rc) (x:=⟨5,q.aJ,q.aH⟩) (c:=c) (cs:=#[J 5,J q.aJ,U wU q.aH.length wV]) (show Ty.rc.R c _ (⟨5,q.aJ,q.aH⟩:Rc) from⟨_,rfl,(show I64 5 from by unfold I64;decide),nH.o.1,nH.o.2.1⟩) _ _ σ)).kept uF.o (by simp [Value.ownBlock])) (by have:=Et.o;simp;omega) G3.size ?_;intro EL EM q10 oV UZ lQ;try simp only [lu] at oV
          try simp only [lu] at lQ
          try simp only [lu]
          have lX:=dI (w0:=SK) G3 UZ B3.o;have AO:=I oV;clear oV UZ lQ;refine ψ M (fun _=>HS.o _ lX) ?_;try simp only [bT]
          refine bO 11 κ rfl ?_;intro K M;try simp only [dD]
          go_simp;refine ψ M (fun _=>HS.o _ lX) ?_;try simp only [bT]
          refine bO 12 κ rfl ?_;intro K M;refine aY rfl ?_;try simp only [dD]
          refine dF (.tmp 99) (.tmp 98) (v:=U EL (h.bg.length+1) EM) (new:=#[U EL (h.bg.length+1) EM,J h.aW,J h.next,U ao so.length co]) rfl rfl ρ ρ (aF MZ.o.row lX) tH σ ρ ρ ?_;intro pB U_ M_;have Fv:=I (kX.Ip (MZ.o.dL lX) [⟨5,q.aJ,q.aH⟩] M_ U_ (by
           have h9:=MZ.o.xJ ε (nU (HC.o.trans G1.o.sub)) AO.o;simpa using h9))
          have FP:=I (bJ (aF GF.o lX) M_ (by intro e;have:=bI e;have:=fT.o;have:=PV.o.size;omega));clear U_ M_;refine ψ M (fun h=>absurd rfl h) ?_;try simp only [bT]
          refine bW κ ?_;have HAS:=I (fun(W:World) (hW:aK w W)=>vY (v:=.agg #[J q.aJ,U wU q.aH.length wV,.bool true,()]) (o:=⟨q.aJ,q.aH,true,[]⟩) W ⟨_,rfl,_,_,rfl,nH.o.1,nH.o.2.1.mono (HC.o.trans hW.sub),Sl.nil _ _⟩ (by show q.aH.length*24<=_;have:=pU.o;omega));obtain⟨e0,e1,e2,e3⟩:=aT FP.o;have zO:BO<pB.heap.size:=(γ FP.o);go_wp2_with fail
          refine(HAS.o _ Fv.o.grow).mono ?_;rintro e18 C9 ⟨v18,rfl,Eu,FQ⟩;obtain⟨a18,c18,rfl⟩:=Eu.form;have Na:=I (aF FP.o FQ);have kJ:=I ((Fv.o.dL FQ).pW (Fv.o.xJ ε Fv.o.oR Eu));clear Eu FQ e0 e1 e2 e3 zO;obtain⟨e0,e1,e2,e3⟩:=aT Na.o;have zO:BO<C9.heap.size:=(γ Na.o);have zU:=I ((kJ.o.old 0 V).trans R1.o);have yM:=I ((kJ.o.old 1 V).trans R2.o);obtain⟨y0,y1,y2,y3⟩:=aT zU.o;obtain⟨d0,d1,d2,d3⟩:=aT yM.o;obtain⟨x0,x1,x2,x3⟩:=aT kJ.o.row;have zz:=kJ.o.size;have zA:w.heap.size<C9:=by omega
          have zB:w.heap.size+1<C9:=by omega
          have zX:w.heap.size+3<C9:=by omega
          go_wp2_with (first|(at_builtin;refine cO (c:=fc c wz C9 [(Value.slice ao so.length co).ownBlock]) (base:=w.heap.size+4) (l:=so) (m:=[⟨q.aJ,q.aH,true,[]⟩]) kF rfl jG ε rfl (.tmp 152) (.tmp 154) rfl rfl ?own rfl (Src.dU (T:=Ty.bG) (x:=⟨q.aJ,q.aH,true,[]⟩) (cs:=#[J q.aJ,U wU q.aH.length wV,.bool true,()]) ?d0 _ _ ?d1) ?d2 ?d3 ?_))
          case own=>exact bK.grow kJ.o.bG ((aG _).alloc _)
          case d0=>exact⟨_,_,rfl,nH.o.1,nH.o.2.1.mono (nU (HC.o.trans G1.o.sub)),Sl.nil _ _⟩
          case d1=>first|rfl|simp
          case d2=>have:=HSL.o;simp;omega
          case d3=>have:=kJ.o.size;simp;omega
          intro a9 c9 w9 gX fV iE;have R9:=I (bJ (aF kJ.o.row ((aG _).alloc (.cells #[J q.aJ,U wU q.aH.length wV,.bool true,()] 58))) fV (by intro e;have:=(kJ.o.bG.lt _ e.symm).1;omega));have jE:=I gX;have kR:=I fV;have Aj:=I iE;clear gX fV iE;go_wp2_with (first|(refine bY rfl (.tmp 156) (.tmp 155) (v:=U a9 (so.length+1) c9) (new:=#[U EL (h.bg.length+1) EM,J h.aW,J h.next,U a9 (so.length+1) c9]) rfl rfl ρ ρ R9.o iW σ ρ ρ ?_))
          intro yt DK xg;have AP:=I (kX.app kJ.o ⟨q.aJ,q.aH,true,[]⟩ ((aG _).alloc (.cells #[J q.aJ,U wU q.aH.length wV,.bool true,()] 58)) kR.o (Aj.o.imp_right fun⟨g,e,hge⟩=>⟨g,e,by simpa using hge⟩) jE.o xg DK);clear DK xg;go_wp2;go_roundw
          case rel=>exact⟨k+1,_,_,V,by go_num,by rw [og.o,HST.o],by rw [og.o,HST.o];exact AP.o⟩
          case measure=>simp [intOf];omega
        ·intro K M
         try simp only [dD]
         go_simp;refine ψ M (fun _=>HS.o _ (GD.alloc _)) ?_;try simp only [bT]
         refine bO 0 κ rfl ?_;intro K M;try simp only [dD]
         go_simp;refine ψ M (fun _=>HS.o _ ((GD.alloc _).alloc _)) ?_;try simp only [bT]
         refine bO 3 κ rfl ?_;intro K M;refine aY rfl ?_;try simp only [dD]
         refine fP (l:=[]) (m:=h.bg) (v:=U (some ⟨wd+1,0,none⟩) 0 0) mX rfl jc ε (.tmp 88) (.tmp 90) rfl rfl ((bK.mY Ty.rc c _ SK.heap.size _ (φ ZD.o) σ)) rfl (Xj.o _ ((GD.alloc _).alloc _)) (by have:=Et.o;simp;omega) ((GD.alloc _).alloc _).size ?_;intro a3 c3 q3 mZ o9 fB;try simp only [lu,List.nil_append] at mZ
         try simp only [lu] at fB
         try simp only [lu]
         have G3:=dI (w0:=SK) ((GD.alloc _).alloc _) o9 (iM (φ ZD.o));have B3:=I (ni (B:=SK.heap.size) ((GD.alloc _).alloc _).size fB (iM (φ ZD.o)));have n_:=I mZ;have uF:=I o9;clear mZ o9 fB;refine ψ M (fun _=>HS.o _ G3) ?_;try simp only [bT]
         refine bO 10 κ rfl ?_;intro K M;refine aY rfl ?_;try simp only [dD]
         refine fP (l:=h.bg) (m:=[⟨5,q.aJ,q.aH⟩]) (v:=U a3 (h.bg.length) c3) mX rfl jc ε (.tmp 91) (.tmp 97) rfl rfl (n_.o) rfl ((((Src.dU (T:=Ty.rc) (x:=⟨5,q.aJ,q.aH⟩) (c:=c) (cs:=#[J 5,J q.aJ,U wU q.aH.length wV]) (show Ty.rc.R c _ (⟨5,q.aJ,q.aH⟩:Rc) from⟨_,rfl,(show I64 5 from by unfold I64;decide),nH.o.1,nH.o.2.1⟩) _ _ σ)).grow ((aG _).alloc _)).kept uF.o (by simp [Value.ownBlock])) (by have:=Et.o;simp;omega) G3.size ?_;intro EL EM q10 oV UZ lQ;try simp only [lu] at oV
         try simp only [lu] at lQ
         try simp only [lu]
         have lX:=dI (w0:=SK) G3 UZ B3.o;have AO:=I oV;clear oV UZ lQ;refine ψ M (fun _=>HS.o _ lX) ?_;try simp only [bT]
         refine bO 11 κ rfl ?_;intro K M;try simp only [dD]
         go_simp;refine ψ M (fun _=>HS.o _ lX) ?_;try simp only [bT]
         refine bO 12 κ rfl ?_;intro K M;refine aY rfl ?_;try simp only [dD]
         refine dF (.tmp 99) (.tmp 98) (v:=U EL (h.bg.length+1) EM) (new:=#[U EL (h.bg.length+1) EM,J h.aW,J h.next,U ao so.length co]) rfl rfl ρ ρ (aF MZ.o.row lX) tH σ ρ ρ ?_;intro pB U_ M_;have Fv:=I (kX.Ip (MZ.o.dL lX) [⟨5,q.aJ,q.aH⟩] M_ U_ (by
          have h9:=MZ.o.xJ ε (nU (HC.o.trans G1.o.sub)) AO.o;simpa using h9))
         have FP:=I (bJ (aF GF.o lX) M_ (by intro e;have:=bI e;have:=fT.o;have:=PV.o.size;omega));clear U_ M_;refine ψ M (fun h=>absurd rfl h) ?_;try simp only [bT]
         refine bW κ ?_;have HAS:=I (fun(W:World) (hW:aK w W)=>vY (v:=.agg #[J q.aJ,U wU q.aH.length wV,.bool true,()]) (o:=⟨q.aJ,q.aH,true,[]⟩) W ⟨_,rfl,_,_,rfl,nH.o.1,nH.o.2.1.mono (HC.o.trans hW.sub),Sl.nil _ _⟩ (by show q.aH.length*24<=_;have:=pU.o;omega));obtain⟨e0,e1,e2,e3⟩:=aT FP.o;have zO:BO<pB.heap.size:=(γ FP.o);go_wp2_with fail
         refine(HAS.o _ Fv.o.grow).mono ?_;rintro e18 C9 ⟨v18,rfl,Eu,FQ⟩;obtain⟨a18,c18,rfl⟩:=Eu.form;have Na:=I (aF FP.o FQ);have kJ:=I ((Fv.o.dL FQ).pW (Fv.o.xJ ε Fv.o.oR Eu));clear Eu FQ e0 e1 e2 e3 zO;obtain⟨e0,e1,e2,e3⟩:=aT Na.o;have zO:BO<C9.heap.size:=(γ Na.o);have zU:=I ((kJ.o.old 0 V).trans R1.o);have yM:=I ((kJ.o.old 1 V).trans R2.o);obtain⟨y0,y1,y2,y3⟩:=aT zU.o;obtain⟨d0,d1,d2,d3⟩:=aT yM.o;obtain⟨x0,x1,x2,x3⟩:=aT kJ.o.row;have zz:=kJ.o.size;have zA:w.heap.size<C9:=by omega
         have zB:w.heap.size+1<C9:=by omega
         have zX:w.heap.size+3<C9:=by omega
         go_wp2_with (first|(at_builtin;refine cO (c:=fc c wz C9 [(Value.slice ao so.length co).ownBlock]) (base:=w.heap.size+4) (l:=so) (m:=[⟨q.aJ,q.aH,true,[]⟩]) kF rfl jG ε rfl (.tmp 152) (.tmp 154) rfl rfl ?own rfl (Src.dU (T:=Ty.bG) (x:=⟨q.aJ,q.aH,true,[]⟩) (cs:=#[J q.aJ,U wU q.aH.length wV,.bool true,()]) ?d0 _ _ ?d1) ?d2 ?d3 ?_))
         case own=>exact bK.grow kJ.o.bG ((aG _).alloc _)
         case d0=>exact⟨_,_,rfl,nH.o.1,nH.o.2.1.mono (nU (HC.o.trans G1.o.sub)),Sl.nil _ _⟩
         case d1=>first|rfl|simp
         case d2=>have:=HSL.o;simp;omega
         case d3=>have:=kJ.o.size;simp;omega
         intro a9 c9 w9 gX fV iE;have R9:=I (bJ (aF kJ.o.row ((aG _).alloc (.cells #[J q.aJ,U wU q.aH.length wV,.bool true,()] 58))) fV (by intro e;have:=(kJ.o.bG.lt _ e.symm).1;omega));have jE:=I gX;have kR:=I fV;have Aj:=I iE;clear gX fV iE;go_wp2_with (first|(refine bY rfl (.tmp 156) (.tmp 155) (v:=U a9 (so.length+1) c9) (new:=#[U EL (h.bg.length+1) EM,J h.aW,J h.next,U a9 (so.length+1) c9]) rfl rfl ρ ρ R9.o iW σ ρ ρ ?_))
         intro yt DK xg;have AP:=I (kX.app kJ.o ⟨q.aJ,q.aH,true,[]⟩ ((aG _).alloc (.cells #[J q.aJ,U wU q.aH.length wV,.bool true,()] 58)) kR.o (Aj.o.imp_right fun⟨g,e,hge⟩=>⟨g,e,by simpa using hge⟩) jE.o xg DK);clear DK xg;go_wp2;go_roundw
         case rel=>exact⟨k+1,_,_,V,by go_num,by rw [og.o,HST.o],by rw [og.o,HST.o];exact AP.o⟩
         case measure=>simp [intOf];omega
       |false=>
        have AJ:=I NA.o.symm;have HST:Hid (gV m ⟨so,[],[],false⟩ q=⟨so++ [⟨q.aJ,q.aH,false,q.aZ++ [m.aU]⟩],[],[],true⟩):=I (by rw [HAT.o,cK HA.o AJ.o];try simp);obtain⟨e0,e1,e2,e3⟩:=aT OH.o;have zO:BO<CZ.heap.size:=(γ OH.o);have zU:=I ((uY.o.old 0 V).trans R1.o);have yM:=I ((uY.o.old 1 V).trans R2.o);obtain⟨y0,y1,y2,y3⟩:=aT zU.o;obtain⟨d0,d1,d2,d3⟩:=aT yM.o;obtain⟨x0,x1,x2,x3⟩:=aT uY.o.row;have zz:=uY.o.size;have zA:w.heap.size<CZ:=by omega
        have zB:w.heap.size+1<CZ:=by omega
        have zX:w.heap.size+3<CZ:=by omega
        have tJ:Hid (kX c w wz CZ h ⟨so,[],[],true⟩ _ _ _):=I (uY.o.pW uY.o.says);go_wp2_with (first|(at_builtin;refine cO (c:=fc c wz CZ [(Value.slice ao so.length co).ownBlock]) (base:=w.heap.size+4) (l:=so) (m:=[⟨q.aJ,q.aH,false,q.aZ++ [m.aU]⟩]) kF rfl jG ε rfl (.tmp 152) (.tmp 154) rfl rfl ?own rfl (Src.dU (T:=Ty.bG) (x:=⟨q.aJ,q.aH,false,q.aZ++ [m.aU]⟩) (cs:=#[J q.aJ,U wU q.aH.length wV,.bool false,U YS (q.aZ.length+1) YT]) ?d0 _ _ ?d1) ?d2 ?d3 ?_))
        case own=>exact bK.grow tJ.o.bG ((aG _).alloc _)
        case d0=>exact⟨_,_,rfl,nH.o.1,nH.o.2.1.mono (nU (HC.o.trans G1.o.sub)),Xi.o.xJ ε (nU (HC.o.trans G1.o.sub)) ZZ.o⟩
        case d1=>first|rfl|simp
        case d2=>have:=HSL.o;simp;omega
        case d3=>have:=tJ.o.size;simp;omega
        intro a9 c9 w9 gX fV iE;have R9:=I (bJ (aF tJ.o.row ((aG _).alloc (.cells #[J q.aJ,U wU q.aH.length wV,.bool false,U YS (q.aZ.length+1) YT] 58))) fV (by intro e;have:=(tJ.o.bG.lt _ e.symm).1;omega));have jE:=I gX;have kR:=I fV;have Aj:=I iE;clear gX fV iE;go_wp2_with (first|(refine bY rfl (.tmp 156) (.tmp 155) (v:=U a9 (so.length+1) c9) (new:=#[U AF nl AG,J h.aW,J h.next,U a9 (so.length+1) c9]) rfl rfl ρ ρ R9.o iW σ ρ ρ ?_))
        intro yt DK xg;have AP:=I (kX.app tJ.o ⟨q.aJ,q.aH,false,q.aZ++ [m.aU]⟩ ((aG _).alloc (.cells #[J q.aJ,U wU q.aH.length wV,.bool false,U YS (q.aZ.length+1) YT] 58)) kR.o (Aj.o.imp_right fun⟨g,e,hge⟩=>⟨g,e,by simpa using hge⟩) jE.o xg DK);clear DK xg;go_wp2;go_roundw
        case rel=>exact⟨k+1,_,_,V,by go_num,by rw [og.o,HST.o],by rw [og.o,HST.o];exact AP.o⟩
        case measure=>simp [intOf];omega
     |false=>
      have HA:=I (of_decide_eq_false oY.o.symm);obtain⟨A1T,NE⟩:=χ (decide (m.aX=3/\q.dec=false));have Va:=I NE;clear NE;go_upto_region 19 with fail
      obtain⟨e0,e1,e2,e3⟩:=aT zV.o;have zO:BO<yU.heap.size:=(γ zV.o);have zU:=I ((pz.o.old 0 V).trans R1.o);have yM:=I ((pz.o.old 1 V).trans R2.o);obtain⟨y0,y1,y2,y3⟩:=aT zU.o;obtain⟨d0,d1,d2,d3⟩:=aT yM.o;obtain⟨x0,x1,x2,x3⟩:=aT pz.o.row;have zz:=pz.o.size;have zA:w.heap.size<yU:=by omega
      have zB:w.heap.size+1<yU:=by omega
      have zX:w.heap.size+3<yU:=by omega
      go_cut [102,158,159,160,161,162,163,164,165,166,167,168,169,170,171,172] from 103 (fun A2L Iu Iw Iy Iz IB IC IE IG II IJ IK IL IQ IU IV wc=>A2L=.bool A1T/\(Iu=undef/\Iw=undef/\Iy=undef/\Iz=undef/\IB=undef/\IC=undef/\IE=undef/\IG=undef/\II=undef/\IJ=undef/\IK=undef/\IL=undef/\IQ=undef/\IU=undef/\IV=undef)/\yU=wc)
      case first=>
       by_cases hk:m.aX=3
       ·have hkb:(m.aX==3)=true:=by simp [hk]
        have M:=I hk;clear hk;obtain⟨db,Tj⟩:=χ q.dec;rw [<-Tj] at e2;have pA:=I Tj;clear Tj;cases db with
        |true=>
         go_wp2;go_meet
         case rel=>exact⟨by have N:=M.o;have Y:=pA.o.symm;rw [Va.o];(try rw [Rk.o]);simp [N,Y],⟨rfl,rfl,rfl,rfl,rfl,rfl,rfl,rfl,rfl,rfl,rfl,rfl,rfl,rfl,rfl⟩,rfl⟩
        |false=>
         go_wp2;go_meet
         case rel=>exact⟨by have N:=M.o;have Y:=pA.o.symm;rw [Va.o];(try rw [Rk.o]);simp [N,Y],⟨rfl,rfl,rfl,rfl,rfl,rfl,rfl,rfl,rfl,rfl,rfl,rfl,rfl,rfl,rfl⟩,rfl⟩
       ·have hkb:(m.aX==3)=false:=by simp [hk]
        have M:=I hk;clear hk;go_wp2;go_meet
        case rel=>exact⟨by have N:=M.o;rw [Va.o];simp [N],⟨rfl,rfl,rfl,rfl,rfl,rfl,rfl,rfl,rfl,rfl,rfl,rfl,rfl,rfl,rfl⟩,rfl⟩
      case rest=>
      obtain⟨rfl,⟨rfl,rfl,rfl,rfl,rfl,rfl,rfl,rfl,rfl,rfl,rfl,rfl,rfl,rfl,rfl⟩,rfl⟩:=hcut;clear e0 e1 e2 e3 zO y0 y1 y2 y3 d0 d1 d2 d3 x0 x1 x2 x3 zz zA zB zX zU yM;cases A1T with
      |true=>
       have HBH:=I (of_decide_eq_true Va.o.symm);have HST:Hid (gV m ⟨so,[],[],false⟩ q=⟨so,[],fU q.aJ q.aH,true⟩):=I (by rw [HAT.o,oF HA.o HBH.o];try simp);have HAB:=I (fun(W:World) (hW:aK w W)=>MH (v:=.agg #[J q.aJ,U wU q.aH.length wV,.bool q.dec,U ah q.aZ.length ch]) (o:=q) W ⟨_,rfl,_,_,rfl,nH.o.1,nH.o.2.1.mono (HC.o.trans hW.sub),nH.o.2.2.mono (HC.o.trans hW.sub)⟩ (τ pU.o));obtain⟨e0,e1,e2,e3⟩:=aT zV.o;have zO:BO<yU.heap.size:=(γ zV.o);go_wp2_with fail
       refine(HAB.o _ pz.o.grow).mono ?_;rintro e18 C9 ⟨v18,rfl,Eu,FQ⟩;obtain⟨a18,c18,rfl⟩:=Eu.form;have AP:Hid (kX c w wz C9 h ⟨so,[],fU q.aJ q.aH,true⟩ _ _ _):=I ((pz.o.dL FQ).pW (pz.o.xJ ε (fun _ _ e9=>by cases e9) Eu));clear Eu FQ e0 e1 e2 e3 zO;go_wp2;go_roundw
       case rel=>exact⟨k+1,_,_,V,by go_num,by rw [og.o,HST.o],by rw [og.o,HST.o];exact AP.o⟩
       case measure=>simp [intOf];omega
      |false=>
       have HB:=I (of_decide_eq_false Va.o.symm);obtain⟨A1U,NF⟩:=χ (decide (m.aX=6/\q.dec=true/\rJ q m));have Vb:=I NF;clear NF;go_upto_region 21 with fail
       obtain⟨e0,e1,e2,e3⟩:=aT zV.o;have zO:BO<yU.heap.size:=(γ zV.o);have zU:=I ((pz.o.old 0 V).trans R1.o);have yM:=I ((pz.o.old 1 V).trans R2.o);obtain⟨y0,y1,y2,y3⟩:=aT zU.o;obtain⟨d0,d1,d2,d3⟩:=aT yM.o;obtain⟨x0,x1,x2,x3⟩:=aT pz.o.row;have zz:=pz.o.size;have zA:w.heap.size<yU:=by omega
       have zB:w.heap.size+1<yU:=by omega
       have zX:w.heap.size+3<yU:=by omega
       go_cut [113,158,159,160,161,162,163,164,165,166,167,168,169,170,171,172] from 114 (fun A2M Iu Iw Iy Iz IB IC IE IG II IJ IK IL IQ IU IV wc=>A2M=.bool A1U/\(Iu=undef/\Iw=undef/\Iy=undef/\Iz=undef/\IB=undef/\IC=undef/\IE=undef/\IG=undef/\II=undef/\IJ=undef/\IK=undef/\IL=undef/\IQ=undef/\IU=undef/\IV=undef)/\yU=wc)
       case first=>
        by_cases hk:m.aX=6
        ·have hkb:(m.aX==6)=true:=by simp [hk]
         have M:=I hk;clear hk;obtain⟨db,Tj⟩:=χ q.dec;rw [<-Tj] at e2;have pA:=I Tj;clear Tj;cases db with
         |true=>
          go_wp2;go_meet
          case rel=>exact⟨by have N:=M.o;have Y:=pA.o.symm;rw [Vb.o];(try rw [Rk.o]);simp [N,Y],⟨rfl,rfl,rfl,rfl,rfl,rfl,rfl,rfl,rfl,rfl,rfl,rfl,rfl,rfl,rfl⟩,rfl⟩
         |false=>
          go_wp2;go_meet
          case rel=>exact⟨by have N:=M.o;have Y:=pA.o.symm;rw [Vb.o];(try rw [Rk.o]);simp [N,Y],⟨rfl,rfl,rfl,rfl,rfl,rfl,rfl,rfl,rfl,rfl,rfl,rfl,rfl,rfl,rfl⟩,rfl⟩
        ·have hkb:(m.aX==6)=false:=by simp [hk]
         have M:=I hk;clear hk;go_wp2;go_meet
         case rel=>exact⟨by have N:=M.o;rw [Vb.o];simp [N],⟨rfl,rfl,rfl,rfl,rfl,rfl,rfl,rfl,rfl,rfl,rfl,rfl,rfl,rfl,rfl⟩,rfl⟩
       case rest=>
       obtain⟨rfl,⟨rfl,rfl,rfl,rfl,rfl,rfl,rfl,rfl,rfl,rfl,rfl,rfl,rfl,rfl,rfl⟩,rfl⟩:=hcut;clear e0 e1 e2 e3 zO y0 y1 y2 y3 d0 d1 d2 d3 x0 x1 x2 x3 zz zA zB zX zU yM;cases A1U with
       |true=>
        as_aux_lemma=>
         have LO:=I (of_decide_eq_true Vb.o.symm);have hdc:=LO.o.2.1;rw [hdc] at zV;clear hdc;go_wp2_with (first|(refine bY rfl (.tmp 125) (.tmp 124) (v:=U YS (q.aZ.length+1) YT) (new:=#[J q.aJ,U wU q.aH.length wV,.bool true,U YS (q.aZ.length+1) YT]) rfl rfl ρ ρ zV.o CY σ ρ ρ ?_))
         intro CZ ZS AI;have OH:=I ZS;have fW:Hid (aK wr CZ):=I ((((GO.o.trans Rl.o).trans Rn.o).trans MX.o).grown AI (fun q9 e9=>by have:=bI e9;have:=fT.o;omega));have uY:=I (PV.o.dL fW.o);have ZZ:=I (F_.o.kept AI (eF F_.o (τ (γ F4.o))));clear ZS AI;cases ta with
         |true=>
          have AJ:=I NA.o.symm;have HST:Hid (gV m ⟨so,[],[],false⟩ q=⟨so,[⟨6,q.aJ,[]⟩],[],true⟩):=I (by rw [HAT.o,Rf HA.o HB.o LO.o AJ.o];try simp);have Xj:=I (fun(W:World) (hW:aK CZ W)=>Src.kK (T:=Ty.rc) ε (HC.o.trans (uY.o.grow.trans hW).sub) G_.o);have HS:Hid (∀W,aK CZ W->W.cell? ⟨w,0,none⟩=some (U al h.bg.length cl)/\W.cell? ⟨BO,0,none⟩=some (J q.aJ)):=fun W hW=>by
           obtain⟨k0,k1,-,-⟩:=aT (aF OH.o hW);obtain⟨j0,-,-,-⟩:=aT (aF ((uY.o.old 0 V).trans R1.o) hW);exact⟨j0,k0⟩
          go_upto_region 24 with fail
          refine dH (fun w'=>w'.cell? ⟨w,0,none⟩=some (U al h.bg.length cl)/\w'.cell? ⟨BO,0,none⟩=some (J q.aJ)) 10 κ ?_;obtain⟨wd,hWd⟩:=χ CZ.drew;rw [<-hWd];have GD:aK CZ wd:=by rw [hWd];exact(aG _).drew
          have zD:CZ.heap.size=wd.heap.size:=by rw [hWd];rfl
          have ZD:=I zD;clear hWd zD;refine qJ [1,2,4,5,6] 16 κ (fun _ _ _ _ _ h=>h) (HS.o _ GD) ?_;repeat (refine jY ?_;try simp only [bT])
          refine qK ?_;refine bP 0 7 κ rfl rfl ?_ ?_
          ·intro K M
           try simp only [dD]
           go_simp;refine ψ M (fun _=>HS.o _ (GD.alloc _)) ?_;try simp only [bT]
           refine bP 3 7 κ rfl rfl ?_ ?_
           ·intro K M
            refine aY rfl ?_;try simp only [dD]
            refine fP (l:=[]) (m:=h.bg) (v:=U (some ⟨wd,0,none⟩) 0 0) mX rfl jc ε (.tmp 127) (.tmp 129) rfl rfl ((bK.mY Ty.rc c _ CZ.heap.size _ (φ ZD.o) σ)) rfl (Xj.o _ (GD.alloc _)) (by have:=Et.o;simp;omega) (GD.alloc _).size ?_;intro a3 c3 q3 mZ o9 fB;try simp only [lu,List.nil_append] at mZ
            try simp only [lu] at fB
            try simp only [lu]
            have G3:=dI (w0:=CZ) (GD.alloc _) o9 (iM (φ ZD.o));have B3:=I (ni (B:=CZ.heap.size) (GD.alloc _).size fB (iM (φ ZD.o)));have n_:=I mZ;have uF:=I o9;clear mZ o9 fB;refine ψ M (fun _=>HS.o _ G3) ?_;try simp only [bT]
            refine bO 7 κ rfl ?_;intro K M;try simp only [dD]
            go_simp;refine ψ M (fun _=>HS.o _ (G3.alloc _)) ?_;try simp only [bT]
            refine bO 8 κ rfl ?_;intro K M;refine aY rfl ?_;try simp only [dD]
            refine fP (l:=h.bg) (m:=[⟨6,q.aJ,[]⟩]) (v:=U a3 (h.bg.length) c3) mX rfl jc ε (.tmp 130) (.tmp 134) rfl rfl ((n_.o).grow ((aG _).alloc _)) rfl ((Src.dU (T:=Ty.rc) (x:=⟨6,q.aJ,[]⟩) (c:=c) (cs:=#[J 6,J q.aJ,()]) (show Ty.rc.R c _ (⟨6,q.aJ,[]⟩:Rc) from⟨_,rfl,(show I64 6 from by unfold I64;decide),nH.o.1,Sl.nil _ _⟩) _ _ σ)) (by have:=Et.o;simp;omega) (G3.alloc _).size ?_;intro a8 c8 q8 nT yK lD;try simp only [lu] at nT
            try simp only [lu] at lD
            try simp only [lu]
            have G8:=dI (w0:=CZ) (G3.alloc _) yK B3.o;have t_:=I nT;clear nT yK lD;refine ψ M (fun _=>HS.o _ G8) ?_;try simp only [bT]
            refine bO 9 κ rfl ?_;intro K M;try simp only [dD]
            go_simp;refine ψ M (fun _=>HS.o _ G8) ?_;try simp only [bT]
            refine bO 10 κ rfl ?_;intro K M;refine aY rfl ?_;try simp only [dD]
            refine dF (.tmp 136) (.tmp 135) (v:=U a8 (h.bg.length+1) c8) (new:=#[U a8 (h.bg.length+1) c8,J h.aW,J h.next,U ao so.length co]) rfl rfl ρ ρ (aF uY.o.row G8) tH σ ρ ρ ?_;intro pB U_ M_;have Fv:=I (kX.Ip (uY.o.dL G8) [⟨6,q.aJ,[]⟩] M_ U_ (by
             have h9:=uY.o.xJ ε (nU (HC.o.trans G1.o.sub)) t_.o;simpa using h9))
            have FP:=I (bJ (aF OH.o G8) M_ (by intro e;have:=bI e;have:=fT.o;have:=PV.o.size;omega));clear U_ M_;refine ψ M (fun h=>absurd rfl h) ?_;try simp only [bT]
            refine bW κ ?_;have AP:Hid (kX c w wz pB h ⟨so,[⟨6,q.aJ,[]⟩],[],true⟩ _ _ _):=I (Fv.o.pW Fv.o.says);go_wp2;go_roundw
            case rel=>exact⟨k+1,_,_,V,by go_num,by rw [og.o,HST.o],by rw [og.o,HST.o];exact AP.o⟩
            case measure=>simp [intOf];omega
           ·intro K M
            try simp only [dD]
            go_simp;refine ψ M (fun _=>HS.o _ ((GD.alloc _).alloc _)) ?_;try simp only [bT]
            refine bO 3 κ rfl ?_;intro K M;refine aY rfl ?_;try simp only [dD]
            refine fP (l:=[]) (m:=h.bg) (v:=U (some ⟨wd,0,none⟩) 0 0) mX rfl jc ε (.tmp 127) (.tmp 129) rfl rfl (((bK.mY Ty.rc c _ CZ.heap.size _ (φ ZD.o) σ)).grow ((aG _).alloc _)) rfl (Xj.o _ ((GD.alloc _).alloc _)) (by have:=Et.o;simp;omega) ((GD.alloc _).alloc _).size ?_;intro a3 c3 q3 mZ o9 fB;try simp only [lu,List.nil_append] at mZ
            try simp only [lu] at fB
            try simp only [lu]
            have G3:=dI (w0:=CZ) ((GD.alloc _).alloc _) o9 (iM (φ ZD.o));have B3:=I (ni (B:=CZ.heap.size) ((GD.alloc _).alloc _).size fB (iM (φ ZD.o)));have n_:=I mZ;have uF:=I o9;clear mZ o9 fB;refine ψ M (fun _=>HS.o _ G3) ?_;try simp only [bT]
            refine bO 8 κ rfl ?_;intro K M;refine aY rfl ?_;try simp only [dD]
            refine fP (l:=h.bg) (m:=[⟨6,q.aJ,[]⟩]) (v:=U a3 (h.bg.length) c3) mX rfl jc ε (.tmp 130) (.tmp 134) rfl rfl (n_.o) rfl (((Src.dU (T:=Ty.rc) (x:=⟨6,q.aJ,[]⟩) (c:=c) (cs:=#[J 6,J q.aJ,()]) (show Ty.rc.R c _ (⟨6,q.aJ,[]⟩:Rc) from⟨_,rfl,(show I64 6 from by unfold I64;decide),nH.o.1,Sl.nil _ _⟩) _ _ σ)).kept uF.o (by simp [Value.ownBlock])) (by have:=Et.o;simp;omega) G3.size ?_;intro a8 c8 q8 nT yK lD;try simp only [lu] at nT
            try simp only [lu] at lD
            try simp only [lu]
            have G8:=dI (w0:=CZ) G3 yK B3.o;have t_:=I nT;clear nT yK lD;refine ψ M (fun _=>HS.o _ G8) ?_;try simp only [bT]
            refine bO 9 κ rfl ?_;intro K M;try simp only [dD]
            go_simp;refine ψ M (fun _=>HS.o _ G8) ?_;try simp only [bT]
            refine bO 10 κ rfl ?_;intro K M;refine aY rfl ?_;try simp only [dD]
            refine dF (.tmp 136) (.tmp 135) (v:=U a8 (h.bg.length+1) c8) (new:=#[U a8 (h.bg.length+1) c8,J h.aW,J h.next,U ao so.length co]) rfl rfl ρ ρ (aF uY.o.row G8) tH σ ρ ρ ?_;intro pB U_ M_;have Fv:=I (kX.Ip (uY.o.dL G8) [⟨6,q.aJ,[]⟩] M_ U_ (by
             have h9:=uY.o.xJ ε (nU (HC.o.trans G1.o.sub)) t_.o;simpa using h9))
            have FP:=I (bJ (aF OH.o G8) M_ (by intro e;have:=bI e;have:=fT.o;have:=PV.o.size;omega));clear U_ M_;refine ψ M (fun h=>absurd rfl h) ?_;try simp only [bT]
            refine bW κ ?_;have AP:Hid (kX c w wz pB h ⟨so,[⟨6,q.aJ,[]⟩],[],true⟩ _ _ _):=I (Fv.o.pW Fv.o.says);go_wp2;go_roundw
            case rel=>exact⟨k+1,_,_,V,by go_num,by rw [og.o,HST.o],by rw [og.o,HST.o];exact AP.o⟩
            case measure=>simp [intOf];omega
          ·intro K M
           try simp only [dD]
           go_simp;refine ψ M (fun _=>HS.o _ (GD.alloc _)) ?_;try simp only [bT]
           refine bO 0 κ rfl ?_;intro K M;try simp only [dD]
           go_simp;refine ψ M (fun _=>HS.o _ ((GD.alloc _).alloc _)) ?_;try simp only [bT]
           refine bO 3 κ rfl ?_;intro K M;refine aY rfl ?_;try simp only [dD]
           refine fP (l:=[]) (m:=h.bg) (v:=U (some ⟨wd+1,0,none⟩) 0 0) mX rfl jc ε (.tmp 127) (.tmp 129) rfl rfl ((bK.mY Ty.rc c _ CZ.heap.size _ (φ ZD.o) σ)) rfl (Xj.o _ ((GD.alloc _).alloc _)) (by have:=Et.o;simp;omega) ((GD.alloc _).alloc _).size ?_;intro a3 c3 q3 mZ o9 fB;try simp only [lu,List.nil_append] at mZ
           try simp only [lu] at fB
           try simp only [lu]
           have G3:=dI (w0:=CZ) ((GD.alloc _).alloc _) o9 (iM (φ ZD.o));have B3:=I (ni (B:=CZ.heap.size) ((GD.alloc _).alloc _).size fB (iM (φ ZD.o)));have n_:=I mZ;have uF:=I o9;clear mZ o9 fB;refine ψ M (fun _=>HS.o _ G3) ?_;try simp only [bT]
           refine bO 8 κ rfl ?_;intro K M;refine aY rfl ?_;try simp only [dD]
           refine fP (l:=h.bg) (m:=[⟨6,q.aJ,[]⟩]) (v:=U a3 (h.bg.length) c3) mX rfl jc ε (.tmp 130) (.tmp 134) rfl rfl (n_.o) rfl ((((Src.dU (T:=Ty.rc) (x:=⟨6,q.aJ,[]⟩) (c:=c) (cs:=#[J 6,J q.aJ,()]) (show Ty.rc.R c _ (⟨6,q.aJ,[]⟩:Rc) from⟨_,rfl,(show I64 6 from by unfold I64;decide),nH.o.1,Sl.nil _ _⟩) _ _ σ)).grow ((aG _).alloc _)).kept uF.o (by simp [Value.ownBlock])) (by have:=Et.o;simp;omega) G3.size ?_;intro a8 c8 q8 nT yK lD;try simp only [lu] at nT
           try simp only [lu] at lD
           try simp only [lu]
           have G8:=dI (w0:=CZ) G3 yK B3.o;have t_:=I nT;clear nT yK lD;refine ψ M (fun _=>HS.o _ G8) ?_;try simp only [bT]
           refine bO 9 κ rfl ?_;intro K M;try simp only [dD]
           go_simp;refine ψ M (fun _=>HS.o _ G8) ?_;try simp only [bT]
           refine bO 10 κ rfl ?_;intro K M;refine aY rfl ?_;try simp only [dD]
           refine dF (.tmp 136) (.tmp 135) (v:=U a8 (h.bg.length+1) c8) (new:=#[U a8 (h.bg.length+1) c8,J h.aW,J h.next,U ao so.length co]) rfl rfl ρ ρ (aF uY.o.row G8) tH σ ρ ρ ?_;intro pB U_ M_;have Fv:=I (kX.Ip (uY.o.dL G8) [⟨6,q.aJ,[]⟩] M_ U_ (by
            have h9:=uY.o.xJ ε (nU (HC.o.trans G1.o.sub)) t_.o;simpa using h9))
           have FP:=I (bJ (aF OH.o G8) M_ (by intro e;have:=bI e;have:=fT.o;have:=PV.o.size;omega));clear U_ M_;refine ψ M (fun h=>absurd rfl h) ?_;try simp only [bT]
           refine bW κ ?_;have AP:Hid (kX c w wz pB h ⟨so,[⟨6,q.aJ,[]⟩],[],true⟩ _ _ _):=I (Fv.o.pW Fv.o.says);go_wp2;go_roundw
           case rel=>exact⟨k+1,_,_,V,by go_num,by rw [og.o,HST.o],by rw [og.o,HST.o];exact AP.o⟩
           case measure=>simp [intOf];omega
         |false=>
          have AJ:=I NA.o.symm;have HST:Hid (gV m ⟨so,[],[],false⟩ q=⟨so++ [⟨q.aJ,q.aH,true,q.aZ++ [m.aU]⟩],[],[],true⟩):=I (by rw [HAT.o,cL HA.o HB.o LO.o AJ.o];try simp);obtain⟨e0,e1,e2,e3⟩:=aT OH.o;have zO:BO<CZ.heap.size:=(γ OH.o);have zU:=I ((uY.o.old 0 V).trans R1.o);have yM:=I ((uY.o.old 1 V).trans R2.o);obtain⟨y0,y1,y2,y3⟩:=aT zU.o;obtain⟨d0,d1,d2,d3⟩:=aT yM.o;obtain⟨x0,x1,x2,x3⟩:=aT uY.o.row;have zz:=uY.o.size;have zA:w.heap.size<CZ:=by omega
          have zB:w.heap.size+1<CZ:=by omega
          have zX:w.heap.size+3<CZ:=by omega
          have tJ:Hid (kX c w wz CZ h ⟨so,[],[],true⟩ _ _ _):=I (uY.o.pW uY.o.says);go_wp2_with (first|(at_builtin;refine cO (c:=fc c wz CZ [(Value.slice ao so.length co).ownBlock]) (base:=w.heap.size+4) (l:=so) (m:=[⟨q.aJ,q.aH,true,q.aZ++ [m.aU]⟩]) kF rfl jG ε rfl (.tmp 152) (.tmp 154) rfl rfl ?own rfl (Src.dU (T:=Ty.bG) (x:=⟨q.aJ,q.aH,true,q.aZ++ [m.aU]⟩) (cs:=#[J q.aJ,U wU q.aH.length wV,.bool true,U YS (q.aZ.length+1) YT]) ?d0 _ _ ?d1) ?d2 ?d3 ?_))
          case own=>exact bK.grow tJ.o.bG ((aG _).alloc _)
          case d0=>exact⟨_,_,rfl,nH.o.1,nH.o.2.1.mono (nU (HC.o.trans G1.o.sub)),Xi.o.xJ ε (nU (HC.o.trans G1.o.sub)) ZZ.o⟩
          case d1=>first|rfl|simp
          case d2=>have:=HSL.o;simp;omega
          case d3=>have:=tJ.o.size;simp;omega
          intro a9 c9 w9 gX fV iE;have R9:=I (bJ (aF tJ.o.row ((aG _).alloc (.cells #[J q.aJ,U wU q.aH.length wV,.bool true,U YS (q.aZ.length+1) YT] 58))) fV (by intro e;have:=(tJ.o.bG.lt _ e.symm).1;omega));have jE:=I gX;have kR:=I fV;have Aj:=I iE;clear gX fV iE;go_wp2_with (first|(refine bY rfl (.tmp 156) (.tmp 155) (v:=U a9 (so.length+1) c9) (new:=#[U AF nl AG,J h.aW,J h.next,U a9 (so.length+1) c9]) rfl rfl ρ ρ R9.o iW σ ρ ρ ?_))
          intro yt DK xg;have AP:=I (kX.app tJ.o ⟨q.aJ,q.aH,true,q.aZ++ [m.aU]⟩ ((aG _).alloc (.cells #[J q.aJ,U wU q.aH.length wV,.bool true,U YS (q.aZ.length+1) YT] 58)) kR.o (Aj.o.imp_right fun⟨g,e,hge⟩=>⟨g,e,by simpa using hge⟩) jE.o xg DK);clear DK xg;go_wp2;go_roundw
          case rel=>exact⟨k+1,_,_,V,by go_num,by rw [og.o,HST.o],by rw [og.o,HST.o];exact AP.o⟩
          case measure=>simp [intOf];omega
       |false=>
        have LO:=I (of_decide_eq_false Vb.o.symm);obtain⟨A1V,NL⟩:=χ (decide (m.aX=7/\q.dec=true));have Vd:=I NL;clear NL;go_upto_region 25 with fail
        obtain⟨e0,e1,e2,e3⟩:=aT zV.o;have zO:BO<yU.heap.size:=(γ zV.o);have zU:=I ((pz.o.old 0 V).trans R1.o);have yM:=I ((pz.o.old 1 V).trans R2.o);obtain⟨y0,y1,y2,y3⟩:=aT zU.o;obtain⟨d0,d1,d2,d3⟩:=aT yM.o;obtain⟨x0,x1,x2,x3⟩:=aT pz.o.row;have zz:=pz.o.size;have zA:w.heap.size<yU:=by omega
        have zB:w.heap.size+1<yU:=by omega
        have zX:w.heap.size+3<yU:=by omega
        go_cut [137,158,159,160,161,162,163,164,165,166,167,168,169,170,171,172] from 138 (fun A2N Iu Iw Iy Iz IB IC IE IG II IJ IK IL IQ IU IV wc=>A2N=.bool A1V/\(Iu=undef/\Iw=undef/\Iy=undef/\Iz=undef/\IB=undef/\IC=undef/\IE=undef/\IG=undef/\II=undef/\IJ=undef/\IK=undef/\IL=undef/\IQ=undef/\IU=undef/\IV=undef)/\yU=wc)
        case first=>
         by_cases hk:m.aX=7
         ·have hkb:(m.aX==7)=true:=by simp [hk]
          have M:=I hk;clear hk;obtain⟨db,Tj⟩:=χ q.dec;rw [<-Tj] at e2;have pA:=I Tj;clear Tj;cases db with
          |true=>
           go_wp2;go_meet
           case rel=>exact⟨by have N:=M.o;have Y:=pA.o.symm;rw [Vd.o];(try rw [Rk.o]);simp [N,Y],⟨rfl,rfl,rfl,rfl,rfl,rfl,rfl,rfl,rfl,rfl,rfl,rfl,rfl,rfl,rfl⟩,rfl⟩
          |false=>
           go_wp2;go_meet
           case rel=>exact⟨by have N:=M.o;have Y:=pA.o.symm;rw [Vd.o];(try rw [Rk.o]);simp [N,Y],⟨rfl,rfl,rfl,rfl,rfl,rfl,rfl,rfl,rfl,rfl,rfl,rfl,rfl,rfl,rfl⟩,rfl⟩
         ·have hkb:(m.aX==7)=false:=by simp [hk]
          have M:=I hk;clear hk;go_wp2;go_meet
          case rel=>exact⟨by have N:=M.o;rw [Vd.o];simp [N],⟨rfl,rfl,rfl,rfl,rfl,rfl,rfl,rfl,rfl,rfl,rfl,rfl,rfl,rfl,rfl⟩,rfl⟩
        case rest=>
        obtain⟨rfl,⟨rfl,rfl,rfl,rfl,rfl,rfl,rfl,rfl,rfl,rfl,rfl,rfl,rfl,rfl,rfl⟩,rfl⟩:=hcut;clear e0 e1 e2 e3 zO y0 y1 y2 y3 d0 d1 d2 d3 x0 x1 x2 x3 zz zA zB zX zU yM;cases A1V with
        |true=>
         have HD4:=I (of_decide_eq_true Vd.o.symm);have HST:Hid (gV m ⟨so,[],[],false⟩ q=⟨so++ [q],[],[⟨4,m.aJ,m.aU,[]⟩],true⟩):=I (by rw [HAT.o,cM HA.o HB.o LO.o HD4.o];try simp);obtain⟨e0,e1,e2,e3⟩:=aT zV.o;have zO:BO<yU.heap.size:=(γ zV.o);have zU:=I ((pz.o.old 0 V).trans R1.o);have yM:=I ((pz.o.old 1 V).trans R2.o);obtain⟨y0,y1,y2,y3⟩:=aT zU.o;obtain⟨d0,d1,d2,d3⟩:=aT yM.o;obtain⟨x0,x1,x2,x3⟩:=aT pz.o.row;have zz:=pz.o.size;have zA:w.heap.size<yU:=by omega
         have zB:w.heap.size+1<yU:=by omega
         have zX:w.heap.size+3<yU:=by omega
         obtain⟨C9,Ro⟩:=χ (yU.alloc (.cells #[J 4,J m.aJ,J m.aU,()] 85));have G18:Hid (aK yU C9):=I (by rw [Ro];exact(aG _).alloc _);have kJ:Hid (kX c w wz C9 h ⟨so,[],[⟨4,m.aJ,m.aU,[]⟩],true⟩ _ _ (U (some ⟨yU,0,none⟩) 1 1)):=I ((pz.o.dL G18.o).pW (pz.o.xJ (T:=Ty.ms) (d:=fun _=>none) ε (fun _ _ e9=>by cases e9) (by
          rw [Ro];exact bK.lit (T:=Ty.ms) (c:=fun _=>none) yU [[J 4,J m.aJ,J m.aU,()]] rfl rfl (Nat.le_refl _) (by simp [maxLen]) rfl ⟨⟨_,rfl,(show I64 4 from by unfold I64;decide),FN.o.2.1,FN.o.2.2,Sl.nil _ _⟩,trivial⟩)))
         go_upto_region 27 with fail
         rw [<-Ro];clear Ro;have Na:=I (aF zV.o G18.o);clear e0 e1 e2 e3 zO y0 y1 y2 y3 d0 d1 d2 d3 x0 x1 x2 x3 zz zA zB zX zU yM;obtain⟨e0,e1,e2,e3⟩:=aT Na.o;have zO:BO<C9.heap.size:=(γ Na.o);have zU:=I ((kJ.o.old 0 V).trans R1.o);have yM:=I ((kJ.o.old 1 V).trans R2.o);obtain⟨y0,y1,y2,y3⟩:=aT zU.o;obtain⟨d0,d1,d2,d3⟩:=aT yM.o;obtain⟨x0,x1,x2,x3⟩:=aT kJ.o.row;have zz:=kJ.o.size;have zA:w.heap.size<C9:=by omega
         have zB:w.heap.size+1<C9:=by omega
         have zX:w.heap.size+3<C9:=by omega
         go_wp2_with (first|(at_builtin;refine cO (c:=fc c wz C9 [(Value.slice ao so.length co).ownBlock]) (base:=w.heap.size+4) (l:=so) (m:=[q]) kF rfl jG ε rfl (.tmp 152) (.tmp 154) rfl rfl ?own rfl (Src.dU (T:=Ty.bG) (x:=q) (cs:=#[J q.aJ,U wU q.aH.length wV,.bool q.dec,U ah q.aZ.length ch]) ?d0 _ _ ?d1) ?d2 ?d3 ?_))
         case own=>exact bK.grow kJ.o.bG ((aG _).alloc _)
         case d0=>exact⟨_,_,rfl,nH.o.1,nH.o.2.1.mono (nU (HC.o.trans G1.o.sub)),nH.o.2.2.mono (nU (HC.o.trans G1.o.sub))⟩
         case d1=>first|rfl|simp
         case d2=>have:=HSL.o;simp;omega
         case d3=>have:=kJ.o.size;simp;omega
         intro a9 c9 w9 gX fV iE;have R9:=I (bJ (aF kJ.o.row ((aG _).alloc (.cells #[J q.aJ,U wU q.aH.length wV,.bool q.dec,U ah q.aZ.length ch] 58))) fV (by intro e;have:=(kJ.o.bG.lt _ e.symm).1;omega));have jE:=I gX;have kR:=I fV;have Aj:=I iE;clear gX fV iE;go_wp2_with (first|(refine bY rfl (.tmp 156) (.tmp 155) (v:=U a9 (so.length+1) c9) (new:=#[U AF nl AG,J h.aW,J h.next,U a9 (so.length+1) c9]) rfl rfl ρ ρ R9.o iW σ ρ ρ ?_))
         intro yt DK xg;have AP:=I (kX.app kJ.o q ((aG _).alloc (.cells #[J q.aJ,U wU q.aH.length wV,.bool q.dec,U ah q.aZ.length ch] 58)) kR.o (Aj.o.imp_right fun⟨g,e,hge⟩=>⟨g,e,by simpa using hge⟩) jE.o xg DK);clear DK xg;go_wp2;go_roundw
         case rel=>exact⟨k+1,_,_,V,by go_num,by rw [og.o,HST.o],by rw [og.o,HST.o];exact AP.o⟩
         case measure=>simp [intOf];omega
        |false=>
         have HD4:=I (of_decide_eq_false Vd.o.symm);have HST:Hid (gV m ⟨so,[],[],false⟩ q=⟨so++ [q],[],[],true⟩):=I (by rw [HAT.o,Xg HA.o HB.o LO.o HD4.o];try simp);obtain⟨e0,e1,e2,e3⟩:=aT zV.o;have zO:BO<yU.heap.size:=(γ zV.o);have zU:=I ((pz.o.old 0 V).trans R1.o);have yM:=I ((pz.o.old 1 V).trans R2.o);obtain⟨y0,y1,y2,y3⟩:=aT zU.o;obtain⟨d0,d1,d2,d3⟩:=aT yM.o;obtain⟨x0,x1,x2,x3⟩:=aT pz.o.row;have zz:=pz.o.size;have zA:w.heap.size<yU:=by omega
         have zB:w.heap.size+1<yU:=by omega
         have zX:w.heap.size+3<yU:=by omega
         have tJ:Hid (kX c w wz yU h ⟨so,[],[],true⟩ _ _ _):=I (pz.o.pW pz.o.says);go_wp2_with (first|(at_builtin;refine cO (c:=fc c wz yU [(Value.slice ao so.length co).ownBlock]) (base:=w.heap.size+4) (l:=so) (m:=[q]) kF rfl jG ε rfl (.tmp 152) (.tmp 154) rfl rfl ?own rfl (Src.dU (T:=Ty.bG) (x:=q) (cs:=#[J q.aJ,U wU q.aH.length wV,.bool q.dec,U ah q.aZ.length ch]) ?d0 _ _ ?d1) ?d2 ?d3 ?_))
         case own=>exact bK.grow tJ.o.bG ((aG _).alloc _)
         case d0=>exact⟨_,_,rfl,nH.o.1,nH.o.2.1.mono (nU (HC.o.trans G1.o.sub)),nH.o.2.2.mono (nU (HC.o.trans G1.o.sub))⟩
         case d1=>first|rfl|simp
         case d2=>have:=HSL.o;simp;omega
         case d3=>have:=tJ.o.size;simp;omega
         intro a9 c9 w9 gX fV iE;have R9:=I (bJ (aF tJ.o.row ((aG _).alloc (.cells #[J q.aJ,U wU q.aH.length wV,.bool q.dec,U ah q.aZ.length ch] 58))) fV (by intro e;have:=(tJ.o.bG.lt _ e.symm).1;omega));have jE:=I gX;have kR:=I fV;have Aj:=I iE;clear gX fV iE;go_wp2_with (first|(refine bY rfl (.tmp 156) (.tmp 155) (v:=U a9 (so.length+1) c9) (new:=#[U AF nl AG,J h.aW,J h.next,U a9 (so.length+1) c9]) rfl rfl ρ ρ R9.o iW σ ρ ρ ?_))
         intro yt DK xg;have AP:=I (kX.app tJ.o q ((aG _).alloc (.cells #[J q.aJ,U wU q.aH.length wV,.bool q.dec,U ah q.aZ.length ch] 58)) kR.o (Aj.o.imp_right fun⟨g,e,hge⟩=>⟨g,e,by simpa using hge⟩) jE.o xg DK);clear DK xg;go_wp2;go_roundw
         case rel=>exact⟨k+1,_,_,V,by go_num,by rw [og.o,HST.o],by rw [og.o,HST.o];exact AP.o⟩
         case measure=>simp [intOf];omega
   ·have hdb:(q.aJ !=m.aJ)=true:=by simp [hd]
    have HST:Hid (gV m ⟨so,sr,ss,sk⟩ q=⟨so++ [q],sr,ss,sk⟩):=I (UR (fun h=>hd h.1));clear hd;go_wp2_with (first|(at_builtin;refine cO (c:=fc c wz wo [(Value.slice ao so.length co).ownBlock]) (base:=w.heap.size+4) (l:=so) (m:=[q]) kF rfl jG ε rfl (.tmp 37) (.tmp 39) rfl rfl ?own rfl (Src.dU (T:=Ty.bG) (x:=q) (cs:=#[J q.aJ,U wU q.aH.length wV,.bool q.dec,U ah q.aZ.length ch]) ?d0 _ _ ?d1) ?d2 ?d3 ?_))
    case own=>exact bK.grow vw.o.bG ((aG _).alloc _)
    case d0=>exact⟨_,_,rfl,nH.o.1,nH.o.2.1.mono (nU (HC.o.trans G1.o.sub)),nH.o.2.2.mono (nU (HC.o.trans G1.o.sub))⟩
    case d1=>first|rfl|simp
    case d2=>have:=HSL.o;simp;omega
    case d3=>have:=vw.o.size;simp;omega
    intro a9 c9 w9 gX fV iE;have R9:=I (bJ (aF vw.o.row ((aG _).alloc (.cells #[J q.aJ,U wU q.aH.length wV,.bool q.dec,U ah q.aZ.length ch] 58))) fV (by intro e;have:=(vw.o.bG.lt _ e.symm).1;omega));have jE:=I gX;have kR:=I fV;have Aj:=I iE;clear gX fV iE;go_wp2_with (first|(refine bY rfl (.tmp 41) (.tmp 40) (v:=U a9 (so.length+1) c9) (new:=#[U AF nl AG,J h.aW,J h.next,U a9 (so.length+1) c9]) rfl rfl ρ ρ R9.o iW σ ρ ρ ?_))
    intro yt DK xg;have AP:=I (kX.app vw.o q ((aG _).alloc (.cells #[J q.aJ,U wU q.aH.length wV,.bool q.dec,U ah q.aZ.length ch] 58)) kR.o (Aj.o.imp_right fun⟨g,e,hge⟩=>⟨g,e,by simpa using hge⟩) jE.o xg DK);clear DK xg;go_wp2;go_roundw
    case rel=>exact⟨k+1,_,_,V,by go_num,by rw [og.o,HST.o],by rw [og.o,HST.o];exact AP.o⟩
    case measure=>simp [intOf];omega
  ·have MJ:=I (m8 h m)
   rw [eG V] at h8 hbx;clear hel;generalize hgo m h.bG=s at*;obtain⟨so,sr,ss,sk⟩:=s;have h8':_=Value.bool sk:=h8;subst h8';have OD:=hbx.bG;have MW:=hbx.says;have uq:=hbx.bg;dsimp only at OD MW uq;obtain⟨ao,co,rfl⟩:=OD.form;obtain⟨av,cv,rfl,-⟩:=id MW;obtain⟨AF,AG,rfl,-⟩:=id uq;clear h8 OD MW uq;generalize (h.bg++sr).length=nl at*;have vw:=I hbx;clear hbx;have zU:=I ((vw.o.old 0 V).trans R1.o);have yM:=I ((vw.o.old 1 V).trans R2.o);obtain⟨y0,y1,y2,y3⟩:=aT zU.o;obtain⟨d0,d1,d2,d3⟩:=aT yM.o;obtain⟨x0,x1,x2,x3⟩:=aT vw.o.row;have zz:=vw.o.size;have zA:w.heap.size<wr:=by omega
   have zB:w.heap.size+1<wr:=by omega
   have zX:w.heap.size+3<wr:=by omega
   cases sk with
   |true=>
    have HM:Hid (iQ h m=ss):=I (by rw [MJ.o.2,aV σ]);have RC9:=I ((vw.o.old 2 V).trans R3.o);go_wp2_with (first|(refine aQ rfl (.tmp 4) (.tmp 171) rfl rfl rfl RC9.o eY rfl rfl ?_))
    intro w7 r7 g7;obtain⟨p0,p1,p2,p3⟩:=aT r7;clear y0 y1 y2 y3 d0 d1 d2 d3 x0 x1 x2 x3 zz zA zB zX zU yM;go_wp2;refine dw (v:=.tuple #[.agg #[U AF nl AG,J h.aW,J h.next,U ao so.length co],U av ss.length cv]) (by simp [results,Tryz.results55,go_sem,p0,p1,p2,p3]) rfl ?_;have hz:=HZ.o;have hsub:Sub (fc c wz wr [(Value.slice ao so.length co).ownBlock]) (ov c w w7):=Xf HC.o G1.o g7 V;rw [MJ.o.1,HM.o];refine⟨_,_,rfl,⟨_,rfl,_,_,rfl,vw.o.bg.mono hsub,rG.o.1,rG.o.2,((vw.o.bG.kept g7 (eF vw.o.bG V)).slc ε hsub fun a9 ha9=>dY V)⟩,vw.o.says.mono hsub,vw.o.grow.grown g7 (fun q9 hq9=>by have:=bI hq9;omega)⟩
   |false=>
    by_cases hk:m.aX=7
    ·have hkb:(m.aX==7)=true:=by simp [hk]
     have HM:Hid (iQ h m=[⟨5,m.aJ,m.aU,[]⟩]):=I (by rw [MJ.o.2,bC ⟨rfl,hk⟩]);clear hk;obtain⟨C9,Ro⟩:=χ (wr.alloc (.cells #[J 5,J m.aJ,J m.aU,()] 85));have G18:Hid (aK wr C9):=I (by rw [Ro];exact(aG _).alloc _);have kJ:Hid (kX c w wz C9 h ⟨so,sr,[⟨5,m.aJ,m.aU,[]⟩],true⟩ _ _ (U (some ⟨wr,0,none⟩) 1 1)):=I ((vw.o.dL G18.o).pW (vw.o.xJ (T:=Ty.ms) (d:=fun _=>none) ε (fun _ _ e9=>by cases e9) (by
      rw [Ro];exact bK.lit (T:=Ty.ms) (c:=fun _=>none) wr [[J 5,J m.aJ,J m.aU,()]] rfl rfl (Nat.le_refl _) (by simp [maxLen]) rfl ⟨⟨_,rfl,(show I64 5 from by unfold I64;decide),FN.o.2.1,FN.o.2.2,Sl.nil _ _⟩,trivial⟩)))
     go_upto_region 31 with fail
     rw [<-Ro];clear Ro;clear y0 y1 y2 y3 d0 d1 d2 d3 x0 x1 x2 x3 zz zA zB zX zU yM;have zU:=I ((kJ.o.old 0 V).trans R1.o);have yM:=I ((kJ.o.old 1 V).trans R2.o);obtain⟨y0,y1,y2,y3⟩:=aT zU.o;obtain⟨d0,d1,d2,d3⟩:=aT yM.o;obtain⟨x0,x1,x2,x3⟩:=aT kJ.o.row;have zz:=kJ.o.size;have zA:w.heap.size<C9:=by omega
     have zB:w.heap.size+1<C9:=by omega
     have zX:w.heap.size+3<C9:=by omega
     have RC9:=I ((kJ.o.old 2 V).trans R3.o);go_wp2_with (first|(refine aQ rfl (.tmp 4) (.tmp 171) rfl rfl rfl RC9.o eY rfl rfl ?_))
     intro w7 r7 g7;obtain⟨p0,p1,p2,p3⟩:=aT r7;clear y0 y1 y2 y3 d0 d1 d2 d3 x0 x1 x2 x3 zz zA zB zX zU yM;go_wp2;refine dw (v:=.tuple #[.agg #[U AF nl AG,J h.aW,J h.next,U ao so.length co],U (some ⟨wr,0,none⟩) 1 1]) (by simp [results,Tryz.results55,go_sem,p0,p1,p2,p3]) rfl ?_;have hz:=HZ.o;have hsub:Sub (fc c wz C9 [(Value.slice ao so.length co).ownBlock]) (ov c w w7):=Xf HC.o G1.o g7 V;rw [MJ.o.1,HM.o];refine⟨_,_,rfl,⟨_,rfl,_,_,rfl,kJ.o.bg.mono hsub,rG.o.1,rG.o.2,((kJ.o.bG.kept g7 (eF kJ.o.bG V)).slc ε hsub fun a9 ha9=>dY V)⟩,kJ.o.says.mono hsub,kJ.o.grow.grown g7 (fun q9 hq9=>by have:=bI hq9;omega)⟩
    ·have hkb:(m.aX==7)=false:=by simp [hk]
     have HM:Hid (iQ h m=ss):=I (by rw [MJ.o.2,aV (fun x=>hk x.2)]);clear hk;have RC9:=I ((vw.o.old 2 V).trans R3.o);go_wp2_with (first|(refine aQ rfl (.tmp 4) (.tmp 171) rfl rfl rfl RC9.o eY rfl rfl ?_))
     intro w7 r7 g7;obtain⟨p0,p1,p2,p3⟩:=aT r7;clear y0 y1 y2 y3 d0 d1 d2 d3 x0 x1 x2 x3 zz zA zB zX zU yM;go_wp2;refine dw (v:=.tuple #[.agg #[U AF nl AG,J h.aW,J h.next,U ao so.length co],U av ss.length cv]) (by simp [results,Tryz.results55,go_sem,p0,p1,p2,p3]) rfl ?_;have hz:=HZ.o;have hsub:Sub (fc c wz wr [(Value.slice ao so.length co).ownBlock]) (ov c w w7):=Xf HC.o G1.o g7 V;rw [MJ.o.1,HM.o];refine⟨_,_,rfl,⟨_,rfl,_,_,rfl,vw.o.bg.mono hsub,rG.o.1,rG.o.2,((vw.o.bG.kept g7 (eF vw.o.bG V)).slc ε hsub fun a9 ha9=>dY V)⟩,vw.o.says.mono hsub,vw.o.grow.grown g7 (fun q9 hq9=>by have:=bI hq9;omega)⟩
end Go.Proofs.YtocnmkefmgmkbaaGreat
