/- Parts of proofs, joined: U23. No condition beside those that each theorem names. -/
import Derived.Test.YtocnmkefmgmkbaaGreatJE1b
import Derived.Test.YtocnmkefmgmkbaaGreatJE6a
import Derived.Test.YtocnmkefmgmkbaaGreatJE4b
import Derived.Test.YtocnmkefmgmkbaaGreatJEUa
import Derived.Test.YtocnmkefmgmkbaaGreatJEHa
import Derived.Test.YtocnmkefmgmkbaaGreatJE7b
set_option maxRecDepth 100000
set_option maxHeartbeats 40000000
namespace Go.Proofs.YtocnmkefmgmkbaaGreat
open Go.RowKit
theorem BI {c:CM} {v vs:Value} {x:AW} {s:St} {n:Nat} {G:Reg} {k:Nat} (w:World) (hc:Sub c w.cell?) (hv:Of Ty.wd c v x) (hs:Of Ty.st c vs s) (hi:WI n G x) (hf:Ih k x) (hk:k<=90000):
  Calls Tryz.prog 16 #[v,vs] w fun e w'=>∃v',e=.returned (.tuple #[v',J (eU x s)])/\Of Ty.wd (ov c w w') v' (jZ x s)/\aK w w':=by
 obtain⟨kd,sn,sp⟩:=s;obtain⟨al,cl,ao,co,ah,ch,an,cn,rfl⟩:=hv.dJ;obtain⟨ap,cp,rfl⟩:=hs.YR;obtain⟨q1,q2,q3⟩:=hv.ji;have LQ:=I q1;have Il:=I q2;have PS:=I q3;have C_:=I hs.UW;have NX:=I (hi.UY hf hk);have yV:=I hi;have HV:=I hv;have HC:=I hc;have N0:=I hf;clear hc hv hs q1 q2 q3 hi hf;obtain⟨wa,fZ⟩:=χ (w.alloc (.cells #[U al x.aN.bg.length cl,J x.aN.aW,J x.aN.next,U ao x.aN.bG.length co,U ah x.aI.length ch,U an x.bM.length cn] 33));obtain⟨wb,hwb⟩:=χ (wa.alloc (.cells #[J kd,J sn,U ap sp.length cp] 25));obtain⟨wz,hwz⟩:=χ (wb.alloc (.cells #[(),J 0,J 0,(),(),()] 33));have hsa:wa.heap.size=w.heap.size+1:=by rw [fZ];simp
 have hsb:wb.heap.size=w.heap.size+2:=by rw [hwb];simp [hsa]
 have R2:Hid (wz.heap[w.heap.size]? =some (.cells #[U al x.aN.bg.length cl,J x.aN.aW,J x.aN.next,U ao x.aN.bG.length co,U ah x.aI.length ch,U an x.bM.length cn] 33 (0,0))):=I (by rw [hwz,hwb,fZ];exact bQ (bQ (bn _ _) _) _);have R3:Hid (wz.heap[w.heap.size+1]? =some (.cells #[J kd,J sn,U ap sp.length cp] 25 (0,0))):=I (by rw [hwz,hwb,<-hsa];exact bQ (bn _ _) _);have R4:Hid (wz.heap[w.heap.size+2]? =some (.cells #[(),J 0,J 0,(),(),()] 33 (0,0))):=I (by rw [hwz,<-hsb];exact bn _ _);have G1:Hid (aK w wz):=I (by rw [hwz,hwb,fZ];exact(((aG w).alloc _).alloc _).alloc _);have HZ:Hid (wz.heap.size=w.heap.size+3):=I (by rw [hwz];simp [hsb]);go_enter Tryz.func16,Tryz.ntmps16;go_upto_region 1 with fail
 rw [<-fZ];try rw [hsa]
 rw [<-hwb];try rw [hsb]
 rw [<-hwz];clear fZ hwb hwz hsa hsb;obtain⟨c0,c1,c2,c3,c4,c5⟩:=bF R2.o;obtain⟨d0,d1,d2⟩:=iI R3.o;have z2:w.heap.size<wz:=(γ R2.o);have z3:w.heap.size+1<wz:=(γ R3.o);go_cut [6] from 22 (fun s6 wc=>s6=.bool (there x sn)/\wz=wc)
 case first=>
  by_cases h0:0<=sn
  ·by_cases N:sn<(x.bM.length:Int)
   ·go_wp2
    go_meet
    case rel=>exact⟨by first|rfl|(simp [there,h0,N];done),rfl⟩
   ·go_wp2
    go_meet
    case rel=>exact⟨by first|rfl|(simp [there,h0,N];done)|(simp [there,h0];omega),rfl⟩
  ·go_wp2
   go_meet
   case rel=>exact⟨by first|rfl|(simp [there];done)|(simp [there];omega),rfl⟩
 case rest=>
 obtain⟨rfl,rfl⟩:=hcut;by_cases k1:kd=1
 ·subst k1
  by_cases hw:dO sp x.aI.length=0
  ·as_aux_lemma=>
    have HE:Hid (jZ x ⟨1,sn,sp⟩={ x with aN:=kL x.aN sp,bM:=eu x.bM (nM x.aN sp) }):=I (by unfold jZ;simp [hw]);have lC:Hid (eU x ⟨1,sn,sp⟩=uD x.aN):=I (by unfold eU;simp [hw]);have fX:=I (vI (h:=(x.aI.length:Int)) wz (C_.o.2.mono (HC.o.trans G1.o.sub)));have h4:sp.length<=4:=(g_ hw).2.1;have HU:Hid (∀m∈nM x.aN sp,cZ m=0):=I (Ve yV.o hw);rw [hw] at fX;clear hw;go_wp2_with fail
    refine fX.o.mono ?_;rintro e w0 ⟨rfl,zi⟩;have R20:=I (aF R2.o zi);have R30:=I (aF R3.o zi);have R40:=I (aF R4.o zi);have GW0:=I (G1.o.trans zi);have GZ0:=I zi;clear zi c0 c1 c2 c3 c4 c5 d0 d1 d2 z2 z3;obtain⟨c0,c1,c2,c3,c4,c5⟩:=bF R20.o;obtain⟨d0,d1,d2⟩:=iI R30.o;have z2:w.heap.size<w0:=(γ R20.o);have z3:w.heap.size+1<w0:=(γ R30.o);go_wp2_with fail
    refine(cG (c:=c) (P:=sp) w0 (HC.o.trans GW0.o.sub) LQ.o C_.o.2 NX.o h4).mono ?_;rintro e w1 ⟨v1,v2,rfl,Gs,pV,dZ⟩;obtain⟨iC,iD,lY,lZ,rfl⟩:=Gs.iw;obtain⟨am,cm,rfl,-⟩:=id pV;have Kq:=I (Gs.mono (YU (HC.o.trans G1.o.sub) GZ0.o));have AX:=I (pV.mono (YU (HC.o.trans G1.o.sub) GZ0.o));have SN:=I (aF R20.o dZ);have H4:=I (aF R40.o dZ);have fY:=I (GZ0.o.trans dZ);have Nh:=I yV.o.len;clear Gs pV dZ c0 c1 c2 c3 c4 c5 d0 d1 d2 z2 z3;generalize YQ:kL x.aN sp=qh at*;generalize hqm:nM x.aN sp=qm at*;generalize hqe:uD x.aN=qe at*;clear YQ hqm hqe;go_upto_region 9 with fail
    obtain⟨w2,rH⟩:=χ (w1.alloc (.cells #[U iC qh.bg.length iD,J qh.aW,J qh.next,U lY qh.bG.length lZ] 29));obtain⟨BH,IW⟩:=χ w1.heap.size;have zW:Hid (aK w1 w2):=I (by rw [rH];exact(aG _).alloc _);have RH:Hid (w2.heap[BH]? =some (.cells #[U iC qh.bg.length iD,J qh.aW,J qh.next,U lY qh.bG.length lZ] 29 (0,0))):=I (by rw [rH,IW];exact bn _ _);have Vj:Hid (BH≠w.heap.size):=I (τ (γ H4.o));rw [<-rH,<-IW];clear rH IW;have Gu:=I (aF SN.o zW.o);have pL:=I (aF H4.o zW.o);have EK:=I (G1.o.trans (fY.o.trans zW.o));have HS:Hid (∀W,aK w2 W->W.cell? ⟨BH,0,none⟩=some (U iC qh.bg.length iD)/\W.cell? ⟨BH,1,none⟩=some (J qh.aW)/\W.cell? ⟨BH,2,none⟩=some (J qh.next)/\W.cell? ⟨BH,3,none⟩=some (U lY qh.bG.length lZ)/\W.cell? ⟨w,5,none⟩=some (U an x.bM.length cn)):=fun W hW=>by
     obtain⟨k0,k1,k2,k3⟩:=aT (aF RH.o hW);obtain⟨-,-,-,-,-,j5⟩:=bF (aF Gu.o hW);exact⟨k0,k1,k2,k3,j5⟩
    refine dH (fun w'=>w'.cell? ⟨BH,0,none⟩=some (U iC qh.bg.length iD)/\w'.cell? ⟨BH,1,none⟩=some (J qh.aW)/\w'.cell? ⟨BH,2,none⟩=some (J qh.next)/\w'.cell? ⟨BH,3,none⟩=some (U lY qh.bG.length lZ)/\w'.cell? ⟨w,5,none⟩=some (U an x.bM.length cn)) 8 κ ?_;obtain⟨wd,hWd⟩:=χ w2.drew;rw [<-hWd];have GD:aK w2 wd:=by rw [hWd];exact(aG _).drew
    have zD:w2.heap.size=wd.heap.size:=by rw [hWd];rfl
    have ZD:=I zD;clear hWd zD;refine qJ [0,1,2,3] 12 κ (fun _ _ _ _ _ h=>h) (HS.o _ GD) ?_;repeat (refine jY ?_;try simp only [bT])
    refine qK ?_;refine bP 4 5 κ rfl rfl ?_ ?_
    ·intro K M
     try simp only [dD]
     go_simp;go_at_call 51
     refine(nJ (c:=c) (l:=x.bM.map dh) (ms:=qm) _ (HC.o.trans (EK.o.trans GD).sub) ?nv (Sl.mono (aK.sub (aK.trans zW.o GD)) (Sl.mono (xR (HC.o.trans G1.o.sub) fY.o) AX.o)) HU.o (by rw [List.length_map];have:=Nh.o;omega)).mono ?_
     case nv=>have h9:=PS.o;simpa using h9
     rintro e3 w3 ⟨v3,rfl,DC,fB⟩;obtain⟨a3,c3,rfl,-⟩:=id DC;have Py:=I DC;have G3:=I (aK.trans GD fB);have pM:=I (GD).size;clear DC fB;rw [iK,List.length_map];refine ψ M (fun _=>HS.o _ G3.o) ?_;try simp only [bT]
     refine bO 5 κ rfl ?_;intro K M;try simp only [dD]
     go_simp;refine ψ M (fun _=>HS.o _ G3.o) ?_;try simp only [bT]
     refine bO 6 κ rfl ?_;intro K M;refine aY rfl ?_;try simp only [dD]
     refine jF (.tmp 62) (.tmp 57) (p:=0) (cells:=#[U iC qh.bg.length iD,J qh.aW,J qh.next,U lY qh.bG.length lZ]) (new:=#[U iC qh.bg.length iD,J qh.aW,J qh.next,U lY qh.bG.length lZ,U ah x.aI.length ch,U an x.bM.length cn]) rfl rfl ρ (aF Gu.o G3.o) eY σ ρ ρ ?_;intro w4 r4 g4;have V9:=I r4;have Ed:=I g4;have V_:Hid (w4.cell? ⟨BH,0,none⟩=some (U iC qh.bg.length iD)/\w4.cell? ⟨BH,1,none⟩=some (J qh.aW)/\w4.cell? ⟨BH,2,none⟩=some (J qh.next)/\w4.cell? ⟨BH,3,none⟩=some (U lY qh.bG.length lZ)/\w4.cell? ⟨w,5,none⟩=some (U an x.bM.length cn)):=I (by obtain⟨k0,k1,k2,k3,-⟩:=HS.o _ G3.o;obtain⟨-,-,-,-,-,j5⟩:=bF r4;have hne:BH≠w.heap.size:=Vj.o;exact⟨bV k0 g4 hne,bV k1 g4 hne,bV k2 g4 hne,bV k3 g4 hne,j5⟩);clear r4 g4;refine ψ M (fun _=>V_.o) ?_;try simp only [bT]
     refine bO 7 κ rfl ?_;intro K M;try simp only [dD]
     go_simp;refine ψ M (fun _=>V_.o) ?_;try simp only [bT]
     refine bO 8 κ rfl ?_;intro K M;refine aY rfl ?_;try simp only [dD]
     refine dF (.tmp 63) (.tmp 61) (v:=U a3 (eu x.bM qm).length c3) (new:=#[U iC qh.bg.length iD,J qh.aW,J qh.next,U lY qh.bG.length lZ,U ah x.aI.length ch,U a3 (eu x.bM qm).length c3]) rfl rfl ρ ρ V9.o jS σ ρ ρ ?_;intro w5 r5 g5;have PY:=I r5;have wW:=I g5;clear r5 g5;refine ψ M (fun h=>absurd rfl h) ?_;try simp only [bT]
     refine bW κ ?_;have OI:=I (bJ (bJ (aF pL.o G3.o) Ed.o iP) wW.o iP);have G5:=I (((EK.o.trans G3.o).grown Ed.o (fun q O=>by simp at O;omega)).grown wW.o (fun q O=>by simp at O;omega));obtain⟨c0,c1,c2,pN,c4,c5⟩:=bF PY.o;have z2:w.heap.size<w5:=(γ PY.o);go_wp2_with (first|(refine aQ rfl (.tmp 4) (.tmp 64) rfl rfl rfl OI.o dN rfl rfl ?_))
     intro w7 r7 g7;obtain⟨p0,p1,p2,p3,p4,p5⟩:=bF r7;clear c0 c1 c2 pN c4 c5;go_wp2;refine dw (v:=.tuple #[.agg #[U iC qh.bg.length iD,J qh.aW,J qh.next,U lY qh.bG.length lZ,U ah x.aI.length ch,U a3 (eu x.bM qm).length c3],J qe]) (by simp [results,Tryz.results16,go_sem,p0,p1,p2,p3,p4,p5]) rfl ?_;have G7:=G5.o.grown g7 (fun q O=>by simp at O;omega);rw [HE.o,lC.o];refine⟨_,rfl,Of.qA ?_ (Il.o.mono (gG HC.o)) ?_,G7⟩
     ·refine Kq.o.mono fun a u e=>?_
      have e1:=zx (Sub.refl _) (zW.o.trans G3.o) a u e;have e4:=iG (w:=w) Ed.o (Nat.le_refl _) (τ HZ.o) a u e1;have e5:=iG (w:=w) wW.o (Nat.le_refl _) (τ HZ.o) a u e4;have e7:=iG (w:=w) g7 V (τ HZ.o) a u e5;exact qY HC.o G1.o a u e7
     ·have hsz:=(γ Gu.o)
      have A0b:=(γ pL.o);have h9:=Py.o;rw [iK] at h9;refine Sl.mono (fun a u e=>?_) (show yS _ _ _ from by simpa using h9);have hgd:=pM.o;have e4:=iG (w:=w) Ed.o (Nat.le_refl _) V a u e;have e5:=iG (w:=w) wW.o (Nat.le_refl _) V a u e4;have e7:=iG (w:=w) g7 V V a u e5;exact qY HC.o (EK.o.trans GD) a u e7
    ·intro K M
     try simp only [dD]
     go_simp;refine ψ M (fun _=>HS.o _ GD) ?_;try simp only [bT]
     refine bO 4 κ rfl ?_;intro K M;try simp only [dD]
     go_simp;go_at_call 51
     refine(nJ (c:=c) (l:=x.bM.map dh) (ms:=qm) _ (HC.o.trans (EK.o.trans GD).sub) ?nv (Sl.mono (aK.sub (aK.trans zW.o GD)) (Sl.mono (xR (HC.o.trans G1.o.sub) fY.o) AX.o)) HU.o (by rw [List.length_map];have:=Nh.o;omega)).mono ?_
     case nv=>have h9:=PS.o;simpa using h9
     rintro e3 w3 ⟨v3,rfl,DC,fB⟩;obtain⟨a3,c3,rfl,-⟩:=id DC;have Py:=I DC;have G3:=I (aK.trans GD fB);have pM:=I (GD).size;clear DC fB;rw [iK,List.length_map];refine ψ M (fun _=>HS.o _ G3.o) ?_;try simp only [bT]
     refine bO 6 κ rfl ?_;intro K M;refine aY rfl ?_;try simp only [dD]
     refine jF (.tmp 62) (.tmp 57) (p:=0) (cells:=#[U iC qh.bg.length iD,J qh.aW,J qh.next,U lY qh.bG.length lZ]) (new:=#[U iC qh.bg.length iD,J qh.aW,J qh.next,U lY qh.bG.length lZ,U ah x.aI.length ch,U an x.bM.length cn]) rfl rfl ρ (aF Gu.o G3.o) eY σ ρ ρ ?_;intro w4 r4 g4;have V9:=I r4;have Ed:=I g4;have V_:Hid (w4.cell? ⟨BH,0,none⟩=some (U iC qh.bg.length iD)/\w4.cell? ⟨BH,1,none⟩=some (J qh.aW)/\w4.cell? ⟨BH,2,none⟩=some (J qh.next)/\w4.cell? ⟨BH,3,none⟩=some (U lY qh.bG.length lZ)/\w4.cell? ⟨w,5,none⟩=some (U an x.bM.length cn)):=I (by obtain⟨k0,k1,k2,k3,-⟩:=HS.o _ G3.o;obtain⟨-,-,-,-,-,j5⟩:=bF r4;have hne:BH≠w.heap.size:=Vj.o;exact⟨bV k0 g4 hne,bV k1 g4 hne,bV k2 g4 hne,bV k3 g4 hne,j5⟩);clear r4 g4;refine ψ M (fun _=>V_.o) ?_;try simp only [bT]
     refine bO 7 κ rfl ?_;intro K M;try simp only [dD]
     go_simp;refine ψ M (fun _=>V_.o) ?_;try simp only [bT]
     refine bO 8 κ rfl ?_;intro K M;refine aY rfl ?_;try simp only [dD]
     refine dF (.tmp 63) (.tmp 61) (v:=U a3 (eu x.bM qm).length c3) (new:=#[U iC qh.bg.length iD,J qh.aW,J qh.next,U lY qh.bG.length lZ,U ah x.aI.length ch,U a3 (eu x.bM qm).length c3]) rfl rfl ρ ρ V9.o jS σ ρ ρ ?_;intro w5 r5 g5;have PY:=I r5;have wW:=I g5;clear r5 g5;refine ψ M (fun h=>absurd rfl h) ?_;try simp only [bT]
     refine bW κ ?_;have OI:=I (bJ (bJ (aF pL.o G3.o) Ed.o iP) wW.o iP);have G5:=I (((EK.o.trans G3.o).grown Ed.o (fun q O=>by simp at O;omega)).grown wW.o (fun q O=>by simp at O;omega));obtain⟨c0,c1,c2,pN,c4,c5⟩:=bF PY.o;have z2:w.heap.size<w5:=(γ PY.o);go_wp2_with (first|(refine aQ rfl (.tmp 4) (.tmp 64) rfl rfl rfl OI.o dN rfl rfl ?_))
     intro w7 r7 g7;obtain⟨p0,p1,p2,p3,p4,p5⟩:=bF r7;clear c0 c1 c2 pN c4 c5;go_wp2;refine dw (v:=.tuple #[.agg #[U iC qh.bg.length iD,J qh.aW,J qh.next,U lY qh.bG.length lZ,U ah x.aI.length ch,U a3 (eu x.bM qm).length c3],J qe]) (by simp [results,Tryz.results16,go_sem,p0,p1,p2,p3,p4,p5]) rfl ?_;have G7:=G5.o.grown g7 (fun q O=>by simp at O;omega);rw [HE.o,lC.o];refine⟨_,rfl,Of.qA ?_ (Il.o.mono (gG HC.o)) ?_,G7⟩
     ·refine Kq.o.mono fun a u e=>?_
      have e1:=zx (Sub.refl _) (zW.o.trans G3.o) a u e;have e4:=iG (w:=w) Ed.o (Nat.le_refl _) (τ HZ.o) a u e1;have e5:=iG (w:=w) wW.o (Nat.le_refl _) (τ HZ.o) a u e4;have e7:=iG (w:=w) g7 V (τ HZ.o) a u e5;exact qY HC.o G1.o a u e7
     ·have hsz:=(γ Gu.o)
      have A0b:=(γ pL.o);have h9:=Py.o;rw [iK] at h9;refine Sl.mono (fun a u e=>?_) (show yS _ _ _ from by simpa using h9);have hgd:=pM.o;have e4:=iG (w:=w) Ed.o (Nat.le_refl _) V a u e;have e5:=iG (w:=w) wW.o (Nat.le_refl _) V a u e4;have e7:=iG (w:=w) g7 V V a u e5;exact qY HC.o (EK.o.trans GD) a u e7
  ·as_aux_lemma=>
    have HE:Hid (jZ x ⟨1,sn,sp⟩=x):=I (by unfold jZ;simp [hw]);have lC:Hid (eU x ⟨1,sn,sp⟩=dO sp x.aI.length):=I (by unfold eU;simp [hw]);have hbw:(dO sp x.aI.length !=0)=true:=by simp [hw]
    have fX:=I (vI (h:=(x.aI.length:Int)) wz (C_.o.2.mono (HC.o.trans G1.o.sub)));clear hw;generalize dO sp x.aI.length=we at*;go_wp2_with fail
    refine fX.o.mono ?_;rintro e w1 ⟨rfl,dZ⟩;have SN:=I (aF R2.o dZ);have H4:=I (aF R4.o dZ);have GW1:=I (G1.o.trans dZ);clear dZ c0 c1 c2 c3 c4 c5 d0 d1 d2 z2 z3;obtain⟨c0,c1,c2,c3,c4,c5⟩:=bF SN.o;have z2:w.heap.size<w1:=(γ SN.o);go_wp2_with (first|(refine aQ rfl (.tmp 4) (.tmp 46) rfl rfl rfl H4.o dN rfl rfl ?_))
    intro w7 r7 g7;obtain⟨p0,p1,p2,p3,p4,p5⟩:=bF r7;clear c0 c1 c2 c3 c4 c5;go_wp2;refine dw (v:=.tuple #[.agg #[U al x.aN.bg.length cl,J x.aN.aW,J x.aN.next,U ao x.aN.bG.length co,U ah x.aI.length ch,U an x.bM.length cn],J we]) (by simp [results,Tryz.results16,go_sem,p0,p1,p2,p3,p4,p5]) rfl ?_;have G7:=GW1.o.grown g7 (fun q O=>by simp at O;omega);rw [HE.o,lC.o];exact⟨_,rfl,HV.o.mono (gG HC.o),G7⟩
 by_cases k2:kd=2
 ·subst k2
  clear k1;by_cases ht:there x sn=true
  ·as_aux_lemma=>
    have HT:=I ht;obtain⟨h0,N⟩:0<=sn/\sn<(x.bM.length:Int):=of_decide_eq_true HT.o;have lC:Hid (eU x ⟨2,sn,sp⟩=0):=I (by unfold eU;simp [ht]);have PX:Hid (jZ x ⟨2,sn,sp⟩=iZ { x with bM:=x.bM.eraseIdx sn.toNat } (x.bM.getD sn.toNat ⟨0,0,0,[]⟩)):=I (by unfold jZ;simp [ht]);rw [ht];obtain⟨i,hi⟩:∃i:Nat,sn=(i:Int):=⟨sn.toNat,V⟩;have hil:i<x.bM.length:=by omega
    have hti:sn.toNat=i:=by omega
    have AM:=PS.o;obtain⟨an',cn',wG,hcc,-,-,hel⟩:=AM;simp only [Value.slice.injEq] at wG;obtain⟨rfl,-,rfl⟩:=wG;rw [List.length_map] at hcc;obtain⟨bb,o,u,rfl,ci,hbi⟩:=yS.at_ hel i (by simpa using hil);obtain⟨au,cu,rfl,-⟩:=id hbi;have FN:Hid ((x.bM.map dh)[i]'(by simpa using hil)=dh x.bM[i]):=I (by rw [List.getElem_map]);rw [FN.o] at hbi ci;have Jj:=I (fun(W:World) (hW:aK w W)=>PW W (hbi.mono (HC.o.trans hW.sub)));have OA:=I (Ei (yV.o.right _ (List.getElem_mem hil)));rw [OA.o] at Jj;have Nh:=I yV.o.len;have Py:Hid (yS c (U (some ⟨bb,o,none⟩) x.bM.length cn) (x.bM.map dh)):=I PS.o;rw [hti] at PX;have HGD:Hid (x.bM.getD i ⟨0,0,0,[]⟩=x.bM[i]):=I (by rw [List.getD_eq_getElem?_getD,dM hil];rfl);rw [HGD.o] at PX;have PZ:Hid (wZ n G x.aN x.aI x.bM[i]):=I (yV.o.bM _ (List.getElem_mem hil));clear HGD;have Gv:Hid (sn=(i:Int)):=I hi;replace ci:=(HC.o.trans G1.o.sub) _ _ ci;clear hel hbi ht HT OA FN;generalize x.bM[i]=m at*;have hi0:(0:Int)<=sn:=by omega
    have hi9:sn<(x.bM.length:Int):=by omega
    subst hi;go_upto_region 21 with fail
    clear c0 c1 c2 c3 c4 c5 d0 d1 d2 ci z2 z3;have hll:(x.bM.map dh).length=x.bM.length:=List.length_map _;have nK:=I (Py.o.take' i V);have pP:=I (Py.o.drop (i+1) V);have wY:=I (Ik x.bM i);have SL:Hid ((x.bM.eraseIdx i).length=i+(x.bM.length - (i+1))):=I (by rw [List.length_eraseIdx,bC hil];omega);have hii:IntKind.i64.wrap ((i:Int)+1)=(i:Int)+1:=IntWalk.i64_in _ (τ Nh.o);have hi2:(0:Int)<=(i:Int)+1:=by omega
    have hi3:(i:Int)+1<=(x.bM.length:Int):=by omega
    have hi4:((i:Int)+1).toNat=i+1:=by omega
    have hi5:(i:Int)<=(cn:Int):=by omega
    have hi7:(x.bM.length:Int)<=(cn:Int):=by omega
    have HS:Hid (∀W,aK wz W->W.cell? ⟨w,5,none⟩=some (U (some ⟨bb,o,none⟩) x.bM.length cn)/\W.cell? ⟨w+1,1,none⟩=some (J i)):=fun W hW=>by
     obtain⟨-,-,-,-,-,j5⟩:=bF (aF R2.o hW);obtain⟨-,f1,-⟩:=iI (aF R3.o hW);exact⟨j5,f1⟩
    go_cut [11] from 95 (fun s11 wc=>s11=U au (dh m).length cu/\∃a9 n9 c9,wc.heap[w.heap.size]? =some (.cells #[U al x.aN.bg.length cl,J x.aN.aW,J x.aN.next,U ao x.aN.bG.length co,U ah x.aI.length ch,U a9 n9 c9] 33 (0,0))/\wc.heap[w.heap.size+1]? =some (.cells #[J 2,J i,U ap sp.length cp] 25 (0,0))/\wc.heap[w.heap.size+2]? =some (.cells #[(),J 0,J 0,(),(),()] 33 (0,0))/\bK Ty.bs c wc (w.heap.size+3) 97 (U a9 n9 c9) ((x.bM.eraseIdx i).map dh)/\aK w wc)
    case first=>
     by_cases hcap:cn=i+1
     ·have HDR:Hid (Sl Ty.bs c (U (some ⟨bb,o,none⟩) 0 0) ((x.bM.map dh).drop (i+1))):=I (Sl.none' _ _ _ (List.drop_eq_nil_of_le V))
      obtain rfl:=hcap;have A2S:(i:Int)<=(i:Int)+1:=by omega
      refine dH (fun w'=>w'.cell? ⟨w,5,none⟩=some (U (some ⟨bb,o,none⟩) x.bM.length (i+1))/\w'.cell? ⟨w+1,1,none⟩=some (J i)) 15 κ ?_;obtain⟨wd,hWd⟩:=χ wz.drew;rw [<-hWd];have GD:aK wz wd:=by rw [hWd];exact(aG _).drew
      have zD:wz.heap.size=wd.heap.size:=by rw [hWd];rfl
      have ZD:=I zD;clear hWd zD;refine qJ [1,2,3,4,5,7,8,9,10,11,12] 20 κ (fun _ _ _ _ _ h=>h) (HS.o _ GD) ?_;repeat (refine jY ?_;try simp only [bT])
      refine qK ?_;refine bO 0 κ rfl ?_;intro K M;try simp only [dD]
      go_simp;obtain⟨w7,JQ⟩:=χ (wd.alloc (.cells #[] 97));have zN:Hid (bK Ty.bs c w7 (w.heap.size+3) 97 (U (some ⟨wd,0,none⟩) 0 0) []):=I (by rw [JQ];exact bK.mY Ty.bs _ _ _ _ (by have:=ZD.o;have:=HZ.o;omega) rfl);have pq:Hid (aK wz w7):=I (by rw [JQ];exact GD.alloc _);rw [<-JQ];clear JQ;refine ψ M (fun _=>HS.o _ pq.o) ?_;try simp only [bT]
      refine bO 6 κ rfl ?_;intro K M;refine aY rfl ?_;try simp only [dD]
      refine xK (c:=c) (base:=w.heap.size+3) (l:=[]) (m:=(x.bM.map dh).take i) (k:=(x.bM.map dh).take i) (v:=U (some ⟨wd,0,none⟩) 0 0) oq rfl (lW Ty.byte) ε (.tmp 95) (.tmp 100) rfl (List.nil_append _) rfl zN.o rfl (Src.kK ε (HC.o.trans (G1.o.trans pq.o).sub) nK.o) (by have:=Nh.o;rw [List.length_take];simp;omega) (by have:=pq.o.size;have:=HZ.o;omega) ?_;intro a8 n8 c8 w8 AK nT yK lD;have t_:=I nT;have vZ:=I (dI (w0:=wz) pq.o yK (fun q O=>by have:=(zN.o.lt q O).1;have:=HZ.o;omega));clear AK nT yK lD;refine ψ M (fun _=>HS.o _ vZ.o) ?_;try simp only [bT]
      refine bO 13 κ rfl ?_;intro K M;refine aY rfl ?_;try simp only [dD]
      refine xK (c:=c) (base:=w.heap.size+3) (l:=(x.bM.map dh).take i) (m:=(x.bM.map dh).drop (i+1)) (k:=(x.bM.eraseIdx i).map dh) (v:=U a8 n8 c8) oq rfl (lW Ty.byte) ε (.tmp 101) (.tmp 107) rfl wY.o rfl t_.o rfl (Src.kK ε (HC.o.trans (G1.o.trans vZ.o).sub) ?Xo) (by have:=Nh.o;rw [List.length_take,List.length_drop,List.length_map];omega) (by have:=vZ.o.size;have:=HZ.o;omega) ?_
      case Xo=>exact HDR.o
      intro a9 n9 c9 w9 H5 gX fV iE;have jE:=I gX;have kR:=I (dI (w0:=wz) vZ.o fV (fun q O=>by have:=(t_.o.lt q O).1;have:=HZ.o;omega));clear H5 gX fV iE;refine ψ M (fun _=>HS.o _ kR.o) ?_;try simp only [bT]
      refine bO 14 κ rfl ?_;intro K M;try simp only [dD]
      go_simp;refine ψ M (fun _=>HS.o _ kR.o) ?_;try simp only [bT]
      refine bO 15 κ rfl ?_;intro K M;refine aY rfl ?_;try simp only [dD]
      refine dF (.tmp 109) (.tmp 108) (v:=U a9 n9 c9) (new:=#[U al x.aN.bg.length cl,J x.aN.aW,J x.aN.next,U ao x.aN.bG.length co,U ah x.aI.length ch,U a9 n9 c9]) rfl rfl ρ ρ (aF R2.o kR.o) jS σ ρ ρ ?_;intro w5 r5 g5;refine ψ M (fun h=>absurd rfl h) ?_;try simp only [bT]
      refine bW κ ?_;go_wp2;go_meet
      case rel=>exact⟨rfl,a9,n9,c9,r5,bJ (aF R3.o kR.o) g5 iP,bJ (aF R4.o kR.o) g5 iP,jE.o.kept g5 (eF jE.o V),(G1.o.trans kR.o).grown g5 (fun q O=>by simp at O;omega)⟩
     ·have HDR:Hid (Sl Ty.bs c (U (some ⟨bb,o+(i+1),none⟩) (x.bM.length - (i+1)) (cn - (i+1))) ((x.bM.map dh).drop (i+1))):=I (by simpa [show Ty.bs.size=1 from rfl] using pP.o)
      refine dH (fun w'=>w'.cell? ⟨w,5,none⟩=some (U (some ⟨bb,o,none⟩) x.bM.length cn)/\w'.cell? ⟨w+1,1,none⟩=some (J i)) 15 κ ?_;obtain⟨wd,hWd⟩:=χ wz.drew;rw [<-hWd];have GD:aK wz wd:=by rw [hWd];exact(aG _).drew
      have zD:wz.heap.size=wd.heap.size:=by rw [hWd];rfl
      have ZD:=I zD;clear hWd zD;refine qJ [1,2,3,4,5,7,8,9,10,11,12] 20 κ (fun _ _ _ _ _ h=>h) (HS.o _ GD) ?_;repeat (refine jY ?_;try simp only [bT])
      refine qK ?_;refine bO 0 κ rfl ?_;intro K M;try simp only [dD]
      go_simp;obtain⟨w7,JQ⟩:=χ (wd.alloc (.cells #[] 97));have zN:Hid (bK Ty.bs c w7 (w.heap.size+3) 97 (U (some ⟨wd,0,none⟩) 0 0) []):=I (by rw [JQ];exact bK.mY Ty.bs _ _ _ _ (by have:=ZD.o;have:=HZ.o;omega) rfl);have pq:Hid (aK wz w7):=I (by rw [JQ];exact GD.alloc _);rw [<-JQ];clear JQ;refine ψ M (fun _=>HS.o _ pq.o) ?_;try simp only [bT]
      refine bO 6 κ rfl ?_;intro K M;refine aY rfl ?_;try simp only [dD]
      refine xK (c:=c) (base:=w.heap.size+3) (l:=[]) (m:=(x.bM.map dh).take i) (k:=(x.bM.map dh).take i) (v:=U (some ⟨wd,0,none⟩) 0 0) oq rfl (lW Ty.byte) ε (.tmp 95) (.tmp 100) rfl (List.nil_append _) rfl zN.o rfl (Src.kK ε (HC.o.trans (G1.o.trans pq.o).sub) nK.o) (by have:=Nh.o;rw [List.length_take];simp;omega) (by have:=pq.o.size;have:=HZ.o;omega) ?_;intro a8 n8 c8 w8 AK nT yK lD;have t_:=I nT;have vZ:=I (dI (w0:=wz) pq.o yK (fun q O=>by have:=(zN.o.lt q O).1;have:=HZ.o;omega));clear AK nT yK lD;refine ψ M (fun _=>HS.o _ vZ.o) ?_;try simp only [bT]
      refine bO 13 κ rfl ?_;intro K M;refine aY rfl ?_;try simp only [dD]
      refine xK (c:=c) (base:=w.heap.size+3) (l:=(x.bM.map dh).take i) (m:=(x.bM.map dh).drop (i+1)) (k:=(x.bM.eraseIdx i).map dh) (v:=U a8 n8 c8) oq rfl (lW Ty.byte) ε (.tmp 101) (.tmp 107) rfl wY.o rfl t_.o rfl (Src.kK ε (HC.o.trans (G1.o.trans vZ.o).sub) ?Xo) (by have:=Nh.o;rw [List.length_take,List.length_drop,List.length_map];omega) (by have:=vZ.o.size;have:=HZ.o;omega) ?_
      case Xo=>exact HDR.o
      intro a9 n9 c9 w9 H5 gX fV iE;have jE:=I gX;have kR:=I (dI (w0:=wz) vZ.o fV (fun q O=>by have:=(t_.o.lt q O).1;have:=HZ.o;omega));clear H5 gX fV iE;refine ψ M (fun _=>HS.o _ kR.o) ?_;try simp only [bT]
      refine bO 14 κ rfl ?_;intro K M;try simp only [dD]
      go_simp;refine ψ M (fun _=>HS.o _ kR.o) ?_;try simp only [bT]
      refine bO 15 κ rfl ?_;intro K M;refine aY rfl ?_;try simp only [dD]
      refine dF (.tmp 109) (.tmp 108) (v:=U a9 n9 c9) (new:=#[U al x.aN.bg.length cl,J x.aN.aW,J x.aN.next,U ao x.aN.bG.length co,U ah x.aI.length ch,U a9 n9 c9]) rfl rfl ρ ρ (aF R2.o kR.o) jS σ ρ ρ ?_;intro w5 r5 g5;refine ψ M (fun h=>absurd rfl h) ?_;try simp only [bT]
      refine bW κ ?_;go_wp2;go_meet
      case rel=>exact⟨rfl,a9,n9,c9,r5,bJ (aF R3.o kR.o) g5 iP,bJ (aF R4.o kR.o) g5 iP,jE.o.kept g5 (eF jE.o V),(G1.o.trans kR.o).grown g5 (fun q O=>by simp at O;omega)⟩
    case rest=>
    obtain⟨rfl,a9,n9,c9,r9,r3,r4,gX,hgw⟩:=hcut;have J_:=I r9;have UV:=I r3;have R49:=I r4;have jE:=I gX;have FF:=I hgw;obtain⟨w9,rfl⟩:=χ wc;clear r9 r3 r4 gX hgw HS nK pP hii hi2 hi3 hi4 hi5 hi7;go_wp2_with fail
    refine(Jj.o _ FF.o).mono ?_;rintro e w5 ⟨v5,rfl,Nj,iY⟩;have fR:=I yV.o.core.len;have A2T:=I yV.o.core.n3;have HRM:=I PZ.o.right;obtain⟨j,hj⟩:∃j:Nat,m.aU=(j:Int):=⟨m.aU.toNat,by have:=HRM.o.aU;omega⟩;have hjn:j<x.aI.length:=by have:=PZ.o.here;have:=fR.o;omega
    have hj3:x.aI.length<=3:=by have:=fR.o;have:=A2T.o;omega
    have FN:Hid (I64 m.aX/\I64 m.aJ/\I64 m.aU):=I (by obtain⟨cs,he,vp,rfl,i0,i1,i2,-⟩:=Nj;exact⟨i0,i1,i2⟩);obtain⟨ap5,cp5,rfl⟩:=Nj.ny;have HMJ:Hid (m.aU=(j:Int)):=I hj;have LI:=I Nj;rw [hj] at LI ⊢;have G5:=I (FF.o.trans iY);have JB:Hid (w.heap.size+3<=w9.heap.size):=I (τ (γ R49.o));have YX:=I iY;have R25:=I (aF J_.o iY);have R35:=I (aF UV.o iY);have OI:=I (aF R49.o iY);have oQ:=I (jE.o.grow iY);clear Nj iY hj;obtain⟨c0,c1,c2,c3,c4,c5⟩:=bF R25.o;obtain⟨d0,d1,d2⟩:=iI R35.o;have z2:w.heap.size<w5:=(γ R25.o);have z3:w.heap.size+1<w5:=(γ R35.o);go_upto_region 23 with fail
    obtain⟨w6,sF⟩:=χ (w5.alloc (.cells #[J m.aX,J m.aJ,J (j:Int),U ap5 m.aH.length cp5] 85));have tK:Hid (aK w5 w6):=I (by rw [sF];exact(aG _).alloc _);obtain⟨BM,N6⟩:=χ w5.heap.size;have cU:Hid (w6.heap[BM]? =some (.cells #[J m.aX,J m.aJ,J (j:Int),U ap5 m.aH.length cp5] 85 (0,0))):=I (by rw [sF,N6];exact bn _ _);have HBM:Hid (w.heap.size+3<=BM):=I (by have:=JB.o;have:=YX.o.size;omega);rw [<-sF,<-N6];clear sF N6 c0 c1 c2 c3 c4 c5 d0 d1 d2 z2 z3;have pQ:=I (aF R25.o tK.o);have R36:=I (aF R35.o tK.o);have R46:=I (aF OI.o tK.o);have Gm:=I (oQ.o.grow tK.o);have G6:=I (G5.o.trans tK.o);have HM6:Hid (Of Ty.ms (dm c w w6) (.agg #[J m.aX,J m.aJ,J (j:Int),U ap5 m.aH.length cp5]) m):=I (LI.o.mono ((dm_none JB.o).trans (nV tK.o)));have EN:Hid (yS (dm c w w6) (U a9 n9 c9) ((x.bM.eraseIdx i).map dh)):=I (Gm.o.slc ε (JA HC.o) fun a9 ha9=>Xm V);have HW6:Hid (w.heap.size+3<=w6.heap.size):=I (by have:=HBM.o;have:=(γ cU.o);omega);have SL:Hid ((x.bM.eraseIdx i).length<=24):=I (by have:=Nh.o;rw [List.length_eraseIdx];split<;>omega);have HHJ:Hid (x.aI[m.aU.toNat]? =some x.aI[j]):=I (by rw [HMJ.o,Int.toNat_natCast];exact dM hjn);have hjl:¬(x.aI.length:Int)<=(j:Int):=by omega
    obtain⟨c0,c1,c2,c3,c4,c5⟩:=bF pQ.o;obtain⟨d0,d1,d2⟩:=iI R36.o;obtain⟨m0,m1,m2,m3⟩:=aT cU.o;have z2:w.heap.size<w6:=(γ pQ.o);have z3:w.heap.size+1<w6:=(γ R36.o);have zM:BM<w6.heap.size:=(γ cU.o);go_upto_region 25 with fail
    obtain⟨tf,htf⟩:=χ (iR m);have HTF:=I htf;clear htf;go_cut [143] from 131 (fun A2U wc=>A2U=.bool tf/\w6=wc)
    case first=>
     by_cases SG:m.aX=1
     ·have dZ:(m.aX==1)=true:=by simp [SG]
      have QQ:=I SG;clear SG;go_wp2;go_meet
      case rel=>exact⟨by rw [HTF.o,uZ];have N:=QQ.o;simp [N],rfl⟩
     ·have dZ:(m.aX==1)=false:=by simp [SG]
      have QQ:=I SG;clear SG;by_cases hk4:m.aX=4
      ·have qW:(m.aX==4)=true:=by simp [hk4]
       have UT:=I hk4;clear hk4;go_wp2;go_meet
       case rel=>exact⟨by rw [HTF.o,uZ];have N:=UT.o;simp [N],rfl⟩
      ·have qW:(m.aX==4)=false:=by simp [hk4]
       have UT:=I hk4;clear hk4;by_cases hk5:m.aX=5
       ·have iY:(m.aX==5)=true:=by simp [hk5]
        have Jo:=I hk5;clear hk5;go_wp2;go_meet
        case rel=>exact⟨by rw [HTF.o,uZ];have N:=Jo.o;simp [N],rfl⟩
       ·have iY:(m.aX==5)=false:=by simp [hk5]
        have Jo:=I hk5;clear hk5;go_wp2;go_meet
        case rel=>exact⟨by rw [HTF.o,uZ];have N:=QQ.o;have h4:=UT.o;have h5:=Jo.o;simp [N,h4,h5],rfl⟩
    case rest=>
    obtain⟨rfl,rfl⟩:=hcut;clear c0 c1 c2 c3 c4 c5 d0 d1 d2 m0 m1 m2 m3 z2 z3 zM;cases tf with
    |true=>
     have HEC:=I (Xn (w:={ x with bM:=x.bM.eraseIdx i }) HHJ.o HTF.o.symm);rw [HEC.o,HMJ.o,Int.toNat_natCast] at PX;as_aux_lemma=>
      have Dx:=Il.o;obtain⟨AN,ch',wG,-,-,-,hel⟩:=Dx;simp only [Value.slice.injEq,true_and] at wG;obtain⟨rfl,rfl⟩:=wG;obtain⟨bh,oh,vl,vr,vd,rfl,e0,e1,e2,e3,e4,e5,e6,yu,s1,s2,s3,s4,Ar,xk⟩:=VW.at_ hel j hjn;obtain⟨il,jl,rfl,-⟩:=id yu;obtain⟨ir,jr,rfl,-⟩:=id Ar;obtain⟨yX,jd,rfl,-⟩:=id xk;have CI:Hid (Of Ty.hs c (.agg #[.slice il x.aI[j].bg.length jl,J x.aI[j].aP.a,J x.aI[j].aP.b,J x.aI[j].aP.c,J x.aI[j].aP.d,.slice ir x.aI[j].ready.length jr,.slice yX x.aI[j].done.length jd]) x.aI[j]):=I ⟨_,rfl,_,_,_,rfl,yu,s1,s2,s3,s4,Ar,xk⟩;have HE7:=I (And.intro e0 (And.intro e1 (And.intro e2 (And.intro e3 (And.intro e4 (And.intro e5 e6))))));have HHI:=I (yV.o.core.aU j _ (dM hjn));have Wh:Hid (x.aI[j].bg.length<=k):=I (N0.o.logs _ (List.getElem_mem hjn));have SQ:Hid (∀q∈dV x.aI[j] m.aU m,cZ q=0):=I (WI.says (yV.o.core.hear PZ.o HHJ.o).2.2);rw [HMJ.o] at SQ;have yD:=I HHI.o.keys;have HMD:=I HHI.o.calm.made;clear hel yu Ar xk s1 s2 s3 s4 e0 e1 e2 e3 e4 e5 e6;generalize x.aI[j]=hh at*;have HS:Hid (∀W,aK w6 W->W.cell? ⟨w,4,none⟩=some (U (some ⟨bh,oh,none⟩) x.aI.length ch)/\W.cell? ⟨BM,0,none⟩=some (J m.aX)/\W.cell? ⟨BM,1,none⟩=some (J m.aJ)/\W.cell? ⟨BM,2,none⟩=some (J (j:Int))/\W.cell? ⟨BM,3,none⟩=some (U ap5 m.aH.length cp5)/\W.cell? ⟨bh,oh+j*7,none⟩=some (U il hh.bg.length jl)/\W.cell? ⟨bh,oh+j*7+1,none⟩=some (J hh.aP.a)/\W.cell? ⟨bh,oh+j*7+2,none⟩=some (J hh.aP.b)/\W.cell? ⟨bh,oh+j*7+3,none⟩=some (J hh.aP.c)/\W.cell? ⟨bh,oh+j*7+4,none⟩=some (J hh.aP.d)/\W.cell? ⟨bh,oh+j*7+5,none⟩=some (U ir hh.ready.length jr)/\W.cell? ⟨bh,oh+j*7+6,none⟩=some (U yX hh.done.length jd)):=fun W hW=>by
       obtain⟨-,-,-,-,j4,-⟩:=bF (aF pQ.o hW);obtain⟨k0,k1,k2,k3⟩:=aT (aF cU.o hW);have gs:=HC.o.trans (G6.o.trans hW).sub;obtain⟨e0,e1,e2,e3,e4,e5,e6⟩:=HE7.o;exact⟨j4,k0,k1,k2,k3,gs _ _ e0,gs _ _ e1,gs _ _ e2,gs _ _ e3,gs _ _ e4,gs _ _ e5,gs _ _ e6⟩
      have hj0:(0:Int)<=(j:Int):=by omega
      have hj1:(j:Int)<(x.aI.length:Int):=by omega
      go_upto_region 26 with fail
      refine dH (fun w'=>w'.cell? ⟨w,4,none⟩=some (U (some ⟨bh,oh,none⟩) x.aI.length ch)/\w'.cell? ⟨BM,0,none⟩=some (J m.aX)/\w'.cell? ⟨BM,1,none⟩=some (J m.aJ)/\w'.cell? ⟨BM,2,none⟩=some (J (j:Int))/\w'.cell? ⟨BM,3,none⟩=some (U ap5 m.aH.length cp5)/\w'.cell? ⟨bh,oh+j*7,none⟩=some (U il hh.bg.length jl)/\w'.cell? ⟨bh,oh+j*7+1,none⟩=some (J hh.aP.a)/\w'.cell? ⟨bh,oh+j*7+2,none⟩=some (J hh.aP.b)/\w'.cell? ⟨bh,oh+j*7+3,none⟩=some (J hh.aP.c)/\w'.cell? ⟨bh,oh+j*7+4,none⟩=some (J hh.aP.d)/\w'.cell? ⟨bh,oh+j*7+5,none⟩=some (U ir hh.ready.length jr)/\w'.cell? ⟨bh,oh+j*7+6,none⟩=some (U yX hh.done.length jd)) 15 κ ?_;obtain⟨wd,hWd⟩:=χ w6.drew;rw [<-hWd];have GD:aK w6 wd:=by rw [hWd];exact(aG _).drew
      have zD:w6.heap.size=wd.heap.size:=by rw [hWd];rfl
      have ZD:=I zD;clear hWd zD;refine qJ [0,1,2,3,4,5,6,7,8] 20 κ (fun _ _ _ _ _ h=>h) (HS.o _ GD) ?_;repeat (refine jY ?_;try simp only [bT])
      refine qK ?_;refine bP 9 13 κ rfl rfl ?_ ?_
      ·intro K M
       try simp only [dD]
       go_simp;go_at_call 53
       refine(Ub (c:=dm c w w6) (h:=hh) (m:=m) (me:=(j:Int)) _ ((sH HC.o G6.o).trans (aK.sub GD)) (CI.o.mono (JA HC.o)) HM6.o yD.o (YW HRM.o) (τ Wh.o) (ku V V) HMD.o).mono ?_;rintro e7 w7 ⟨v7,y7,rfl,Dc,Ir,jQ⟩;have AR:=I (aK.trans GD jQ);have GB7:=I jQ;obtain⟨al7,cl7,ar7,cr7,ad7,cd7,rfl⟩:=Dc.ig;obtain⟨ay7,cy7,rfl,-⟩:=id Ir;have JR:=I Dc;have gA:=I Ir;clear Dc Ir jQ;generalize dK hh m=gh at*;generalize dV hh (j:Int) m=gm at*;refine ψ M (fun _=>HS.o _ AR.o) ?_;try simp only [bT]
       refine qJ [10,11,12] 20 κ (fun _ _ _ _ _ h=>h) (HS.o _ AR.o) ?_;repeat (refine jY ?_;try simp only [bT])
       refine qK ?_;refine bO 13 κ rfl ?_;intro K M;try simp only [dD]
       go_simp;obtain⟨wg,hwg⟩:=χ (w7.alloc (.cells #[(),J 0,J 0,J 0,J 0,(),()] 50));obtain⟨BG,hBG⟩:=χ w7.heap.size;have GG:Hid (aK w7 wg):=I (by rw [hwg];exact(aG _).alloc _);have GW6:Hid (aK w6 wg):=I (aK.trans AR.o GG.o);have RG:Hid (wg.heap[BG]? =some (.cells #[(),J 0,J 0,J 0,J 0,(),()] 50 (0,0))):=I (by rw [hwg,hBG];exact bn _ _);have HBG:Hid (BG=w7.heap.size):=I hBG;have Dl:Hid (w6.heap.size<=w7.heap.size):=I (AR.o).size;rw [<-hwg,<-hBG];clear hwg hBG;have RG7:=I RG.o;refine ψ M (fun _=>HS.o _ GW6.o) ?_;try simp only [bT]
       refine bO 14 κ rfl ?_;intro K M;refine aY rfl ?_;try simp only [dD]
       refine b_ (.tmp 14) (.tmp 155) rfl rfl rfl RG7.o fO rfl rfl ?_;intro w8 r8 g8;have RG8:=I r8;have Vk:Hid (aK w6 w8):=I (aK.grown GW6.o g8 (fun q O=>by have:=bI O;have:=HBG.o;have:=Dl.o;omega));have EB:Hid (Sub (ov (dm c w w6) wd w7) (dm c w w8)):=I (sV Vk.o (fun a9 v9 YZ e9=>bV (GG.o.sub _ _ e9) g8 (by have:=eH w7 a9 e9;have:=HBG.o;omega)) (by have:=HW6.o;have:=(GD).size;omega));have OJ:=I (JR.o.mono EB.o);have IA:=I (gA.o.mono EB.o);clear r8 g8;refine ψ M (fun _=>(HS.o _ Vk.o)) ?_;try simp only [bT]
       refine bO 15 κ rfl ?_;intro K M;try simp only [dD]
       go_simp;refine ψ M (fun h=>absurd rfl h) ?_;try simp only [bT]
       refine bW κ ?_;have G8:=I (G6.o.trans Vk.o);have OG:=I (aF pQ.o Vk.o);have R48:=I (aF R46.o Vk.o);have pS:=I (aF cU.o Vk.o);have AS:=I (EN.o.mono (nV Vk.o));have A0c:Hid (Of Ty.wd (dm c w w8) (.agg #[U al x.aN.bg.length cl,J x.aN.aW,J x.aN.next,U ao x.aN.bG.length co,U (some ⟨bh,oh,none⟩) x.aI.length ch,U a9 n9 c9]) { x with bM:=x.bM.eraseIdx i }):=I (Of.qA (LQ.o.mono (JA HC.o)) (Il.o.mono (JA HC.o)) AS.o);clear HS EN;obtain⟨c0,c1,c2,c3,c4,c5⟩:=bF OG.o;obtain⟨m0,m1,m2,m3⟩:=aT pS.o;obtain⟨g0,g1,g2,g3,g4,g5,g6⟩:=bZ RG8.o;have z2:w.heap.size<w8:=(γ OG.o);have zM:BM<w8.heap.size:=(γ pS.o);have zG:BG<w8.heap.size:=(γ RG8.o);go_wp2_with fail
       refine(UQ (c:=dm c w w8) (x:={ x with bM:=x.bM.eraseIdx i }) (h:=gh) (k:=j) _ (sH HC.o G8.o) A0c.o OJ.o hjn hj3).mono ?_;rintro e9 w9x ⟨v9,rfl,pT,iE⟩;have pZ:Hid (w.heap.size+3<=w8.heap.size):=I (by have:=HW6.o;have:=Vk.o.size;omega);have OE:=I (pT.mono (sV iE (fun _ _ _ e=>e) pZ.o));have HY9:=I (IA.o.mono (nV iE));have J_:=I (aF OG.o iE);have p7:=I (aF R48.o iE);have G9:=I (G8.o.trans iE);obtain⟨p9,p_,qD,qS,qT,q_,an9,cn9,rfl⟩:=pT.dJ;clear pT iE c0 c1 c2 c3 c4 c5 m0 m1 m2 m3 g0 g1 g2 g3 g4 g5 g6 z2 zM zG;have rA:Hid (((x.bM.eraseIdx i).map dh).length*24+1000<=140737488355328):=I (by rw [List.length_map];have:=SL.o;omega);dsimp only at OE ⊢;generalize (x.aI.set j gh).length=nh at*;generalize (x.bM.eraseIdx i).length=nn at*;go_wp2_with (first|(refine aQ rfl (.tmp 2) (.tmp 161) rfl rfl rfl J_.o dN rfl rfl ?_))
       intro yt DK xg;have ML:=I DK;have A0d:=I (bJ p7.o xg iP);have lX:=I (G9.o.grown xg (fun q O=>by have:=bI O;omega));have rB:=I (OE.o.mono (mM xg V));have A0e:=I (HY9.o.mono (mM xg V));have rI:Hid (w.heap.size+3<=yt.heap.size):=I (by have:=xg.size;have:=(γ p7.o);omega);clear DK xg;obtain⟨c0,c1,c2,c3,c4,c5⟩:=bF ML.o;have z2:w.heap.size<yt:=(γ ML.o);have HNP:=I rB.o.ji.2.2;go_wp2_with fail
       refine(nJ (c:=dm c w yt) (l:=(x.bM.eraseIdx i).map dh) (ms:=gm) _ (sH HC.o lX.o) HNP.o (A0e.o.mono (sH HC.o lX.o)) SQ.o rA.o).mono ?_;rintro e11 yT ⟨v11,rfl,Ru,zY⟩;rw [iK] at Ru;obtain⟨a11,c11,rfl,-⟩:=id Ru;have Nk:=I (Ru.mono (sV zY (fun _ _ _ e=>e) rI.o));have Xp:=I (rB.o.mono (nV zY));have Xq:=I (aF ML.o zY);have Xr:=I (aF A0d.o zY);have OF:=I (lX.o.trans zY);clear Ru zY c0 c1 c2 c3 c4 c5 z2;generalize ((eu (x.bM.eraseIdx i) gm).map dh).length=ns at*;go_wp2_with (first|(refine bY rfl (.tmp 166) (.tmp 165) (v:=U a11 ns c11) (new:=#[U p9 x.aN.bg.length p_,J x.aN.aW,J x.aN.next,U qD x.aN.bG.length qS,U qT nh q_,U a11 ns c11]) rfl rfl ρ ρ Xq.o jS σ ρ ρ ?_))
       intro NY Vl Ew;have Nl:=I Vl;have Xt:=I (bJ Xr.o Ew iP);have zW:=I (OF.o.grown Ew (fun q O=>by have:=bI O;omega));have Xu:=I (Xp.o.mono (mM Ew V));have FZ:=I (Nk.o.mono (mM Ew V));clear Vl Ew;obtain⟨c0,c1,c2,c3,c4,c5⟩:=bF Nl.o;have z2:w.heap.size<NY:=(γ Nl.o);go_upto_region 29 with fail
       go_wp2_with (first|(refine aQ rfl (.tmp 4) (.tmp 167) rfl rfl rfl Xt.o dN rfl rfl ?_))
       intro w7 r7 g7;obtain⟨p0,p1,p2,p3,p4,p5⟩:=bF r7;clear c0 c1 c2 c3 c4 c5;go_wp2;refine dw (v:=.tuple #[.agg #[U p9 x.aN.bg.length p_,J x.aN.aW,J x.aN.next,U qD x.aN.bG.length qS,U qT nh q_,U a11 ns c11],J 0]) (by simp [results,Tryz.results16,go_sem,p0,p1,p2,p3,p4,p5]) rfl ?_;have G7:=zW.o.grown g7 (fun q O=>by simp at O;omega);rw [PX.o,lC.o];have hsub:Sub (dm c w NY) (ov c w w7):=(mM g7 V).trans (Rt _ _ _);obtain⟨q1,q2,-⟩:=Xu.o.ji;exact⟨_,rfl,Of.qA (q1.mono hsub) (q2.mono hsub) (FZ.o.mono hsub),G7⟩
      ·intro K M
       try simp only [dD]
       go_simp;obtain⟨wg,hwg⟩:=χ (wd.alloc (.cells #[(),J 0,J 0,J 0,J 0,(),()] 50));obtain⟨BG,hBG⟩:=χ wd.heap.size;have GG:Hid (aK wd wg):=I (by rw [hwg];exact(aG _).alloc _);have GW6:Hid (aK w6 wg):=I (aK.trans GD GG.o);have RG:Hid (wg.heap[BG]? =some (.cells #[(),J 0,J 0,J 0,J 0,(),()] 50 (0,0))):=I (by rw [hwg,hBG];exact bn _ _);have HBG:Hid (BG=wd.heap.size):=I hBG;have Dl:Hid (w6.heap.size<=wd.heap.size):=I (GD).size;rw [<-hwg,<-hBG];clear hwg hBG;refine ψ M (fun _=>HS.o _ GW6.o) ?_;try simp only [bT]
       refine bO 9 κ rfl ?_;intro K M;try simp only [dD]
       go_simp;go_at_call 53
       refine(Ub (c:=dm c w w6) (h:=hh) (m:=m) (me:=(j:Int)) _ ((sH HC.o G6.o).trans (aK.sub GW6.o)) (CI.o.mono (JA HC.o)) HM6.o yD.o (YW HRM.o) (τ Wh.o) (ku V V) HMD.o).mono ?_;rintro e7 w7 ⟨v7,y7,rfl,Dc,Ir,jQ⟩;have AR:=I (aK.trans GW6.o jQ);have GB7:=I jQ;obtain⟨al7,cl7,ar7,cr7,ad7,cd7,rfl⟩:=Dc.ig;obtain⟨ay7,cy7,rfl,-⟩:=id Ir;have JR:=I Dc;have gA:=I Ir;clear Dc Ir jQ;generalize dK hh m=gh at*;generalize dV hh (j:Int) m=gm at*;have RG7:=I (aF RG.o GB7.o);refine ψ M (fun _=>HS.o _ AR.o) ?_;try simp only [bT]
       refine qJ [10,11,12] 20 κ (fun _ _ _ _ _ h=>h) (HS.o _ AR.o) ?_;repeat (refine jY ?_;try simp only [bT])
       refine qK ?_;refine bO 14 κ rfl ?_;intro K M;refine aY rfl ?_;try simp only [dD]
       refine b_ (.tmp 14) (.tmp 155) rfl rfl rfl RG7.o fO rfl rfl ?_;intro w8 r8 g8;have RG8:=I r8;have Vk:Hid (aK w6 w8):=I (aK.grown AR.o g8 (fun q O=>by have:=bI O;have:=HBG.o;have:=Dl.o;omega));have EB:Hid (Sub (ov (dm c w w6) wg w7) (dm c w w8)):=I (sV Vk.o (fun a9 v9 YZ e9=>bV e9 g8 (τ (γ RG.o))) (by have:=HW6.o;have:=(GW6.o).size;omega));have OJ:=I (JR.o.mono EB.o);have IA:=I (gA.o.mono EB.o);clear r8 g8;refine ψ M (fun _=>(HS.o _ Vk.o)) ?_;try simp only [bT]
       refine bO 15 κ rfl ?_;intro K M;try simp only [dD]
       go_simp;refine ψ M (fun h=>absurd rfl h) ?_;try simp only [bT]
       refine bW κ ?_;have G8:=I (G6.o.trans Vk.o);have OG:=I (aF pQ.o Vk.o);have R48:=I (aF R46.o Vk.o);have pS:=I (aF cU.o Vk.o);have AS:=I (EN.o.mono (nV Vk.o));have A0c:Hid (Of Ty.wd (dm c w w8) (.agg #[U al x.aN.bg.length cl,J x.aN.aW,J x.aN.next,U ao x.aN.bG.length co,U (some ⟨bh,oh,none⟩) x.aI.length ch,U a9 n9 c9]) { x with bM:=x.bM.eraseIdx i }):=I (Of.qA (LQ.o.mono (JA HC.o)) (Il.o.mono (JA HC.o)) AS.o);clear HS EN;obtain⟨c0,c1,c2,c3,c4,c5⟩:=bF OG.o;obtain⟨m0,m1,m2,m3⟩:=aT pS.o;obtain⟨g0,g1,g2,g3,g4,g5,g6⟩:=bZ RG8.o;have z2:w.heap.size<w8:=(γ OG.o);have zM:BM<w8.heap.size:=(γ pS.o);have zG:BG<w8.heap.size:=(γ RG8.o);go_wp2_with fail
       refine(UQ (c:=dm c w w8) (x:={ x with bM:=x.bM.eraseIdx i }) (h:=gh) (k:=j) _ (sH HC.o G8.o) A0c.o OJ.o hjn hj3).mono ?_;rintro e9 w9x ⟨v9,rfl,pT,iE⟩;have pZ:Hid (w.heap.size+3<=w8.heap.size):=I (by have:=HW6.o;have:=Vk.o.size;omega);have OE:=I (pT.mono (sV iE (fun _ _ _ e=>e) pZ.o));have HY9:=I (IA.o.mono (nV iE));have J_:=I (aF OG.o iE);have p7:=I (aF R48.o iE);have G9:=I (G8.o.trans iE);obtain⟨p9,p_,qD,qS,qT,q_,an9,cn9,rfl⟩:=pT.dJ;clear pT iE c0 c1 c2 c3 c4 c5 m0 m1 m2 m3 g0 g1 g2 g3 g4 g5 g6 z2 zM zG;have rA:Hid (((x.bM.eraseIdx i).map dh).length*24+1000<=140737488355328):=I (by rw [List.length_map];have:=SL.o;omega);dsimp only at OE ⊢;generalize (x.aI.set j gh).length=nh at*;generalize (x.bM.eraseIdx i).length=nn at*;go_wp2_with (first|(refine aQ rfl (.tmp 2) (.tmp 161) rfl rfl rfl J_.o dN rfl rfl ?_))
       intro yt DK xg;have ML:=I DK;have A0d:=I (bJ p7.o xg iP);have lX:=I (G9.o.grown xg (fun q O=>by have:=bI O;omega));have rB:=I (OE.o.mono (mM xg V));have A0e:=I (HY9.o.mono (mM xg V));have rI:Hid (w.heap.size+3<=yt.heap.size):=I (by have:=xg.size;have:=(γ p7.o);omega);clear DK xg;obtain⟨c0,c1,c2,c3,c4,c5⟩:=bF ML.o;have z2:w.heap.size<yt:=(γ ML.o);have HNP:=I rB.o.ji.2.2;go_wp2_with fail
       refine(nJ (c:=dm c w yt) (l:=(x.bM.eraseIdx i).map dh) (ms:=gm) _ (sH HC.o lX.o) HNP.o (A0e.o.mono (sH HC.o lX.o)) SQ.o rA.o).mono ?_;rintro e11 yT ⟨v11,rfl,Ru,zY⟩;rw [iK] at Ru;obtain⟨a11,c11,rfl,-⟩:=id Ru;have Nk:=I (Ru.mono (sV zY (fun _ _ _ e=>e) rI.o));have Xp:=I (rB.o.mono (nV zY));have Xq:=I (aF ML.o zY);have Xr:=I (aF A0d.o zY);have OF:=I (lX.o.trans zY);clear Ru zY c0 c1 c2 c3 c4 c5 z2;generalize ((eu (x.bM.eraseIdx i) gm).map dh).length=ns at*;go_wp2_with (first|(refine bY rfl (.tmp 166) (.tmp 165) (v:=U a11 ns c11) (new:=#[U p9 x.aN.bg.length p_,J x.aN.aW,J x.aN.next,U qD x.aN.bG.length qS,U qT nh q_,U a11 ns c11]) rfl rfl ρ ρ Xq.o jS σ ρ ρ ?_))
       intro NY Vl Ew;have Nl:=I Vl;have Xt:=I (bJ Xr.o Ew iP);have zW:=I (OF.o.grown Ew (fun q O=>by have:=bI O;omega));have Xu:=I (Xp.o.mono (mM Ew V));have FZ:=I (Nk.o.mono (mM Ew V));clear Vl Ew;obtain⟨c0,c1,c2,c3,c4,c5⟩:=bF Nl.o;have z2:w.heap.size<NY:=(γ Nl.o);go_upto_region 29 with fail
       go_wp2_with (first|(refine aQ rfl (.tmp 4) (.tmp 167) rfl rfl rfl Xt.o dN rfl rfl ?_))
       intro w7 r7 g7;obtain⟨p0,p1,p2,p3,p4,p5⟩:=bF r7;clear c0 c1 c2 c3 c4 c5;go_wp2;refine dw (v:=.tuple #[.agg #[U p9 x.aN.bg.length p_,J x.aN.aW,J x.aN.next,U qD x.aN.bG.length qS,U qT nh q_,U a11 ns c11],J 0]) (by simp [results,Tryz.results16,go_sem,p0,p1,p2,p3,p4,p5]) rfl ?_;have G7:=zW.o.grown g7 (fun q O=>by simp at O;omega);rw [PX.o,lC.o];have hsub:Sub (dm c w NY) (ov c w w7):=(mM g7 V).trans (Rt _ _ _);obtain⟨q1,q2,-⟩:=Xu.o.ji;exact⟨_,rfl,Of.qA (q1.mono hsub) (q2.mono hsub) (FZ.o.mono hsub),G7⟩
    |false=>
     have HEC:=I (cT (w:={ x with bM:=x.bM.eraseIdx i }) HHJ.o HTF.o.symm);rw [HEC.o] at PX;as_aux_lemma=>
      have A1X:Hid (∀q∈iQ x.aN m,cZ q=0):=I (WI.says (yV.o.core.mE PZ.o).2.2);obtain⟨c0,c1,c2,c3,c4,c5⟩:=bF pQ.o;obtain⟨m0,m1,m2,m3⟩:=aT cU.o;have z2:w.heap.size<w6:=(γ pQ.o);have zM:BM<w6.heap.size:=(γ cU.o);go_wp2_with fail
      refine(Rj (c:=dm c w w6) (h:=x.aN) (m:=m) _ (sH HC.o G6.o) (LQ.o.mono (JA HC.o)) HM6.o NX.o).mono ?_;rintro e7 w7 ⟨v7,y7,rfl,Dc,Ir,jQ⟩;have JR:=I (Dc.mono (sV jQ (fun _ _ _ e=>e) HW6.o));have gA:=I (Ir.mono (sV jQ (fun _ _ _ e=>e) HW6.o));have AR:=I jQ;obtain⟨SS,SV,SX,SY,rfl⟩:=Dc.iw;obtain⟨ay8,cy8,rfl,-⟩:=id Ir;have R27:=I (aF pQ.o jQ);have R47:=I (aF R46.o jQ);have HN7:=I (EN.o.mono (nV jQ));have G7x:=I (G6.o.trans jQ);clear Dc Ir jQ c0 c1 c2 c3 c4 c5 m0 m1 m2 m3 z2 zM EN;generalize gQ x.aN m=qh at*;generalize iQ x.aN m=qm at*;go_upto_region 31 with fail
      obtain⟨w8,Df⟩:=χ (w7.alloc (.cells #[U SS qh.bg.length SV,J qh.aW,J qh.next,U SX qh.bG.length SY] 29));obtain⟨BH,IW⟩:=χ w7.heap.size;have G78:Hid (aK w7 w8):=I (by rw [Df];exact(aG _).alloc _);have RH8:Hid (w8.heap[BH]? =some (.cells #[U SS qh.bg.length SV,J qh.aW,J qh.next,U SX qh.bG.length SY] 29 (0,0))):=I (by rw [Df,IW];exact bn _ _);have Vj:Hid (BH≠w.heap.size):=I (τ (γ R27.o));rw [<-Df,<-IW];clear Df IW;have OG:=I (aF R27.o G78.o);have R48:=I (aF R47.o G78.o);have G8:=I (G7x.o.trans G78.o);have AS:=I (HN7.o.mono (nV G78.o));have OJ:=I (JR.o.mono (nV G78.o));have IA:=I (gA.o.mono (nV G78.o));have pZ:Hid (w.heap.size+3<=w8.heap.size):=I (by have:=HW6.o;have:=AR.o.size;have:=G78.o.size;omega);have HS:Hid (∀W,aK w8 W->W.cell? ⟨BH,0,none⟩=some (U SS qh.bg.length SV)/\W.cell? ⟨BH,1,none⟩=some (J qh.aW)/\W.cell? ⟨BH,2,none⟩=some (J qh.next)/\W.cell? ⟨BH,3,none⟩=some (U SX qh.bG.length SY)/\W.cell? ⟨w,5,none⟩=some (U a9 n9 c9)):=fun W hW=>by
       obtain⟨k0,k1,k2,k3⟩:=aT (aF RH8.o hW);obtain⟨-,-,-,-,-,j5⟩:=bF (aF OG.o hW);exact⟨k0,k1,k2,k3,j5⟩
      refine dH (fun w'=>w'.cell? ⟨BH,0,none⟩=some (U SS qh.bg.length SV)/\w'.cell? ⟨BH,1,none⟩=some (J qh.aW)/\w'.cell? ⟨BH,2,none⟩=some (J qh.next)/\w'.cell? ⟨BH,3,none⟩=some (U SX qh.bG.length SY)/\w'.cell? ⟨w,5,none⟩=some (U a9 n9 c9)) 8 κ ?_;obtain⟨wd,hWd⟩:=χ w8.drew;rw [<-hWd];have GD:aK w8 wd:=by rw [hWd];exact(aG _).drew
      have zD:w8.heap.size=wd.heap.size:=by rw [hWd];rfl
      have ZD:=I zD;clear hWd zD;refine qJ [0,1,2,3] 12 κ (fun _ _ _ _ _ h=>h) (HS.o _ GD) ?_;repeat (refine jY ?_;try simp only [bT])
      refine qK ?_;refine bP 4 5 κ rfl rfl ?_ ?_
      ·intro K M
       try simp only [dD]
       go_simp;go_at_call 51
       refine(nJ (c:=dm c w w8) (l:=(x.bM.eraseIdx i).map dh) (ms:=qm) _ ((sH HC.o G8.o).trans (aK.sub GD)) AS.o (IA.o.mono ((sH HC.o G8.o).trans (aK.sub GD))) A1X.o (by rw [List.length_map];have:=SL.o;omega)).mono ?_;rintro e10 yt ⟨v10,rfl,Rw,lQ⟩;rw [iK] at Rw;obtain⟨EL,EM,rfl,-⟩:=id Rw;have lX:=I (aK.trans GD lQ);have Rx:=I (Rw.mono (sV (w8:=yt) lX.o (fun _ _ _ e=>e) (by have:=pZ.o;have:=(GD).size;omega)));clear Rw lQ;generalize ((eu (x.bM.eraseIdx i) qm).map dh).length=ns at*;refine ψ M (fun _=>HS.o _ lX.o) ?_;try simp only [bT]
       refine bO 5 κ rfl ?_;intro K M;try simp only [dD]
       go_simp;refine ψ M (fun _=>HS.o _ lX.o) ?_;try simp only [bT]
       refine bO 6 κ rfl ?_;intro K M;refine aY rfl ?_;try simp only [dD]
       refine jF (.tmp 180) (.tmp 175) (p:=0) (cells:=#[U SS qh.bg.length SV,J qh.aW,J qh.next,U SX qh.bG.length SY]) (new:=#[U SS qh.bg.length SV,J qh.aW,J qh.next,U SX qh.bG.length SY,U ah x.aI.length ch,U a9 n9 c9]) rfl rfl ρ (aF OG.o lX.o) eY σ ρ ρ ?_;intro yT AT Np;have Xq:=I AT;have Xr:=I (bJ (aF R48.o lX.o) Np iP);have Nk:=I (Rx.o.mono (mM Np V));have Xp:=I ((OJ.o.mono (nV lX.o)).mono (mM Np V));have OF:=I ((G8.o.trans lX.o).grown Np (fun q O=>by have:=bI O;omega));have IX:Hid (yT.cell? ⟨BH,0,none⟩=some (U SS qh.bg.length SV)/\yT.cell? ⟨BH,1,none⟩=some (J qh.aW)/\yT.cell? ⟨BH,2,none⟩=some (J qh.next)/\yT.cell? ⟨BH,3,none⟩=some (U SX qh.bG.length SY)/\yT.cell? ⟨w,5,none⟩=some (U a9 n9 c9)):=I (by obtain⟨k0,k1,k2,k3,-⟩:=HS.o _ lX.o;obtain⟨-,-,-,-,-,j5⟩:=bF AT;have hne:BH≠w.heap.size:=Vj.o;exact⟨bV k0 Np hne,bV k1 Np hne,bV k2 Np hne,bV k3 Np hne,j5⟩);clear AT Np;refine ψ M (fun _=>IX.o) ?_;try simp only [bT]
       refine bO 7 κ rfl ?_;intro K M;try simp only [dD]
       go_simp;refine ψ M (fun _=>IX.o) ?_;try simp only [bT]
       refine bO 8 κ rfl ?_;intro K M;refine aY rfl ?_;try simp only [dD]
       refine dF (.tmp 181) (.tmp 179) (v:=U EL ns EM) (new:=#[U SS qh.bg.length SV,J qh.aW,J qh.next,U SX qh.bG.length SY,U ah x.aI.length ch,U EL ns EM]) rfl rfl ρ ρ Xq.o jS σ ρ ρ ?_;intro NY Vl Ew;have Nl:=I Vl;have Xt:=I (bJ Xr.o Ew iP);have FZ:=I (Nk.o.mono (mM Ew V));have Xu:=I (Xp.o.mono (mM Ew V));have zW:=I (OF.o.grown Ew (fun q O=>by have:=bI O;omega));clear Vl Ew;refine ψ M (fun h=>absurd rfl h) ?_;try simp only [bT]
       refine bW κ ?_;obtain⟨c0,c1,c2,c3,c4,c5⟩:=bF Nl.o;have z2:w.heap.size<NY:=(γ Nl.o);go_wp2_with (first|(refine aQ rfl (.tmp 4) (.tmp 262) rfl rfl rfl Xt.o dN rfl rfl ?_))
       intro w7y r7 g7;obtain⟨p0,p1,p2,p3,p4,p5⟩:=bF r7;clear c0 c1 c2 c3 c4 c5;go_wp2;refine dw (v:=.tuple #[.agg #[U SS qh.bg.length SV,J qh.aW,J qh.next,U SX qh.bG.length SY,U ah x.aI.length ch,U EL ns EM],J 0]) (by simp [results,Tryz.results16,go_sem,p0,p1,p2,p3,p4,p5]) rfl ?_;have G7:=zW.o.grown g7 (fun q O=>by simp at O;omega);rw [PX.o,lC.o];have hsub:Sub (dm c w NY) (ov c w w7y):=(mM g7 V).trans (Rt _ _ _);exact⟨_,rfl,Of.qA (Xu.o.mono hsub) (Il.o.mono (gG HC.o)) (FZ.o.mono hsub),G7⟩
      ·intro K M
       try simp only [dD]
       go_simp;refine ψ M (fun _=>HS.o _ GD) ?_;try simp only [bT]
       refine bO 4 κ rfl ?_;intro K M;try simp only [dD]
       go_simp;go_at_call 51
       refine(nJ (c:=dm c w w8) (l:=(x.bM.eraseIdx i).map dh) (ms:=qm) _ ((sH HC.o G8.o).trans (aK.sub GD)) AS.o (IA.o.mono ((sH HC.o G8.o).trans (aK.sub GD))) A1X.o (by rw [List.length_map];have:=SL.o;omega)).mono ?_;rintro e10 yt ⟨v10,rfl,Rw,lQ⟩;rw [iK] at Rw;obtain⟨EL,EM,rfl,-⟩:=id Rw;have lX:=I (aK.trans GD lQ);have Rx:=I (Rw.mono (sV (w8:=yt) lX.o (fun _ _ _ e=>e) (by have:=pZ.o;have:=(GD).size;omega)));clear Rw lQ;generalize ((eu (x.bM.eraseIdx i) qm).map dh).length=ns at*;refine ψ M (fun _=>HS.o _ lX.o) ?_;try simp only [bT]
       refine bO 6 κ rfl ?_;intro K M;refine aY rfl ?_;try simp only [dD]
       refine jF (.tmp 180) (.tmp 175) (p:=0) (cells:=#[U SS qh.bg.length SV,J qh.aW,J qh.next,U SX qh.bG.length SY]) (new:=#[U SS qh.bg.length SV,J qh.aW,J qh.next,U SX qh.bG.length SY,U ah x.aI.length ch,U a9 n9 c9]) rfl rfl ρ (aF OG.o lX.o) eY σ ρ ρ ?_;intro yT AT Np;have Xq:=I AT;have Xr:=I (bJ (aF R48.o lX.o) Np iP);have Nk:=I (Rx.o.mono (mM Np V));have Xp:=I ((OJ.o.mono (nV lX.o)).mono (mM Np V));have OF:=I ((G8.o.trans lX.o).grown Np (fun q O=>by have:=bI O;omega));have IX:Hid (yT.cell? ⟨BH,0,none⟩=some (U SS qh.bg.length SV)/\yT.cell? ⟨BH,1,none⟩=some (J qh.aW)/\yT.cell? ⟨BH,2,none⟩=some (J qh.next)/\yT.cell? ⟨BH,3,none⟩=some (U SX qh.bG.length SY)/\yT.cell? ⟨w,5,none⟩=some (U a9 n9 c9)):=I (by obtain⟨k0,k1,k2,k3,-⟩:=HS.o _ lX.o;obtain⟨-,-,-,-,-,j5⟩:=bF AT;have hne:BH≠w.heap.size:=Vj.o;exact⟨bV k0 Np hne,bV k1 Np hne,bV k2 Np hne,bV k3 Np hne,j5⟩);clear AT Np;refine ψ M (fun _=>IX.o) ?_;try simp only [bT]
       refine bO 7 κ rfl ?_;intro K M;try simp only [dD]
       go_simp;refine ψ M (fun _=>IX.o) ?_;try simp only [bT]
       refine bO 8 κ rfl ?_;intro K M;refine aY rfl ?_;try simp only [dD]
       refine dF (.tmp 181) (.tmp 179) (v:=U EL ns EM) (new:=#[U SS qh.bg.length SV,J qh.aW,J qh.next,U SX qh.bG.length SY,U ah x.aI.length ch,U EL ns EM]) rfl rfl ρ ρ Xq.o jS σ ρ ρ ?_;intro NY Vl Ew;have Nl:=I Vl;have Xt:=I (bJ Xr.o Ew iP);have FZ:=I (Nk.o.mono (mM Ew V));have Xu:=I (Xp.o.mono (mM Ew V));have zW:=I (OF.o.grown Ew (fun q O=>by have:=bI O;omega));clear Vl Ew;refine ψ M (fun h=>absurd rfl h) ?_;try simp only [bT]
       refine bW κ ?_;obtain⟨c0,c1,c2,c3,c4,c5⟩:=bF Nl.o;have z2:w.heap.size<NY:=(γ Nl.o);go_wp2_with (first|(refine aQ rfl (.tmp 4) (.tmp 262) rfl rfl rfl Xt.o dN rfl rfl ?_))
       intro w7y r7 g7;obtain⟨p0,p1,p2,p3,p4,p5⟩:=bF r7;clear c0 c1 c2 c3 c4 c5;go_wp2;refine dw (v:=.tuple #[.agg #[U SS qh.bg.length SV,J qh.aW,J qh.next,U SX qh.bG.length SY,U ah x.aI.length ch,U EL ns EM],J 0]) (by simp [results,Tryz.results16,go_sem,p0,p1,p2,p3,p4,p5]) rfl ?_;have G7:=zW.o.grown g7 (fun q O=>by simp at O;omega);rw [PX.o,lC.o];have hsub:Sub (dm c w NY) (ov c w w7y):=(mM g7 V).trans (Rt _ _ _);exact⟨_,rfl,Of.qA (Xu.o.mono hsub) (Il.o.mono (gG HC.o)) (FZ.o.mono hsub),G7⟩
  ·replace ht:there x sn=false:=by simpa using ht
   as_aux_lemma=>
    have hE:jZ x ⟨2,sn,sp⟩=x:=by unfold jZ;simp [ht]
    have CQ:eU x ⟨2,sn,sp⟩=6:=by unfold eU;simp [ht]
    have HE:=I hE;have lC:=I CQ;clear hE CQ;rw [ht];go_wp2_with (first|(refine aQ rfl (.tmp 4) (.tmp 72) rfl rfl rfl R4.o dN rfl rfl ?_))
    intro w7 r7 g7;obtain⟨p0,p1,p2,p3,p4,p5⟩:=bF r7;clear c0 c1 c2 c3 c4 c5;go_wp2;refine dw (v:=.tuple #[.agg #[U al x.aN.bg.length cl,J x.aN.aW,J x.aN.next,U ao x.aN.bG.length co,U ah x.aI.length ch,U an x.bM.length cn],J 6]) (by simp [results,Tryz.results16,go_sem,p0,p1,p2,p3,p4,p5]) rfl ?_;have G7:=G1.o.grown g7 (fun q O=>by simp at O;omega);rw [HE.o,lC.o];exact⟨_,rfl,HV.o.mono (gG HC.o),G7⟩
 by_cases k3:kd=3
 ·subst k3
  clear k1 k2;by_cases ht:there x sn=true
  ·as_aux_lemma=>
    have HT:=I ht;obtain⟨h0,N⟩:0<=sn/\sn<(x.bM.length:Int):=of_decide_eq_true HT.o;have lC:Hid (eU x ⟨3,sn,sp⟩=0):=I (by unfold eU;simp [ht]);have PX:Hid (jZ x ⟨3,sn,sp⟩={ x with bM:=x.bM.eraseIdx sn.toNat }):=I (by unfold jZ;simp [ht]);rw [ht];obtain⟨i,hi⟩:∃i:Nat,sn=(i:Int):=⟨sn.toNat,V⟩;have hil:i<x.bM.length:=by omega
    have hti:sn.toNat=i:=by omega
    have AM:=PS.o;obtain⟨an',cn',wG,hcc,-,-,hel⟩:=AM;simp only [Value.slice.injEq] at wG;obtain⟨rfl,-,rfl⟩:=wG;rw [List.length_map] at hcc;obtain⟨bb,o,u,rfl,ci,hbi⟩:=yS.at_ hel i (by simpa using hil);obtain⟨au,cu,rfl,-⟩:=id hbi;have FN:Hid ((x.bM.map dh)[i]'(by simpa using hil)=dh x.bM[i]):=I (by rw [List.getElem_map]);rw [FN.o] at hbi ci;have Jj:=I (fun(W:World) (hW:aK w W)=>pH W (hbi.mono (HC.o.trans hW.sub)));have OA:=I (Ei (yV.o.right _ (List.getElem_mem hil)));rw [OA.o] at Jj;have Nh:=I yV.o.len;have Py:Hid (yS c (U (some ⟨bb,o,none⟩) x.bM.length cn) (x.bM.map dh)):=I PS.o;rw [hti] at PX;have Gv:Hid (sn=(i:Int)):=I hi;replace ci:=(HC.o.trans G1.o.sub) _ _ ci;clear hel hbi ht HT OA FN;generalize x.bM[i]=m at*;have hi0:(0:Int)<=sn:=by omega
    have hi9:sn<(x.bM.length:Int):=by omega
    subst hi;go_upto_region 21 with fail
    clear c0 c1 c2 c3 c4 c5 d0 d1 d2 ci z2 z3;have hll:(x.bM.map dh).length=x.bM.length:=List.length_map _;have nK:=I (Py.o.take' i V);have pP:=I (Py.o.drop (i+1) V);have wY:=I (Ik x.bM i);have SL:Hid ((x.bM.eraseIdx i).length=i+(x.bM.length - (i+1))):=I (by rw [List.length_eraseIdx,bC hil];omega);have hii:IntKind.i64.wrap ((i:Int)+1)=(i:Int)+1:=IntWalk.i64_in _ (τ Nh.o);have hi2:(0:Int)<=(i:Int)+1:=by omega
    have hi3:(i:Int)+1<=(x.bM.length:Int):=by omega
    have hi4:((i:Int)+1).toNat=i+1:=by omega
    have hi5:(i:Int)<=(cn:Int):=by omega
    have hi7:(x.bM.length:Int)<=(cn:Int):=by omega
    have HS:Hid (∀W,aK wz W->W.cell? ⟨w,5,none⟩=some (U (some ⟨bb,o,none⟩) x.bM.length cn)/\W.cell? ⟨w+1,1,none⟩=some (J i)):=fun W hW=>by
     obtain⟨-,-,-,-,-,j5⟩:=bF (aF R2.o hW);obtain⟨-,f1,-⟩:=iI (aF R3.o hW);exact⟨j5,f1⟩
    go_cut [11] from 95 (fun s11 wc=>s11=U au (dh m).length cu/\∃a9 n9 c9,wc.heap[w.heap.size]? =some (.cells #[U al x.aN.bg.length cl,J x.aN.aW,J x.aN.next,U ao x.aN.bG.length co,U ah x.aI.length ch,U a9 n9 c9] 33 (0,0))/\wc.heap[w.heap.size+1]? =some (.cells #[J 3,J i,U ap sp.length cp] 25 (0,0))/\wc.heap[w.heap.size+2]? =some (.cells #[(),J 0,J 0,(),(),()] 33 (0,0))/\bK Ty.bs c wc (w.heap.size+3) 97 (U a9 n9 c9) ((x.bM.eraseIdx i).map dh)/\aK w wc)
    case first=>
     by_cases hcap:cn=i+1
     ·have HDR:Hid (Sl Ty.bs c (U (some ⟨bb,o,none⟩) 0 0) ((x.bM.map dh).drop (i+1))):=I (Sl.none' _ _ _ (List.drop_eq_nil_of_le V))
      obtain rfl:=hcap;have A2S:(i:Int)<=(i:Int)+1:=by omega
      refine dH (fun w'=>w'.cell? ⟨w,5,none⟩=some (U (some ⟨bb,o,none⟩) x.bM.length (i+1))/\w'.cell? ⟨w+1,1,none⟩=some (J i)) 15 κ ?_;obtain⟨wd,hWd⟩:=χ wz.drew;rw [<-hWd];have GD:aK wz wd:=by rw [hWd];exact(aG _).drew
      have zD:wz.heap.size=wd.heap.size:=by rw [hWd];rfl
      have ZD:=I zD;clear hWd zD;refine qJ [1,2,3,4,5,7,8,9,10,11,12] 20 κ (fun _ _ _ _ _ h=>h) (HS.o _ GD) ?_;repeat (refine jY ?_;try simp only [bT])
      refine qK ?_;refine bO 0 κ rfl ?_;intro K M;try simp only [dD]
      go_simp;obtain⟨w7,JQ⟩:=χ (wd.alloc (.cells #[] 97));have zN:Hid (bK Ty.bs c w7 (w.heap.size+3) 97 (U (some ⟨wd,0,none⟩) 0 0) []):=I (by rw [JQ];exact bK.mY Ty.bs _ _ _ _ (by have:=ZD.o;have:=HZ.o;omega) rfl);have pq:Hid (aK wz w7):=I (by rw [JQ];exact GD.alloc _);rw [<-JQ];clear JQ;refine ψ M (fun _=>HS.o _ pq.o) ?_;try simp only [bT]
      refine bO 6 κ rfl ?_;intro K M;refine aY rfl ?_;try simp only [dD]
      refine xK (c:=c) (base:=w.heap.size+3) (l:=[]) (m:=(x.bM.map dh).take i) (k:=(x.bM.map dh).take i) (v:=U (some ⟨wd,0,none⟩) 0 0) oq rfl (lW Ty.byte) ε (.tmp 95) (.tmp 100) rfl (List.nil_append _) rfl zN.o rfl (Src.kK ε (HC.o.trans (G1.o.trans pq.o).sub) nK.o) (by have:=Nh.o;rw [List.length_take];simp;omega) (by have:=pq.o.size;have:=HZ.o;omega) ?_;intro a8 n8 c8 w8 AK nT yK lD;have t_:=I nT;have vZ:=I (dI (w0:=wz) pq.o yK (fun q O=>by have:=(zN.o.lt q O).1;have:=HZ.o;omega));clear AK nT yK lD;refine ψ M (fun _=>HS.o _ vZ.o) ?_;try simp only [bT]
      refine bO 13 κ rfl ?_;intro K M;refine aY rfl ?_;try simp only [dD]
      refine xK (c:=c) (base:=w.heap.size+3) (l:=(x.bM.map dh).take i) (m:=(x.bM.map dh).drop (i+1)) (k:=(x.bM.eraseIdx i).map dh) (v:=U a8 n8 c8) oq rfl (lW Ty.byte) ε (.tmp 101) (.tmp 107) rfl wY.o rfl t_.o rfl (Src.kK ε (HC.o.trans (G1.o.trans vZ.o).sub) ?Xo) (by have:=Nh.o;rw [List.length_take,List.length_drop,List.length_map];omega) (by have:=vZ.o.size;have:=HZ.o;omega) ?_
      case Xo=>exact HDR.o
      intro a9 n9 c9 w9 H5 gX fV iE;have jE:=I gX;have kR:=I (dI (w0:=wz) vZ.o fV (fun q O=>by have:=(t_.o.lt q O).1;have:=HZ.o;omega));clear H5 gX fV iE;refine ψ M (fun _=>HS.o _ kR.o) ?_;try simp only [bT]
      refine bO 14 κ rfl ?_;intro K M;try simp only [dD]
      go_simp;refine ψ M (fun _=>HS.o _ kR.o) ?_;try simp only [bT]
      refine bO 15 κ rfl ?_;intro K M;refine aY rfl ?_;try simp only [dD]
      refine dF (.tmp 109) (.tmp 108) (v:=U a9 n9 c9) (new:=#[U al x.aN.bg.length cl,J x.aN.aW,J x.aN.next,U ao x.aN.bG.length co,U ah x.aI.length ch,U a9 n9 c9]) rfl rfl ρ ρ (aF R2.o kR.o) jS σ ρ ρ ?_;intro w5 r5 g5;refine ψ M (fun h=>absurd rfl h) ?_;try simp only [bT]
      refine bW κ ?_;go_wp2;go_meet
      case rel=>exact⟨rfl,a9,n9,c9,r5,bJ (aF R3.o kR.o) g5 iP,bJ (aF R4.o kR.o) g5 iP,jE.o.kept g5 (eF jE.o V),(G1.o.trans kR.o).grown g5 (fun q O=>by simp at O;omega)⟩
     ·have HDR:Hid (Sl Ty.bs c (U (some ⟨bb,o+(i+1),none⟩) (x.bM.length - (i+1)) (cn - (i+1))) ((x.bM.map dh).drop (i+1))):=I (by simpa [show Ty.bs.size=1 from rfl] using pP.o)
      refine dH (fun w'=>w'.cell? ⟨w,5,none⟩=some (U (some ⟨bb,o,none⟩) x.bM.length cn)/\w'.cell? ⟨w+1,1,none⟩=some (J i)) 15 κ ?_;obtain⟨wd,hWd⟩:=χ wz.drew;rw [<-hWd];have GD:aK wz wd:=by rw [hWd];exact(aG _).drew
      have zD:wz.heap.size=wd.heap.size:=by rw [hWd];rfl
      have ZD:=I zD;clear hWd zD;refine qJ [1,2,3,4,5,7,8,9,10,11,12] 20 κ (fun _ _ _ _ _ h=>h) (HS.o _ GD) ?_;repeat (refine jY ?_;try simp only [bT])
      refine qK ?_;refine bO 0 κ rfl ?_;intro K M;try simp only [dD]
      go_simp;obtain⟨w7,JQ⟩:=χ (wd.alloc (.cells #[] 97));have zN:Hid (bK Ty.bs c w7 (w.heap.size+3) 97 (U (some ⟨wd,0,none⟩) 0 0) []):=I (by rw [JQ];exact bK.mY Ty.bs _ _ _ _ (by have:=ZD.o;have:=HZ.o;omega) rfl);have pq:Hid (aK wz w7):=I (by rw [JQ];exact GD.alloc _);rw [<-JQ];clear JQ;refine ψ M (fun _=>HS.o _ pq.o) ?_;try simp only [bT]
      refine bO 6 κ rfl ?_;intro K M;refine aY rfl ?_;try simp only [dD]
      refine xK (c:=c) (base:=w.heap.size+3) (l:=[]) (m:=(x.bM.map dh).take i) (k:=(x.bM.map dh).take i) (v:=U (some ⟨wd,0,none⟩) 0 0) oq rfl (lW Ty.byte) ε (.tmp 95) (.tmp 100) rfl (List.nil_append _) rfl zN.o rfl (Src.kK ε (HC.o.trans (G1.o.trans pq.o).sub) nK.o) (by have:=Nh.o;rw [List.length_take];simp;omega) (by have:=pq.o.size;have:=HZ.o;omega) ?_;intro a8 n8 c8 w8 AK nT yK lD;have t_:=I nT;have vZ:=I (dI (w0:=wz) pq.o yK (fun q O=>by have:=(zN.o.lt q O).1;have:=HZ.o;omega));clear AK nT yK lD;refine ψ M (fun _=>HS.o _ vZ.o) ?_;try simp only [bT]
      refine bO 13 κ rfl ?_;intro K M;refine aY rfl ?_;try simp only [dD]
      refine xK (c:=c) (base:=w.heap.size+3) (l:=(x.bM.map dh).take i) (m:=(x.bM.map dh).drop (i+1)) (k:=(x.bM.eraseIdx i).map dh) (v:=U a8 n8 c8) oq rfl (lW Ty.byte) ε (.tmp 101) (.tmp 107) rfl wY.o rfl t_.o rfl (Src.kK ε (HC.o.trans (G1.o.trans vZ.o).sub) ?Xo) (by have:=Nh.o;rw [List.length_take,List.length_drop,List.length_map];omega) (by have:=vZ.o.size;have:=HZ.o;omega) ?_
      case Xo=>exact HDR.o
      intro a9 n9 c9 w9 H5 gX fV iE;have jE:=I gX;have kR:=I (dI (w0:=wz) vZ.o fV (fun q O=>by have:=(t_.o.lt q O).1;have:=HZ.o;omega));clear H5 gX fV iE;refine ψ M (fun _=>HS.o _ kR.o) ?_;try simp only [bT]
      refine bO 14 κ rfl ?_;intro K M;try simp only [dD]
      go_simp;refine ψ M (fun _=>HS.o _ kR.o) ?_;try simp only [bT]
      refine bO 15 κ rfl ?_;intro K M;refine aY rfl ?_;try simp only [dD]
      refine dF (.tmp 109) (.tmp 108) (v:=U a9 n9 c9) (new:=#[U al x.aN.bg.length cl,J x.aN.aW,J x.aN.next,U ao x.aN.bG.length co,U ah x.aI.length ch,U a9 n9 c9]) rfl rfl ρ ρ (aF R2.o kR.o) jS σ ρ ρ ?_;intro w5 r5 g5;refine ψ M (fun h=>absurd rfl h) ?_;try simp only [bT]
      refine bW κ ?_;go_wp2;go_meet
      case rel=>exact⟨rfl,a9,n9,c9,r5,bJ (aF R3.o kR.o) g5 iP,bJ (aF R4.o kR.o) g5 iP,jE.o.kept g5 (eF jE.o V),(G1.o.trans kR.o).grown g5 (fun q O=>by simp at O;omega)⟩
    case rest=>
    obtain⟨rfl,a9,n9,c9,r9,r3,r4,gX,hgw⟩:=hcut;have J_:=I r9;have UV:=I r3;have R49:=I r4;have jE:=I gX;have FF:=I hgw;obtain⟨w9,rfl⟩:=χ wc;clear r9 r3 r4 gX hgw HS nK pP hii hi2 hi3 hi4 hi5 hi7;go_wp2_with fail
    refine(Jj.o _ FF.o).mono ?_;rintro e w5 ⟨v5,rfl,Nj,iY⟩;obtain⟨ap5,cp5,rfl⟩:=Nj.ny;have R25:=I (aF J_.o iY);have R35:=I (aF UV.o iY);have OI:=I (aF R49.o iY);have oQ:=I (jE.o.grow iY);have G5:=I (FF.o.trans iY);clear Nj iY;obtain⟨c0,c1,c2,c3,c4,c5⟩:=bF R25.o;obtain⟨d0,d1,d2⟩:=iI R35.o;have z2:w.heap.size<w5:=(γ R25.o);have z3:w.heap.size+1<w5:=(γ R35.o);go_upto_region 23 with fail
    obtain⟨w6,sF⟩:=χ (w5.alloc (.cells #[J m.aX,J m.aJ,J m.aU,U ap5 m.aH.length cp5] 85));have tK:Hid (aK w5 w6):=I (by rw [sF];exact(aG _).alloc _);rw [<-sF];clear sF c0 c1 c2 c3 c4 c5 d0 d1 d2 z2 z3;have pQ:=I (aF R25.o tK.o);have R36:=I (aF R35.o tK.o);have R46:=I (aF OI.o tK.o);have Gm:=I (oQ.o.grow tK.o);have G6:=I (G5.o.trans tK.o);obtain⟨c0,c1,c2,c3,c4,c5⟩:=bF pQ.o;obtain⟨d0,d1,d2⟩:=iI R36.o;have z2:w.heap.size<w6:=(γ pQ.o);have z3:w.heap.size+1<w6:=(γ R36.o);go_upto_region 24 with fail
    go_wp2_with (first|(refine aQ rfl (.tmp 4) (.tmp 130) rfl rfl rfl R46.o dN rfl rfl ?_))
    intro w7 r7 g7;obtain⟨p0,p1,p2,p3,p4,p5⟩:=bF r7;clear c0 c1 c2 c3 c4 c5;go_wp2;refine dw (v:=.tuple #[.agg #[U al x.aN.bg.length cl,J x.aN.aW,J x.aN.next,U ao x.aN.bG.length co,U ah x.aI.length ch,U a9 n9 c9],J 0]) (by simp [results,Tryz.results16,go_sem,p0,p1,p2,p3,p4,p5]) rfl ?_;have G7:=G6.o.grown g7 (fun q O=>by simp at O;omega);rw [PX.o,lC.o];refine⟨_,rfl,Of.qA (LQ.o.mono (gG HC.o)) (Il.o.mono (gG HC.o)) ?_,G7⟩;have h9:=(Gm.o.kept g7 (eF Gm.o V)).slc ε (gG HC.o) fun a ha=>dY V;exact h9
  ·replace ht:there x sn=false:=by simpa using ht
   as_aux_lemma=>
    have hE:jZ x ⟨3,sn,sp⟩=x:=by unfold jZ;simp [ht]
    have CQ:eU x ⟨3,sn,sp⟩=6:=by unfold eU;simp [ht]
    have HE:=I hE;have lC:=I CQ;clear hE CQ;rw [ht];go_wp2_with (first|(refine aQ rfl (.tmp 4) (.tmp 72) rfl rfl rfl R4.o dN rfl rfl ?_))
    intro w7 r7 g7;obtain⟨p0,p1,p2,p3,p4,p5⟩:=bF r7;clear c0 c1 c2 c3 c4 c5;go_wp2;refine dw (v:=.tuple #[.agg #[U al x.aN.bg.length cl,J x.aN.aW,J x.aN.next,U ao x.aN.bG.length co,U ah x.aI.length ch,U an x.bM.length cn],J 6]) (by simp [results,Tryz.results16,go_sem,p0,p1,p2,p3,p4,p5]) rfl ?_;have G7:=G1.o.grown g7 (fun q O=>by simp at O;omega);rw [HE.o,lC.o];exact⟨_,rfl,HV.o.mono (gG HC.o),G7⟩
 by_cases k4:kd=4
 ·subst k4
  clear k1 k2 k3;by_cases ht:there x sn=true
  ·as_aux_lemma=>
    have HT:=I ht;obtain⟨h0,N⟩:0<=sn/\sn<(x.bM.length:Int):=of_decide_eq_true HT.o;have lC:Hid (eU x ⟨4,sn,sp⟩=0):=I (by unfold eU;simp [ht]);have PX:Hid (jZ x ⟨4,sn,sp⟩=if x.bM.length<24 then { x with bM:=x.bM++ [x.bM.getD sn.toNat ⟨0,0,0,[]⟩] } else x):=I (by unfold jZ;simp [ht]);rw [ht];obtain⟨i,hi⟩:∃i:Nat,sn=(i:Int):=⟨sn.toNat,V⟩;have hil:i<x.bM.length:=by omega
    have hti:sn.toNat=i:=by omega
    obtain⟨an',cn',wG,-,-,-,hel⟩:=PS.o;simp only [Value.slice.injEq] at wG;obtain⟨rfl,-,rfl⟩:=wG;obtain⟨bb,o,u,rfl,ci,hbi⟩:=yS.at_ hel i (by simpa using hil);obtain⟨au,cu,rfl,-⟩:=id hbi;have HBI:=I hbi;have HCI:=I ci;have FN:Hid ((x.bM.map dh)[i]'(by simpa using hil)=dh (x.bM.getD sn.toNat ⟨0,0,0,[]⟩)):=I (by rw [hti,List.getD_eq_getElem?_getD,dM hil,List.getElem_map];rfl);have Nh:=I yV.o.len;replace ci:=(HC.o.trans G1.o.sub) _ _ ci;clear hel hbi ht HT;rw [FN.o] at HBI ci HCI;clear FN;generalize x.bM.getD sn.toNat ⟨0,0,0,[]⟩=m at*;by_cases zP:x.bM.length<24
    ·have HE:=I PX.o
     rw [bC zP] at HE;have A2V:(x.bM.length:Int)<24:=by omega
     have hi0:(0:Int)<=sn:=by omega
     have hi9:sn<(x.bM.length:Int):=by omega
     clear PX;go_wp2_with (first|(at_builtin;refine cO (c:=c) (base:=w.heap.size+3) (l:=[]) (m:=x.bM.map dh) (v:=U (some ⟨wz,0,none⟩) 0 0) oq rfl (lW Ty.byte) ε rfl (.tmp 86) (.tmp 88) rfl rfl (bK.mY Ty.bs _ _ _ _ ?c1 ?c1') rfl ?src ?c3 ?c4 ?_))
     case c1=>rw [HZ.o];exact Nat.le_refl _
     case c1'=>rfl
     case src=>exact Src.kK ε (HC.o.trans (G1.o.alloc _).sub) PS.o
     case c3=>(try simp);omega
     case c4=>have:=HZ.o;(try simp);omega
     intro a8 c8 w8 nT yK lD;try simp only [List.length_nil,Nat.zero_add,List.nil_append] at nT
     try simp only [List.length_nil,Nat.zero_add]
     have t_:=I nT;have G8:=I (dI (w0:=wz) ((aG wz).alloc _) yK (iM (Nat.le_refl _)));clear nT yK lD c0 c1 c2 c3 c4 c5 d0 d1 d2 ci z2 z3;go_wp2_with (first|(at_builtin;refine cO (c:=c) (base:=w.heap.size+3) (l:=x.bM.map dh) (m:=[dh m]) oq rfl (lW Ty.byte) ε rfl (.tmp 89) (.tmp 91) rfl rfl (t_.o.grow ((aG _).alloc _)) rfl (Src.dU (T:=Ty.bs) (x:=dh m) (cs:=#[U au (dh m).length cu]) ⟨_,rfl,HBI.o⟩ _ _ ?d1) ?d2 ?d3 ?_))
     case d1=>first|rfl|simp
     case d2=>(try simp);omega
     case d3=>have:=G8.o.size;have:=HZ.o;(try simp);omega
     intro a9 c9 w9 gX fV iE;have G9:=I (dI (w0:=wz) (G8.o.alloc _) fV (fun q O=>by have:=(t_.o.lt q O).1;have:=HZ.o;omega));have jE:=I gX;have J_:=I (aF R2.o G9.o);have R49:=I (aF R4.o G9.o);clear gX fV iE;try simp only [List.length_map,List.length_singleton]
     go_wp2_with (first|(refine bY rfl (.tmp 93) (.tmp 92) (v:=U a9 (x.bM.length+1) c9) (new:=#[U al x.aN.bg.length cl,J x.aN.aW,J x.aN.next,U ao x.aN.bG.length co,U ah x.aI.length ch,U a9 (x.bM.length+1) c9]) rfl rfl ρ ρ J_.o jS σ ρ ρ ?_))
     intro w5 r5 g5;have PY:=I r5;have OI:=I (bJ R49.o g5 iP);have G5:=I ((G1.o.trans G9.o).grown g5 (fun q O=>by simp at O;omega));have oQ:=I (jE.o.kept g5 (eF jE.o V));clear r5 g5;obtain⟨c0,c1,c2,c3,c4,c5⟩:=bF PY.o;have z2:w.heap.size<w5:=(γ PY.o);go_wp2_with (first|(refine aQ rfl (.tmp 4) (.tmp 94) rfl rfl rfl OI.o dN rfl rfl ?_))
     intro w7 r7 g7;obtain⟨p0,p1,p2,p3,p4,p5⟩:=bF r7;clear c0 c1 c2 c3 c4 c5;go_wp2;refine dw (v:=.tuple #[.agg #[U al x.aN.bg.length cl,J x.aN.aW,J x.aN.next,U ao x.aN.bG.length co,U ah x.aI.length ch,U a9 (x.bM.length+1) c9],J 0]) (by simp [results,Tryz.results16,go_sem,p0,p1,p2,p3,p4,p5]) rfl ?_;have G7:=G5.o.grown g7 (fun q O=>by simp at O;omega);rw [HE.o,lC.o];refine⟨_,rfl,Of.qA (LQ.o.mono (gG HC.o)) (Il.o.mono (gG HC.o)) ?_,G7⟩;have h9:=(oQ.o.kept g7 (eF oQ.o V)).slc ε (gG HC.o) fun a ha=>dY V;rw [List.map_append];simpa using h9
    ·have HE:=I PX.o
     rw [aV zP] at HE;have A2V:¬(x.bM.length:Int)<24:=by omega
     have hi0:(0:Int)<=sn:=by omega
     have hi9:sn<(x.bM.length:Int):=by omega
     clear PX;go_wp2_with (first|(refine aQ rfl (.tmp 4) (.tmp 94) rfl rfl rfl R4.o dN rfl rfl ?_))
     intro w7 r7 g7;obtain⟨p0,p1,p2,p3,p4,p5⟩:=bF r7;clear c0 c1 c2 c3 c4 c5;go_wp2;refine dw (v:=.tuple #[.agg #[U al x.aN.bg.length cl,J x.aN.aW,J x.aN.next,U ao x.aN.bG.length co,U ah x.aI.length ch,U (some ⟨bb,o,none⟩) x.bM.length cn],J 0]) (by simp [results,Tryz.results16,go_sem,p0,p1,p2,p3,p4,p5]) rfl ?_;have G7:=G1.o.grown g7 (fun q O=>by simp at O;omega);rw [HE.o,lC.o];exact⟨_,rfl,HV.o.mono (gG HC.o),G7⟩
  ·replace ht:there x sn=false:=by simpa using ht
   as_aux_lemma=>
    have hE:jZ x ⟨4,sn,sp⟩=x:=by unfold jZ;simp [ht]
    have CQ:eU x ⟨4,sn,sp⟩=6:=by unfold eU;simp [ht]
    have HE:=I hE;have lC:=I CQ;clear hE CQ;rw [ht];go_wp2_with (first|(refine aQ rfl (.tmp 4) (.tmp 72) rfl rfl rfl R4.o dN rfl rfl ?_))
    intro w7 r7 g7;obtain⟨p0,p1,p2,p3,p4,p5⟩:=bF r7;clear c0 c1 c2 c3 c4 c5;go_wp2;refine dw (v:=.tuple #[.agg #[U al x.aN.bg.length cl,J x.aN.aW,J x.aN.next,U ao x.aN.bG.length co,U ah x.aI.length ch,U an x.bM.length cn],J 6]) (by simp [results,Tryz.results16,go_sem,p0,p1,p2,p3,p4,p5]) rfl ?_;have G7:=G1.o.grown g7 (fun q O=>by simp at O;omega);rw [HE.o,lC.o];exact⟨_,rfl,HV.o.mono (gG HC.o),G7⟩
 by_cases k5:kd=5
 ·subst k5
  clear k1 k2 k3 k4;by_cases h3:sn=3
  ·as_aux_lemma=>
    have H3:=I h3;clear h3;have hE:jZ x ⟨5,sn,sp⟩={ x with aN:=lV x.aN }:=by unfold jZ;simp [H3.o]
    have CQ:eU x ⟨5,sn,sp⟩=uH x.aN:=by unfold eU;simp [H3.o]
    have HE:=I hE;have lC:=I CQ;have ID:(sn==3)=true:=by simp [H3.o]
    clear hE CQ H3;go_wp2_with fail
    refine(nB (c:=c) wz (HC.o.trans G1.o.sub) LQ.o NX.o).mono ?_;rintro e w1 ⟨v1,rfl,Gs,dZ⟩;obtain⟨iC,iD,lY,lZ,rfl⟩:=Gs.iw;have Kq:=I Gs;have SN:=I (aF R2.o dZ);have H4:=I (aF R4.o dZ);have fY:=I dZ;clear Gs dZ c0 c1 c2 c3 c4 c5 d0 d1 d2 z2 z3;generalize YQ:lV x.aN=qh at*;generalize hqe:uH x.aN=qe at*;clear YQ hqe;go_upto_region 35 with fail
    obtain⟨w2,rH⟩:=χ (w1.alloc (.cells #[U iC qh.bg.length iD,J qh.aW,J qh.next,U lY qh.bG.length lZ] 29));obtain⟨BH,IW⟩:=χ w1.heap.size;have zW:Hid (aK w1 w2):=I (by rw [rH];exact(aG _).alloc _);have RH:Hid (w2.heap[BH]? =some (.cells #[U iC qh.bg.length iD,J qh.aW,J qh.next,U lY qh.bG.length lZ] 29 (0,0))):=I (by rw [rH,IW];exact bn _ _);rw [<-rH,<-IW];clear rH IW;have Gu:=I (aF SN.o zW.o);have pL:=I (aF H4.o zW.o);have EK:=I (G1.o.trans (fY.o.trans zW.o));obtain⟨k0,k1,k2,k3⟩:=aT RH.o;have zh:BH<w2.heap.size:=(γ RH.o);go_wp2_with (first|(refine xH rfl (.tmp 194) (.tmp 193) (p:=0) (cells:=#[U iC qh.bg.length iD,J qh.aW,J qh.next,U lY qh.bG.length lZ]) (new:=#[U iC qh.bg.length iD,J qh.aW,J qh.next,U lY qh.bG.length lZ,U ah x.aI.length ch,U an x.bM.length cn]) rfl rfl ρ Gu.o eY σ ρ ρ ?_))
    intro w4 r4 g4;have V9:=I r4;have Ed:=I g4;have OI:=I (bJ pL.o g4 iP);have G5:=I (EK.o.grown g4 (fun q O=>by simp at O;omega));clear r4 g4 k0 k1 k2 k3 zh;obtain⟨c0,c1,c2,c3,c4,c5⟩:=bF V9.o;have z2:w.heap.size<w4:=(γ V9.o);go_wp2_with (first|(refine aQ rfl (.tmp 4) (.tmp 195) rfl rfl rfl OI.o dN rfl rfl ?_))
    intro w7 r7 g7;obtain⟨p0,p1,p2,p3,p4,p5⟩:=bF r7;clear c0 c1 c2 c3 c4 c5;go_wp2;refine dw (v:=.tuple #[.agg #[U iC qh.bg.length iD,J qh.aW,J qh.next,U lY qh.bG.length lZ,U ah x.aI.length ch,U an x.bM.length cn],J qe]) (by simp [results,Tryz.results16,go_sem,p0,p1,p2,p3,p4,p5]) rfl ?_;have G7:=G5.o.grown g7 (fun q O=>by simp at O;omega);rw [HE.o,lC.o];refine⟨_,rfl,Of.qA ?_ (Il.o.mono (gG HC.o)) (PS.o.mono (gG HC.o)),G7⟩;refine Kq.o.mono fun a u e=>?_;have e1:=zx (Sub.refl _) zW.o a u e;have e4:=iG (w:=w) Ed.o (Nat.le_refl _) (τ HZ.o) a u e1;have e7:=iG (w:=w) g7 V (τ HZ.o) a u e4;exact qY HC.o G1.o a u e7
  ·as_aux_lemma=>
    have hE:jZ x ⟨5,sn,sp⟩=x:=by unfold jZ;simp [h3]
    have HE:=I hE;have ID:(sn==3)=false:=by simp [h3]
    by_cases hl:sn<0
    ·have lC:Hid (eU x ⟨5,sn,sp⟩=6):=I (by unfold eU uJ;simp [h3];omega)
     clear hE h3;go_wp2_with (first|(refine aQ rfl (.tmp 4) (.tmp 208) rfl rfl rfl R4.o dN rfl rfl ?_))
     intro w7 r7 g7;obtain⟨p0,p1,p2,p3,p4,p5⟩:=bF r7;clear c0 c1 c2 c3 c4 c5;go_wp2;refine dw (v:=.tuple #[.agg #[U al x.aN.bg.length cl,J x.aN.aW,J x.aN.next,U ao x.aN.bG.length co,U ah x.aI.length ch,U an x.bM.length cn],J 6]) (by simp [results,Tryz.results16,go_sem,p0,p1,p2,p3,p4,p5]) rfl ?_;have G7:=G1.o.grown g7 (fun q O=>by simp at O;omega);rw [HE.o,lC.o];exact⟨_,rfl,HV.o.mono (gG HC.o),G7⟩
    by_cases hg:(x.aI.length:Int)<=sn
    ·have lC:Hid (eU x ⟨5,sn,sp⟩=6):=I (by unfold eU uJ;simp [h3];omega)
     clear hE h3;go_wp2_with (first|(refine aQ rfl (.tmp 4) (.tmp 208) rfl rfl rfl R4.o dN rfl rfl ?_))
     intro w7 r7 g7;obtain⟨p0,p1,p2,p3,p4,p5⟩:=bF r7;clear c0 c1 c2 c3 c4 c5;go_wp2;refine dw (v:=.tuple #[.agg #[U al x.aN.bg.length cl,J x.aN.aW,J x.aN.next,U ao x.aN.bG.length co,U ah x.aI.length ch,U an x.bM.length cn],J 6]) (by simp [results,Tryz.results16,go_sem,p0,p1,p2,p3,p4,p5]) rfl ?_;have G7:=G1.o.grown g7 (fun q O=>by simp at O;omega);rw [HE.o,lC.o];exact⟨_,rfl,HV.o.mono (gG HC.o),G7⟩
    have lC:Hid (eU x ⟨5,sn,sp⟩=0):=I (by unfold eU uJ;simp [h3];omega);clear hE h3;go_wp2_with (first|(refine aQ rfl (.tmp 4) (.tmp 262) rfl rfl rfl R4.o dN rfl rfl ?_))
    intro w7 r7 g7;obtain⟨p0,p1,p2,p3,p4,p5⟩:=bF r7;clear c0 c1 c2 c3 c4 c5;go_wp2;refine dw (v:=.tuple #[.agg #[U al x.aN.bg.length cl,J x.aN.aW,J x.aN.next,U ao x.aN.bG.length co,U ah x.aI.length ch,U an x.bM.length cn],J 0]) (by simp [results,Tryz.results16,go_sem,p0,p1,p2,p3,p4,p5]) rfl ?_;have G7:=G1.o.grown g7 (fun q O=>by simp at O;omega);rw [HE.o,lC.o];exact⟨_,rfl,HV.o.mono (gG HC.o),G7⟩
 by_cases k6:kd=6
 ·subst k6
  clear k1 k2 k3 k4 k5;by_cases h3:sn=3
  ·as_aux_lemma=>
    have H3:=I h3;clear h3;have HE:Hid (jZ x ⟨6,sn,sp⟩={ x with bM:=eu x.bM (qO x.aN) }):=I (by unfold jZ jy;simp [H3.o]);have lC:Hid (eU x ⟨6,sn,sp⟩=0):=I (by unfold eU;simp [H3.o]);have ID:(sn==3)=true:=by simp [H3.o]
    have HU:Hid (∀m∈qO x.aN,cZ m=0):=I (WI.says (Mc yV.o.core));have Nh:=I yV.o.len;clear H3;go_upto_region 41 with fail
    have HS:Hid (∀W,aK wz W->W.cell? ⟨w,0,none⟩=some (U al x.aN.bg.length cl)/\W.cell? ⟨w,1,none⟩=some (J x.aN.aW)/\W.cell? ⟨w,2,none⟩=some (J x.aN.next)/\W.cell? ⟨w,3,none⟩=some (U ao x.aN.bG.length co)/\W.cell? ⟨w,5,none⟩=some (U an x.bM.length cn)):=fun W hW=>by
     obtain⟨j0,j1,j2,j3,-,j5⟩:=bF (aF R2.o hW);exact⟨j0,j1,j2,j3,j5⟩
    clear c0 c1 c2 c3 c4 c5 d0 d1 d2 z2 z3;refine dH (fun w'=>w'.cell? ⟨w,0,none⟩=some (U al x.aN.bg.length cl)/\w'.cell? ⟨w,1,none⟩=some (J x.aN.aW)/\w'.cell? ⟨w,2,none⟩=some (J x.aN.next)/\w'.cell? ⟨w,3,none⟩=some (U ao x.aN.bG.length co)/\w'.cell? ⟨w,5,none⟩=some (U an x.bM.length cn)) 7 κ ?_;obtain⟨wd,hWd⟩:=χ wz.drew;rw [<-hWd];have GD:aK wz wd:=by rw [hWd];exact(aG _).drew
    have zD:wz.heap.size=wd.heap.size:=by rw [hWd];rfl
    have ZD:=I zD;clear hWd zD;refine qJ [0,1,2,3] 12 κ (fun _ _ _ _ _ h=>h) (HS.o _ GD) ?_;repeat (refine jY ?_;try simp only [bT])
    refine qK ?_;refine bO 4 κ rfl ?_;intro K M;try simp only [dD]
    go_simp;go_at_call 57
    refine(QX _ (LQ.o.mono (HC.o.trans (G1.o.trans GD).sub)) NX.o).mono ?_;rintro e1 w1 ⟨v1,rfl,MI,dZ⟩;obtain⟨a1,c1,rfl⟩:=MI.form;have Uf:=I (MI.sl ε (iO _ _ _));have rK:=I (aK.trans GD dZ);clear MI dZ;generalize qO x.aN=qm at*;refine ψ M (fun _=>HS.o _ rK.o) ?_;try simp only [bT]
    refine bO 5 κ rfl ?_;intro K M;try simp only [dD]
    go_simp;go_at_call 51
    refine(nJ (c:=c) (l:=x.bM.map dh) (ms:=qm) _ (HC.o.trans (G1.o.trans rK.o).sub) ?nv Uf.o HU.o (by rw [List.length_map];have:=Nh.o;omega)).mono ?_
    case nv=>have h9:=PS.o;simpa using h9
    rintro e3 w3 ⟨v3,rfl,DC,fB⟩;obtain⟨a3,c3,rfl,-⟩:=id DC;have Py:=I DC;have G3:=I (aK.trans rK.o fB);have pM:=I (rK.o).size;clear DC fB;rw [iK,List.length_map];refine ψ M (fun _=>HS.o _ G3.o) ?_;try simp only [bT]
    refine bO 6 κ rfl ?_;intro K M;try simp only [dD]
    go_simp;refine ψ M (fun _=>HS.o _ G3.o) ?_;try simp only [bT]
    refine bO 7 κ rfl ?_;intro K M;refine aY rfl ?_;try simp only [dD]
    refine dF (.tmp 220) (.tmp 219) (v:=U a3 (eu x.bM qm).length c3) (new:=#[U al x.aN.bg.length cl,J x.aN.aW,J x.aN.next,U ao x.aN.bG.length co,U ah x.aI.length ch,U a3 (eu x.bM qm).length c3]) rfl rfl ρ ρ (aF R2.o G3.o) jS σ ρ ρ ?_;intro w5 r5 g5;have PY:=I r5;have wW:=I g5;clear r5 g5;refine ψ M (fun h=>absurd rfl h) ?_;try simp only [bT]
    refine bW κ ?_;have OI:=I (bJ (aF R4.o G3.o) wW.o iP);have G5:=I ((G1.o.trans G3.o).grown wW.o (fun q O=>by simp at O;omega));obtain⟨c0,c1x,c2,pN,c4,c5⟩:=bF PY.o;have z2:w.heap.size<w5:=(γ PY.o);go_wp2_with (first|(refine aQ rfl (.tmp 4) (.tmp 221) rfl rfl rfl OI.o dN rfl rfl ?_))
    intro w7 r7 g7;obtain⟨p0,p1,p2,p3,p4,p5⟩:=bF r7;clear c0 c1x c2 pN c4 c5;go_wp2;refine dw (v:=.tuple #[.agg #[U al x.aN.bg.length cl,J x.aN.aW,J x.aN.next,U ao x.aN.bG.length co,U ah x.aI.length ch,U a3 (eu x.bM qm).length c3],J 0]) (by simp [results,Tryz.results16,go_sem,p0,p1,p2,p3,p4,p5]) rfl ?_;have G7:=G5.o.grown g7 (fun q O=>by simp at O;omega);rw [HE.o,lC.o];refine⟨_,rfl,Of.qA (LQ.o.mono (gG HC.o)) (Il.o.mono (gG HC.o)) ?_,G7⟩;have h9:=Py.o;rw [iK] at h9;refine Sl.mono (fun a u e=>?_) (show yS _ _ _ from by simpa using h9);have hgd:=pM.o;have hz:=HZ.o;have e5:=iG (w:=w) wW.o (Nat.le_refl _) V a u e;have e7:=iG (w:=w) g7 V V a u e5;exact qY HC.o (G1.o.trans rK.o) a u e7
  by_cases hh:uJ x sn=true
  ·as_aux_lemma=>
    have HH:=I hh;clear hh;obtain⟨h0,N⟩:0<=sn/\sn<(x.aI.length:Int):=of_decide_eq_true HH.o;have hl3:x.aI.length<=3:=by have h8:=yV.o.core.len;have h9:=yV.o.core.n3;omega
    have HE:Hid (jZ x ⟨6,sn,sp⟩=jy x sn.toNat):=I (by unfold jZ;simp [HH.o]);have lC:Hid (eU x ⟨6,sn,sp⟩=0):=I (by unfold eU;simp [HH.o]);have ID:(sn==3)=false:=by rw [beq_eq_false_iff_ne];omega
    have h0':¬sn<0:=by omega
    have h1':¬(x.aI.length:Int)<=sn:=by omega
    obtain⟨i,hi⟩:∃i:Nat,sn.toNat=i:=⟨_,rfl⟩;have hin:i<x.aI.length:=by omega
    have OK:Hid (jy x sn.toNat={ x with bM:=eu x.bM (mg x.aI[i] i) }):=I (by
     rw [hi];unfold jy;rw [aV V,dM hin])
    have HTO:=I (L_ (k:=i) yV.o.core (dM hin));have Lh:=I (CU (k:=i) yV.o.core (dM hin));have HU:Hid (∀m∈mg x.aI[i] i,cZ m=0):=I (WI.says HTO.o);have Nh:=I yV.o.len;have yF:Hid (sn=(i:Int)):=I V;have Gv:=I C_.o.1;have Dx:=Il.o;obtain⟨AN,ch',wG,-,-,-,hel⟩:=Dx;simp only [Value.slice.injEq,true_and] at wG;obtain⟨rfl,rfl⟩:=wG;obtain⟨bh,oh,vl,vr,vd,rfl,e0,e1,e2,e3,e4,e5,e6,yu,s1,s2,s3,s4,Ar,xk⟩:=VW.at_ hel i hin;obtain⟨il,jl,rfl,-⟩:=id yu;obtain⟨ir,jr,rfl,-⟩:=id Ar;obtain⟨yX,jd,rfl,-⟩:=id xk;have CI:Hid (Of Ty.hs c (.agg #[.slice il x.aI[i].bg.length jl,J x.aI[i].aP.a,J x.aI[i].aP.b,J x.aI[i].aP.c,J x.aI[i].aP.d,.slice ir x.aI[i].ready.length jr,.slice yX x.aI[i].done.length jd]) x.aI[i]):=I ⟨_,rfl,_,_,_,rfl,yu,s1,s2,s3,s4,Ar,xk⟩;have HE7:=I (And.intro e0 (And.intro e1 (And.intro e2 (And.intro e3 (And.intro e4 (And.intro e5 e6))))));clear hel yu Ar xk s1 s2 s3 s4 e0 e1 e2 e3 e4 e5 e6 HH h0 N HTO;go_upto_region 45 with fail
    have HS:Hid (∀W,aK wz W->W.cell? ⟨w,4,none⟩=some (U (some ⟨bh,oh,none⟩) x.aI.length ch)/\W.cell? ⟨w,5,none⟩=some (U an x.bM.length cn)/\W.cell? ⟨w+1,1,none⟩=some (J sn)/\W.cell? ⟨bh,oh+i*7,none⟩=some (.slice il x.aI[i].bg.length jl)/\W.cell? ⟨bh,oh+i*7+1,none⟩=some (J x.aI[i].aP.a)/\W.cell? ⟨bh,oh+i*7+2,none⟩=some (J x.aI[i].aP.b)/\W.cell? ⟨bh,oh+i*7+3,none⟩=some (J x.aI[i].aP.c)/\W.cell? ⟨bh,oh+i*7+4,none⟩=some (J x.aI[i].aP.d)/\W.cell? ⟨bh,oh+i*7+5,none⟩=some (.slice ir x.aI[i].ready.length jr)/\W.cell? ⟨bh,oh+i*7+6,none⟩=some (.slice yX x.aI[i].done.length jd)):=fun W hW=>by
     obtain⟨-,-,-,-,j4,j5⟩:=bF (aF R2.o hW);obtain⟨-,f1,-⟩:=iI (aF R3.o hW);have gs:=HC.o.trans (G1.o.trans hW).sub;obtain⟨e0,e1,e2,e3,e4,e5,e6⟩:=HE7.o;exact⟨j4,j5,f1,gs _ _ e0,gs _ _ e1,gs _ _ e2,gs _ _ e3,gs _ _ e4,gs _ _ e5,gs _ _ e6⟩
    have hi0:(0:Int)<=sn:=by omega
    have hi1:sn<(x.aI.length:Int):=by omega
    clear c0 c1 c2 c3 c4 c5 d0 d1 d2 z2 z3;rw [OK.o] at HE;clear OK HE7;generalize hgh:x.aI[i]=hh at*;clear hgh;refine dH (fun w'=>w'.cell? ⟨w,4,none⟩=some (U (some ⟨bh,oh,none⟩) x.aI.length ch)/\w'.cell? ⟨w,5,none⟩=some (U an x.bM.length cn)/\w'.cell? ⟨w+1,1,none⟩=some (J sn)/\w'.cell? ⟨bh,oh+i*7,none⟩=some (U il hh.bg.length jl)/\w'.cell? ⟨bh,oh+i*7+1,none⟩=some (J hh.aP.a)/\w'.cell? ⟨bh,oh+i*7+2,none⟩=some (J hh.aP.b)/\w'.cell? ⟨bh,oh+i*7+3,none⟩=some (J hh.aP.c)/\w'.cell? ⟨bh,oh+i*7+4,none⟩=some (J hh.aP.d)/\w'.cell? ⟨bh,oh+i*7+5,none⟩=some (U ir hh.ready.length jr)/\w'.cell? ⟨bh,oh+i*7+6,none⟩=some (U yX hh.done.length jd)) 13 κ ?_;obtain⟨wd,hWd⟩:=χ wz.drew;rw [<-hWd];have GD:aK wz wd:=by rw [hWd];exact(aG _).drew
    have zD:wz.heap.size=wd.heap.size:=by rw [hWd];rfl
    have ZD:=I zD;clear hWd zD;refine qJ [0,1,2,3,4,5,6,7,8,9] 18 κ (fun _ _ _ _ _ h=>h) (HS.o _ GD) ?_;repeat (refine jY ?_;try simp only [bT])
    refine qK ?_;refine bO 10 κ rfl ?_;intro K M;try simp only [dD]
    go_simp;go_at_call 58
    refine(Oy (h:=hh) _ (CI.o.mono (HC.o.trans (G1.o.trans GD).sub)) Gv.o (τ Lh.o)).mono ?_;rintro e1 w1 ⟨v1,rfl,MI,dZ⟩;obtain⟨a1,c1,rfl⟩:=MI.form;have Uf:=I (bK.sl (c:=fun _=>none) ε (fun _ _ e=>by cases e) MI);have rK:=I (aK.trans GD dZ);clear MI dZ;rw [yF.o] at Uf ⊢;generalize mg hh i=qm at*;refine ψ M (fun _=>HS.o _ rK.o) ?_;try simp only [bT]
    refine bO 11 κ rfl ?_;intro K M;try simp only [dD]
    go_simp;go_at_call 51
    refine(nJ (c:=c) (l:=x.bM.map dh) (ms:=qm) _ (HC.o.trans (G1.o.trans rK.o).sub) ?nv Uf.o HU.o (by rw [List.length_map];have:=Nh.o;omega)).mono ?_
    case nv=>have h9:=PS.o;simpa using h9
    rintro e3 w3 ⟨v3,rfl,DC,fB⟩;obtain⟨a3,c3,rfl,-⟩:=id DC;have Py:=I DC;have G3:=I (aK.trans rK.o fB);have pM:=I (rK.o).size;clear DC fB;rw [iK,List.length_map];refine ψ M (fun _=>HS.o _ G3.o) ?_;try simp only [bT]
    refine bO 12 κ rfl ?_;intro K M;try simp only [dD]
    go_simp;refine ψ M (fun _=>HS.o _ G3.o) ?_;try simp only [bT]
    refine bO 13 κ rfl ?_;intro K M;refine aY rfl ?_;try simp only [dD]
    refine dF (.tmp 246) (.tmp 245) (v:=U a3 (eu x.bM qm).length c3) (new:=#[U al x.aN.bg.length cl,J x.aN.aW,J x.aN.next,U ao x.aN.bG.length co,U (some ⟨bh,oh,none⟩) x.aI.length ch,U a3 (eu x.bM qm).length c3]) rfl rfl ρ ρ (aF R2.o G3.o) jS σ ρ ρ ?_;intro w5 r5 g5;have PY:=I r5;have wW:=I g5;clear r5 g5;refine ψ M (fun h=>absurd rfl h) ?_;try simp only [bT]
    refine bW κ ?_;have OI:=I (bJ (aF R4.o G3.o) wW.o iP);have G5:=I ((G1.o.trans G3.o).grown wW.o (fun q O=>by simp at O;omega));obtain⟨c0,c1x,c2,pN,c4,c5⟩:=bF PY.o;have z2:w.heap.size<w5:=(γ PY.o);go_wp2_with (first|(refine aQ rfl (.tmp 4) (.tmp 262) rfl rfl rfl OI.o dN rfl rfl ?_))
    intro w7 r7 g7;obtain⟨p0,p1,p2,p3,p4,p5⟩:=bF r7;clear c0 c1x c2 pN c4 c5;go_wp2;refine dw (v:=.tuple #[.agg #[U al x.aN.bg.length cl,J x.aN.aW,J x.aN.next,U ao x.aN.bG.length co,U (some ⟨bh,oh,none⟩) x.aI.length ch,U a3 (eu x.bM qm).length c3],J 0]) (by simp [results,Tryz.results16,go_sem,p0,p1,p2,p3,p4,p5]) rfl ?_;have G7:=G5.o.grown g7 (fun q O=>by simp at O;omega);rw [HE.o,lC.o];refine⟨_,rfl,Of.qA (LQ.o.mono (gG HC.o)) (Il.o.mono (gG HC.o)) ?_,G7⟩;have h9:=Py.o;rw [iK] at h9;refine Sl.mono (fun a u e=>?_) (show yS _ _ _ from by simpa using h9);have hgd:=pM.o;have hz:=HZ.o;have e5:=iG (w:=w) wW.o (Nat.le_refl _) V a u e;have e7:=iG (w:=w) g7 V V a u e5;exact qY HC.o (G1.o.trans rK.o) a u e7
  ·replace hh:uJ x sn=false:=by simpa using hh
   as_aux_lemma=>
    have HE:Hid (jZ x ⟨6,sn,sp⟩=x):=I (by unfold jZ;simp [h3,hh]);have lC:Hid (eU x ⟨6,sn,sp⟩=6):=I (by unfold eU;simp [h3,hh]);have ID:(sn==3)=false:=by simp [h3]
    have hor:sn<0∨(x.aI.length:Int)<=sn:=by have:=of_decide_eq_false hh;omega
    clear h3 hh;by_cases hl:sn<0
    ·clear hor
     go_wp2_with (first|(refine aQ rfl (.tmp 4) (.tmp 233) rfl rfl rfl R4.o dN rfl rfl ?_))
     intro w7 r7 g7;obtain⟨p0,p1,p2,p3,p4,p5⟩:=bF r7;clear c0 c1 c2 c3 c4 c5;go_wp2;refine dw (v:=.tuple #[.agg #[U al x.aN.bg.length cl,J x.aN.aW,J x.aN.next,U ao x.aN.bG.length co,U ah x.aI.length ch,U an x.bM.length cn],J 6]) (by simp [results,Tryz.results16,go_sem,p0,p1,p2,p3,p4,p5]) rfl ?_;have G7:=G1.o.grown g7 (fun q O=>by simp at O;omega);rw [HE.o,lC.o];exact⟨_,rfl,HV.o.mono (gG HC.o),G7⟩
    have hg:(x.aI.length:Int)<=sn:=by omega
    clear hor;go_wp2_with (first|(refine aQ rfl (.tmp 4) (.tmp 233) rfl rfl rfl R4.o dN rfl rfl ?_))
    intro w7 r7 g7;obtain⟨p0,p1,p2,p3,p4,p5⟩:=bF r7;clear c0 c1 c2 c3 c4 c5;go_wp2;refine dw (v:=.tuple #[.agg #[U al x.aN.bg.length cl,J x.aN.aW,J x.aN.next,U ao x.aN.bG.length co,U ah x.aI.length ch,U an x.bM.length cn],J 6]) (by simp [results,Tryz.results16,go_sem,p0,p1,p2,p3,p4,p5]) rfl ?_;have G7:=G1.o.grown g7 (fun q O=>by simp at O;omega);rw [HE.o,lC.o];exact⟨_,rfl,HV.o.mono (gG HC.o),G7⟩
 by_cases k7:kd=7
 ·subst k7
  clear k1 k2 k3 k4 k5 k6;as_aux_lemma=>
   have hE:jZ x ⟨7,sn,sp⟩={ x with aN:=oZ x.aN,bM:=eu x.bM (xE x.aN) }:=by unfold jZ;simp
   have CQ:eU x ⟨7,sn,sp⟩=0:=by unfold eU;simp
   have HE:=I hE;have lC:=I CQ;clear hE CQ;go_wp2_with fail
   refine(nE (c:=c) wz (HC.o.trans G1.o.sub) LQ.o NX.o).mono ?_;rintro e w1 ⟨v1,v2,rfl,Gs,pV,dZ⟩;obtain⟨iC,iD,lY,lZ,rfl⟩:=Gs.iw;obtain⟨am,cm,rfl,-⟩:=id pV;have Kq:=I Gs;have AX:=I pV;have SN:=I (aF R2.o dZ);have H4:=I (aF R4.o dZ);have fY:=I dZ;have HU:=I (WI.says (yV.o.core.quit).2.2);have Nh:=I yV.o.len;clear Gs pV dZ c0 c1 c2 c3 c4 c5 d0 d1 d2 z2 z3;generalize YQ:oZ x.aN=qh at*;generalize hqm:xE x.aN=qm at*;clear YQ hqm;go_upto_region 48 with fail
   obtain⟨w2,rH⟩:=χ (w1.alloc (.cells #[U iC qh.bg.length iD,J qh.aW,J qh.next,U lY qh.bG.length lZ] 29));obtain⟨BH,IW⟩:=χ w1.heap.size;have zW:Hid (aK w1 w2):=I (by rw [rH];exact(aG _).alloc _);have RH:Hid (w2.heap[BH]? =some (.cells #[U iC qh.bg.length iD,J qh.aW,J qh.next,U lY qh.bG.length lZ] 29 (0,0))):=I (by rw [rH,IW];exact bn _ _);have Vj:Hid (BH≠w.heap.size):=I (τ (γ H4.o));rw [<-rH,<-IW];clear rH IW;have Gu:=I (aF SN.o zW.o);have pL:=I (aF H4.o zW.o);have EK:=I (G1.o.trans (fY.o.trans zW.o));have HS:Hid (∀W,aK w2 W->W.cell? ⟨BH,0,none⟩=some (U iC qh.bg.length iD)/\W.cell? ⟨BH,1,none⟩=some (J qh.aW)/\W.cell? ⟨BH,2,none⟩=some (J qh.next)/\W.cell? ⟨BH,3,none⟩=some (U lY qh.bG.length lZ)/\W.cell? ⟨w,5,none⟩=some (U an x.bM.length cn)):=fun W hW=>by
    obtain⟨k0,k1,k2,k3⟩:=aT (aF RH.o hW);obtain⟨-,-,-,-,-,j5⟩:=bF (aF Gu.o hW);exact⟨k0,k1,k2,k3,j5⟩
   refine dH (fun w'=>w'.cell? ⟨BH,0,none⟩=some (U iC qh.bg.length iD)/\w'.cell? ⟨BH,1,none⟩=some (J qh.aW)/\w'.cell? ⟨BH,2,none⟩=some (J qh.next)/\w'.cell? ⟨BH,3,none⟩=some (U lY qh.bG.length lZ)/\w'.cell? ⟨w,5,none⟩=some (U an x.bM.length cn)) 8 κ ?_;obtain⟨wd,hWd⟩:=χ w2.drew;rw [<-hWd];have GD:aK w2 wd:=by rw [hWd];exact(aG _).drew
   have zD:w2.heap.size=wd.heap.size:=by rw [hWd];rfl
   have ZD:=I zD;clear hWd zD;refine qJ [0,1,2,3] 12 κ (fun _ _ _ _ _ h=>h) (HS.o _ GD) ?_;repeat (refine jY ?_;try simp only [bT])
   refine qK ?_;refine bP 4 5 κ rfl rfl ?_ ?_
   ·intro K M
    try simp only [dD]
    go_simp;go_at_call 51
    refine(nJ (c:=c) (l:=x.bM.map dh) (ms:=qm) _ (HC.o.trans (EK.o.trans GD).sub) ?nv (Sl.mono (aK.sub (aK.trans zW.o GD)) (Sl.mono (xR (HC.o.trans G1.o.sub) fY.o) AX.o)) HU.o (by rw [List.length_map];have:=Nh.o;omega)).mono ?_
    case nv=>have h9:=PS.o;simpa using h9
    rintro e3 w3 ⟨v3,rfl,DC,fB⟩;obtain⟨a3,c3,rfl,-⟩:=id DC;have Py:=I DC;have G3:=I (aK.trans GD fB);have pM:=I (GD).size;clear DC fB;rw [iK,List.length_map];refine ψ M (fun _=>HS.o _ G3.o) ?_;try simp only [bT]
    refine bO 5 κ rfl ?_;intro K M;try simp only [dD]
    go_simp;refine ψ M (fun _=>HS.o _ G3.o) ?_;try simp only [bT]
    refine bO 6 κ rfl ?_;intro K M;refine aY rfl ?_;try simp only [dD]
    refine jF (.tmp 260) (.tmp 255) (p:=0) (cells:=#[U iC qh.bg.length iD,J qh.aW,J qh.next,U lY qh.bG.length lZ]) (new:=#[U iC qh.bg.length iD,J qh.aW,J qh.next,U lY qh.bG.length lZ,U ah x.aI.length ch,U an x.bM.length cn]) rfl rfl ρ (aF Gu.o G3.o) eY σ ρ ρ ?_;intro w4 r4 g4;have V9:=I r4;have Ed:=I g4;have V_:Hid (w4.cell? ⟨BH,0,none⟩=some (U iC qh.bg.length iD)/\w4.cell? ⟨BH,1,none⟩=some (J qh.aW)/\w4.cell? ⟨BH,2,none⟩=some (J qh.next)/\w4.cell? ⟨BH,3,none⟩=some (U lY qh.bG.length lZ)/\w4.cell? ⟨w,5,none⟩=some (U an x.bM.length cn)):=I (by obtain⟨k0,k1,k2,k3,-⟩:=HS.o _ G3.o;obtain⟨-,-,-,-,-,j5⟩:=bF r4;have hne:BH≠w.heap.size:=Vj.o;exact⟨bV k0 g4 hne,bV k1 g4 hne,bV k2 g4 hne,bV k3 g4 hne,j5⟩);clear r4 g4;refine ψ M (fun _=>V_.o) ?_;try simp only [bT]
    refine bO 7 κ rfl ?_;intro K M;try simp only [dD]
    go_simp;refine ψ M (fun _=>V_.o) ?_;try simp only [bT]
    refine bO 8 κ rfl ?_;intro K M;refine aY rfl ?_;try simp only [dD]
    refine dF (.tmp 261) (.tmp 259) (v:=U a3 (eu x.bM qm).length c3) (new:=#[U iC qh.bg.length iD,J qh.aW,J qh.next,U lY qh.bG.length lZ,U ah x.aI.length ch,U a3 (eu x.bM qm).length c3]) rfl rfl ρ ρ V9.o jS σ ρ ρ ?_;intro w5 r5 g5;have PY:=I r5;have wW:=I g5;clear r5 g5;refine ψ M (fun h=>absurd rfl h) ?_;try simp only [bT]
    refine bW κ ?_;have OI:=I (bJ (bJ (aF pL.o G3.o) Ed.o iP) wW.o iP);have G5:=I (((EK.o.trans G3.o).grown Ed.o (fun q O=>by simp at O;omega)).grown wW.o (fun q O=>by simp at O;omega));obtain⟨c0,c1,c2,pN,c4,c5⟩:=bF PY.o;have z2:w.heap.size<w5:=(γ PY.o);go_wp2_with (first|(refine aQ rfl (.tmp 4) (.tmp 262) rfl rfl rfl OI.o dN rfl rfl ?_))
    intro w7 r7 g7;obtain⟨p0,p1,p2,p3,p4,p5⟩:=bF r7;clear c0 c1 c2 pN c4 c5;go_wp2;refine dw (v:=.tuple #[.agg #[U iC qh.bg.length iD,J qh.aW,J qh.next,U lY qh.bG.length lZ,U ah x.aI.length ch,U a3 (eu x.bM qm).length c3],J 0]) (by simp [results,Tryz.results16,go_sem,p0,p1,p2,p3,p4,p5]) rfl ?_;have G7:=G5.o.grown g7 (fun q O=>by simp at O;omega);rw [HE.o,lC.o];refine⟨_,rfl,Of.qA ?_ (Il.o.mono (gG HC.o)) ?_,G7⟩
    ·refine Kq.o.mono fun a u e=>?_
     have e1:=zx (Sub.refl _) (zW.o.trans G3.o) a u e;have e4:=iG (w:=w) Ed.o (Nat.le_refl _) (τ HZ.o) a u e1;have e5:=iG (w:=w) wW.o (Nat.le_refl _) (τ HZ.o) a u e4;have e7:=iG (w:=w) g7 V (τ HZ.o) a u e5;exact qY HC.o G1.o a u e7
    ·have hsz:=(γ Gu.o)
     have A0b:=(γ pL.o);have h9:=Py.o;rw [iK] at h9;refine Sl.mono (fun a u e=>?_) (show yS _ _ _ from by simpa using h9);have hgd:=pM.o;have e4:=iG (w:=w) Ed.o (Nat.le_refl _) V a u e;have e5:=iG (w:=w) wW.o (Nat.le_refl _) V a u e4;have e7:=iG (w:=w) g7 V V a u e5;exact qY HC.o (EK.o.trans GD) a u e7
   ·intro K M
    try simp only [dD]
    go_simp;refine ψ M (fun _=>HS.o _ GD) ?_;try simp only [bT]
    refine bO 4 κ rfl ?_;intro K M;try simp only [dD]
    go_simp;go_at_call 51
    refine(nJ (c:=c) (l:=x.bM.map dh) (ms:=qm) _ (HC.o.trans (EK.o.trans GD).sub) ?nv (Sl.mono (aK.sub (aK.trans zW.o GD)) (Sl.mono (xR (HC.o.trans G1.o.sub) fY.o) AX.o)) HU.o (by rw [List.length_map];have:=Nh.o;omega)).mono ?_
    case nv=>have h9:=PS.o;simpa using h9
    rintro e3 w3 ⟨v3,rfl,DC,fB⟩;obtain⟨a3,c3,rfl,-⟩:=id DC;have Py:=I DC;have G3:=I (aK.trans GD fB);have pM:=I (GD).size;clear DC fB;rw [iK,List.length_map];refine ψ M (fun _=>HS.o _ G3.o) ?_;try simp only [bT]
    refine bO 6 κ rfl ?_;intro K M;refine aY rfl ?_;try simp only [dD]
    refine jF (.tmp 260) (.tmp 255) (p:=0) (cells:=#[U iC qh.bg.length iD,J qh.aW,J qh.next,U lY qh.bG.length lZ]) (new:=#[U iC qh.bg.length iD,J qh.aW,J qh.next,U lY qh.bG.length lZ,U ah x.aI.length ch,U an x.bM.length cn]) rfl rfl ρ (aF Gu.o G3.o) eY σ ρ ρ ?_;intro w4 r4 g4;have V9:=I r4;have Ed:=I g4;have V_:Hid (w4.cell? ⟨BH,0,none⟩=some (U iC qh.bg.length iD)/\w4.cell? ⟨BH,1,none⟩=some (J qh.aW)/\w4.cell? ⟨BH,2,none⟩=some (J qh.next)/\w4.cell? ⟨BH,3,none⟩=some (U lY qh.bG.length lZ)/\w4.cell? ⟨w,5,none⟩=some (U an x.bM.length cn)):=I (by obtain⟨k0,k1,k2,k3,-⟩:=HS.o _ G3.o;obtain⟨-,-,-,-,-,j5⟩:=bF r4;have hne:BH≠w.heap.size:=Vj.o;exact⟨bV k0 g4 hne,bV k1 g4 hne,bV k2 g4 hne,bV k3 g4 hne,j5⟩);clear r4 g4;refine ψ M (fun _=>V_.o) ?_;try simp only [bT]
    refine bO 7 κ rfl ?_;intro K M;try simp only [dD]
    go_simp;refine ψ M (fun _=>V_.o) ?_;try simp only [bT]
    refine bO 8 κ rfl ?_;intro K M;refine aY rfl ?_;try simp only [dD]
    refine dF (.tmp 261) (.tmp 259) (v:=U a3 (eu x.bM qm).length c3) (new:=#[U iC qh.bg.length iD,J qh.aW,J qh.next,U lY qh.bG.length lZ,U ah x.aI.length ch,U a3 (eu x.bM qm).length c3]) rfl rfl ρ ρ V9.o jS σ ρ ρ ?_;intro w5 r5 g5;have PY:=I r5;have wW:=I g5;clear r5 g5;refine ψ M (fun h=>absurd rfl h) ?_;try simp only [bT]
    refine bW κ ?_;have OI:=I (bJ (bJ (aF pL.o G3.o) Ed.o iP) wW.o iP);have G5:=I (((EK.o.trans G3.o).grown Ed.o (fun q O=>by simp at O;omega)).grown wW.o (fun q O=>by simp at O;omega));obtain⟨c0,c1,c2,pN,c4,c5⟩:=bF PY.o;have z2:w.heap.size<w5:=(γ PY.o);go_wp2_with (first|(refine aQ rfl (.tmp 4) (.tmp 262) rfl rfl rfl OI.o dN rfl rfl ?_))
    intro w7 r7 g7;obtain⟨p0,p1,p2,p3,p4,p5⟩:=bF r7;clear c0 c1 c2 pN c4 c5;go_wp2;refine dw (v:=.tuple #[.agg #[U iC qh.bg.length iD,J qh.aW,J qh.next,U lY qh.bG.length lZ,U ah x.aI.length ch,U a3 (eu x.bM qm).length c3],J 0]) (by simp [results,Tryz.results16,go_sem,p0,p1,p2,p3,p4,p5]) rfl ?_;have G7:=G5.o.grown g7 (fun q O=>by simp at O;omega);rw [HE.o,lC.o];refine⟨_,rfl,Of.qA ?_ (Il.o.mono (gG HC.o)) ?_,G7⟩
    ·refine Kq.o.mono fun a u e=>?_
     have e1:=zx (Sub.refl _) (zW.o.trans G3.o) a u e;have e4:=iG (w:=w) Ed.o (Nat.le_refl _) (τ HZ.o) a u e1;have e5:=iG (w:=w) wW.o (Nat.le_refl _) (τ HZ.o) a u e4;have e7:=iG (w:=w) g7 V (τ HZ.o) a u e5;exact qY HC.o G1.o a u e7
    ·have hsz:=(γ Gu.o)
     have A0b:=(γ pL.o);have h9:=Py.o;rw [iK] at h9;refine Sl.mono (fun a u e=>?_) (show yS _ _ _ from by simpa using h9);have hgd:=pM.o;have e4:=iG (w:=w) Ed.o (Nat.le_refl _) V a u e;have e5:=iG (w:=w) wW.o (Nat.le_refl _) V a u e4;have e7:=iG (w:=w) g7 V V a u e5;exact qY HC.o (EK.o.trans GD) a u e7
 have hkd:kd<1∨7<kd:=by omega
 clear k1 k2 k3 k4 k5 k6 k7;have e1:(kd==1)=false:=by rw [beq_eq_false_iff_ne];omega
 have e2:(kd==2)=false:=by rw [beq_eq_false_iff_ne];omega
 have e3:(kd==3)=false:=by rw [beq_eq_false_iff_ne];omega
 have e4:(kd==4)=false:=by rw [beq_eq_false_iff_ne];omega
 have e5:(kd==5)=false:=by rw [beq_eq_false_iff_ne];omega
 have e6:(kd==6)=false:=by rw [beq_eq_false_iff_ne];omega
 have e7:(kd==7)=false:=by rw [beq_eq_false_iff_ne];omega
 have HE:Hid (jZ x ⟨kd,sn,sp⟩=x):=I (by unfold jZ;simp only;rw [aV V,aV V,aV V,aV V,aV V,aV V,aV V]);have lC:Hid (eU x ⟨kd,sn,sp⟩=1):=I (by unfold eU;simp only;rw [aV V,aV V,aV V,aV V,aV V]);clear hkd;go_wp2_with (first|(refine aQ rfl (.tmp 4) (.tmp 35) rfl rfl rfl R4.o dN rfl rfl ?_))
 intro w7 r7 g7;obtain⟨p0,p1,p2,p3,p4,p5⟩:=bF r7;clear c0 c1 c2 c3 c4 c5;go_wp2;refine dw (v:=.tuple #[.agg #[U al x.aN.bg.length cl,J x.aN.aW,J x.aN.next,U ao x.aN.bG.length co,U ah x.aI.length ch,U an x.bM.length cn],J 1]) (by simp [results,Tryz.results16,go_sem,p0,p1,p2,p3,p4,p5]) rfl ?_;have G7:=G1.o.grown g7 (fun q O=>by simp at O;omega);rw [HE.o,lC.o];exact⟨_,rfl,HV.o.mono (gG HC.o),G7⟩
end Go.Proofs.YtocnmkefmgmkbaaGreat
