/- Parts of proofs, joined: U15, U16, U17, U18, Z7, Z75, Z8, U19. No condition beside those that each theorem names. -/
import Derived.Deep.DeepCutAuto
import Derived.Test.YtocnmkefmgmkbaaGreatJW1b
import Derived.Test.YtocnmkefmgmkbaaGreatJW6a
import Derived.Test.YtocnmkefmgmkbaaGreatJW4b
import Derived.Test.YtocnmkefmgmkbaaGreatJWUa
set_option maxRecDepth 100000
set_option maxHeartbeats 40000000
namespace Go.Proofs.YtocnmkefmgmkbaaGreat
open Go.RowKit
theorem RU {c:CM} {W W0 w1:World} (hc:Sub c W.cell?) (h0:Grow W W0):Sub (ov c W0 w1) (ov c W w1):=fun a v e=>by
 have hs:=h0.size;unfold ov at e ⊢;split at e
 ·have hl:=World.block_lt_of_cell? W a (hc _ _ e)
  rw [if_pos hl];exact e
 ·rw [if_neg δ];exact e
theorem Nw {n:Nat} {G:Reg} {x:AW} {P:List Pt} (i:WI n G x) (hw:bD P x.aA.length=0):∀m∈jK x.head P,aQ m=0:=by
 cases hf:oz x.head with
 |true=>rw [(mX (P:=P) hf).2.1];intro m hm;simp at hm
 |false=>
  rw [i.core.len] at hw;obtain⟨c,h1,h2⟩:=i.core.begin hw hf;exact WI.says h2
theorem Gn {c:CM} {v vs:Value} {x:AW} {sn:Int} {sp:List Pt} {n:Nat} {G:Reg} {k:Nat} (w:World) (hc:Sub c w.cell?) (hv:Of Ty.wd c v x) (hs:Of Ty.st c vs ⟨1,sn,sp⟩) (hi:WI n G x) (hf:tu k x) (hk:k<=90000) (hw:bD sp x.aA.length≠0):
  Calls Tryz.prog 16 #[v,vs] w fun e w'=>∃v',e=.returned (.tuple #[v',ι (bI x ⟨1,sn,sp⟩)])/\Of Ty.wd (ov c w w') v' (iD x ⟨1,sn,sp⟩)/\Grow w w':=by
 obtain⟨al,cl,ao,co,ah,ch,an,cn,rfl⟩:=hv.fE;obtain⟨ap,cp,rfl⟩:=hs.je;obtain⟨q1,q2,q3⟩:=hv.eu;have uw:=η q1;have uD:=η q2;have xQ:=η q3;have vT:=η hs.ig;have FC:=η (hi.qE hf hk);have mY:=η hi;have HV:=η hv;have HC:=η hc;clear hc hv hs q1 q2 q3 hi hf;obtain⟨wa,cO⟩:∃y:World,y=w.alloc (.cells #[ς al x.head.log.length cl,ι x.head.aG,ι x.head.next,ς ao x.head.opn.length co,ς ah x.aA.length ch,ς an x.net.length cn] 33):=⟨_,rfl⟩;obtain⟨wb,hwb⟩:∃y:World,y=wa.alloc (.cells #[ι 1,ι sn,ς ap sp.length cp] 25):=⟨_,rfl⟩;obtain⟨wz,hwz⟩:∃y:World,y=wb.alloc (.cells #[(),ι 0,ι 0,(),(),()] 33):=⟨_,rfl⟩;have hsa:wa.heap.size=w.heap.size+1:=by rw [cO];simp
 have hsb:wb.heap.size=w.heap.size+2:=by rw [hwb];simp [hsa]
 have R2:Hid (wz.heap[w.heap.size]? =some (.cells #[ς al x.head.log.length cl,ι x.head.aG,ι x.head.next,ς ao x.head.opn.length co,ς ah x.aA.length ch,ς an x.net.length cn] 33 (0,0))):=η (by rw [hwz,hwb,cO];exact aB (aB (aF _ _) _) _);have R3:Hid (wz.heap[w.heap.size+1]? =some (.cells #[ι 1,ι sn,ς ap sp.length cp] 25 (0,0))):=η (by rw [hwz,hwb,<-hsa];exact aB (aF _ _) _);have R4:Hid (wz.heap[w.heap.size+2]? =some (.cells #[(),ι 0,ι 0,(),(),()] 33 (0,0))):=η (by rw [hwz,<-hsb];exact aF _ _);have G1:Hid (Grow w wz):=η (by rw [hwz,hwb,cO];exact(((Grow.refl w).alloc _).alloc _).alloc _);have HZ:Hid (wz.heap.size=w.heap.size+3):=η (by rw [hwz];simp [hsb]);go_enter Tryz.func16,Tryz.ntmps16;go_upto_region 1 with fail
 rw [<-cO];try rw [hsa]
 rw [<-hwb];try rw [hsb]
 rw [<-hwz];clear cO hwb hwz hsa hsb;obtain⟨c0,c1,c2,c3,c4,c5⟩:=aJ R2.o;obtain⟨d0,d1,d2⟩:=cells3 R3.o;have z2:w.heap.size<wz:=(γ R2.o);have z3:w.heap.size+1<wz:=(γ R3.o);go_cut [6] from 22 (fun s6 wc=>s6=.bool (there x sn)/\wz=wc)
 case first=>
  by_cases h0:0<=sn
  ·by_cases h1:sn<(x.net.length:Int)
   ·go_wp2
    go_meet
    case rel=>exact⟨by first|rfl|(simp [there,h0,h1];done),rfl⟩
   ·go_wp2
    go_meet
    case rel=>exact⟨by first|rfl|(simp [there,h0,h1];done)|(simp [there,h0];omega),rfl⟩
  ·go_wp2
   go_meet
   case rel=>exact⟨by first|rfl|(simp [there];done)|(simp [there];omega),rfl⟩
 case rest=>
 obtain⟨rfl,rfl⟩:=hcut;have HE:Hid (iD x ⟨1,sn,sp⟩=x):=η (by unfold iD;simp [hw]);have HE2:Hid (bI x ⟨1,sn,sp⟩=bD sp x.aA.length):=η (by unfold bI;simp [hw]);have hbw:(bD sp x.aA.length !=0)=true:=by simp [hw]
 have F1:=η (o7 (h:=(x.aA.length:Int)) wz (vT.o.2.mono (HC.o.trans G1.o.sub)));clear hw;generalize bD sp x.aA.length=we at*;go_wp2_with fail
 refine F1.o.mono ?_;rintro e w1 ⟨rfl,hb1⟩;have UR:=η (aj R2.o hb1);have ZC:=η (aj R4.o hb1);have GW1:=η (G1.o.trans hb1);clear hb1 c0 c1 c2 c3 c4 c5 d0 d1 d2 z2 z3;obtain⟨c0,c1,c2,c3,c4,c5⟩:=aJ UR.o;have z2:w.heap.size<w1:=(γ UR.o);go_wp2_with (first|(refine wpList_store_row rfl (.tmp 4) (.tmp 46) rfl rfl rfl ZC.o bV rfl rfl ?_))
 intro w7 r7 g7;obtain⟨p0,p1,p2,p3,p4,p5⟩:=aJ r7;clear c0 c1 c2 c3 c4 c5;go_wp2;refine bodyPost_ret (v:=.tuple #[.agg #[ς al x.head.log.length cl,ι x.head.aG,ι x.head.next,ς ao x.head.opn.length co,ς ah x.aA.length ch,ς an x.net.length cn],ι we]) (by simp [results,Tryz.results16,go_sem,p0,p1,p2,p3,p4,p5]) rfl ?_;have G7:=GW1.o.grown g7 (fun q hq=>by simp at hq;omega);rw [HE.o,HE2.o];exact⟨_,rfl,HV.o.mono (dM HC.o),G7⟩
theorem JJ {c:CM} {v vs:Value} {x:AW} {sn:Int} {sp:List Pt} {n:Nat} {G:Reg} {k:Nat} (w:World) (hc:Sub c w.cell?) (hv:Of Ty.wd c v x) (hs:Of Ty.st c vs ⟨1,sn,sp⟩) (hi:WI n G x) (hf:tu k x) (hk:k<=90000) (hw:bD sp x.aA.length=0):
  Calls Tryz.prog 16 #[v,vs] w fun e w'=>∃v',e=.returned (.tuple #[v',ι (bI x ⟨1,sn,sp⟩)])/\Of Ty.wd (ov c w w') v' (iD x ⟨1,sn,sp⟩)/\Grow w w':=by
 obtain⟨al,cl,ao,co,ah,ch,an,cn,rfl⟩:=hv.fE;obtain⟨ap,cp,rfl⟩:=hs.je;obtain⟨q1,q2,q3⟩:=hv.eu;have uw:=η q1;have uD:=η q2;have xQ:=η q3;have vT:=η hs.ig;have FC:=η (hi.qE hf hk);have mY:=η hi;have HV:=η hv;have HC:=η hc;clear hc hv hs q1 q2 q3 hi hf;obtain⟨wa,cO⟩:∃y:World,y=w.alloc (.cells #[ς al x.head.log.length cl,ι x.head.aG,ι x.head.next,ς ao x.head.opn.length co,ς ah x.aA.length ch,ς an x.net.length cn] 33):=⟨_,rfl⟩;obtain⟨wb,hwb⟩:∃y:World,y=wa.alloc (.cells #[ι 1,ι sn,ς ap sp.length cp] 25):=⟨_,rfl⟩;obtain⟨wz,hwz⟩:∃y:World,y=wb.alloc (.cells #[(),ι 0,ι 0,(),(),()] 33):=⟨_,rfl⟩;have hsa:wa.heap.size=w.heap.size+1:=by rw [cO];simp
 have hsb:wb.heap.size=w.heap.size+2:=by rw [hwb];simp [hsa]
 have R2:Hid (wz.heap[w.heap.size]? =some (.cells #[ς al x.head.log.length cl,ι x.head.aG,ι x.head.next,ς ao x.head.opn.length co,ς ah x.aA.length ch,ς an x.net.length cn] 33 (0,0))):=η (by rw [hwz,hwb,cO];exact aB (aB (aF _ _) _) _);have R3:Hid (wz.heap[w.heap.size+1]? =some (.cells #[ι 1,ι sn,ς ap sp.length cp] 25 (0,0))):=η (by rw [hwz,hwb,<-hsa];exact aB (aF _ _) _);have R4:Hid (wz.heap[w.heap.size+2]? =some (.cells #[(),ι 0,ι 0,(),(),()] 33 (0,0))):=η (by rw [hwz,<-hsb];exact aF _ _);have G1:Hid (Grow w wz):=η (by rw [hwz,hwb,cO];exact(((Grow.refl w).alloc _).alloc _).alloc _);have HZ:Hid (wz.heap.size=w.heap.size+3):=η (by rw [hwz];simp [hsb]);go_enter Tryz.func16,Tryz.ntmps16;go_upto_region 1 with fail
 rw [<-cO];try rw [hsa]
 rw [<-hwb];try rw [hsb]
 rw [<-hwz];clear cO hwb hwz hsa hsb;obtain⟨c0,c1,c2,c3,c4,c5⟩:=aJ R2.o;obtain⟨d0,d1,d2⟩:=cells3 R3.o;have z2:w.heap.size<wz:=(γ R2.o);have z3:w.heap.size+1<wz:=(γ R3.o);go_cut [6] from 22 (fun s6 wc=>s6=.bool (there x sn)/\wz=wc)
 case first=>
  by_cases h0:0<=sn
  ·by_cases h1:sn<(x.net.length:Int)
   ·go_wp2
    go_meet
    case rel=>exact⟨by first|rfl|(simp [there,h0,h1];done),rfl⟩
   ·go_wp2
    go_meet
    case rel=>exact⟨by first|rfl|(simp [there,h0,h1];done)|(simp [there,h0];omega),rfl⟩
  ·go_wp2
   go_meet
   case rel=>exact⟨by first|rfl|(simp [there];done)|(simp [there];omega),rfl⟩
 case rest=>
 obtain⟨rfl,rfl⟩:=hcut;have HE:Hid (iD x ⟨1,sn,sp⟩={ x with head:=iH x.head sp,net:=bW x.net (jK x.head sp) }):=η (by unfold iD;simp [hw]);have HE2:Hid (bI x ⟨1,sn,sp⟩=nZ x.head):=η (by unfold bI;simp [hw]);have F1:=η (o7 (h:=(x.aA.length:Int)) wz (vT.o.2.mono (HC.o.trans G1.o.sub)));have h4:sp.length<=4:=(eP hw).2.1;have ZF:Hid (∀m∈jK x.head sp,aQ m=0):=η (Nw mY.o hw);rw [hw] at F1;clear hw;go_wp2_with fail
 refine F1.o.mono ?_;rintro e w0 ⟨rfl,hb0⟩;have T2:=η (aj R2.o hb0);have R30:=η (aj R3.o hb0);have R40:=η (aj R4.o hb0);have GW0:=η (G1.o.trans hb0);have T3:=η hb0;clear hb0 c0 c1 c2 c3 c4 c5 d0 d1 d2 z2 z3;obtain⟨c0,c1,c2,c3,c4,c5⟩:=aJ T2.o;obtain⟨d0,d1,d2⟩:=cells3 R30.o;have z2:w.heap.size<w0:=(γ T2.o);have z3:w.heap.size+1<w0:=(γ R30.o);go_wp2_with fail
 refine(Ui (c:=c) (P:=sp) w0 (HC.o.trans GW0.o.sub) uw.o vT.o.2 FC.o h4).mono ?_;rintro e w1 ⟨v1,v2,rfl,hx1,hx2,hb1⟩;obtain⟨eU,eX,kN,kP,rfl⟩:=hx1.dS;obtain⟨am,cm,rfl,-⟩:=id hx2;have Jg:=η (hx1.mono (RU (HC.o.trans G1.o.sub) T3.o));have UQ:=η (hx2.mono (RU (HC.o.trans G1.o.sub) T3.o));have UR:=η (aj T2.o hb1);have ZC:=η (aj R40.o hb1);have ZE:=η (T3.o.trans hb1);have EY:=η mY.o.len;clear hx1 hx2 hb1 c0 c1 c2 c3 c4 c5 d0 d1 d2 z2 z3;generalize ES:iH x.head sp=qh at*;generalize hqm:jK x.head sp=qm at*;generalize hqe:nZ x.head=qe at*;clear ES hqm hqe;go_upto_region 9 with fail
 obtain⟨w2,hw2⟩:∃y:World,y=w1.alloc (.cells #[ς eU qh.log.length eX,ι qh.aG,ι qh.next,ς kN qh.opn.length kP] 29):=⟨_,rfl⟩;obtain⟨BH,Aw⟩:∃y,y=w1.heap.size:=⟨_,rfl⟩;have wG:Hid (Grow w1 w2):=η (by rw [hw2];exact(Grow.refl _).alloc _);have RH:Hid (w2.heap[BH]? =some (.cells #[ς eU qh.log.length eX,ι qh.aG,ι qh.next,ς kN qh.opn.length kP] 29 (0,0))):=η (by rw [hw2,Aw];exact aF _ _);have Nc:Hid (BH≠w.heap.size):=η (τ (γ ZC.o));rw [<-hw2,<-Aw];clear hw2 Aw;have Gf:=η (aj UR.o wG.o);have UU:=η (aj ZC.o wG.o);have xY:=η (G1.o.trans (ZE.o.trans wG.o));have HS:Hid (∀W,Grow w2 W->W.cell? ⟨BH,0,none⟩=some (ς eU qh.log.length eX)/\W.cell? ⟨BH,1,none⟩=some (ι qh.aG)/\W.cell? ⟨BH,2,none⟩=some (ι qh.next)/\W.cell? ⟨BH,3,none⟩=some (ς kN qh.opn.length kP)/\W.cell? ⟨w.heap.size,5,none⟩=some (ς an x.net.length cn)):=fun W hW=>by
  obtain⟨k0,k1,k2,k3⟩:=cells4 (aj RH.o hW);obtain⟨-,-,-,-,-,j5⟩:=aJ (aj Gf.o hW);exact⟨k0,k1,k2,k3,j5⟩
 refine bf (fun w'=>w'.cell? ⟨BH,0,none⟩=some (ς eU qh.log.length eX)/\w'.cell? ⟨BH,1,none⟩=some (ι qh.aG)/\w'.cell? ⟨BH,2,none⟩=some (ι qh.next)/\w'.cell? ⟨BH,3,none⟩=some (ς kN qh.opn.length kP)/\w'.cell? ⟨w.heap.size,5,none⟩=some (ς an x.net.length cn)) 8 κ ?_;obtain⟨wd,hWd⟩:∃x:World,x=w2.drew:=⟨_,rfl⟩;rw [<-hWd];have GD:Grow w2 wd:=by rw [hWd];exact(Grow.refl _).drew
 have zD:w2.heap.size=wd.heap.size:=by rw [hWd];rfl
 have ZD:=η zD;clear hWd zD;refine ni [0,1,2,3] 12 κ (fun _ _ _ _ _ h=>h) (HS.o _ GD) ?_;repeat (refine gQ ?_;try simp only [aK])
 refine ny ?_;refine bP 4 5 κ rfl rfl ?_ ?_
 ·intro K HK
  try simp only [aV]
  go_simp;go_at_call 51
  refine(jJ (c:=c) (l:=x.net.map aS) (ms:=qm) _ (HC.o.trans (xY.o.trans GD).sub) ?nv (Sl.mono (Grow.sub (Grow.trans wG.o GD)) (Sl.mono (sJ (HC.o.trans G1.o.sub) ZE.o) UQ.o)) ZF.o (by rw [List.length_map];have:=EY.o;omega)).mono ?_
  case nv=>have h9:=xQ.o;simpa using h9
  rintro e3 w3 ⟨v3,rfl,hn3,hb3⟩;obtain⟨a3,c3,rfl,-⟩:=id hn3;have Ht:=η hn3;have G3:=η (Grow.trans GD hb3);have cE:=η hb3;have XD:=η (GD).size;clear hn3 hb3;rw [dZ,List.length_map];refine HK.o _ _ ⟨fun _=>HS.o _ G3.o,?_⟩;clear HK K;try simp only [aK]
  refine bO 5 κ rfl ?_;intro K HK;try simp only [aV]
  go_simp;refine HK.o _ _ ⟨fun _=>HS.o _ G3.o,?_⟩;clear HK K;try simp only [aK]
  refine bO 6 κ rfl ?_;intro K HK;refine aC rfl ?_;try simp only [aV]
  refine fV (.tmp 62) (.tmp 57) (p:=0) (cells:=#[ς eU qh.log.length eX,ι qh.aG,ι qh.next,ς kN qh.opn.length kP]) (new:=#[ς eU qh.log.length eX,ι qh.aG,ι qh.next,ς kN qh.opn.length kP,ς ah x.aA.length ch,ς an x.net.length cn]) rfl rfl ρ (aj Gf.o G3.o) bU σ ρ ρ ?_;intro w4 r4 g4;have N8:=η r4;have xJ:=η g4;have N9:Hid (w4.cell? ⟨BH,0,none⟩=some (ς eU qh.log.length eX)/\w4.cell? ⟨BH,1,none⟩=some (ι qh.aG)/\w4.cell? ⟨BH,2,none⟩=some (ι qh.next)/\w4.cell? ⟨BH,3,none⟩=some (ς kN qh.opn.length kP)/\w4.cell? ⟨w.heap.size,5,none⟩=some (ς an x.net.length cn)):=η (by obtain⟨k0,k1,k2,k3,-⟩:=HS.o _ G3.o;obtain⟨-,-,-,-,-,j5⟩:=aJ r4;have hne:BH≠w.heap.size:=Nc.o;exact⟨aP k0 g4 hne,aP k1 g4 hne,aP k2 g4 hne,aP k3 g4 hne,j5⟩);clear r4 g4;refine HK.o _ _ ⟨fun _=>N9.o,?_⟩;clear HK K;try simp only [aK]
  refine bO 7 κ rfl ?_;intro K HK;try simp only [aV]
  go_simp;refine HK.o _ _ ⟨fun _=>N9.o,?_⟩;clear HK K;try simp only [aK]
  refine bO 8 κ rfl ?_;intro K HK;refine aC rfl ?_;try simp only [aV]
  refine aU (.tmp 63) (.tmp 61) (v:=ς a3 (bW x.net qm).length c3) (new:=#[ς eU qh.log.length eX,ι qh.aG,ι qh.next,ς kN qh.opn.length kP,ς ah x.aA.length ch,ς a3 (bW x.net qm).length c3]) rfl rfl ρ ρ N8.o gK σ ρ ρ ?_;intro w5 r5 g5;have Io:=η r5;have rG:=η g5;clear r5 g5;refine HK.o _ _ ⟨fun h=>absurd rfl h,?_⟩;clear HK K;try simp only [aK]
  refine aO κ ?_;have Gi:=η (aH (aH (aj UU.o G3.o) xJ.o (by intro e;have:=Option.some.inj e;omega)) rG.o (by intro e;have:=Option.some.inj e;omega));have G5:=η (((xY.o.trans G3.o).grown xJ.o (fun q hq=>by simp at hq;omega)).grown rG.o (fun q hq=>by simp at hq;omega));obtain⟨c0,c1,c2,XE,c4,c5⟩:=aJ Io.o;have z2:w.heap.size<w5:=(γ Io.o);go_wp2_with (first|(refine wpList_store_row rfl (.tmp 4) (.tmp 64) rfl rfl rfl Gi.o bV rfl rfl ?_))
  intro w7 r7 g7;obtain⟨p0,p1,p2,p3,p4,p5⟩:=aJ r7;clear c0 c1 c2 XE c4 c5;go_wp2;refine bodyPost_ret (v:=.tuple #[.agg #[ς eU qh.log.length eX,ι qh.aG,ι qh.next,ς kN qh.opn.length kP,ς ah x.aA.length ch,ς a3 (bW x.net qm).length c3],ι qe]) (by simp [results,Tryz.results16,go_sem,p0,p1,p2,p3,p4,p5]) rfl ?_;have G7:=G5.o.grown g7 (fun q hq=>by simp at hq;omega);rw [HE.o,HE2.o];refine⟨_,rfl,Of.ku ?_ (uD.o.mono (dM HC.o)) ?_,G7⟩
  ·refine Jg.o.mono fun a u e=>?_
   have e1:=sK (Sub.refl _) (wG.o.trans G3.o) a u e;have e4:=dY (w:=w) xJ.o (Nat.le_refl _) (τ HZ.o) a u e1;have e5:=dY (w:=w) rG.o (Nat.le_refl _) (τ HZ.o) a u e4;have e7:=dY (w:=w) g7 δ (τ HZ.o) a u e5;exact lW HC.o G1.o a u e7
  ·have hsz:=(γ Gf.o)
   have k_:=(γ UU.o);have h9:=Ht.o;rw [dZ] at h9;refine Sl.mono (fun a u e=>?_) (show uH _ _ _ from by simpa using h9);have hgd:=XD.o;have e4:=dY (w:=w) xJ.o (Nat.le_refl _) δ a u e;have e5:=dY (w:=w) rG.o (Nat.le_refl _) δ a u e4;have e7:=dY (w:=w) g7 δ δ a u e5;exact lW HC.o (xY.o.trans GD) a u e7
 ·intro K HK
  try simp only [aV]
  go_simp;refine HK.o _ _ ⟨fun _=>HS.o _ GD,?_⟩;clear HK K;try simp only [aK]
  refine bO 4 κ rfl ?_;intro K HK;try simp only [aV]
  go_simp;go_at_call 51
  refine(jJ (c:=c) (l:=x.net.map aS) (ms:=qm) _ (HC.o.trans (xY.o.trans GD).sub) ?nv (Sl.mono (Grow.sub (Grow.trans wG.o GD)) (Sl.mono (sJ (HC.o.trans G1.o.sub) ZE.o) UQ.o)) ZF.o (by rw [List.length_map];have:=EY.o;omega)).mono ?_
  case nv=>have h9:=xQ.o;simpa using h9
  rintro e3 w3 ⟨v3,rfl,hn3,hb3⟩;obtain⟨a3,c3,rfl,-⟩:=id hn3;have Ht:=η hn3;have G3:=η (Grow.trans GD hb3);have cE:=η hb3;have XD:=η (GD).size;clear hn3 hb3;rw [dZ,List.length_map];refine HK.o _ _ ⟨fun _=>HS.o _ G3.o,?_⟩;clear HK K;try simp only [aK]
  refine bO 6 κ rfl ?_;intro K HK;refine aC rfl ?_;try simp only [aV]
  refine fV (.tmp 62) (.tmp 57) (p:=0) (cells:=#[ς eU qh.log.length eX,ι qh.aG,ι qh.next,ς kN qh.opn.length kP]) (new:=#[ς eU qh.log.length eX,ι qh.aG,ι qh.next,ς kN qh.opn.length kP,ς ah x.aA.length ch,ς an x.net.length cn]) rfl rfl ρ (aj Gf.o G3.o) bU σ ρ ρ ?_;intro w4 r4 g4;have N8:=η r4;have xJ:=η g4;have N9:Hid (w4.cell? ⟨BH,0,none⟩=some (ς eU qh.log.length eX)/\w4.cell? ⟨BH,1,none⟩=some (ι qh.aG)/\w4.cell? ⟨BH,2,none⟩=some (ι qh.next)/\w4.cell? ⟨BH,3,none⟩=some (ς kN qh.opn.length kP)/\w4.cell? ⟨w.heap.size,5,none⟩=some (ς an x.net.length cn)):=η (by obtain⟨k0,k1,k2,k3,-⟩:=HS.o _ G3.o;obtain⟨-,-,-,-,-,j5⟩:=aJ r4;have hne:BH≠w.heap.size:=Nc.o;exact⟨aP k0 g4 hne,aP k1 g4 hne,aP k2 g4 hne,aP k3 g4 hne,j5⟩);clear r4 g4;refine HK.o _ _ ⟨fun _=>N9.o,?_⟩;clear HK K;try simp only [aK]
  refine bO 7 κ rfl ?_;intro K HK;try simp only [aV]
  go_simp;refine HK.o _ _ ⟨fun _=>N9.o,?_⟩;clear HK K;try simp only [aK]
  refine bO 8 κ rfl ?_;intro K HK;refine aC rfl ?_;try simp only [aV]
  refine aU (.tmp 63) (.tmp 61) (v:=ς a3 (bW x.net qm).length c3) (new:=#[ς eU qh.log.length eX,ι qh.aG,ι qh.next,ς kN qh.opn.length kP,ς ah x.aA.length ch,ς a3 (bW x.net qm).length c3]) rfl rfl ρ ρ N8.o gK σ ρ ρ ?_;intro w5 r5 g5;have Io:=η r5;have rG:=η g5;clear r5 g5;refine HK.o _ _ ⟨fun h=>absurd rfl h,?_⟩;clear HK K;try simp only [aK]
  refine aO κ ?_;have Gi:=η (aH (aH (aj UU.o G3.o) xJ.o (by intro e;have:=Option.some.inj e;omega)) rG.o (by intro e;have:=Option.some.inj e;omega));have G5:=η (((xY.o.trans G3.o).grown xJ.o (fun q hq=>by simp at hq;omega)).grown rG.o (fun q hq=>by simp at hq;omega));obtain⟨c0,c1,c2,XE,c4,c5⟩:=aJ Io.o;have z2:w.heap.size<w5:=(γ Io.o);go_wp2_with (first|(refine wpList_store_row rfl (.tmp 4) (.tmp 64) rfl rfl rfl Gi.o bV rfl rfl ?_))
  intro w7 r7 g7;obtain⟨p0,p1,p2,p3,p4,p5⟩:=aJ r7;clear c0 c1 c2 XE c4 c5;go_wp2;refine bodyPost_ret (v:=.tuple #[.agg #[ς eU qh.log.length eX,ι qh.aG,ι qh.next,ς kN qh.opn.length kP,ς ah x.aA.length ch,ς a3 (bW x.net qm).length c3],ι qe]) (by simp [results,Tryz.results16,go_sem,p0,p1,p2,p3,p4,p5]) rfl ?_;have G7:=G5.o.grown g7 (fun q hq=>by simp at hq;omega);rw [HE.o,HE2.o];refine⟨_,rfl,Of.ku ?_ (uD.o.mono (dM HC.o)) ?_,G7⟩
  ·refine Jg.o.mono fun a u e=>?_
   have e1:=sK (Sub.refl _) (wG.o.trans G3.o) a u e;have e4:=dY (w:=w) xJ.o (Nat.le_refl _) (τ HZ.o) a u e1;have e5:=dY (w:=w) rG.o (Nat.le_refl _) (τ HZ.o) a u e4;have e7:=dY (w:=w) g7 δ (τ HZ.o) a u e5;exact lW HC.o G1.o a u e7
  ·have hsz:=(γ Gf.o)
   have k_:=(γ UU.o);have h9:=Ht.o;rw [dZ] at h9;refine Sl.mono (fun a u e=>?_) (show uH _ _ _ from by simpa using h9);have hgd:=XD.o;have e4:=dY (w:=w) xJ.o (Nat.le_refl _) δ a u e;have e5:=dY (w:=w) rG.o (Nat.le_refl _) δ a u e4;have e7:=dY (w:=w) g7 δ δ a u e5;exact lW HC.o (xY.o.trans GD) a u e7
theorem JK {c:CM} {v vs:Value} {x:AW} {sn:Int} {sp:List Pt} {n:Nat} {G:Reg} {k:Nat} (w:World) (hc:Sub c w.cell?) (hv:Of Ty.wd c v x) (hs:Of Ty.st c vs ⟨6,sn,sp⟩) (hi:WI n G x) (hf:tu k x) (hk:k<=90000) (h3:sn=3):
  Calls Tryz.prog 16 #[v,vs] w fun e w'=>∃v',e=.returned (.tuple #[v',ι (bI x ⟨6,sn,sp⟩)])/\Of Ty.wd (ov c w w') v' (iD x ⟨6,sn,sp⟩)/\Grow w w':=by
 obtain⟨al,cl,ao,co,ah,ch,an,cn,rfl⟩:=hv.fE;obtain⟨ap,cp,rfl⟩:=hs.je;obtain⟨q1,q2,q3⟩:=hv.eu;have uw:=η q1;have uD:=η q2;have xQ:=η q3;have vT:=η hs.ig;have FC:=η (hi.qE hf hk);have mY:=η hi;have HV:=η hv;have HC:=η hc;have H3:=η h3;clear h3;clear hc hv hs q1 q2 q3 hi hf;obtain⟨wa,cO⟩:∃y:World,y=w.alloc (.cells #[ς al x.head.log.length cl,ι x.head.aG,ι x.head.next,ς ao x.head.opn.length co,ς ah x.aA.length ch,ς an x.net.length cn] 33):=⟨_,rfl⟩;obtain⟨wb,hwb⟩:∃y:World,y=wa.alloc (.cells #[ι 6,ι sn,ς ap sp.length cp] 25):=⟨_,rfl⟩;obtain⟨wz,hwz⟩:∃y:World,y=wb.alloc (.cells #[(),ι 0,ι 0,(),(),()] 33):=⟨_,rfl⟩;have hsa:wa.heap.size=w.heap.size+1:=by rw [cO];simp
 have hsb:wb.heap.size=w.heap.size+2:=by rw [hwb];simp [hsa]
 have R2:Hid (wz.heap[w.heap.size]? =some (.cells #[ς al x.head.log.length cl,ι x.head.aG,ι x.head.next,ς ao x.head.opn.length co,ς ah x.aA.length ch,ς an x.net.length cn] 33 (0,0))):=η (by rw [hwz,hwb,cO];exact aB (aB (aF _ _) _) _);have R3:Hid (wz.heap[w.heap.size+1]? =some (.cells #[ι 6,ι sn,ς ap sp.length cp] 25 (0,0))):=η (by rw [hwz,hwb,<-hsa];exact aB (aF _ _) _);have R4:Hid (wz.heap[w.heap.size+2]? =some (.cells #[(),ι 0,ι 0,(),(),()] 33 (0,0))):=η (by rw [hwz,<-hsb];exact aF _ _);have G1:Hid (Grow w wz):=η (by rw [hwz,hwb,cO];exact(((Grow.refl w).alloc _).alloc _).alloc _);have HZ:Hid (wz.heap.size=w.heap.size+3):=η (by rw [hwz];simp [hsb]);go_enter Tryz.func16,Tryz.ntmps16;go_upto_region 1 with fail
 rw [<-cO];try rw [hsa]
 rw [<-hwb];try rw [hsb]
 rw [<-hwz];clear cO hwb hwz hsa hsb;obtain⟨c0,c1,c2,c3,c4,c5⟩:=aJ R2.o;obtain⟨d0,d1,d2⟩:=cells3 R3.o;have z2:w.heap.size<wz:=(γ R2.o);have z3:w.heap.size+1<wz:=(γ R3.o);go_cut [6] from 22 (fun s6 wc=>s6=.bool (there x sn)/\wz=wc)
 case first=>
  by_cases h0:0<=sn
  ·by_cases h1:sn<(x.net.length:Int)
   ·go_wp2
    go_meet
    case rel=>exact⟨by first|rfl|(simp [there,h0,h1];done),rfl⟩
   ·go_wp2
    go_meet
    case rel=>exact⟨by first|rfl|(simp [there,h0,h1];done)|(simp [there,h0];omega),rfl⟩
  ·go_wp2
   go_meet
   case rel=>exact⟨by first|rfl|(simp [there];done)|(simp [there];omega),rfl⟩
 case rest=>
 obtain⟨rfl,rfl⟩:=hcut;have HE:Hid (iD x ⟨6,sn,sp⟩={ x with net:=bW x.net (pG x.head) }):=η (by unfold iD rH;simp [H3.o]);have HE2:Hid (bI x ⟨6,sn,sp⟩=0):=η (by unfold bI;simp [H3.o]);have ZL:(sn==3)=true:=by simp [H3.o]
 have ZF:Hid (∀m∈pG x.head,aQ m=0):=η (WI.says (EC mY.o.core));have EY:=η mY.o.len;clear H3;go_upto_region 41 with fail
 have HS:Hid (∀W,Grow wz W->W.cell? ⟨w.heap.size,0,none⟩=some (ς al x.head.log.length cl)/\W.cell? ⟨w.heap.size,1,none⟩=some (ι x.head.aG)/\W.cell? ⟨w.heap.size,2,none⟩=some (ι x.head.next)/\W.cell? ⟨w.heap.size,3,none⟩=some (ς ao x.head.opn.length co)/\W.cell? ⟨w.heap.size,5,none⟩=some (ς an x.net.length cn)):=fun W hW=>by
  obtain⟨j0,j1,j2,j3,-,j5⟩:=aJ (aj R2.o hW);exact⟨j0,j1,j2,j3,j5⟩
 clear c0 c1 c2 c3 c4 c5 d0 d1 d2 z2 z3;refine bf (fun w'=>w'.cell? ⟨w.heap.size,0,none⟩=some (ς al x.head.log.length cl)/\w'.cell? ⟨w.heap.size,1,none⟩=some (ι x.head.aG)/\w'.cell? ⟨w.heap.size,2,none⟩=some (ι x.head.next)/\w'.cell? ⟨w.heap.size,3,none⟩=some (ς ao x.head.opn.length co)/\w'.cell? ⟨w.heap.size,5,none⟩=some (ς an x.net.length cn)) 7 κ ?_;obtain⟨wd,hWd⟩:∃x:World,x=wz.drew:=⟨_,rfl⟩;rw [<-hWd];have GD:Grow wz wd:=by rw [hWd];exact(Grow.refl _).drew
 have zD:wz.heap.size=wd.heap.size:=by rw [hWd];rfl
 have ZD:=η zD;clear hWd zD;refine ni [0,1,2,3] 12 κ (fun _ _ _ _ _ h=>h) (HS.o _ GD) ?_;repeat (refine gQ ?_;try simp only [aK])
 refine ny ?_;refine bO 4 κ rfl ?_;intro K HK;try simp only [aV]
 go_simp;go_at_call 57
 refine(Jr _ (uw.o.mono (HC.o.trans (G1.o.trans GD).sub)) FC.o).mono ?_;rintro e1 w1 ⟨v1,rfl,ho1,hb1⟩;obtain⟨a1,c1,rfl⟩:=ho1.form;have LC:=η (ho1.sl ε (fF _ _ _));have XT:=η (Grow.trans GD hb1);clear ho1 hb1;generalize pG x.head=qm at*;refine HK.o _ _ ⟨fun _=>HS.o _ XT.o,?_⟩;clear HK K;try simp only [aK]
 refine bO 5 κ rfl ?_;intro K HK;try simp only [aV]
 go_simp;go_at_call 51
 refine(jJ (c:=c) (l:=x.net.map aS) (ms:=qm) _ (HC.o.trans (G1.o.trans XT.o).sub) ?nv LC.o ZF.o (by rw [List.length_map];have:=EY.o;omega)).mono ?_
 case nv=>have h9:=xQ.o;simpa using h9
 rintro e3 w3 ⟨v3,rfl,hn3,hb3⟩;obtain⟨a3,c3,rfl,-⟩:=id hn3;have Ht:=η hn3;have G3:=η (Grow.trans XT.o hb3);have XD:=η (XT.o).size;clear hn3 hb3;rw [dZ,List.length_map];refine HK.o _ _ ⟨fun _=>HS.o _ G3.o,?_⟩;clear HK K;try simp only [aK]
 refine bO 6 κ rfl ?_;intro K HK;try simp only [aV]
 go_simp;refine HK.o _ _ ⟨fun _=>HS.o _ G3.o,?_⟩;clear HK K;try simp only [aK]
 refine bO 7 κ rfl ?_;intro K HK;refine aC rfl ?_;try simp only [aV]
 refine aU (.tmp 220) (.tmp 219) (v:=ς a3 (bW x.net qm).length c3) (new:=#[ς al x.head.log.length cl,ι x.head.aG,ι x.head.next,ς ao x.head.opn.length co,ς ah x.aA.length ch,ς a3 (bW x.net qm).length c3]) rfl rfl ρ ρ (aj R2.o G3.o) gK σ ρ ρ ?_;intro w5 r5 g5;have Io:=η r5;have rG:=η g5;clear r5 g5;refine HK.o _ _ ⟨fun h=>absurd rfl h,?_⟩;clear HK K;try simp only [aK]
 refine aO κ ?_;have Gi:=η (aH (aj R4.o G3.o) rG.o (by intro e;have:=Option.some.inj e;omega));have G5:=η ((G1.o.trans G3.o).grown rG.o (fun q hq=>by simp at hq;omega));obtain⟨c0,T4,c2,XE,c4,c5⟩:=aJ Io.o;have z2:w.heap.size<w5:=(γ Io.o);go_wp2_with (first|(refine wpList_store_row rfl (.tmp 4) (.tmp 221) rfl rfl rfl Gi.o bV rfl rfl ?_))
 intro w7 r7 g7;obtain⟨p0,p1,p2,p3,p4,p5⟩:=aJ r7;clear c0 T4 c2 XE c4 c5;go_wp2;refine bodyPost_ret (v:=.tuple #[.agg #[ς al x.head.log.length cl,ι x.head.aG,ι x.head.next,ς ao x.head.opn.length co,ς ah x.aA.length ch,ς a3 (bW x.net qm).length c3],ι 0]) (by simp [results,Tryz.results16,go_sem,p0,p1,p2,p3,p4,p5]) rfl ?_;have G7:=G5.o.grown g7 (fun q hq=>by simp at hq;omega);rw [HE.o,HE2.o];refine⟨_,rfl,Of.ku (uw.o.mono (dM HC.o)) (uD.o.mono (dM HC.o)) ?_,G7⟩;have h9:=Ht.o;rw [dZ] at h9;refine Sl.mono (fun a u e=>?_) (show uH _ _ _ from by simpa using h9);have hgd:=XD.o;have hz:=HZ.o;have e5:=dY (w:=w) rG.o (Nat.le_refl _) δ a u e;have e7:=dY (w:=w) g7 δ δ a u e5;exact lW HC.o (G1.o.trans XT.o) a u e7
theorem JL {c:CM} {v vs:Value} {x:AW} {sn:Int} {sp:List Pt} {n:Nat} {G:Reg} {k:Nat} (w:World) (hc:Sub c w.cell?) (hv:Of Ty.wd c v x) (hs:Of Ty.st c vs ⟨6,sn,sp⟩) (hi:WI n G x) (hf:tu k x) (hk:k<=90000) (h3:¬sn=3) (hh:oC x sn=false):
  Calls Tryz.prog 16 #[v,vs] w fun e w'=>∃v',e=.returned (.tuple #[v',ι (bI x ⟨6,sn,sp⟩)])/\Of Ty.wd (ov c w w') v' (iD x ⟨6,sn,sp⟩)/\Grow w w':=by
 obtain⟨al,cl,ao,co,ah,ch,an,cn,rfl⟩:=hv.fE;obtain⟨ap,cp,rfl⟩:=hs.je;obtain⟨q1,q2,q3⟩:=hv.eu;have uw:=η q1;have uD:=η q2;have xQ:=η q3;have vT:=η hs.ig;have FC:=η (hi.qE hf hk);have mY:=η hi;have HV:=η hv;have HC:=η hc;clear hc hv hs q1 q2 q3 hi hf;obtain⟨wa,cO⟩:∃y:World,y=w.alloc (.cells #[ς al x.head.log.length cl,ι x.head.aG,ι x.head.next,ς ao x.head.opn.length co,ς ah x.aA.length ch,ς an x.net.length cn] 33):=⟨_,rfl⟩;obtain⟨wb,hwb⟩:∃y:World,y=wa.alloc (.cells #[ι 6,ι sn,ς ap sp.length cp] 25):=⟨_,rfl⟩;obtain⟨wz,hwz⟩:∃y:World,y=wb.alloc (.cells #[(),ι 0,ι 0,(),(),()] 33):=⟨_,rfl⟩;have hsa:wa.heap.size=w.heap.size+1:=by rw [cO];simp
 have hsb:wb.heap.size=w.heap.size+2:=by rw [hwb];simp [hsa]
 have R2:Hid (wz.heap[w.heap.size]? =some (.cells #[ς al x.head.log.length cl,ι x.head.aG,ι x.head.next,ς ao x.head.opn.length co,ς ah x.aA.length ch,ς an x.net.length cn] 33 (0,0))):=η (by rw [hwz,hwb,cO];exact aB (aB (aF _ _) _) _);have R3:Hid (wz.heap[w.heap.size+1]? =some (.cells #[ι 6,ι sn,ς ap sp.length cp] 25 (0,0))):=η (by rw [hwz,hwb,<-hsa];exact aB (aF _ _) _);have R4:Hid (wz.heap[w.heap.size+2]? =some (.cells #[(),ι 0,ι 0,(),(),()] 33 (0,0))):=η (by rw [hwz,<-hsb];exact aF _ _);have G1:Hid (Grow w wz):=η (by rw [hwz,hwb,cO];exact(((Grow.refl w).alloc _).alloc _).alloc _);have HZ:Hid (wz.heap.size=w.heap.size+3):=η (by rw [hwz];simp [hsb]);go_enter Tryz.func16,Tryz.ntmps16;go_upto_region 1 with fail
 rw [<-cO];try rw [hsa]
 rw [<-hwb];try rw [hsb]
 rw [<-hwz];clear cO hwb hwz hsa hsb;obtain⟨c0,c1,c2,c3,c4,c5⟩:=aJ R2.o;obtain⟨d0,d1,d2⟩:=cells3 R3.o;have z2:w.heap.size<wz:=(γ R2.o);have z3:w.heap.size+1<wz:=(γ R3.o);go_cut [6] from 22 (fun s6 wc=>s6=.bool (there x sn)/\wz=wc)
 case first=>
  by_cases h0:0<=sn
  ·by_cases h1:sn<(x.net.length:Int)
   ·go_wp2
    go_meet
    case rel=>exact⟨by first|rfl|(simp [there,h0,h1];done),rfl⟩
   ·go_wp2
    go_meet
    case rel=>exact⟨by first|rfl|(simp [there,h0,h1];done)|(simp [there,h0];omega),rfl⟩
  ·go_wp2
   go_meet
   case rel=>exact⟨by first|rfl|(simp [there];done)|(simp [there];omega),rfl⟩
 case rest=>
 obtain⟨rfl,rfl⟩:=hcut;have HE:Hid (iD x ⟨6,sn,sp⟩=x):=η (by unfold iD;simp [h3,hh]);have HE2:Hid (bI x ⟨6,sn,sp⟩=6):=η (by unfold bI;simp [h3,hh]);have ZL:(sn==3)=false:=by simp [h3]
 have hor:sn<0∨(x.aA.length:Int)<=sn:=by have:=of_decide_eq_false hh;omega
 clear h3 hh;by_cases hl:sn<0
 ·clear hor
  go_wp2_with (first|(refine wpList_store_row rfl (.tmp 4) (.tmp 233) rfl rfl rfl R4.o bV rfl rfl ?_))
  intro w7 r7 g7;obtain⟨p0,p1,p2,p3,p4,p5⟩:=aJ r7;clear c0 c1 c2 c3 c4 c5;go_wp2;refine bodyPost_ret (v:=.tuple #[.agg #[ς al x.head.log.length cl,ι x.head.aG,ι x.head.next,ς ao x.head.opn.length co,ς ah x.aA.length ch,ς an x.net.length cn],ι 6]) (by simp [results,Tryz.results16,go_sem,p0,p1,p2,p3,p4,p5]) rfl ?_;have G7:=G1.o.grown g7 (fun q hq=>by simp at hq;omega);rw [HE.o,HE2.o];exact⟨_,rfl,HV.o.mono (dM HC.o),G7⟩
 have hg:(x.aA.length:Int)<=sn:=by omega
 clear hor;go_wp2_with (first|(refine wpList_store_row rfl (.tmp 4) (.tmp 233) rfl rfl rfl R4.o bV rfl rfl ?_))
 intro w7 r7 g7;obtain⟨p0,p1,p2,p3,p4,p5⟩:=aJ r7;clear c0 c1 c2 c3 c4 c5;go_wp2;refine bodyPost_ret (v:=.tuple #[.agg #[ς al x.head.log.length cl,ι x.head.aG,ι x.head.next,ς ao x.head.opn.length co,ς ah x.aA.length ch,ς an x.net.length cn],ι 6]) (by simp [results,Tryz.results16,go_sem,p0,p1,p2,p3,p4,p5]) rfl ?_;have G7:=G1.o.grown g7 (fun q hq=>by simp at hq;omega);rw [HE.o,HE2.o];exact⟨_,rfl,HV.o.mono (dM HC.o),G7⟩
theorem JM {c:CM} {v vs:Value} {x:AW} {sn:Int} {sp:List Pt} {n:Nat} {G:Reg} {k:Nat} (w:World) (hc:Sub c w.cell?) (hv:Of Ty.wd c v x) (hs:Of Ty.st c vs ⟨6,sn,sp⟩) (hi:WI n G x) (hf:tu k x) (hk:k<=90000) (hh:oC x sn=true):
  Calls Tryz.prog 16 #[v,vs] w fun e w'=>∃v',e=.returned (.tuple #[v',ι (bI x ⟨6,sn,sp⟩)])/\Of Ty.wd (ov c w w') v' (iD x ⟨6,sn,sp⟩)/\Grow w w':=by
 obtain⟨al,cl,ao,co,ah,ch,an,cn,rfl⟩:=hv.fE;obtain⟨ap,cp,rfl⟩:=hs.je;obtain⟨q1,q2,q3⟩:=hv.eu;have uw:=η q1;have uD:=η q2;have xQ:=η q3;have vT:=η hs.ig;have FC:=η (hi.qE hf hk);have mY:=η hi;have HV:=η hv;have HC:=η hc;have HH:=η hh;clear hh;clear hc hv hs q1 q2 q3 hi hf;obtain⟨wa,cO⟩:∃y:World,y=w.alloc (.cells #[ς al x.head.log.length cl,ι x.head.aG,ι x.head.next,ς ao x.head.opn.length co,ς ah x.aA.length ch,ς an x.net.length cn] 33):=⟨_,rfl⟩;obtain⟨wb,hwb⟩:∃y:World,y=wa.alloc (.cells #[ι 6,ι sn,ς ap sp.length cp] 25):=⟨_,rfl⟩;obtain⟨wz,hwz⟩:∃y:World,y=wb.alloc (.cells #[(),ι 0,ι 0,(),(),()] 33):=⟨_,rfl⟩;have hsa:wa.heap.size=w.heap.size+1:=by rw [cO];simp
 have hsb:wb.heap.size=w.heap.size+2:=by rw [hwb];simp [hsa]
 have R2:Hid (wz.heap[w.heap.size]? =some (.cells #[ς al x.head.log.length cl,ι x.head.aG,ι x.head.next,ς ao x.head.opn.length co,ς ah x.aA.length ch,ς an x.net.length cn] 33 (0,0))):=η (by rw [hwz,hwb,cO];exact aB (aB (aF _ _) _) _);have R3:Hid (wz.heap[w.heap.size+1]? =some (.cells #[ι 6,ι sn,ς ap sp.length cp] 25 (0,0))):=η (by rw [hwz,hwb,<-hsa];exact aB (aF _ _) _);have R4:Hid (wz.heap[w.heap.size+2]? =some (.cells #[(),ι 0,ι 0,(),(),()] 33 (0,0))):=η (by rw [hwz,<-hsb];exact aF _ _);have G1:Hid (Grow w wz):=η (by rw [hwz,hwb,cO];exact(((Grow.refl w).alloc _).alloc _).alloc _);have HZ:Hid (wz.heap.size=w.heap.size+3):=η (by rw [hwz];simp [hsb]);go_enter Tryz.func16,Tryz.ntmps16;go_upto_region 1 with fail
 rw [<-cO];try rw [hsa]
 rw [<-hwb];try rw [hsb]
 rw [<-hwz];clear cO hwb hwz hsa hsb;obtain⟨c0,c1,c2,c3,c4,c5⟩:=aJ R2.o;obtain⟨d0,d1,d2⟩:=cells3 R3.o;have z2:w.heap.size<wz:=(γ R2.o);have z3:w.heap.size+1<wz:=(γ R3.o);go_cut [6] from 22 (fun s6 wc=>s6=.bool (there x sn)/\wz=wc)
 case first=>
  by_cases h0:0<=sn
  ·by_cases h1:sn<(x.net.length:Int)
   ·go_wp2
    go_meet
    case rel=>exact⟨by first|rfl|(simp [there,h0,h1];done),rfl⟩
   ·go_wp2
    go_meet
    case rel=>exact⟨by first|rfl|(simp [there,h0,h1];done)|(simp [there,h0];omega),rfl⟩
  ·go_wp2
   go_meet
   case rel=>exact⟨by first|rfl|(simp [there];done)|(simp [there];omega),rfl⟩
 case rest=>
 obtain⟨rfl,rfl⟩:=hcut;obtain⟨h0,h1⟩:0<=sn/\sn<(x.aA.length:Int):=of_decide_eq_true HH.o;have hl3:x.aA.length<=3:=by have h8:=mY.o.core.len;have h9:=mY.o.core.n3;omega
 have HE:Hid (iD x ⟨6,sn,sp⟩=rH x sn.toNat):=η (by unfold iD;simp [HH.o]);have HE2:Hid (bI x ⟨6,sn,sp⟩=0):=η (by unfold bI;simp [HH.o]);have ZL:(sn==3)=false:=by rw [beq_eq_false_iff_ne];omega
 have h0':¬sn<0:=by omega
 have h1':¬(x.aA.length:Int)<=sn:=by omega
 obtain⟨i,hi⟩:∃i:Nat,sn.toNat=i:=⟨_,rfl⟩;have hin:i<x.aA.length:=by omega
 have pN:Hid (rH x sn.toNat={ x with net:=bW x.net (kX x.aA[i] i) }):=η (by
  rw [hi];unfold rH;rw [if_neg δ,List.getElem?_eq_getElem hin])
 have HTO:=η (Ez (k:=i) mY.o.core (List.getElem?_eq_getElem hin));have NT:=η (Hy (k:=i) mY.o.core (List.getElem?_eq_getElem hin));have ZF:Hid (∀m∈kX x.aA[i] i,aQ m=0):=η (WI.says HTO.o);have EY:=η mY.o.len;have sS:Hid (sn=(i:Int)):=η δ;have TK:=η vT.o.1;have hq2:=uD.o;obtain⟨FG,ch',EZ,-,-,-,hel⟩:=hq2;simp only [Value.slice.injEq,true_and] at EZ;obtain⟨rfl,rfl⟩:=EZ;obtain⟨bh,oh,vl,vr,vd,rfl,e0,e1,e2,e3,e4,e5,e6,hH1,s1,s2,s3,s4,hH2,hH3⟩:=nQ.at_ hel i hin;obtain⟨il,jl,rfl,-⟩:=id hH1;obtain⟨ir,jr,rfl,-⟩:=id hH2;obtain⟨N_,jd,rfl,-⟩:=id hH3;have YI:Hid (Of Ty.hs c (.agg #[.slice il x.aA[i].log.length jl,ι x.aA[i].sums.a,ι x.aA[i].sums.b,ι x.aA[i].sums.c,ι x.aA[i].sums.d,.slice ir x.aA[i].ready.length jr,.slice N_ x.aA[i].done.length jd]) x.aA[i]):=η ⟨_,rfl,_,_,_,rfl,hH1,s1,s2,s3,s4,hH2,hH3⟩;have F2:=η (And.intro e0 (And.intro e1 (And.intro e2 (And.intro e3 (And.intro e4 (And.intro e5 e6))))));clear hel hH1 hH2 hH3 s1 s2 s3 s4 e0 e1 e2 e3 e4 e5 e6 HH h0 h1 HTO;go_upto_region 45 with fail
 have HS:Hid (∀W,Grow wz W->W.cell? ⟨w.heap.size,4,none⟩=some (ς (some ⟨bh,oh,none⟩) x.aA.length ch)/\W.cell? ⟨w.heap.size,5,none⟩=some (ς an x.net.length cn)/\W.cell? ⟨w.heap.size+1,1,none⟩=some (ι sn)/\W.cell? ⟨bh,oh+i*7,none⟩=some (.slice il x.aA[i].log.length jl)/\W.cell? ⟨bh,oh+i*7+1,none⟩=some (ι x.aA[i].sums.a)/\W.cell? ⟨bh,oh+i*7+2,none⟩=some (ι x.aA[i].sums.b)/\W.cell? ⟨bh,oh+i*7+3,none⟩=some (ι x.aA[i].sums.c)/\W.cell? ⟨bh,oh+i*7+4,none⟩=some (ι x.aA[i].sums.d)/\W.cell? ⟨bh,oh+i*7+5,none⟩=some (.slice ir x.aA[i].ready.length jr)/\W.cell? ⟨bh,oh+i*7+6,none⟩=some (.slice N_ x.aA[i].done.length jd)):=fun W hW=>by
  obtain⟨-,-,-,-,j4,j5⟩:=aJ (aj R2.o hW);obtain⟨-,f1,-⟩:=cells3 (aj R3.o hW);have gs:=HC.o.trans (G1.o.trans hW).sub;obtain⟨e0,e1,e2,e3,e4,e5,e6⟩:=F2.o;exact⟨j4,j5,f1,gs _ _ e0,gs _ _ e1,gs _ _ e2,gs _ _ e3,gs _ _ e4,gs _ _ e5,gs _ _ e6⟩
 have hi0:(0:Int)<=sn:=by omega
 have hi1:sn<(x.aA.length:Int):=by omega
 clear c0 c1 c2 c3 c4 c5 d0 d1 d2 z2 z3;rw [pN.o] at HE;clear pN F2;generalize hgh:x.aA[i]=hh at*;clear hgh;refine bf (fun w'=>w'.cell? ⟨w.heap.size,4,none⟩=some (ς (some ⟨bh,oh,none⟩) x.aA.length ch)/\w'.cell? ⟨w.heap.size,5,none⟩=some (ς an x.net.length cn)/\w'.cell? ⟨w.heap.size+1,1,none⟩=some (ι sn)/\w'.cell? ⟨bh,oh+i*7,none⟩=some (ς il hh.log.length jl)/\w'.cell? ⟨bh,oh+i*7+1,none⟩=some (ι hh.sums.a)/\w'.cell? ⟨bh,oh+i*7+2,none⟩=some (ι hh.sums.b)/\w'.cell? ⟨bh,oh+i*7+3,none⟩=some (ι hh.sums.c)/\w'.cell? ⟨bh,oh+i*7+4,none⟩=some (ι hh.sums.d)/\w'.cell? ⟨bh,oh+i*7+5,none⟩=some (ς ir hh.ready.length jr)/\w'.cell? ⟨bh,oh+i*7+6,none⟩=some (ς N_ hh.done.length jd)) 13 κ ?_;obtain⟨wd,hWd⟩:∃x:World,x=wz.drew:=⟨_,rfl⟩;rw [<-hWd];have GD:Grow wz wd:=by rw [hWd];exact(Grow.refl _).drew
 have zD:wz.heap.size=wd.heap.size:=by rw [hWd];rfl
 have ZD:=η zD;clear hWd zD;refine ni [0,1,2,3,4,5,6,7,8,9] 18 κ (fun _ _ _ _ _ h=>h) (HS.o _ GD) ?_;repeat (refine gQ ?_;try simp only [aK])
 refine ny ?_;refine bO 10 κ rfl ?_;intro K HK;try simp only [aV]
 go_simp;go_at_call 58
 refine(FV (h:=hh) _ (YI.o.mono (HC.o.trans (G1.o.trans GD).sub)) TK.o (τ NT.o)).mono ?_;rintro e1 w1 ⟨v1,rfl,ho1,hb1⟩;obtain⟨a1,c1,rfl⟩:=ho1.form;have LC:=η (aI.sl (c:=fun _=>none) ε (fun _ _ e=>by cases e) ho1);have XT:=η (Grow.trans GD hb1);clear ho1 hb1;rw [sS.o] at LC ⊢;generalize kX hh i=qm at*;refine HK.o _ _ ⟨fun _=>HS.o _ XT.o,?_⟩;clear HK K;try simp only [aK]
 refine bO 11 κ rfl ?_;intro K HK;try simp only [aV]
 go_simp;go_at_call 51
 refine(jJ (c:=c) (l:=x.net.map aS) (ms:=qm) _ (HC.o.trans (G1.o.trans XT.o).sub) ?nv LC.o ZF.o (by rw [List.length_map];have:=EY.o;omega)).mono ?_
 case nv=>have h9:=xQ.o;simpa using h9
 rintro e3 w3 ⟨v3,rfl,hn3,hb3⟩;obtain⟨a3,c3,rfl,-⟩:=id hn3;have Ht:=η hn3;have G3:=η (Grow.trans XT.o hb3);have XD:=η (XT.o).size;clear hn3 hb3;rw [dZ,List.length_map];refine HK.o _ _ ⟨fun _=>HS.o _ G3.o,?_⟩;clear HK K;try simp only [aK]
 refine bO 12 κ rfl ?_;intro K HK;try simp only [aV]
 go_simp;refine HK.o _ _ ⟨fun _=>HS.o _ G3.o,?_⟩;clear HK K;try simp only [aK]
 refine bO 13 κ rfl ?_;intro K HK;refine aC rfl ?_;try simp only [aV]
 refine aU (.tmp 246) (.tmp 245) (v:=ς a3 (bW x.net qm).length c3) (new:=#[ς al x.head.log.length cl,ι x.head.aG,ι x.head.next,ς ao x.head.opn.length co,ς (some ⟨bh,oh,none⟩) x.aA.length ch,ς a3 (bW x.net qm).length c3]) rfl rfl ρ ρ (aj R2.o G3.o) gK σ ρ ρ ?_;intro w5 r5 g5;have Io:=η r5;have rG:=η g5;clear r5 g5;refine HK.o _ _ ⟨fun h=>absurd rfl h,?_⟩;clear HK K;try simp only [aK]
 refine aO κ ?_;have Gi:=η (aH (aj R4.o G3.o) rG.o (by intro e;have:=Option.some.inj e;omega));have G5:=η ((G1.o.trans G3.o).grown rG.o (fun q hq=>by simp at hq;omega));obtain⟨c0,T4,c2,XE,c4,c5⟩:=aJ Io.o;have z2:w.heap.size<w5:=(γ Io.o);go_wp2_with (first|(refine wpList_store_row rfl (.tmp 4) (.tmp 262) rfl rfl rfl Gi.o bV rfl rfl ?_))
 intro w7 r7 g7;obtain⟨p0,p1,p2,p3,p4,p5⟩:=aJ r7;clear c0 T4 c2 XE c4 c5;go_wp2;refine bodyPost_ret (v:=.tuple #[.agg #[ς al x.head.log.length cl,ι x.head.aG,ι x.head.next,ς ao x.head.opn.length co,ς (some ⟨bh,oh,none⟩) x.aA.length ch,ς a3 (bW x.net qm).length c3],ι 0]) (by simp [results,Tryz.results16,go_sem,p0,p1,p2,p3,p4,p5]) rfl ?_;have G7:=G5.o.grown g7 (fun q hq=>by simp at hq;omega);rw [HE.o,HE2.o];refine⟨_,rfl,Of.ku (uw.o.mono (dM HC.o)) (uD.o.mono (dM HC.o)) ?_,G7⟩;have h9:=Ht.o;rw [dZ] at h9;refine Sl.mono (fun a u e=>?_) (show uH _ _ _ from by simpa using h9);have hgd:=XD.o;have hz:=HZ.o;have e5:=dY (w:=w) rG.o (Nat.le_refl _) δ a u e;have e7:=dY (w:=w) g7 δ δ a u e5;exact lW HC.o (G1.o.trans XT.o) a u e7
theorem JO {c:CM} {v vs:Value} {x:AW} {sn:Int} {sp:List Pt} {n:Nat} {G:Reg} {k:Nat} (w:World) (hc:Sub c w.cell?) (hv:Of Ty.wd c v x) (hs:Of Ty.st c vs ⟨4,sn,sp⟩) (hi:WI n G x) (hf:tu k x) (hk:k<=90000) (ht:there x sn=true):
  Calls Tryz.prog 16 #[v,vs] w fun e w'=>∃v',e=.returned (.tuple #[v',ι (bI x ⟨4,sn,sp⟩)])/\Of Ty.wd (ov c w w') v' (iD x ⟨4,sn,sp⟩)/\Grow w w':=by
 obtain⟨al,cl,ao,co,ah,ch,an,cn,rfl⟩:=hv.fE;obtain⟨ap,cp,rfl⟩:=hs.je;obtain⟨q1,q2,q3⟩:=hv.eu;have uw:=η q1;have uD:=η q2;have xQ:=η q3;have vT:=η hs.ig;have FC:=η (hi.qE hf hk);have mY:=η hi;have HV:=η hv;have HC:=η hc;have HT:=η ht;clear hc hv hs q1 q2 q3 hi hf;obtain⟨wa,cO⟩:∃y:World,y=w.alloc (.cells #[ς al x.head.log.length cl,ι x.head.aG,ι x.head.next,ς ao x.head.opn.length co,ς ah x.aA.length ch,ς an x.net.length cn] 33):=⟨_,rfl⟩;obtain⟨wb,hwb⟩:∃y:World,y=wa.alloc (.cells #[ι 4,ι sn,ς ap sp.length cp] 25):=⟨_,rfl⟩;obtain⟨wz,hwz⟩:∃y:World,y=wb.alloc (.cells #[(),ι 0,ι 0,(),(),()] 33):=⟨_,rfl⟩;have hsa:wa.heap.size=w.heap.size+1:=by rw [cO];simp
 have hsb:wb.heap.size=w.heap.size+2:=by rw [hwb];simp [hsa]
 have R2:Hid (wz.heap[w.heap.size]? =some (.cells #[ς al x.head.log.length cl,ι x.head.aG,ι x.head.next,ς ao x.head.opn.length co,ς ah x.aA.length ch,ς an x.net.length cn] 33 (0,0))):=η (by rw [hwz,hwb,cO];exact aB (aB (aF _ _) _) _);have R3:Hid (wz.heap[w.heap.size+1]? =some (.cells #[ι 4,ι sn,ς ap sp.length cp] 25 (0,0))):=η (by rw [hwz,hwb,<-hsa];exact aB (aF _ _) _);have R4:Hid (wz.heap[w.heap.size+2]? =some (.cells #[(),ι 0,ι 0,(),(),()] 33 (0,0))):=η (by rw [hwz,<-hsb];exact aF _ _);have G1:Hid (Grow w wz):=η (by rw [hwz,hwb,cO];exact(((Grow.refl w).alloc _).alloc _).alloc _);have HZ:Hid (wz.heap.size=w.heap.size+3):=η (by rw [hwz];simp [hsb]);go_enter Tryz.func16,Tryz.ntmps16;go_upto_region 1 with fail
 rw [<-cO];try rw [hsa]
 rw [<-hwb];try rw [hsb]
 rw [<-hwz];clear cO hwb hwz hsa hsb;obtain⟨c0,c1,c2,c3,c4,c5⟩:=aJ R2.o;obtain⟨d0,d1,d2⟩:=cells3 R3.o;have z2:w.heap.size<wz:=(γ R2.o);have z3:w.heap.size+1<wz:=(γ R3.o);go_cut [6] from 22 (fun s6 wc=>s6=.bool (there x sn)/\wz=wc)
 case first=>
  by_cases h0:0<=sn
  ·by_cases h1:sn<(x.net.length:Int)
   ·go_wp2
    go_meet
    case rel=>exact⟨by first|rfl|(simp [there,h0,h1];done),rfl⟩
   ·go_wp2
    go_meet
    case rel=>exact⟨by first|rfl|(simp [there,h0,h1];done)|(simp [there,h0];omega),rfl⟩
  ·go_wp2
   go_meet
   case rel=>exact⟨by first|rfl|(simp [there];done)|(simp [there];omega),rfl⟩
 case rest=>
 obtain⟨rfl,rfl⟩:=hcut;obtain⟨h0,h1⟩:0<=sn/\sn<(x.net.length:Int):=of_decide_eq_true HT.o;have HE2:Hid (bI x ⟨4,sn,sp⟩=0):=η (by unfold bI;simp [ht]);have Iq:Hid (iD x ⟨4,sn,sp⟩=if x.net.length<24 then { x with net:=x.net++ [x.net.getD sn.toNat ⟨0,0,0,[]⟩] } else x):=η (by unfold iD;simp [ht]);rw [ht];obtain⟨i,hi⟩:∃i:Nat,sn=(i:Int):=⟨sn.toNat,δ⟩;have hil:i<x.net.length:=by omega
 have hti:sn.toNat=i:=by omega
 obtain⟨an',cn',EZ,-,-,-,hel⟩:=xQ.o;simp only [Value.slice.injEq] at EZ;obtain⟨rfl,-,rfl⟩:=EZ;obtain⟨bb,o,u,rfl,ci,hbi⟩:=uH.at_ hel i (by simpa using hil);obtain⟨au,cu,rfl,-⟩:=id hbi;have HBI:=η hbi;have HCI:=η ci;have yU:Hid ((x.net.map aS)[i]'(by simpa using hil)=aS (x.net.getD sn.toNat ⟨0,0,0,[]⟩)):=η (by rw [hti,List.getD_eq_getElem?_getD,List.getElem?_eq_getElem hil,List.getElem_map];rfl);have EY:=η mY.o.len;replace ci:=(HC.o.trans G1.o.sub) _ _ ci;clear hel hbi ht HT;rw [yU.o] at HBI ci HCI;clear yU;generalize x.net.getD sn.toNat ⟨0,0,0,[]⟩=m at*;by_cases Yf:x.net.length<24
 ·have HE:=η Iq.o
  rw [if_pos Yf] at HE;have T5:(x.net.length:Int)<24:=by omega
  have hi0:(0:Int)<=sn:=by omega
  have hi9:sn<(x.net.length:Int):=by omega
  clear Iq;go_wp2_with (first|(at_builtin;refine aZ (c:=c) (base:=w.heap.size+3) (l:=[]) (m:=x.net.map aS) (v:=ς (some ⟨wz.heap.size,0,none⟩) 0 0) jU rfl (iZ Ty.byte) ε rfl (.tmp 86) (.tmp 88) rfl rfl (aI.jw Ty.bs _ _ _ _ ?c1 ?c1') rfl ?src ?c3 ?c4 ?_))
  case c1=>rw [HZ.o];exact Nat.le_refl _
  case c1'=>rfl
  case src=>exact Src.iK ε (HC.o.trans (G1.o.alloc _).sub) xQ.o
  case c3=>(try simp);omega
  case c4=>have:=HZ.o;(try simp);omega
  intro a8 c8 w8 kV rX hb8;try simp only [List.length_nil,Nat.zero_add,List.nil_append] at kV
  try simp only [List.length_nil,Nat.zero_add]
  have qX:=η kV;have G8:=η (bn (w0:=wz) ((Grow.refl wz).alloc _) rX (d_ (Nat.le_refl _)));clear kV rX hb8 c0 c1 c2 c3 c4 c5 d0 d1 d2 ci z2 z3;go_wp2_with (first|(at_builtin;refine aZ (c:=c) (base:=w.heap.size+3) (l:=x.net.map aS) (m:=[aS m]) jU rfl (iZ Ty.byte) ε rfl (.tmp 89) (.tmp 91) rfl rfl (qX.o.grow ((Grow.refl _).alloc _)) rfl (Src.bQ (T:=Ty.bs) (x:=aS m) (cs:=#[ς au (aS m).length cu]) ⟨_,rfl,HBI.o⟩ _ _ ?d1) ?d2 ?d3 ?_))
  case d1=>first|rfl|simp
  case d2=>(try simp);omega
  case d3=>have:=G8.o.size;have:=HZ.o;(try simp);omega
  intro a9 c9 w9 fB eF gI;have G9:=η (bn (w0:=wz) (G8.o.alloc _) eF (fun q hq=>by have:=(qX.o.lt q hq).1;have:=HZ.o;omega));have iF:=η fB;have C_:=η (aj R2.o G9.o);have pP:=η (aj R4.o G9.o);clear fB eF gI;try simp only [List.length_map,List.length_singleton]
  go_wp2_with (first|(refine aN rfl (.tmp 93) (.tmp 92) (v:=ς a9 (x.net.length+1) c9) (new:=#[ς al x.head.log.length cl,ι x.head.aG,ι x.head.next,ς ao x.head.opn.length co,ς ah x.aA.length ch,ς a9 (x.net.length+1) c9]) rfl rfl ρ ρ C_.o gK σ ρ ρ ?_))
  intro w5 r5 g5;have Io:=η r5;have Gi:=η (aH pP.o g5 (by intro e;have:=Option.some.inj e;omega));have G5:=η ((G1.o.trans G9.o).grown g5 (fun q hq=>by simp at hq;omega));have l9:=η (iF.o.kept g5 (bJ iF.o δ));clear r5 g5;obtain⟨c0,c1,c2,c3,c4,c5⟩:=aJ Io.o;have z2:w.heap.size<w5:=(γ Io.o);go_wp2_with (first|(refine wpList_store_row rfl (.tmp 4) (.tmp 94) rfl rfl rfl Gi.o bV rfl rfl ?_))
  intro w7 r7 g7;obtain⟨p0,p1,p2,p3,p4,p5⟩:=aJ r7;clear c0 c1 c2 c3 c4 c5;go_wp2;refine bodyPost_ret (v:=.tuple #[.agg #[ς al x.head.log.length cl,ι x.head.aG,ι x.head.next,ς ao x.head.opn.length co,ς ah x.aA.length ch,ς a9 (x.net.length+1) c9],ι 0]) (by simp [results,Tryz.results16,go_sem,p0,p1,p2,p3,p4,p5]) rfl ?_;have G7:=G5.o.grown g7 (fun q hq=>by simp at hq;omega);rw [HE.o,HE2.o];refine⟨_,rfl,Of.ku (uw.o.mono (dM HC.o)) (uD.o.mono (dM HC.o)) ?_,G7⟩;have h9:=(l9.o.kept g7 (bJ l9.o δ)).slc ε (dM HC.o) fun a ha=>bH δ;rw [List.map_append];simpa using h9
 ·have HE:=η Iq.o
  rw [if_neg Yf] at HE;have T5:¬(x.net.length:Int)<24:=by omega
  have hi0:(0:Int)<=sn:=by omega
  have hi9:sn<(x.net.length:Int):=by omega
  clear Iq;go_wp2_with (first|(refine wpList_store_row rfl (.tmp 4) (.tmp 94) rfl rfl rfl R4.o bV rfl rfl ?_))
  intro w7 r7 g7;obtain⟨p0,p1,p2,p3,p4,p5⟩:=aJ r7;clear c0 c1 c2 c3 c4 c5;go_wp2;refine bodyPost_ret (v:=.tuple #[.agg #[ς al x.head.log.length cl,ι x.head.aG,ι x.head.next,ς ao x.head.opn.length co,ς ah x.aA.length ch,ς (some ⟨bb,o,none⟩) x.net.length cn],ι 0]) (by simp [results,Tryz.results16,go_sem,p0,p1,p2,p3,p4,p5]) rfl ?_;have G7:=G1.o.grown g7 (fun q hq=>by simp at hq;omega);rw [HE.o,HE2.o];exact⟨_,rfl,HV.o.mono (dM HC.o),G7⟩
end Go.Proofs.YtocnmkefmgmkbaaGreat
namespace Go.Proofs.YtocnmkefmgmkbaaGreat
theorem Ny:∀{n:Nat} {l:List UInt8} {xs:List Int} {r:List UInt8},ji n l=.inl (xs,r)->xs.length=n
 |0,l,xs,r,h=>by
  simp only [ji,Sum.inl.injEq,Prod.mk.injEq] at h;rw [<-h.1];rfl
 |n+1,l,xs,r,h=>by
  rw [ji] at h;split at h
  ·cases hn:ji n (l.drop (dP l).2.1.toNat) with
   |inl p=>
    obtain⟨ys,r'⟩:=p;rw [hn] at h;simp only [Sum.inl.injEq,Prod.mk.injEq] at h;rw [<-h.1,List.length_cons,Ny hn]
   |inr e=>rw [hn] at h;cases h
  ·cases h
def yX (j:Nat):Sum (List Int×List UInt8) Int->Sum (List Int×List UInt8) Int
 | .inl (xs,r)=>match ji j r with
  | .inl (ys,r')=>.inl (xs++ys,r')
  | .inr e=>.inr e
 | .inr e=>.inr e
theorem vI (j:Nat):∀(k:Nat) (l:List UInt8),ji (k+j) l=yX j (ji k l)
 |0,l=>by
  rw [Nat.zero_add];show ji j l=yX j (.inl ([],l));unfold yX;cases h:ji j l with
  |inl p=>obtain⟨ys,r'⟩:=p;simp [h]
  |inr e=>simp [h]
 |k+1,l=>by
  rw [show k+1+j=(k+j)+1 by omega,ji,ji];by_cases h:(dP l).2.2=0
  ·rw [if_pos h,if_pos h,vI j k]
   cases hk:ji k (l.drop (dP l).2.1.toNat) with
   |inl p=>
    obtain⟨xs,r⟩:=p;simp only [yX];cases hj:ji j r with
    |inl q=>obtain⟨ys,r'⟩:=q;simp
    |inr e=>simp
   |inr e=>simp [yX]
  ·rw [if_neg h,if_neg h];simp [yX]
structure vJ (l:List UInt8) (xs:List Int) (r:List UInt8) (want:Int):Prop where
 got:ji xs.length l=.inl (xs,r)
 few:xs.length<3->want=3
 more:3<=xs.length->0<=xs.getD 2 0/\xs.getD 2 0<=4/\want=3+2*xs.getD 2 0
 le:(xs.length:Int)<=want
theorem vJ.start (l:List UInt8):vJ l [] l 3:=⟨rfl,fun _=>rfl,fun h=>by simp at h,σ⟩
theorem yY {l r:List UInt8} {xs:List Int} (h:ji xs.length l=.inl (xs,r)):ji (xs.length+1) l=if(dP r).2.2=0 then .inl (xs++ [(dP r).1],r.drop (dP r).2.1.toNat) else .inr (dP r).2.2:=by
 rw [vI,h];by_cases hc:(dP r).2.2=0<;>simp [yX,ji,hc]
theorem Fa {l r:List UInt8} {xs:List Int} {j:Nat} (h:ji xs.length l=.inl (xs,r)) (hj:xs.length=3+j):∃r3,ji 3 l=.inl (xs.take 3,r3)/\ji j r3=.inl (xs.drop 3,r):=by
 rw [hj,vI] at h;cases h3:ji 3 l with
 |inr e=>rw [h3] at h;simp [yX] at h
 |inl p=>
  obtain⟨ys,r3⟩:=p;have hl:=Ny h3;rw [h3] at h;simp only [yX] at h;cases h4:ji j r3 with
  |inr e=>rw [h4] at h;simp at h
  |inl q=>
   obtain⟨zs,r4⟩:=q;rw [h4] at h;simp only [Sum.inl.injEq,Prod.mk.injEq] at h;obtain⟨rfl,rfl⟩:=h;refine⟨r3,?_,?_⟩
   ·rw [List.take_append_of_le_length δ,List.take_of_length_le δ]
   ·rw [List.drop_append_of_le_length δ,List.drop_of_length_le δ];simpa using h4
theorem getD_take {xs:List Int} {i n:Nat} (h:i<n):(xs.take n).getD i 0=xs.getD i 0:=by
 rw [List.getD_eq_getElem?_getD,List.getD_eq_getElem?_getD,List.getElem?_take_of_lt h]
theorem vJ.fails {l r:List UInt8} {xs:List Int} {want:Int} (h:vJ l xs r want) (hlt:(xs.length:Int)<want) (he:(dP r).2.2≠0) (kind:Int):readBody kind l=(ms0,(dP r).2.2):=by
 have h1:=yY h.got;rw [if_neg he] at h1;by_cases h3:xs.length<3
 ·have h2:ji 3 l=.inr (dP r).2.2:=by
   rw [show 3=(xs.length+1)+(2 - xs.length) by omega,vI,h1];rfl
  unfold readBody;rw [h2]
 ·obtain⟨m0,m4,hw⟩:=h.more δ
  obtain⟨r3,e3,ej⟩:=Fa h.got (j:=xs.length - 3) δ;unfold readBody;rw [e3];simp only [getD_take (xs:=xs) (i:=2) (n:=3) δ,getD_take (xs:=xs) (i:=1) (n:=3) δ,getD_take (xs:=xs) (i:=0) (n:=3) δ];rw [if_neg δ];have h5:ji (2*(xs.getD 2 0).toNat) r3=.inr (dP r).2.2:=by
   have h6:ji (xs.drop 3).length r3=.inl (xs.drop 3,r):=by rw [List.length_drop];exact ej
   have h7:=yY h6;rw [if_neg he] at h7;rw [show 2*(xs.getD 2 0).toNat=((xs.drop 3).length+1)+(2*(xs.getD 2 0).toNat - ((xs.drop 3).length+1)) by rw [List.length_drop];omega,vI,h7];rfl
  rw [h5]
theorem vJ.five {l r:List UInt8} {xs:List Int} {want:Int} (h:vJ l xs r want) (h2:xs.length=2) (he:(dP r).2.2=0) (hr:(dP r).1<0∨4<(dP r).1) (kind:Int):readBody kind l=(ms0,5):=by
 have h1:=yY h.got;rw [if_pos he,h2] at h1;unfold readBody;rw [h1];have:(xs++ [(dP r).1]).getD 2 0=(dP r).1:=by
  rw [List.getD_eq_getElem?_getD,List.getElem?_append_right δ,h2];rfl
 simp only [this];rw [if_pos hr]
theorem vJ.next {l r:List UInt8} {xs:List Int} {want:Int} (h:vJ l xs r want) (hlt:(xs.length:Int)<want) (he:(dP r).2.2=0) (hr:xs.length=2->0<=(dP r).1/\(dP r).1<=4):
  vJ l (xs++ [(dP r).1]) (r.drop (dP r).2.1.toNat) (if xs.length=2 then 3+2*(dP r).1 else want):=by
 have h1:=yY h.got;rw [if_pos he] at h1;have hl:(xs++ [(dP r).1]).length=xs.length+1:=by simp
 have hg:∀h3:3<=xs.length,(xs++ [(dP r).1]).getD 2 0=xs.getD 2 0:=fun h3=>by
  rw [List.getD_eq_getElem?_getD,List.getElem?_append_left δ,List.getD_eq_getElem?_getD]
 refine⟨by rw [hl];exact h1,fun h3=>?_,fun h3=>?_,?_⟩
 ·rw [hl] at h3
  rw [if_neg δ];exact h.few δ
 ·rw [hl] at h3
  by_cases h2:xs.length=2
  ·have:(xs++ [(dP r).1]).getD 2 0=(dP r).1:=by
    rw [List.getD_eq_getElem?_getD,List.getElem?_append_right δ,h2];rfl
   rw [this,if_pos h2];exact⟨(hr h2).1,(hr h2).2,rfl⟩
  ·rw [hg δ,if_neg h2]
   exact h.more δ
 ·rw [hl]
  split
  ·have:=hr (by assumption);omega
  ·omega
theorem vJ.all {l r:List UInt8} {xs:List Int} {want:Int} (h:vJ l xs r want) (hle:want<=(xs.length:Int)) (kind:Int):
  readBody kind l=if r≠ [] then(ms0,2) else
   if aQ ⟨kind,xs.getD 0 0,xs.getD 1 0,pairs (xs.getD 1 0) (xs.drop 3)⟩=0 then(⟨kind,xs.getD 0 0,xs.getD 1 0,pairs (xs.getD 1 0) (xs.drop 3)⟩,0)
   else(ms0,aQ ⟨kind,xs.getD 0 0,xs.getD 1 0,pairs (xs.getD 1 0) (xs.drop 3)⟩):=by
 have h3:3<=xs.length:=by
  by_cases h3:xs.length<3
  ·have:=h.few h3;omega
  ·omega
 obtain⟨m0,m4,hw⟩:=h.more h3;have hl:=h.le;obtain⟨r3,e3,ej⟩:=Fa h.got (j:=xs.length - 3) δ;unfold readBody;rw [e3];simp only [getD_take (xs:=xs) (i:=2) (n:=3) δ,getD_take (xs:=xs) (i:=1) (n:=3) δ,getD_take (xs:=xs) (i:=0) (n:=3) δ];rw [if_neg δ,show 2*(xs.getD 2 0).toNat=xs.length - 3 by omega,ej]
end Go.Proofs.YtocnmkefmgmkbaaGreat
namespace Go.Proofs.YtocnmkefmgmkbaaGreat
open Go.RowKit
def lenOf:Value->Nat
 | .slice _ n _=>n
 |_=>0
theorem vJ.bound {l r:List UInt8} {xs:List Int} {want:Int} (h:vJ l xs r want):3<=want/\want<=11:=by
 by_cases h3:xs.length<3
 ·have:=h.few h3;omega
 ·have:=h.more δ;omega
theorem vJ.UA {l r:List UInt8} {xs:List Int} {want:Int} (h:vJ l xs r want) (hw:want<=(xs.length:Int)):(∃n,xs.length=3+2*n)/\(∀j,3+2*j<xs.length->3+2*j+1<xs.length):=by
 have h3:3<=xs.length:=by have:=h.bound;omega
 obtain⟨m0,m4,hw2⟩:=h.more h3;have hl:=h.le;exact⟨⟨(xs.getD 2 0).toNat,δ⟩,fun j hj=>δ⟩
theorem yZ {w w':World} {B:Nat} {a:Addr} {v:Value} (h:w.cell? a=some v) (hg:w.grownBy w' (some B)) (hne:a.block≠B):w'.cell? a=some v:=by
 rw [dh hg (World.block_lt_of_cell? w a h) hne];exact h
theorem zi {xs:List Int} {i:Nat} (h:i<xs.length):xs.getD i 0=xs[i]:=by
 rw [List.getD_eq_getElem?_getD,List.getElem?_eq_getElem h];rfl
theorem aI.JQ {c:CM} {w:World} {base e g cap:Nat} {xs:List Int} (h:aI Ty.int c w base e (ς (some ⟨g,0,none⟩) xs.length cap) xs) {i:Nat} (hi:i<xs.length):w.cell? ⟨g,i,none⟩=some (ι (xs.getD i 0)):=by
 obtain⟨g',cs,he,⟨rfl,-⟩,hA⟩:=h.get ε i hi;obtain rfl:g=g':=by simpa using he
 have:=hA 0 _ rfl;rw [zi hi];simpa [Ty.int] using this
theorem aI.Fb {c:CM} {w:World} {base e:Nat} {v:Value} {xs:List Int} (h:aI Ty.int c w base e v xs) (i:Nat):I64 (xs.getD i 0):=by
 by_cases hi:i<xs.length
 ·obtain⟨css,-,h2,h3⟩:=h
  have:=(h3 i css[i] xs[i] (List.getElem?_eq_getElem δ) (List.getElem?_eq_getElem hi)).2;rw [zi hi];exact this
 ·rw [List.getD_eq_getElem?_getD,List.getElem?_eq_none δ];exact fP
theorem aI.ZM {c:CM} {w:World} {base e:Nat} {v:Value} {xs:List Int} (h:aI Ty.int c w base e v xs):∀x∈xs,I64 x:=fun x hx=>by
 obtain⟨i,hi,rfl⟩:=List.mem_iff_getElem.1 hx;have:=h.Fb i;rw [zi hi] at this;exact this
theorem ZN {c:CM} {w:World} {base e cap:Nat} {a:Option Addr} {xs:List Int} (h:aI Ty.int c w base e (ς a xs.length cap) xs) (h3:3<=xs.length):∃g,a=some ⟨g,0,none⟩/\w.cell? ⟨g,0,none⟩=some (ι (xs.getD 0 0))/\w.cell? ⟨g,1,none⟩=some (ι (xs.getD 1 0))/\g<w.heap.size:=by
 obtain⟨g,cs,rfl,-,-⟩:=h.get ε 0 δ;exact⟨g,rfl,h.JQ δ,h.JQ δ,(h.lt g rfl).2⟩
theorem XU {c:CM} {w:World} {base e g cap:Nat} {xs:List Int} (h:aI Ty.int c w base e (ς (some ⟨g,0,none⟩) xs.length cap) xs) {i:Nat} (hi:i+1<xs.length):w.cell? ⟨g,i,none⟩=some (ι (xs.getD i 0))/\w.cell? ⟨g,i+1,none⟩=some (ι (xs.getD (i+1) 0)):=⟨h.JQ δ,h.JQ hi⟩
theorem Qj (h:Int) {xs:List Int} {k:Nat} (hl:3+2*k+1<xs.length):pairs h ((xs.drop 3).take (2*(k+1)))=pairs h ((xs.drop 3).take (2*k))++ [⟨h,xs.getD (3+2*k) 0,xs.getD (3+2*k+1) 0⟩]:=by
 have e1:(xs.drop 3).length=xs.length - 3:=List.length_drop;have e2:(xs.drop 3).take (2*(k+1))=(xs.drop 3).take (2*k)++ [xs.getD (3+2*k) 0,xs.getD (3+2*k+1) 0]:=by
  rw [show 2*(k+1)=2*k+1+1 by omega,List.take_succ_eq_append_getElem δ,List.take_succ_eq_append_getElem δ,List.getElem_drop,List.getElem_drop,zi δ,zi δ,List.append_assoc];rfl
 rw [e2,xG h k (by rw [List.length_take];omega)]
theorem B_ (h:Int) {xs:List Int} {k:Nat} (hk:3+2*k<=xs.length):(pairs h ((xs.drop 3).take (2*k))).length=k:=
 (xB k (by rw [List.length_take,List.length_drop];omega)).2
theorem Fe {h:Int} (hh:I64 h):∀{l:List Int},(∀x∈l,I64 x)->wH (pairs h l)
 | [],_=>fun p hp=>by simp [pairs] at hp
 | [x],_=>fun p hp=>by simp [pairs] at hp
 |x::y::l,hl=>fun p hp=>by
  rw [pairs] at hp;rcases List.mem_cons.1 hp with rfl|hp
  ·exact⟨hh,hl _ σ,hl _ σ⟩
  ·exact Fe hh (fun z hz=>hl z (by simp [hz])) p hp
theorem Nz:(Tryz.prog.info? 3).map (·.size)=some 1:=by kernel_rfl
theorem info_parts:(Tryz.prog.info? 23).map (·.size)=some 1:=by kernel_rfl
structure pQ (w wr:World) (B6 wb:Nat) (z:Nat) (d h:Int) (vp:Value) (g8 c8:Nat) (ps:List Pt) (xs:List Int):Prop where
 res:wr.heap[w.heap.size]? =some (.cells #[ι 0,ι 0,ι 0,()] 85 (0,0))
 msg:wr.heap[B6]? =some (.cells #[ι z,ι d,ι h,vp] 85 (0,0))
 num:aI Ty.int (fun _=>none) wr wb 3 (ς (some ⟨g8,0,none⟩) xs.length c8) xs
 own:wr.ownsRow (B6+1) 111 3 vp ps.length (ps.flatMap Pt.cells)
 grow:Grow w wr
 lo:w.heap.size<B6
 F3:B6<wb
 Jb:∀q,vp.ownBlock=some q->q≠B6/\q≠g8
theorem pQ.still {w wr y z9:World} {B6 wb z:Nat} {d h:Int} {vp:Value} {g8 c8:Nat} {ps:List Pt} {xs:List Int} (p:pQ w wr B6 wb z d h vp g8 c8 ps xs) (_hG:Grow wr y) (hg:y.grownBy z9 vp.ownBlock) {u v x t:Value} {i j:Nat}
  (hS:y.cell? ⟨B6,3,none⟩=some u/\y.cell? ⟨B6,2,none⟩=some v/\y.cell? ⟨g8,i,none⟩=some x/\y.cell? ⟨g8,j,none⟩=some t):
  z9.cell? ⟨B6,3,none⟩=some u/\z9.cell? ⟨B6,2,none⟩=some v/\z9.cell? ⟨g8,i,none⟩=some x/\z9.cell? ⟨g8,j,none⟩=some t:=by
 have k:∀(a:Addr) (v:Value),some a.block≠vp.ownBlock->y.cell? a=some v->z9.cell? a=some v:=fun a v hne e=>by
  rw [World.cell?_of_block (hg.block a.block (World.block_lt_of_cell? y a e) hne)];exact e
 have n6:some B6≠vp.ownBlock:=fun e=>(p.Jb _ e.symm).1 rfl;have n8:some g8≠vp.ownBlock:=fun e=>(p.Jb _ e.symm).2 rfl;exact⟨k _ _ n6 hS.1,k _ _ n6 hS.2.1,k _ _ n8 hS.2.2.1,k _ _ n8 hS.2.2.2⟩
theorem pQ.part {w wr y z9 zz:World} {B6 wb z:Nat} {d h:Int} {vp:Value} {g8 c8:Nat} {ps ps':List Pt} {xs:List Int} {a':Option Addr} {n c':Nat} (p:pQ w wr B6 wb z d h vp g8 c8 ps xs) (hG:Grow wr y)
  (ho:z9.ownsRow (B6+1) 111 3 (ς a' n c') ps'.length (ps'.flatMap Pt.cells)) (hg:y.grownBy z9 vp.ownBlock)
  (hb:(Value.slice a' n c').ownBlock=vp.ownBlock∨∃g,(Value.slice a' n c').ownBlock=some g/\y.heap.size<=g)
  (hz:zz.heap[B6]? =some (.cells #[ι z,ι d,ι h,ς a' n c'] 85 (0,0))) (hgz:z9.grownBy zz (some B6)):pQ w zz B6 wb z d h (ς a' n c') g8 c8 ps' xs:=by
 have z8:=p.num.lt g8 rfl;have zg:=hG.size;have z9s:=hg.size;have hlo:=p.lo;have hwb:=p.F3;have n8:some g8≠vp.ownBlock:=fun e=>(p.Jb _ e.symm).2 rfl;have nR:some w.heap.size≠vp.ownBlock:=fun e=>by have:=(p.own.lt _ e.symm).1;omega
 have hdis:∀q,(Value.slice a' n c').ownBlock=some q->q≠B6/\q≠g8:=fun q hq=>by
  rcases hb with e|⟨g,e,hge⟩
  ·exact p.Jb q (e.symm.trans hq)
  ·rw [e] at hq
   obtain rfl:=Option.some.inj hq;constructor<;>omega
 refine⟨aH (aH (aj p.res hG) hg nR) hgz (by intro e;have:=Option.some.inj e;omega),hz,?_,?_,?_,hlo,hwb,hdis⟩
 ·refine((p.num.grow hG).kept hg (.inr ?_)).kept hgz (.inr ?_)
  ·simpa [Value.ownBlock] using n8
  ·simp [Value.ownBlock];omega
 ·refine ho.kept hgz ?_
  cases e:(Value.slice a' n c').ownBlock with
  |none=>exact .inl rfl
  |some q=>exact .inr (by have:=(hdis q e).1;intro e2;exact this (Option.some.inj e2))
 ·exact((p.grow.trans hG).grown hg (fun q hq=>by have:=(p.own.lt q hq).1;omega)).grown hgz (fun q hq=>by simp at hq;omega)
theorem qj {n:Int} (w:World):Calls Tryz.prog 92 #[ι n] w fun e w'=>e=.returned (.tuple #[.agg #[ι 0,ι 0,ι 0,()],ι n])/\Grow w w':=by
 have R2:=η (aF w (.cells #[ι 0,ι 0,ι 0,()] 85));have G1:=η ((Grow.refl w).alloc (.cells #[ι 0,ι 0,ι 0,()] 85));go_enter Tryz.func92,Tryz.ntmps92;go_wp2_with (first|(refine wpList_store_row rfl (.tmp 2) (.tmp 4) rfl rfl rfl R2.o fD rfl rfl ?_))
 intro w7 r7 g7;obtain⟨p0,p1,p2,p3⟩:=cells4 r7;go_wp2;refine bodyPost_ret (v:=.tuple #[.agg #[ι 0,ι 0,ι 0,()],ι n]) (by simp [results,Tryz.results92,go_sem,p0,p1,p2,p3]) rfl ?_;exact⟨rfl,G1.o.grown g7 (fun q hq=>by simp at hq;omega)⟩
theorem Ir {v:Value} {b:List UInt8} (w:World) (hv:Sz w.cell? v b):
  Calls Tryz.prog 52 #[v] w fun e w'=>∃v',e=.returned (.tuple #[v',ι (readB b).2])/\Of Ty.ms (ov (fun _=>none) w w') v' (readB b).1/\Grow w w':=by
 have HV:=η hv;obtain⟨a,cap,rfl,h1,h2,-,hel⟩:=hv;unfold maxLen at h2;by_cases hl3:b.length<3
 ·have HE:Hid (readB b=(ms0,8)):=by show readB b=_;unfold readB;rw [if_pos hl3]
  have R2:=η (aF w (.cells #[ι 0,ι 0,ι 0,()] 85));have G1:=η ((Grow.refl w).alloc (.cells #[ι 0,ι 0,ι 0,()] 85));clear hel;go_enter Tryz.func52,Tryz.ntmps52;go_wp2_with fail
  refine(qj _).mono ?_;rintro e w1 ⟨rfl,hb⟩;have R3:=η (aj R2.o hb);have G3:=η (G1.o.trans hb);clear hb;go_wp2_with (first|(refine wpList_store_row rfl (.tmp 2) (.tmp 20) rfl rfl rfl R3.o fD rfl rfl ?_))
  intro w7 r7 g7;obtain⟨p0,p1,p2,p3⟩:=cells4 r7;go_wp2;refine bodyPost_ret (v:=.tuple #[.agg #[ι 0,ι 0,ι 0,()],ι 8]) (by simp [results,Tryz.results52,go_sem,p0,p1,p2,p3]) rfl ?_;rw [HE.o];exact⟨_,rfl,j_ _,G3.o.grown g7 (fun q hq=>by simp at hq;omega)⟩
 have Yc:=η (fun(W:World) (hW:Grow w W)=>QS W ((HV.o.take' (b.length - 2) δ).mono hW.sub));obtain⟨bb,o,rfl,c0⟩:=byteAt hel 0 δ;obtain⟨bb',o',he,cx⟩:=byteAt hel (b.length - 2) δ;obtain⟨rfl,rfl⟩:bb=bb'/\o=o':=by simpa using he
 obtain⟨bb',o',he',cy⟩:=byteAt hel (b.length - 1) δ;obtain⟨rfl,rfl⟩:bb=bb'/\o=o':=by simpa using he'
 clear he he' hel;obtain⟨e,hle⟩:∃e,b.length=e+2:=⟨b.length - 2,δ⟩;obtain⟨x,hx⟩:∃x,x=(b[b.length - 2]' δ).toNat:=⟨_,rfl⟩;obtain⟨y,hy⟩:∃x,x=(b[b.length - 1]' δ).toNat:=⟨_,rfl⟩;obtain⟨z,hz⟩:∃x,x=(b[0]' δ).toNat:=⟨_,rfl⟩;obtain⟨s,hs⟩:∃s,s=qW (b.take (b.length - 2)):=⟨_,rfl⟩;have hx2:x<256:=by rw [hx];exact UInt8.toNat_lt _
 have hy2:y<256:=by rw [hy];exact UInt8.toNat_lt _
 have hz2:z<256:=by rw [hz];exact UInt8.toNat_lt _
 have hs1:s<65521:=by rw [hs];exact yJ _
 have hok:tZ b=decide (s=256*x+y):=by
  refine LQ (e:=e) hle ?_ ?_ hx2 hy2 (by rw [hs];congr 2;omega)
  ·rw [hx];simp [hle]
  ·rw [hy];simp [hle]
 have HZ:Hid (((b.getD 0 0).toNat:Nat)=z):=η (by rw [hz,List.getD_eq_getElem?_getD,List.getElem?_eq_getElem δ];rfl);rw [<-hx] at cx;rw [<-hy] at cy;rw [<-hz] at c0;rw [<-hs] at Yc;rw [show b.length - 2=e by omega] at cx Yc;rw [show b.length - 1=e+1 by omega] at cy;have QX:=η hl3;have HSL:=η (HV.o.take' (b.length - 2) δ);rw [show b.length - 2=e by omega] at HSL;have DQ:Hid (b.take (b.length - 2)=b.take e):=η (by congr 1;omega);have DS:Hid ((b.take e).length=e):=η (by rw [List.length_take];omega);rw [hle] at hl3 h1 ⊢;clear hx hy hz hs hle;have qp:=η hok;clear hok;have Aa:=η c0;have HCX:=η cx;have HCY:=η cy;have HSV:=η (fun(W:World) (hW:Grow w W)=>(show W.cell? ⟨bb,o+e,none⟩=some (.int .u8 x)/\W.cell? ⟨bb,o+(e+1),none⟩=some (.int .u8 y) from⟨hW.sub _ _ HCX.o,hW.sub _ _ HCY.o⟩));obtain⟨wa,cO⟩:∃y:World,y=w.alloc (.cells #[ι 0,ι 0,ι 0,()] 85):=⟨_,rfl⟩;have R2:Hid (wa.heap[w.heap.size]? =some (.cells #[ι 0,ι 0,ι 0,()] 85 (0,0))):=η (by rw [cO];exact aF _ _);have G1:Hid (Grow w wa):=η (by rw [cO];exact(Grow.refl w).alloc _);have HS:=η (fun(W:World) (hW:Grow wa W)=>HSV.o W (G1.o.trans hW));have mK:=η (fun(W:World) (hW:Grow wa W)=>Yc.o W (G1.o.trans hW));clear c0 cx cy HSV Yc;by_cases ht:s=256*x+y
 ·have oS:=η (show tZ b=true by rw [qp.o];exact decide_eq_true ht)
  have hbx:((s:Int) !=IntKind.i64.wrap (IntKind.i64.wrap (256*IntKind.i64.wrap (x:Int))+(y:Int)))=false:=by rw [IntWalk.i64_in (x:Int) δ,IntWalk.i64_in (256*(x:Int)) δ,IntWalk.i64_in (256*(x:Int)+(y:Int)) δ];rw [bne_eq_false_iff_eq];omega
  have ZP:((s:Int) !=IntKind.i64.wrap (IntKind.i64.wrap (256*IntKind.i64.wrap (x:Int))+IntKind.i64.wrap (y:Int)))=false:=by rw [IntWalk.i64_in (x:Int) δ,IntWalk.i64_in (y:Int) δ,IntWalk.i64_in (256*(x:Int)) δ,IntWalk.i64_in (256*(x:Int)+(y:Int)) δ];rw [bne_eq_false_iff_eq];omega
  have hbx2:((s:Int) !=256*(x:Int)+(y:Int))=false:=by rw [bne_eq_false_iff_eq];omega
  clear qp ht;have ha1:IntKind.i64.wrap ((e:Int)+1)=(e:Int)+1:=IntWalk.i64_in _ δ;have hi1:(e:Int)+1<(e:Int)+2:=by omega
  have hi0:(0:Int)<=(e:Int)+1:=by omega
  have hec:(e:Int)<=(cap:Int):=by omega
  have T6:(0:Int)<=(e:Int):=by omega
  have T7:(e:Int)<(e:Int)+2:=by omega
  go_enter Tryz.func52,Tryz.ntmps52;go_upto_region 5 with fail
  rw [<-cO];clear cO;go_cut [42] from 43 (fun T8 wc=>T8=.bool false/\Grow wa wc)
  case first=>
   go_region_held3 (fun w'=>w'.cell? ⟨bb,o+e,none⟩=some (.int .u8 x)/\w'.cell? ⟨bb,o+(e+1),none⟩=some (.int .u8 y)) (first|assumption|exact HS.o _ Ce) (first|(go_at_call 93;refine(mK.o _ Ce).mono ?_;rintro e0 w4 ⟨rfl,hb4⟩))
   have bL:Grow wa w4:=Ce;go_wp2;go_meet
   case rel=>exact⟨by first|rfl|(rw [hbx];done)|(rw [hbx2];done)|(rw [ZP];done),bL⟩
  case rest=>
  obtain⟨rfl,hgw⟩:=hcut;have vY:=η hgw;have c0:=(G1.o.trans hgw).sub _ _ Aa.o;simp only [Nat.add_zero] at c0;have hzw:IntKind.i64.wrap (z:Int)=(z:Int):=IntWalk.i64_in _ δ;clear hgw;go_wp2;obtain⟨wb,hwb⟩:∃x:World,x=wc.alloc (.cells #[ι z,ι 0,ι 0,()] 85):=⟨_,rfl⟩;obtain⟨B6,Jc⟩:∃B,B=wc.heap.size:=⟨_,rfl⟩;have hrow:wb.heap[B6]? =some (.cells #[ι z,ι 0,ι 0,()] 85 (0,0)):=by rw [hwb,Jc];exact aF _ _
  have hgw:Grow wa wb:=by rw [hwb];exact vY.o.alloc _
  have hlo:wa.heap.size<=B6:=by rw [Jc];exact vY.o.size
  rw [<-hwb,<-Jc];clear hwb Jc c0;have RM:=η hrow;have GB:=η (G1.o.trans hgw);have R2B:=η (aj R2.o hgw);have CG:Hid (w.heap.size<B6):=η (τ (γ R2.o));have Oi:Hid (B6<wb.heap.size):=η (γ hrow);have J8:Hid (readB b=readBody z ((b.take e).drop 1)):=η (by unfold readB;rw [if_neg QX.o,if_pos oS.o,HZ.o,DQ.o]);have Am:Hid (((b.take e).drop 1).length=e - 1):=η (by rw [List.length_drop,DS.o]);have oA:=η (HSL.o.drop 1 δ);have HZI:Hid (I64 (z:Int)):=η (iW δ δ);have hcp:e+1<=cap - 1:=by omega
  have hcm:cap<=maxLen:=by have h9:=HV.o;obtain⟨a',cap',EZ,-,h8,-⟩:=h9;simp only [Value.slice.injEq] at EZ;omega
  clear hrow hgw hlo R2 G1 vY HSL mK HS oS DS DQ HZ QX Aa HCX HCY HV hzw hbx hbx2 ZP ha1 hi1 hi0 hl3 hx2 hy2 hs1;generalize (b.take e).drop 1=L at*;go_loopw [7,8,9] (fun s7 s8 s9 wr=>∃(xs:List Int) (r:List UInt8) (want:Int) (q cr:Nat),vJ L xs r want/\s9=ι want/\s7=ς (some ⟨bb,q,none⟩) r.length cr/\r.length+2<=cr/\cr<=maxLen/\Sz w.cell? (ς (some ⟨bb,q,none⟩) r.length cr) r/\aI Ty.int (fun _=>none) wr wb.heap.size 3 s8 xs/\Grow wb wr) (fun _ s8 _ _=>11 - lenOf s8)
  case atStart=>
   refine⟨[],L,3,o+1,cap - 1,vJ.start L,rfl,by rw [Am.o],by rw [Am.o];omega,δ,?_,aI.nil _ _ _ _ _,Grow.refl _⟩;have h9:=oA.o;rw [Am.o];simpa [show Ty.byte.size=1 from rfl] using h9
  case round=>
   obtain⟨xs,r,want,q,cr,hrd,rfl,rfl,hcr,hcm2,hbr,hown,hb⟩:=hrel;obtain⟨wx,rfl⟩:∃x:World,x=wr:=⟨_,rfl⟩;obtain⟨a8,c8,rfl⟩:=hown.form;obtain⟨hw3,A0r⟩:=hrd.bound;have HOWN:=η hown;have HB:=η hb;have UW:=η hbr;have vZ:=η hrd;have GX:=η (GB.o.trans hb);have QZ:=η (aj R2B.o hb);have QW:=η hrd.le;clear hown hb hbr hrd;by_cases hlt:(xs.length:Int)<want
   ·have HG:=η (YV wx (UW.o.mono GX.o.sub))
    obtain⟨g0,g1,g2,g3,g4,g5⟩:=xH r;by_cases he:(dP r).2.2=0
    ·obtain⟨k,hk⟩:∃k:Nat,(dP r).2.1=k:=⟨(dP r).2.1.toNat,δ⟩
     have qI:=η (fun h=>vZ.o.next hlt he h);have HFV:Hid (xs.length=2->(dP r).1<0∨4<(dP r).1->readB b=(ms0,5)):=fun h9 h8=>by rw [J8.o];exact vZ.o.five h9 he h8 _
     rw [hk] at HG qI;rw [he] at HG;simp only [Int.toNat_natCast] at qI;have hkl:k<=r.length:=by omega
     have Nh:=η (UW.o.drop k hkl);have FP:Hid ((r.drop k).length=r.length - k):=η List.length_drop;have i_:Hid (I64 (dP r).1):=η (iW δ δ);clear hk he g2 g3 g4 g5;generalize (dP r).1=x at*;have hkc:k<=cr:=by omega
     unfold maxLen at hcm2;have hxl:xs.length<12:=by have:=QW.o;omega
     go_wp2_with fail
     refine HG.o.mono ?_;rintro e9 w3 ⟨rfl,hb3⟩;have nC:=η (HOWN.o.grow hb3);have G3:=η (GX.o.trans hb3);have cE:=η (HB.o.trans hb3);have R3:=η (aj QZ.o hb3);clear hb3;go_wp2_with (first|(at_builtin;refine aZ (c:=fun _=>none) (base:=wb.heap.size) (l:=xs) (m:=[x]) iM rfl jW ε rfl (.tmp 72) (.tmp 74) rfl rfl ?own rfl (Src.bQ (T:=Ty.int) (x:=x) (cs:=#[ι x]) ⟨rfl,i_.o⟩ _ _ ?d1) ?d2 ?d3 ?_))
     case own=>exact nC.o.grow ((Grow.refl _).alloc _)
     case d1=>simp
     case d2=>simp;omega
     case d3=>have:=cE.o.size;simp;omega
     intro a9 c9 w9 fB eF gI;have iF:=η fB;have QL:=η (bn (w0:=wb) (cE.o.alloc _) eF (fun q hq=>(nC.o.lt q hq).1));have G9:=η (GB.o.trans QL.o);have R9:=η (aj R2B.o QL.o);clear fB eF gI;have hll:xs.length+ [x].length=xs.length+1:=by simp
     by_cases h2:xs.length=2
     ·have T9:((xs.length:Int)+1==3)=true:=by rw [h2];rfl
      have UB:xs.length+1=3:=by omega
      by_cases hx0:x<0
      ·have HE:=η (HFV.o h2 (.inl hx0))
       go_wp2_with fail
       refine(qj _).mono ?_;rintro e8 w8 ⟨rfl,hb8⟩;have R8:=η (aj R9.o hb8);have G8:=η (G9.o.trans hb8);clear hb8;go_wp2_with (first|(refine wpList_store_row rfl (.tmp 2) (.tmp 90) rfl rfl rfl R8.o fD rfl rfl ?_))
       intro w7 r7 g7;obtain⟨p0,p1,p2,p3⟩:=cells4 r7;go_wp2;refine bodyPost_ret (v:=.tuple #[.agg #[ι 0,ι 0,ι 0,()],ι 5]) (by simp [results,Tryz.results52,go_sem,p0,p1,p2,p3]) rfl ?_;rw [HE.o];exact⟨_,rfl,j_ _,G8.o.grown g7 (fun q hq=>by simp at hq;omega)⟩
      by_cases hx4:4<x
      ·have HE:=η (HFV.o h2 (.inr hx4))
       go_wp2_with fail
       refine(qj _).mono ?_;rintro e8 w8 ⟨rfl,hb8⟩;have R8:=η (aj R9.o hb8);have G8:=η (G9.o.trans hb8);clear hb8;go_wp2_with (first|(refine wpList_store_row rfl (.tmp 2) (.tmp 90) rfl rfl rfl R8.o fD rfl rfl ?_))
       intro w7 r7 g7;obtain⟨p0,p1,p2,p3⟩:=cells4 r7;go_wp2;refine bodyPost_ret (v:=.tuple #[.agg #[ι 0,ι 0,ι 0,()],ι 5]) (by simp [results,Tryz.results52,go_sem,p0,p1,p2,p3]) rfl ?_;rw [HE.o];exact⟨_,rfl,j_ _,G8.o.grown g7 (fun q hq=>by simp at hq;omega)⟩
      obtain⟨xn,rfl⟩:∃xn:Nat,x=xn:=⟨x.toNat,δ⟩;have HN:=η (qI.o (fun _=>⟨δ,δ⟩));rw [if_pos h2] at HN;have hxn:xn<=4:=by omega
      go_wp2;go_roundw
      case rel=>
       refine⟨xs++ [(xn:Int)],r.drop k,3+2*(xn:Int),q+k,cr - k,HN.o,by go_num,by rw [FP.o],by rw [FP.o];omega,by unfold maxLen;omega,?_,iF.o,QL.o⟩;have h9:=Nh.o;rw [FP.o];simpa [show Ty.byte.size=1 from rfl] using h9
      case measure=>simp [lenOf];omega
     ·have T9:((xs.length:Int)+1==3)=false:=by rw [beq_eq_false_iff_ne];omega
      have UB:¬xs.length+1=3:=by omega
      have HN:=η (qI.o (fun h=>absurd h h2));rw [if_neg h2] at HN;go_wp2;go_roundw
      case rel=>
       refine⟨xs++ [x],r.drop k,want,q+k,cr - k,HN.o,rfl,by rw [FP.o],by rw [FP.o];omega,by unfold maxLen;omega,?_,iF.o,QL.o⟩;have h9:=Nh.o;rw [FP.o];simpa [show Ty.byte.size=1 from rfl] using h9
      case measure=>simp [lenOf];omega
    ·have HE:Hid (readB b=(ms0,(dP r).2.2)):=η (by rw [J8.o];exact vZ.o.fails hlt he _)
     have hbe:((dP r).2.2 !=0)=true:=by simp [he]
     clear he g0 g1 g2 g3 g4 g5;generalize (dP r).2.2=er at*;generalize (dP r).2.1=ek at*;generalize (dP r).1=ex at*;go_wp2_with fail
     refine HG.o.mono ?_;rintro e9 w3 ⟨rfl,hb3⟩;have G3:=η (GX.o.trans hb3);have R3:=η (aj QZ.o hb3);clear hb3;go_wp2_with fail
     refine(qj _).mono ?_;rintro e8 w8 ⟨rfl,hb8⟩;have R8:=η (aj R3.o hb8);have G8:=η (G3.o.trans hb8);clear hb8;go_wp2_with (first|(refine wpList_store_row rfl (.tmp 2) (.tmp 70) rfl rfl rfl R8.o fD rfl rfl ?_))
     intro w7 r7 g7;obtain⟨p0,p1,p2,p3⟩:=cells4 r7;go_wp2;refine bodyPost_ret (v:=.tuple #[.agg #[ι 0,ι 0,ι 0,()],ι er]) (by simp [results,Tryz.results52,go_sem,p0,p1,p2,p3]) rfl ?_;rw [HE.o];exact⟨_,rfl,j_ _,G8.o.grown g7 (fun q hq=>by simp at hq;omega)⟩
   ·have EM:=η (vZ.o.all δ (z:Int))
    by_cases hr:r=[]
    ·have hrl:¬(0:Int)<(r.length:Int):=by rw [hr];simp
     have KH:=η (vZ.o.UA δ);rw [if_neg (by simp [hr])] at EM;have hx3:3<=xs.length:=by omega
     have A0s:xs.length<=11:=by have:=QW.o;omega
     obtain⟨g8,rfl,n0,n1,V6⟩:=ZN HOWN.o hx3;have Xu:=η V6;have fX:=η (aj RM.o HB.o);obtain⟨m0,m1,m2,m3⟩:=cells4 fX.o;have z6:B6<wx.heap.size:=(γ fX.o);have z8:wb.heap.size<=g8:=(HOWN.o.lt g8 rfl).1;have HS:Hid (∀W,Grow wx W->W.cell? ⟨g8,0,none⟩=some (ι (xs.getD 0 0))/\W.cell? ⟨g8,1,none⟩=some (ι (xs.getD 1 0))):=fun W hW=>⟨hW.sub _ _ n0,hW.sub _ _ n1⟩;have hi0:(0:Int)<(xs.length:Int):=by omega
     have hi1:(1:Int)<(xs.length:Int):=by omega
     have hn0:0<xs.length:=by omega
     have hn1:1<xs.length:=by omega
     have mL:=η (HOWN.o.Fb 1);have BT:=η (HOWN.o.Fb 0);clear hr m0 m1 m2 m3 n0 n1 V6;generalize xs.getD 0 0=dd at*;generalize xs.getD 1 0=hh at*;go_upto_region 23 with fail
     refine bf (fun w'=>w'.cell? ⟨g8,0,none⟩=some (ι dd)/\w'.cell? ⟨g8,1,none⟩=some (ι hh)) 9 κ ?_;obtain⟨wd,hWd⟩:∃x:World,x=wx.drew:=⟨_,rfl⟩;rw [<-hWd];have GD:Grow wx wd:=by rw [hWd];exact(Grow.refl _).drew
     have zD:wx.heap.size=wd.heap.size:=by rw [hWd];rfl
     have ZD:=η zD;clear hWd zD;refine ni [0,1,2,3,4,5] 12 κ (fun _ _ _ _ _ h=>h) (HS.o _ GD) ?_;repeat (refine gQ ?_;try simp only [aK])
     refine ny ?_;refine bO 6 κ rfl ?_;intro K HK;try simp only [aV]
     go_simp;refine HK.o _ _ ⟨fun _=>HS.o _ GD,?_⟩;clear HK K;try simp only [aK]
     refine bO 7 κ rfl ?_;intro K HK;refine aC rfl ?_;try simp only [aV]
     refine aU (.tmp 108) (.tmp 104) (v:=ι dd) (new:=#[ι z,ι dd,ι 0,()]) rfl rfl ρ ρ (aj fX.o GD) Nz σ ρ ρ ?_;intro z7 rz7 gz7;have cM:=η (And.intro rz7 gz7);clear rz7 gz7;refine HK.o _ _ ⟨fun _=>⟨yZ (HS.o _ GD).1 (cM.o.2) (by have:=Oi.o;show g8≠B6;omega),yZ (HS.o _ GD).2 (cM.o.2) (by have:=Oi.o;show g8≠B6;omega)⟩,?_⟩;clear HK K;try simp only [aK]
     refine bO 8 κ rfl ?_;intro K HK;try simp only [aV]
     go_simp;refine HK.o _ _ ⟨fun _=>⟨yZ (HS.o _ GD).1 (cM.o.2) (by have:=Oi.o;show g8≠B6;omega),yZ (HS.o _ GD).2 (cM.o.2) (by have:=Oi.o;show g8≠B6;omega)⟩,?_⟩;clear HK K;try simp only [aK]
     refine bO 9 κ rfl ?_;intro K HK;refine aC rfl ?_;try simp only [aV]
     refine aU (.tmp 109) (.tmp 107) (v:=ι hh) (new:=#[ι z,ι dd,ι hh,()]) rfl rfl ρ ρ cM.o.1 Nz σ ρ ρ ?_;intro z9 rz9 gz9;have F4:=η (And.intro rz9 gz9);clear rz9 gz9;refine HK.o _ _ ⟨fun h=>absurd rfl h,?_⟩;clear HK K;try simp only [aK]
     refine aO κ ?_;have oU:=η (grownBy_trans (ak GD (some B6)) (grownBy_trans cM.o.2 F4.o.2));have RM9:=η F4.o.1;have C_:=η (aH (aj QZ.o GD) (grownBy_trans cM.o.2 F4.o.2) (by have:=CG.o;intro e9;have:=Option.some.inj e9;omega));have GX9:=η (GX.o.grown oU.o (fun q hq=>by have:=CG.o;simp at hq;omega));have iF:=η (HOWN.o.kept oU.o (.inr (by have:=Oi.o;simp [Value.ownBlock];omega)));obtain⟨wy,rfl⟩:∃x:World,x=z9:=⟨_,rfl⟩;clear cM F4 oU GD ZD HS fX QZ GX HOWN HB;go_wp2;go_loopw [13] (fun i wr=>∃(i0 k:Nat) (vp:Value),i0=3+2*k/\i0<=xs.length/\i=ι (i0:Nat)/\pQ w wr B6 wb.heap.size z dd hh vp g8 c8 (pairs hh ((xs.drop 3).take (2*k))) xs) (fun i _=>xs.length - (intOf i).toNat)
     case atStart=>exact⟨3,0,(),rfl,δ,rfl,⟨C_.o,RM9.o,iF.o,World.ownsRow_nil _ _ _ _,GX9.o,CG.o,Oi.o,fun q hq=>by simp [Value.ownBlock] at hq⟩⟩
     case round=>
      obtain⟨i0,k,vp,hi0,hk3,rfl,hp⟩:=hrel;have HI0:=η hi0;obtain⟨wv,rfl⟩:∃x:World,x=wr:=⟨_,rfl⟩;obtain⟨ap,cp,rfl⟩:=aY hp.own;have HP:=η hp;clear hp;by_cases hlt2:i0<xs.length
      ·have hlt3:i0+1<xs.length:=by have:=KH.o.2 k δ;omega
       have tW:=η (Qj hh (xs:=xs) (k:=k) δ);rw [<-hi0] at tW;have Yd:=η (B_ hh (xs:=xs) (k:=k) δ);obtain⟨n0,n1⟩:=XU HP.o.num hlt3;have HIA:=η (HP.o.num.Fb i0);have nG:=η (HP.o.num.Fb (i0+1));have HS:Hid (∀W,Grow wv W->W.cell? ⟨B6,3,none⟩=some (ς ap (pairs hh ((xs.drop 3).take (2*k))).length cp)/\W.cell? ⟨B6,2,none⟩=some (ι hh)/\W.cell? ⟨g8,i0,none⟩=some (ι (xs.getD i0 0))/\W.cell? ⟨g8,i0+1,none⟩=some (ι (xs.getD (i0+1) 0))):=fun W hW=>by
        obtain⟨-,-,m2,m3⟩:=cells4 (aj HP.o.msg hW);exact⟨m3,m2,hW.sub _ _ n0,hW.sub _ _ n1⟩
       clear n0 n1;generalize xs.getD i0 0=xa at*;generalize xs.getD (i0+1) 0=xb at*;generalize pairs hh ((xs.drop 3).take (2*k))=ps at*;have hia:IntKind.i64.wrap ((i0:Int)+1)=(i0:Int)+1:=IntWalk.i64_in _ δ;have hib:(0:Int)<=(i0:Int)+1:=by omega
       have hic:(i0:Int)+1<(xs.length:Int):=by omega
       have hid:((i0:Int)+1).toNat=i0+1:=by omega
       clear hi0;go_upto_region 27 with fail
       refine bf (fun w'=>w'.cell? ⟨B6,3,none⟩=some (ς ap ps.length cp)/\w'.cell? ⟨B6,2,none⟩=some (ι hh)/\w'.cell? ⟨g8,i0,none⟩=some (ι xa)/\w'.cell? ⟨g8,i0+1,none⟩=some (ι xb)) 17 κ ?_;obtain⟨wd,hWd⟩:∃x:World,x=wv.drew:=⟨_,rfl⟩;rw [<-hWd];have GD:Grow wv wd:=by rw [hWd];exact(Grow.refl _).drew
       have zD:wv.heap.size=wd.heap.size:=by rw [hWd];rfl
       have ZD:=η zD;clear hWd zD;refine ni [0,1,2,3,4,5,6,7,8,9,10,11,12] 20 κ (fun _ _ _ _ _ h=>h) (HS.o _ GD) ?_;repeat (refine gQ ?_;try simp only [aK])
       refine ny ?_;refine bO 13 κ rfl ?_;intro K HK;try simp only [aV]
       go_simp;refine HK.o _ _ ⟨fun _=>HS.o _ GD,?_⟩;clear HK K;try simp only [aK]
       refine bO 14 κ rfl ?_;intro K HK;try simp only [aV]
       go_simp;obtain⟨y9,Za⟩:∃x:World,x=wd.alloc (.cells #[ι hh,ι xa,ι xb] 111):=⟨_,rfl⟩;have GY:Grow wd y9:=by rw [Za];exact(Grow.refl _).alloc _
       have RY:y9.heap[wd.heap.size]? =some (.cells #[ι hh,ι xa,ι xb] 111 (0,0)):=by rw [Za];exact aF _ _
       have HY:=η (And.intro (GD.trans GY) RY);rw [<-Za];clear Za GY RY;refine HK.o _ _ ⟨fun _=>HS.o _ HY.o.1,?_⟩;clear HK K;try simp only [aK]
       refine bO 15 κ rfl ?_;intro K HK;refine aC rfl ?_;try simp only [aV]
       refine oW (n:=ps.length) Di (.tmp 117) (.tmp 130) rfl rfl (g_ HP.o.own HY.o.1) (some ⟨wd.heap.size,0,none⟩) 1 1 [ι hh,ι xa,ι xb] rfl σ rfl (fun ad had j u hu=>?news) (Oa ⟨hh,xa,xb⟩) (by have:=Yd.o;have:=HI0.o;unfold maxLen;omega) (by have:=Yd.o;have:=HI0.o;omega) (by have:=HY.o.1.size;have:=(γ HP.o.msg);have:=HP.o.F3;omega) ?_
       case news=>
        obtain rfl:=Option.some.inj had;have h9:=cells3 HY.o.2;rw [Addr.add_lit,Nat.zero_add];match j,hu with
        |0,hu=>simp at hu;rw [<-hu];exact h9.1
        |1,hu=>simp at hu;rw [<-hu];exact h9.2.1
        |2,hu=>simp at hu;rw [<-hu];exact h9.2.2
        |j+3,hu=>simp at hu
       intro a9 c9 z9 hA;have HA:=η hA;clear hA;refine HK.o _ _ ⟨fun _=>HP.o.still HY.o.1 HA.o.grown (HS.o _ HY.o.1),?_⟩;clear HK K;try simp only [aK]
       refine bO 16 κ rfl ?_;intro K HK;try simp only [aV]
       go_simp;refine HK.o _ _ ⟨fun _=>HP.o.still HY.o.1 HA.o.grown (HS.o _ HY.o.1),?_⟩;clear HK K;try simp only [aK]
       refine bO 17 κ rfl ?_;intro K HK;refine aC rfl ?_;try simp only [aV]
       refine aU (.tmp 132) (.tmp 131) (v:=ς a9 (ps.length+1) c9) (new:=#[ι z,ι dd,ι hh,ς a9 (ps.length+1) c9]) rfl rfl ρ ρ (aH (aj HP.o.msg HY.o.1) HA.o.grown (fun e9=>(HP.o.Jb _ e9.symm).1 rfl)) info_parts σ ρ ρ ?_;intro zz rz gz;have HZZ:=η (And.intro rz gz);clear rz gz;refine HK.o _ _ ⟨fun h=>absurd rfl h,?_⟩;clear HK K;try simp only [aK]
       refine aO κ ?_;go_wp2;go_roundw
       case rel=>
        refine⟨i0+2,k+1,ς a9 (ps.length+1) c9,by have:=HI0.o;omega,δ,by go_num,?_⟩;rw [tW.o];refine HP.o.part (ps':=ps++ [⟨hh,xa,xb⟩]) HY.o.1 ?_ HA.o.grown HA.o.blk HZZ.o.1 HZZ.o.2;have h9:=HA.o.own;simpa [Pt.cells] using h9
       case measure=>simp [intOf];omega
      ·have Iq:=η (show(xs.drop 3).take (2*k)=xs.drop 3 from List.take_of_length_le (by rw [List.length_drop];omega))
       have Xw:=HP.o;rw [Iq.o] at Xw;have XV:=η Xw;have Yd:=η (B_ hh (xs:=xs) (k:=k) δ);rw [Iq.o] at Yd;clear HP;have qp:=η (Fe (l:=xs.drop 3) mL.o (fun x hx=>XV.o.num.ZM x (List.mem_of_mem_drop hx)));clear Xw Iq;generalize pairs hh (xs.drop 3)=ps at*;have HW:=η (fun(W:World) (hW:Grow wv W)=>SS (m:=⟨z,dd,hh,ps⟩) W ⟨_,rfl,ς ap ps.length cp,rfl,HZI.o,BT.o,mL.o,(m_.zy XV.o.own qp.o).mono hW.sub⟩);obtain⟨m0,m1,m2,m3⟩:=cells4 XV.o.msg;have z7:B6<wv.heap.size:=(γ XV.o.msg);go_wp2_with fail
       refine(HW.o _ (Grow.refl _)).mono ?_;rintro e9 wy2 ⟨rfl,hby⟩;have D3:=η (aj XV.o.res hby);have D4:=η (aj XV.o.msg hby);have JT:=η (g_ XV.o.own hby);have GY:=η (XV.o.grow.trans hby);clear hby m0 m1 m2 m3;by_cases hwr:aQ ⟨z,dd,hh,ps⟩=0
       ·have HE:Hid (readB b=(⟨z,dd,hh,ps⟩,0)):=η (by rw [J8.o,EM.o,if_pos hwr])
        have hbw:(aQ ⟨z,dd,hh,ps⟩ !=0)=false:=by simp [hwr]
        obtain⟨m0,m1,m2,m3⟩:=cells4 D4.o;have z9:B6<wy2.heap.size:=(γ D4.o);clear hwr;generalize aQ ⟨z,dd,hh,ps⟩=er at*;go_wp2_with (first|(refine wpList_store_row rfl (.tmp 2) (.tmp 142) rfl rfl rfl D3.o fD rfl rfl ?_))
        intro w7 r7 g7;obtain⟨p0,p1,p2,p3⟩:=cells4 r7;clear m0 m1 m2 m3;go_wp2;refine bodyPost_ret (v:=.tuple #[.agg #[ι z,ι dd,ι hh,ς ap ps.length cp],ι 0]) (by simp [results,Tryz.results52,go_sem,p0,p1,p2,p3]) rfl ?_;rw [HE.o];refine⟨_,rfl,⟨_,rfl,ς ap ps.length cp,rfl,HZI.o,BT.o,mL.o,?_⟩,GY.o.grown g7 (fun q hq=>by simp at hq;omega)⟩;have h9:=aI.pts (c:=fun _=>none) (JT.o.kept g7 (by
         cases e9:(Value.slice ap ps.length cp).ownBlock with
         |none=>exact .inl rfl
         |some q=>exact .inr (by have:=(XV.o.own.lt q e9).1;have:=XV.o.F3;have:=CG.o;intro e8;have:=Option.some.inj e8;omega))) qp.o
        exact h9.slc ε (fun _ _ e9=>by cases e9) (fun a9 ha=>bH (by have:=XV.o.F3;have:=CG.o;omega))
       ·have HE:Hid (readB b=(ms0,aQ ⟨z,dd,hh,ps⟩)):=η (by rw [J8.o,EM.o,if_neg hwr])
        have hbw:(aQ ⟨z,dd,hh,ps⟩ !=0)=true:=by simp [hwr]
        clear hwr;generalize aQ ⟨z,dd,hh,ps⟩=er at*;go_wp2_with fail
        refine(qj _).mono ?_;rintro e8 w8 ⟨rfl,hb8⟩;have R8:=η (aj D3.o hb8);have G8:=η (GY.o.trans hb8);clear hb8;go_wp2_with (first|(refine wpList_store_row rfl (.tmp 2) (.tmp 140) rfl rfl rfl R8.o fD rfl rfl ?_))
        intro w7 r7 g7;obtain⟨p0,p1,p2,p3⟩:=cells4 r7;go_wp2;refine bodyPost_ret (v:=.tuple #[.agg #[ι 0,ι 0,ι 0,()],ι er]) (by simp [results,Tryz.results52,go_sem,p0,p1,p2,p3]) rfl ?_;rw [HE.o];exact⟨_,rfl,j_ _,G8.o.grown g7 (fun q hq=>by simp at hq;omega)⟩
    ·have hrl:(0:Int)<(r.length:Int):=by have:=List.length_pos_iff.2 hr;omega
     have HE:Hid (readB b=(ms0,2)):=η (by rw [J8.o,EM.o,if_pos hr]);go_wp2_with fail
     refine(qj _).mono ?_;rintro e8 w8 ⟨rfl,hb8⟩;have R8:=η (aj QZ.o hb8);have G8:=η (GX.o.trans hb8);clear hb8;go_wp2_with (first|(refine wpList_store_row rfl (.tmp 2) (.tmp 100) rfl rfl rfl R8.o fD rfl rfl ?_))
     intro w7 r7 g7;obtain⟨p0,p1,p2,p3⟩:=cells4 r7;go_wp2;refine bodyPost_ret (v:=.tuple #[.agg #[ι 0,ι 0,ι 0,()],ι 2]) (by simp [results,Tryz.results52,go_sem,p0,p1,p2,p3]) rfl ?_;rw [HE.o];exact⟨_,rfl,j_ _,G8.o.grown g7 (fun q hq=>by simp at hq;omega)⟩
 ·have oS:=η (show tZ b=false by rw [qp.o];exact decide_eq_false ht)
  have hbx:((s:Int) !=IntKind.i64.wrap (IntKind.i64.wrap (256*IntKind.i64.wrap (x:Int))+(y:Int)))=true:=by rw [IntWalk.i64_in (x:Int) δ,IntWalk.i64_in (256*(x:Int)) δ,IntWalk.i64_in (256*(x:Int)+(y:Int)) δ];rw [bne_iff_ne];omega
  have ZP:((s:Int) !=IntKind.i64.wrap (IntKind.i64.wrap (256*IntKind.i64.wrap (x:Int))+IntKind.i64.wrap (y:Int)))=true:=by rw [IntWalk.i64_in (x:Int) δ,IntWalk.i64_in (y:Int) δ,IntWalk.i64_in (256*(x:Int)) δ,IntWalk.i64_in (256*(x:Int)+(y:Int)) δ];rw [bne_iff_ne];omega
  have hbx2:((s:Int) !=256*(x:Int)+(y:Int))=true:=by rw [bne_iff_ne];omega
  clear qp ht;have ha1:IntKind.i64.wrap ((e:Int)+1)=(e:Int)+1:=IntWalk.i64_in _ δ;have hi1:(e:Int)+1<(e:Int)+2:=by omega
  have hi0:(0:Int)<=(e:Int)+1:=by omega
  have hec:(e:Int)<=(cap:Int):=by omega
  have T6:(0:Int)<=(e:Int):=by omega
  have T7:(e:Int)<(e:Int)+2:=by omega
  have HE:Hid (readB b=(ms0,7)):=η (by unfold readB;rw [if_neg QX.o,if_neg (by rw [oS.o];decide)]);go_enter Tryz.func52,Tryz.ntmps52;go_upto_region 5 with fail
  rw [<-cO];clear cO;go_cut [42] from 43 (fun T8 wc=>T8=.bool true/\Grow wa wc)
  case first=>
   go_region_held3 (fun w'=>w'.cell? ⟨bb,o+e,none⟩=some (.int .u8 x)/\w'.cell? ⟨bb,o+(e+1),none⟩=some (.int .u8 y)) (first|assumption|exact HS.o _ Ce) (first|(go_at_call 93;refine(mK.o _ Ce).mono ?_;rintro e0 w4 ⟨rfl,hb4⟩))
   have bL:Grow wa w4:=Ce;go_wp2;go_meet
   case rel=>exact⟨by first|rfl|(rw [hbx];done)|(rw [hbx2];done)|(rw [ZP];done),bL⟩
  case rest=>
  obtain⟨rfl,bL⟩:=hcut;have R4:=η (aj R2.o bL);go_wp2_with fail
  refine(qj _).mono ?_;rintro e w5 ⟨rfl,hb⟩;have R5:=η (aj R4.o hb);have G5:=η (G1.o.trans (bL.trans hb));clear hb;go_wp2_with (first|(refine wpList_store_row rfl (.tmp 2) (.tmp 45) rfl rfl rfl R5.o fD rfl rfl ?_))
  intro w7 r7 g7;obtain⟨p0,p1,p2,p3⟩:=cells4 r7;go_wp2;refine bodyPost_ret (v:=.tuple #[.agg #[ι 0,ι 0,ι 0,()],ι 7]) (by simp [results,Tryz.results52,go_sem,p0,p1,p2,p3]) rfl ?_;rw [HE.o];exact⟨_,rfl,j_ _,G5.o.grown g7 (fun q hq=>by simp at hq;omega)⟩
theorem XW {v:Value} {b:List UInt8} (w:World) (hv:Sz w.cell? v b):
  Calls Tryz.prog 52 #[v] w fun e w'=>∃v',e=.returned (.tuple #[v',ι (readB b).2])/\Of Ty.ms w'.cell? v' (readB b).1/\Grow w w':=
 (Ir w hv).mono fun e w' ⟨v',he,hO,hg⟩=>⟨v',he,hO.mono (fun a u e9=>by
  unfold ov at e9;split at e9
  ·cases e9
  ·exact e9),hg⟩
theorem qO {P:Program} {t e:TypeId} {size bytes:Nat} (hE:EI P t e size bytes) {α:Type} {T:Ty α} (hT:T.size=size) (h1:zF T) (hb0:0<bytes) {c:CM} {w:World} {o:Oper} {a:Act} {K:Act->World->Prop} {Q:Exit->Act->World->Prop} (s x:Operand) (ho:o.op=.call { callee:=.builtin .append,args:=#[s,x],argTypes:=#[t,t] })
  {base:Nat} {v vs:Value} {l m k:List α} (hk:l++m=k) (hs:a.eval s=v) (hown:aI T c w base e v l) (hx:a.eval x=vs) (hsrc:Src T c w vs m)
  (hbytes:(l.length+m.length)*bytes<=140737488355328) (hbase:base<=w.heap.size)
  (h:∀a' n' c' w',n'=k.length->aI T c w' base e (ς a' n' c') k->w.grownBy w' v.ownBlock->((Value.slice a' n' c').ownBlock=v.ownBlock∨∃g,(Value.slice a' n' c').ownBlock=some g/\w.heap.size<=g)->K (a.put o.dst (ς a' n' c')) w'):o.wp P a w K Q:=
 dD hE hT h1 hb0 s x ho hs hown hx hsrc hbytes hbase fun a' c' w' h2 h3 h4=>h a' _ c' w' (by rw [<-hk,List.length_append]) (hk▸h2) h3 h4
theorem NC {c:CM} {v vs:Value} {x:AW} {sn:Int} {sp:List Pt} {n:Nat} {G:Reg} {k:Nat} (w:World) (hc:Sub c w.cell?) (hv:Of Ty.wd c v x) (hs:Of Ty.st c vs ⟨3,sn,sp⟩) (hi:WI n G x) (hf:tu k x) (hk:k<=90000) (ht:there x sn=true):
  Calls Tryz.prog 16 #[v,vs] w fun e w'=>∃v',e=.returned (.tuple #[v',ι (bI x ⟨3,sn,sp⟩)])/\Of Ty.wd (ov c w w') v' (iD x ⟨3,sn,sp⟩)/\Grow w w':=by
 obtain⟨al,cl,ao,co,ah,ch,an,cn,rfl⟩:=hv.fE;obtain⟨ap,cp,rfl⟩:=hs.je;obtain⟨q1,q2,q3⟩:=hv.eu;have uw:=η q1;have uD:=η q2;have xQ:=η q3;have vT:=η hs.ig;have FC:=η (hi.qE hf hk);have mY:=η hi;have HV:=η hv;have HC:=η hc;have HT:=η ht;clear hc hv hs q1 q2 q3 hi hf;obtain⟨wa,cO⟩:∃y:World,y=w.alloc (.cells #[ς al x.head.log.length cl,ι x.head.aG,ι x.head.next,ς ao x.head.opn.length co,ς ah x.aA.length ch,ς an x.net.length cn] 33):=⟨_,rfl⟩;obtain⟨wb,hwb⟩:∃y:World,y=wa.alloc (.cells #[ι 3,ι sn,ς ap sp.length cp] 25):=⟨_,rfl⟩;obtain⟨wz,hwz⟩:∃y:World,y=wb.alloc (.cells #[(),ι 0,ι 0,(),(),()] 33):=⟨_,rfl⟩;have hsa:wa.heap.size=w.heap.size+1:=by rw [cO];simp
 have hsb:wb.heap.size=w.heap.size+2:=by rw [hwb];simp [hsa]
 have R2:Hid (wz.heap[w.heap.size]? =some (.cells #[ς al x.head.log.length cl,ι x.head.aG,ι x.head.next,ς ao x.head.opn.length co,ς ah x.aA.length ch,ς an x.net.length cn] 33 (0,0))):=η (by rw [hwz,hwb,cO];exact aB (aB (aF _ _) _) _);have R3:Hid (wz.heap[w.heap.size+1]? =some (.cells #[ι 3,ι sn,ς ap sp.length cp] 25 (0,0))):=η (by rw [hwz,hwb,<-hsa];exact aB (aF _ _) _);have R4:Hid (wz.heap[w.heap.size+2]? =some (.cells #[(),ι 0,ι 0,(),(),()] 33 (0,0))):=η (by rw [hwz,<-hsb];exact aF _ _);have G1:Hid (Grow w wz):=η (by rw [hwz,hwb,cO];exact(((Grow.refl w).alloc _).alloc _).alloc _);have HZ:Hid (wz.heap.size=w.heap.size+3):=η (by rw [hwz];simp [hsb]);go_enter Tryz.func16,Tryz.ntmps16;go_upto_region 1 with fail
 rw [<-cO];try rw [hsa]
 rw [<-hwb];try rw [hsb]
 rw [<-hwz];clear cO hwb hwz hsa hsb;obtain⟨c0,c1,c2,c3,c4,c5⟩:=aJ R2.o;obtain⟨d0,d1,d2⟩:=cells3 R3.o;have z2:w.heap.size<wz:=(γ R2.o);have z3:w.heap.size+1<wz:=(γ R3.o);go_cut [6] from 22 (fun s6 wc=>s6=.bool (there x sn)/\wz=wc)
 case first=>
  by_cases h0:0<=sn
  ·by_cases h1:sn<(x.net.length:Int)
   ·go_wp2
    go_meet
    case rel=>exact⟨by first|rfl|(simp [there,h0,h1];done),rfl⟩
   ·go_wp2
    go_meet
    case rel=>exact⟨by first|rfl|(simp [there,h0,h1];done)|(simp [there,h0];omega),rfl⟩
  ·go_wp2
   go_meet
   case rel=>exact⟨by first|rfl|(simp [there];done)|(simp [there];omega),rfl⟩
 case rest=>
 obtain⟨rfl,rfl⟩:=hcut;obtain⟨h0,h1⟩:0<=sn/\sn<(x.net.length:Int):=of_decide_eq_true HT.o;have HE2:Hid (bI x ⟨3,sn,sp⟩=0):=η (by unfold bI;simp [ht]);have Iq:Hid (iD x ⟨3,sn,sp⟩={ x with net:=x.net.eraseIdx sn.toNat }):=η (by unfold iD;simp [ht]);rw [ht];obtain⟨i,hi⟩:∃i:Nat,sn=(i:Int):=⟨sn.toNat,δ⟩;have hil:i<x.net.length:=by omega
 have hti:sn.toNat=i:=by omega
 have hq3:=xQ.o;obtain⟨an',cn',EZ,hcc,-,-,hel⟩:=hq3;simp only [Value.slice.injEq] at EZ;obtain⟨rfl,-,rfl⟩:=EZ;rw [List.length_map] at hcc;obtain⟨bb,o,u,rfl,ci,hbi⟩:=uH.at_ hel i (by simpa using hil);obtain⟨au,cu,rfl,-⟩:=id hbi;have yU:Hid ((x.net.map aS)[i]'(by simpa using hil)=aS x.net[i]):=η (by rw [List.getElem_map]);rw [yU.o] at hbi ci;have vZ:=η (fun(W:World) (hW:Grow w W)=>XW W (hbi.mono (HC.o.trans hW.sub)));have J8:=η (xC (mY.o.right _ (List.getElem_mem hil)));rw [J8.o] at vZ;have EY:=η mY.o.len;have Ht:Hid (uH c (ς (some ⟨bb,o,none⟩) x.net.length cn) (x.net.map aS)):=η xQ.o;rw [hti] at Iq;have TK:Hid (sn=(i:Int)):=η hi;replace ci:=(HC.o.trans G1.o.sub) _ _ ci;clear hel hbi ht HT J8 yU;generalize x.net[i]=m at*;have hi0:(0:Int)<=sn:=by omega
 have hi9:sn<(x.net.length:Int):=by omega
 subst hi;go_upto_region 21 with fail
 clear c0 c1 c2 c3 c4 c5 d0 d1 d2 ci z2 z3;have hll:(x.net.map aS).length=x.net.length:=List.length_map _;have kY:=η (Ht.o.take' i δ);have XY:=η (Ht.o.drop (i+1) δ);have qy:=η (Ak x.net i);have QW:Hid ((x.net.eraseIdx i).length=i+(x.net.length - (i+1))):=η (by rw [List.length_eraseIdx,if_pos hil];omega);have hii:IntKind.i64.wrap ((i:Int)+1)=(i:Int)+1:=IntWalk.i64_in _ (τ EY.o);have hi2:(0:Int)<=(i:Int)+1:=by omega
 have hi3:(i:Int)+1<=(x.net.length:Int):=by omega
 have hi4:((i:Int)+1).toNat=i+1:=by omega
 have hi5:(i:Int)<=(cn:Int):=by omega
 have UI:(x.net.length:Int)<=(cn:Int):=by omega
 have HS:Hid (∀W,Grow wz W->W.cell? ⟨w.heap.size,5,none⟩=some (ς (some ⟨bb,o,none⟩) x.net.length cn)/\W.cell? ⟨w.heap.size+1,1,none⟩=some (ι i)):=fun W hW=>by
  obtain⟨-,-,-,-,-,j5⟩:=aJ (aj R2.o hW);obtain⟨-,f1,-⟩:=cells3 (aj R3.o hW);exact⟨j5,f1⟩
 go_cut [11] from 95 (fun s11 wc=>s11=ς au (aS m).length cu/\∃a9 n9 c9,wc.heap[w.heap.size]? =some (.cells #[ς al x.head.log.length cl,ι x.head.aG,ι x.head.next,ς ao x.head.opn.length co,ς ah x.aA.length ch,ς a9 n9 c9] 33 (0,0))/\wc.heap[w.heap.size+1]? =some (.cells #[ι 3,ι i,ς ap sp.length cp] 25 (0,0))/\wc.heap[w.heap.size+2]? =some (.cells #[(),ι 0,ι 0,(),(),()] 33 (0,0))/\aI Ty.bs c wc (w.heap.size+3) 97 (ς a9 n9 c9) ((x.net.eraseIdx i).map aS)/\Grow w wc)
 case first=>
  by_cases hcap:cn=i+1
  ·have HDR:Hid (Sl Ty.bs c (ς (some ⟨bb,o,none⟩) 0 0) ((x.net.map aS).drop (i+1))):=η (Sl.none' _ _ _ (List.drop_eq_nil_of_le δ))
   obtain rfl:=hcap;have UP:(i:Int)<=(i:Int)+1:=by omega
   refine bf (fun w'=>w'.cell? ⟨w.heap.size,5,none⟩=some (ς (some ⟨bb,o,none⟩) x.net.length (i+1))/\w'.cell? ⟨w.heap.size+1,1,none⟩=some (ι i)) 15 κ ?_;obtain⟨wd,hWd⟩:∃x:World,x=wz.drew:=⟨_,rfl⟩;rw [<-hWd];have GD:Grow wz wd:=by rw [hWd];exact(Grow.refl _).drew
   have zD:wz.heap.size=wd.heap.size:=by rw [hWd];rfl
   have ZD:=η zD;clear hWd zD;refine ni [1,2,3,4,5,7,8,9,10,11,12] 20 κ (fun _ _ _ _ _ h=>h) (HS.o _ GD) ?_;repeat (refine gQ ?_;try simp only [aK])
   refine ny ?_;refine bO 0 κ rfl ?_;intro K HK;try simp only [aV]
   go_simp;obtain⟨w7,hw7⟩:∃y:World,y=wd.alloc (.cells #[] 97):=⟨_,rfl⟩;have uU:Hid (aI Ty.bs c w7 (w.heap.size+3) 97 (ς (some ⟨wd.heap.size,0,none⟩) 0 0) []):=η (by rw [hw7];exact aI.jw Ty.bs _ _ _ _ (by have:=ZD.o;have:=HZ.o;omega) rfl);have kE:Hid (Grow wz w7):=η (by rw [hw7];exact GD.alloc _);rw [<-hw7];clear hw7;refine HK.o _ _ ⟨fun _=>HS.o _ kE.o,?_⟩;clear HK K;try simp only [aK]
   refine bO 6 κ rfl ?_;intro K HK;refine aC rfl ?_;try simp only [aV]
   refine qO (c:=c) (base:=w.heap.size+3) (l:=[]) (m:=(x.net.map aS).take i) (k:=(x.net.map aS).take i) (v:=ς (some ⟨wd.heap.size,0,none⟩) 0 0) jU rfl (iZ Ty.byte) ε (.tmp 95) (.tmp 100) rfl (List.nil_append _) rfl uU.o rfl (Src.iK ε (HC.o.trans (G1.o.trans kE.o).sub) kY.o) (by have:=EY.o;rw [List.length_take];simp;omega) (by have:=kE.o.size;have:=HZ.o;omega) ?_;intro a8 n8 c8 w8 V6 kV rX hb8;have qX:=η kV;have oU:=η (bn (w0:=wz) kE.o rX (fun q hq=>by have:=(uU.o.lt q hq).1;have:=HZ.o;omega));clear V6 kV rX hb8;refine HK.o _ _ ⟨fun _=>HS.o _ oU.o,?_⟩;clear HK K;try simp only [aK]
   refine bO 13 κ rfl ?_;intro K HK;refine aC rfl ?_;try simp only [aV]
   refine qO (c:=c) (base:=w.heap.size+3) (l:=(x.net.map aS).take i) (m:=(x.net.map aS).drop (i+1)) (k:=(x.net.eraseIdx i).map aS) (v:=ς a8 n8 c8) jU rfl (iZ Ty.byte) ε (.tmp 101) (.tmp 107) rfl qy.o rfl qX.o rfl (Src.iK ε (HC.o.trans (G1.o.trans oU.o).sub) ?Qk) (by have:=EY.o;rw [List.length_take,List.length_drop,List.length_map];omega) (by have:=oU.o.size;have:=HZ.o;omega) ?_
   case Qk=>exact HDR.o
   intro a9 n9 c9 w9 Zc fB eF gI;have iF:=η fB;have jL:=η (bn (w0:=wz) oU.o eF (fun q hq=>by have:=(qX.o.lt q hq).1;have:=HZ.o;omega));clear Zc fB eF gI;refine HK.o _ _ ⟨fun _=>HS.o _ jL.o,?_⟩;clear HK K;try simp only [aK]
   refine bO 14 κ rfl ?_;intro K HK;try simp only [aV]
   go_simp;refine HK.o _ _ ⟨fun _=>HS.o _ jL.o,?_⟩;clear HK K;try simp only [aK]
   refine bO 15 κ rfl ?_;intro K HK;refine aC rfl ?_;try simp only [aV]
   refine aU (.tmp 109) (.tmp 108) (v:=ς a9 n9 c9) (new:=#[ς al x.head.log.length cl,ι x.head.aG,ι x.head.next,ς ao x.head.opn.length co,ς ah x.aA.length ch,ς a9 n9 c9]) rfl rfl ρ ρ (aj R2.o jL.o) gK σ ρ ρ ?_;intro w5 r5 g5;refine HK.o _ _ ⟨fun h=>absurd rfl h,?_⟩;clear HK K;try simp only [aK]
   refine aO κ ?_;go_wp2;go_meet
   case rel=>exact⟨rfl,a9,n9,c9,r5,aH (aj R3.o jL.o) g5 (by intro e;have:=Option.some.inj e;omega),aH (aj R4.o jL.o) g5 (by intro e;have:=Option.some.inj e;omega),iF.o.kept g5 (bJ iF.o δ),(G1.o.trans jL.o).grown g5 (fun q hq=>by simp at hq;omega)⟩
  ·have HDR:Hid (Sl Ty.bs c (ς (some ⟨bb,o+(i+1),none⟩) (x.net.length - (i+1)) (cn - (i+1))) ((x.net.map aS).drop (i+1))):=η (by simpa [show Ty.bs.size=1 from rfl] using XY.o)
   refine bf (fun w'=>w'.cell? ⟨w.heap.size,5,none⟩=some (ς (some ⟨bb,o,none⟩) x.net.length cn)/\w'.cell? ⟨w.heap.size+1,1,none⟩=some (ι i)) 15 κ ?_;obtain⟨wd,hWd⟩:∃x:World,x=wz.drew:=⟨_,rfl⟩;rw [<-hWd];have GD:Grow wz wd:=by rw [hWd];exact(Grow.refl _).drew
   have zD:wz.heap.size=wd.heap.size:=by rw [hWd];rfl
   have ZD:=η zD;clear hWd zD;refine ni [1,2,3,4,5,7,8,9,10,11,12] 20 κ (fun _ _ _ _ _ h=>h) (HS.o _ GD) ?_;repeat (refine gQ ?_;try simp only [aK])
   refine ny ?_;refine bO 0 κ rfl ?_;intro K HK;try simp only [aV]
   go_simp;obtain⟨w7,hw7⟩:∃y:World,y=wd.alloc (.cells #[] 97):=⟨_,rfl⟩;have uU:Hid (aI Ty.bs c w7 (w.heap.size+3) 97 (ς (some ⟨wd.heap.size,0,none⟩) 0 0) []):=η (by rw [hw7];exact aI.jw Ty.bs _ _ _ _ (by have:=ZD.o;have:=HZ.o;omega) rfl);have kE:Hid (Grow wz w7):=η (by rw [hw7];exact GD.alloc _);rw [<-hw7];clear hw7;refine HK.o _ _ ⟨fun _=>HS.o _ kE.o,?_⟩;clear HK K;try simp only [aK]
   refine bO 6 κ rfl ?_;intro K HK;refine aC rfl ?_;try simp only [aV]
   refine qO (c:=c) (base:=w.heap.size+3) (l:=[]) (m:=(x.net.map aS).take i) (k:=(x.net.map aS).take i) (v:=ς (some ⟨wd.heap.size,0,none⟩) 0 0) jU rfl (iZ Ty.byte) ε (.tmp 95) (.tmp 100) rfl (List.nil_append _) rfl uU.o rfl (Src.iK ε (HC.o.trans (G1.o.trans kE.o).sub) kY.o) (by have:=EY.o;rw [List.length_take];simp;omega) (by have:=kE.o.size;have:=HZ.o;omega) ?_;intro a8 n8 c8 w8 V6 kV rX hb8;have qX:=η kV;have oU:=η (bn (w0:=wz) kE.o rX (fun q hq=>by have:=(uU.o.lt q hq).1;have:=HZ.o;omega));clear V6 kV rX hb8;refine HK.o _ _ ⟨fun _=>HS.o _ oU.o,?_⟩;clear HK K;try simp only [aK]
   refine bO 13 κ rfl ?_;intro K HK;refine aC rfl ?_;try simp only [aV]
   refine qO (c:=c) (base:=w.heap.size+3) (l:=(x.net.map aS).take i) (m:=(x.net.map aS).drop (i+1)) (k:=(x.net.eraseIdx i).map aS) (v:=ς a8 n8 c8) jU rfl (iZ Ty.byte) ε (.tmp 101) (.tmp 107) rfl qy.o rfl qX.o rfl (Src.iK ε (HC.o.trans (G1.o.trans oU.o).sub) ?Qk) (by have:=EY.o;rw [List.length_take,List.length_drop,List.length_map];omega) (by have:=oU.o.size;have:=HZ.o;omega) ?_
   case Qk=>exact HDR.o
   intro a9 n9 c9 w9 Zc fB eF gI;have iF:=η fB;have jL:=η (bn (w0:=wz) oU.o eF (fun q hq=>by have:=(qX.o.lt q hq).1;have:=HZ.o;omega));clear Zc fB eF gI;refine HK.o _ _ ⟨fun _=>HS.o _ jL.o,?_⟩;clear HK K;try simp only [aK]
   refine bO 14 κ rfl ?_;intro K HK;try simp only [aV]
   go_simp;refine HK.o _ _ ⟨fun _=>HS.o _ jL.o,?_⟩;clear HK K;try simp only [aK]
   refine bO 15 κ rfl ?_;intro K HK;refine aC rfl ?_;try simp only [aV]
   refine aU (.tmp 109) (.tmp 108) (v:=ς a9 n9 c9) (new:=#[ς al x.head.log.length cl,ι x.head.aG,ι x.head.next,ς ao x.head.opn.length co,ς ah x.aA.length ch,ς a9 n9 c9]) rfl rfl ρ ρ (aj R2.o jL.o) gK σ ρ ρ ?_;intro w5 r5 g5;refine HK.o _ _ ⟨fun h=>absurd rfl h,?_⟩;clear HK K;try simp only [aK]
   refine aO κ ?_;go_wp2;go_meet
   case rel=>exact⟨rfl,a9,n9,c9,r5,aH (aj R3.o jL.o) g5 (by intro e;have:=Option.some.inj e;omega),aH (aj R4.o jL.o) g5 (by intro e;have:=Option.some.inj e;omega),iF.o.kept g5 (bJ iF.o δ),(G1.o.trans jL.o).grown g5 (fun q hq=>by simp at hq;omega)⟩
 case rest=>
 obtain⟨rfl,a9,n9,c9,r9,r3,r4,fB,hgw⟩:=hcut;have C_:=η r9;have gR:=η r3;have pP:=η r4;have iF:=η fB;have Zm:=η hgw;obtain⟨w9,rfl⟩:∃y:World,y=wc:=⟨_,rfl⟩;clear r9 r3 r4 fB hgw HS kY XY hii hi2 hi3 hi4 hi5 UI;go_wp2_with fail
 refine(vZ.o _ Zm.o).mono ?_;rintro e w5 ⟨v5,rfl,hx5,hb5⟩;obtain⟨mN,cp5,rfl⟩:=hx5.fQ;have mR:=η (aj C_.o hb5);have mS:=η (aj gR.o hb5);have Gi:=η (aj pP.o hb5);have l9:=η (iF.o.grow hb5);have G5:=η (Zm.o.trans hb5);clear hx5 hb5;obtain⟨c0,c1,c2,c3,c4,c5⟩:=aJ mR.o;obtain⟨d0,d1,d2⟩:=cells3 mS.o;have z2:w.heap.size<w5:=(γ mR.o);have z3:w.heap.size+1<w5:=(γ mS.o);go_upto_region 23 with fail
 obtain⟨w6,hw6⟩:∃y:World,y=w5.alloc (.cells #[ι m.kind,ι m.deed,ι m.house,ς mN m.parts.length cp5] 85):=⟨_,rfl⟩;have UY:Hid (Grow w5 w6):=η (by rw [hw6];exact(Grow.refl _).alloc _);rw [<-hw6];clear hw6 c0 c1 c2 c3 c4 c5 d0 d1 d2 z2 z3;have XZ:=η (aj mR.o UY.o);have BV:=η (aj mS.o UY.o);have BW:=η (aj Gi.o UY.o);have Bl:=η (l9.o.grow UY.o);have G6:=η (G5.o.trans UY.o);obtain⟨c0,c1,c2,c3,c4,c5⟩:=aJ XZ.o;obtain⟨d0,d1,d2⟩:=cells3 BV.o;have z2:w.heap.size<w6:=(γ XZ.o);have z3:w.heap.size+1<w6:=(γ BV.o);go_upto_region 24 with fail
 go_wp2_with (first|(refine wpList_store_row rfl (.tmp 4) (.tmp 130) rfl rfl rfl BW.o bV rfl rfl ?_))
 intro w7 r7 g7;obtain⟨p0,p1,p2,p3,p4,p5⟩:=aJ r7;clear c0 c1 c2 c3 c4 c5;go_wp2;refine bodyPost_ret (v:=.tuple #[.agg #[ς al x.head.log.length cl,ι x.head.aG,ι x.head.next,ς ao x.head.opn.length co,ς ah x.aA.length ch,ς a9 n9 c9],ι 0]) (by simp [results,Tryz.results16,go_sem,p0,p1,p2,p3,p4,p5]) rfl ?_;have G7:=G6.o.grown g7 (fun q hq=>by simp at hq;omega);rw [Iq.o,HE2.o];refine⟨_,rfl,Of.ku (uw.o.mono (dM HC.o)) (uD.o.mono (dM HC.o)) ?_,G7⟩;have h9:=(Bl.o.kept g7 (bJ Bl.o δ)).slc ε (dM HC.o) fun a ha=>bH δ;exact h9
end Go.Proofs.YtocnmkefmgmkbaaGreat
