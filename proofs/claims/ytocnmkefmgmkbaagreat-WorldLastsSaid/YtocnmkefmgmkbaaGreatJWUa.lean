/- Parts of proofs, joined: U13. No condition beside those that each theorem names. -/
import Derived.Test.YtocnmkefmgmkbaaGreatJW1b
import Derived.Test.YtocnmkefmgmkbaaGreatJW6a
import Derived.Test.YtocnmkefmgmkbaaGreatJW4b
set_option maxRecDepth 100000
set_option maxHeartbeats 40000000
namespace Go.Proofs.YtocnmkefmgmkbaaGreat
open Go.RowKit
theorem Of.je {c:CM} {v:Value} {kd sn:Int} {sp:List Pt} (hv:Of Ty.st c v ⟨kd,sn,sp⟩):∃ap cp,v=.agg #[ι kd,ι sn,ς ap sp.length cp]:=by
 obtain⟨cs,rfl,vp,rfl,-,-,hp⟩:=hv;obtain⟨ap,cp,rfl,-⟩:=id hp;exact⟨ap,cp,rfl⟩
theorem Of.ig {c:CM} {a b vp:Value} {kd sn:Int} {sp:List Pt} (hv:Of Ty.st c (.agg #[a,b,vp]) ⟨kd,sn,sp⟩):I64 sn/\Sl Ty.pt c vp sp:=by
 obtain⟨cs,he,eI,rfl,-,h2,hp⟩:=hv;simp at he;obtain⟨-,-,rfl⟩:=he;exact⟨h2,hp⟩
theorem WI.qE {n:Nat} {G:Reg} {x:AW} {k:Nat} (i:WI n G x) (f:tu k x) (hk:k<=90000):yR x.head where
 opn:=i.core.wB
 parts:=fun o ho=>(eP (i.core.reg.ok _ (i.core.nO o ho)).2).2.1
 heard:=fun o ho=>by have:=(i.core.onew o ho).2.2;have:=iC o.parts;omega
 log:=by have:=f.log;omega
 aG:=by have:=i.core.aG;omega
 next:=i.core.next
theorem dY {c:CM} {w W w1 w2:World} {B:Nat} (hg:w1.grownBy w2 (some B)) (_:w.heap.size<=B) (hB:B<W.heap.size):Sub (ov c W w1) (ov c W w2):=fun a v e=>by
 unfold ov at e ⊢;split at e
 ·rw [if_pos ‹_›];exact e
 ·rw [if_neg ‹_›]
  exact aP e hg δ
theorem lW {c:CM} {w W w7:World} (hc:Sub c w.cell?) (hW:Grow w W):Sub (ov c W w7) (ov c w w7):=fun a v e=>by
 have hs:=hW.size;unfold ov at e ⊢;split at e
 ·have hl:=World.block_lt_of_cell? w a (hc _ _ e)
  rw [if_pos hl];exact e
 ·rw [if_neg δ];exact e
theorem Nb {c:CM} {v vs:Value} {x:AW} {sn:Int} {sp:List Pt} {n:Nat} {G:Reg} {k:Nat} (w:World) (hc:Sub c w.cell?) (hv:Of Ty.wd c v x) (hs:Of Ty.st c vs ⟨7,sn,sp⟩) (hi:WI n G x) (hf:tu k x) (hk:k<=90000):
  Calls Tryz.prog 16 #[v,vs] w fun e w'=>∃v',e=.returned (.tuple #[v',ι (bI x ⟨7,sn,sp⟩)])/\Of Ty.wd (ov c w w') v' (iD x ⟨7,sn,sp⟩)/\Grow w w':=by
 obtain⟨al,cl,ao,co,ah,ch,an,cn,rfl⟩:=hv.fE;obtain⟨ap,cp,rfl⟩:=hs.je;obtain⟨q1,q2,q3⟩:=hv.eu;have uw:=η q1;have uD:=η q2;have xQ:=η q3;have vT:=η hs.ig;have FC:=η (hi.qE hf hk);have mY:=η hi;have HV:=η hv;have HC:=η hc;clear hc hv hs q1 q2 q3 hi hf;obtain⟨wa,cO⟩:∃y:World,y=w.alloc (.cells #[ς al x.head.log.length cl,ι x.head.aG,ι x.head.next,ς ao x.head.opn.length co,ς ah x.aA.length ch,ς an x.net.length cn] 33):=⟨_,rfl⟩;obtain⟨wb,hwb⟩:∃y:World,y=wa.alloc (.cells #[ι 7,ι sn,ς ap sp.length cp] 25):=⟨_,rfl⟩;obtain⟨wz,hwz⟩:∃y:World,y=wb.alloc (.cells #[(),ι 0,ι 0,(),(),()] 33):=⟨_,rfl⟩;have hsa:wa.heap.size=w.heap.size+1:=by rw [cO];simp
 have hsb:wb.heap.size=w.heap.size+2:=by rw [hwb];simp [hsa]
 have R2:Hid (wz.heap[w.heap.size]? =some (.cells #[ς al x.head.log.length cl,ι x.head.aG,ι x.head.next,ς ao x.head.opn.length co,ς ah x.aA.length ch,ς an x.net.length cn] 33 (0,0))):=η (by rw [hwz,hwb,cO];exact aB (aB (aF _ _) _) _);have R3:Hid (wz.heap[w.heap.size+1]? =some (.cells #[ι 7,ι sn,ς ap sp.length cp] 25 (0,0))):=η (by rw [hwz,hwb,<-hsa];exact aB (aF _ _) _);have R4:Hid (wz.heap[w.heap.size+2]? =some (.cells #[(),ι 0,ι 0,(),(),()] 33 (0,0))):=η (by rw [hwz,<-hsb];exact aF _ _);have G1:Hid (Grow w wz):=η (by rw [hwz,hwb,cO];exact(((Grow.refl w).alloc _).alloc _).alloc _);have HZ:Hid (wz.heap.size=w.heap.size+3):=η (by rw [hwz];simp [hsb]);go_enter Tryz.func16,Tryz.ntmps16;go_upto_region 1 with fail
 rw [<-cO];try rw [hsa]
 rw [<-hwb];try rw [hsb]
 rw [<-hwz];clear cO hwb hwz hsa hsb;obtain⟨c0,c1,c2,c3,c4,c5⟩:=aJ R2.o;obtain⟨d0,d1,d2⟩:=cells3 R3.o;have z2:w.heap.size<wz:=(γ R2.o);have z3:w.heap.size+1<wz:=(γ R3.o);go_cut [6] from 22 (fun s6 wc=>s6=.bool (there x sn)/\wz=wc)
 case first=>
  by_cases h0:0<=sn
  ·by_cases h1:sn<(x.net.length:Int)
   ·go_wp2
    go_meet
    case rel=>exact⟨by first|rfl|(simp [there,h0,h1];done),rfl⟩
   ·go_wp2
    go_meet
    case rel=>exact⟨by first|rfl|(simp [there,h0,h1];done)|(simp [there,h0];omega),rfl⟩
  ·go_wp2
   go_meet
   case rel=>exact⟨by first|rfl|(simp [there];done)|(simp [there];omega),rfl⟩
 case rest=>
 obtain⟨rfl,rfl⟩:=hcut;have hE:iD x ⟨7,sn,sp⟩={ x with head:=kM x.head,net:=bW x.net (qH x.head) }:=by unfold iD;simp
 have hE2:bI x ⟨7,sn,sp⟩=0:=by unfold bI;simp
 have HE:=η hE;have HE2:=η hE2;clear hE hE2;go_wp2_with fail
 refine(WQ (c:=c) wz (HC.o.trans G1.o.sub) uw.o FC.o).mono ?_;rintro e w1 ⟨v1,v2,rfl,hx1,hx2,hb1⟩;obtain⟨eU,eX,kN,kP,rfl⟩:=hx1.dS;obtain⟨am,cm,rfl,-⟩:=id hx2;have Jg:=η hx1;have UQ:=η hx2;have UR:=η (aj R2.o hb1);have ZC:=η (aj R4.o hb1);have ZE:=η hb1;have ZF:=η (WI.says (mY.o.core.quit).2.2);have EY:=η mY.o.len;clear hx1 hx2 hb1 c0 c1 c2 c3 c4 c5 d0 d1 d2 z2 z3;generalize ES:kM x.head=qh at*;generalize hqm:qH x.head=qm at*;clear ES hqm;go_upto_region 48 with fail
 obtain⟨w2,hw2⟩:∃y:World,y=w1.alloc (.cells #[ς eU qh.log.length eX,ι qh.aG,ι qh.next,ς kN qh.opn.length kP] 29):=⟨_,rfl⟩;obtain⟨BH,Aw⟩:∃y,y=w1.heap.size:=⟨_,rfl⟩;have wG:Hid (Grow w1 w2):=η (by rw [hw2];exact(Grow.refl _).alloc _);have RH:Hid (w2.heap[BH]? =some (.cells #[ς eU qh.log.length eX,ι qh.aG,ι qh.next,ς kN qh.opn.length kP] 29 (0,0))):=η (by rw [hw2,Aw];exact aF _ _);have Nc:Hid (BH≠w.heap.size):=η (τ (γ ZC.o));rw [<-hw2,<-Aw];clear hw2 Aw;have Gf:=η (aj UR.o wG.o);have UU:=η (aj ZC.o wG.o);have xY:=η (G1.o.trans (ZE.o.trans wG.o));have HS:Hid (∀W,Grow w2 W->W.cell? ⟨BH,0,none⟩=some (ς eU qh.log.length eX)/\W.cell? ⟨BH,1,none⟩=some (ι qh.aG)/\W.cell? ⟨BH,2,none⟩=some (ι qh.next)/\W.cell? ⟨BH,3,none⟩=some (ς kN qh.opn.length kP)/\W.cell? ⟨w.heap.size,5,none⟩=some (ς an x.net.length cn)):=fun W hW=>by
  obtain⟨k0,k1,k2,k3⟩:=cells4 (aj RH.o hW);obtain⟨-,-,-,-,-,j5⟩:=aJ (aj Gf.o hW);exact⟨k0,k1,k2,k3,j5⟩
 refine bf (fun w'=>w'.cell? ⟨BH,0,none⟩=some (ς eU qh.log.length eX)/\w'.cell? ⟨BH,1,none⟩=some (ι qh.aG)/\w'.cell? ⟨BH,2,none⟩=some (ι qh.next)/\w'.cell? ⟨BH,3,none⟩=some (ς kN qh.opn.length kP)/\w'.cell? ⟨w.heap.size,5,none⟩=some (ς an x.net.length cn)) 8 κ ?_;obtain⟨wd,hWd⟩:∃x:World,x=w2.drew:=⟨_,rfl⟩;rw [<-hWd];have GD:Grow w2 wd:=by rw [hWd];exact(Grow.refl _).drew
 have zD:w2.heap.size=wd.heap.size:=by rw [hWd];rfl
 have ZD:=η zD;clear hWd zD;refine ni [0,1,2,3] 12 κ (fun _ _ _ _ _ h=>h) (HS.o _ GD) ?_;repeat (refine gQ ?_;try simp only [aK])
 refine ny ?_;refine bP 4 5 κ rfl rfl ?_ ?_
 ·intro K HK
  try simp only [aV]
  go_simp;go_at_call 51
  refine(jJ (c:=c) (l:=x.net.map aS) (ms:=qm) _ (HC.o.trans (xY.o.trans GD).sub) ?nv (Sl.mono (Grow.sub (Grow.trans wG.o GD)) (Sl.mono (sJ (HC.o.trans G1.o.sub) ZE.o) UQ.o)) ZF.o (by rw [List.length_map];have:=EY.o;omega)).mono ?_
  case nv=>have h9:=xQ.o;simpa using h9
  rintro e3 w3 ⟨v3,rfl,hn3,hb3⟩;obtain⟨a3,c3,rfl,-⟩:=id hn3;have Ht:=η hn3;have G3:=η (Grow.trans GD hb3);have cE:=η hb3;have XD:=η (GD).size;clear hn3 hb3;rw [dZ,List.length_map];refine HK.o _ _ ⟨fun _=>HS.o _ G3.o,?_⟩;clear HK K;try simp only [aK]
  refine bO 5 κ rfl ?_;intro K HK;try simp only [aV]
  go_simp;refine HK.o _ _ ⟨fun _=>HS.o _ G3.o,?_⟩;clear HK K;try simp only [aK]
  refine bO 6 κ rfl ?_;intro K HK;refine aC rfl ?_;try simp only [aV]
  refine fV (.tmp 260) (.tmp 255) (p:=0) (cells:=#[ς eU qh.log.length eX,ι qh.aG,ι qh.next,ς kN qh.opn.length kP]) (new:=#[ς eU qh.log.length eX,ι qh.aG,ι qh.next,ς kN qh.opn.length kP,ς ah x.aA.length ch,ς an x.net.length cn]) rfl rfl ρ (aj Gf.o G3.o) bU σ ρ ρ ?_;intro w4 r4 g4;have N8:=η r4;have xJ:=η g4;have N9:Hid (w4.cell? ⟨BH,0,none⟩=some (ς eU qh.log.length eX)/\w4.cell? ⟨BH,1,none⟩=some (ι qh.aG)/\w4.cell? ⟨BH,2,none⟩=some (ι qh.next)/\w4.cell? ⟨BH,3,none⟩=some (ς kN qh.opn.length kP)/\w4.cell? ⟨w.heap.size,5,none⟩=some (ς an x.net.length cn)):=η (by obtain⟨k0,k1,k2,k3,-⟩:=HS.o _ G3.o;obtain⟨-,-,-,-,-,j5⟩:=aJ r4;have hne:BH≠w.heap.size:=Nc.o;exact⟨aP k0 g4 hne,aP k1 g4 hne,aP k2 g4 hne,aP k3 g4 hne,j5⟩);clear r4 g4;refine HK.o _ _ ⟨fun _=>N9.o,?_⟩;clear HK K;try simp only [aK]
  refine bO 7 κ rfl ?_;intro K HK;try simp only [aV]
  go_simp;refine HK.o _ _ ⟨fun _=>N9.o,?_⟩;clear HK K;try simp only [aK]
  refine bO 8 κ rfl ?_;intro K HK;refine aC rfl ?_;try simp only [aV]
  refine aU (.tmp 261) (.tmp 259) (v:=ς a3 (bW x.net qm).length c3) (new:=#[ς eU qh.log.length eX,ι qh.aG,ι qh.next,ς kN qh.opn.length kP,ς ah x.aA.length ch,ς a3 (bW x.net qm).length c3]) rfl rfl ρ ρ N8.o gK σ ρ ρ ?_;intro w5 r5 g5;have Io:=η r5;have rG:=η g5;clear r5 g5;refine HK.o _ _ ⟨fun h=>absurd rfl h,?_⟩;clear HK K;try simp only [aK]
  refine aO κ ?_;have Gi:=η (aH (aH (aj UU.o G3.o) xJ.o (by intro e;have:=Option.some.inj e;omega)) rG.o (by intro e;have:=Option.some.inj e;omega));have G5:=η (((xY.o.trans G3.o).grown xJ.o (fun q hq=>by simp at hq;omega)).grown rG.o (fun q hq=>by simp at hq;omega));obtain⟨c0,c1,c2,XE,c4,c5⟩:=aJ Io.o;have z2:w.heap.size<w5:=(γ Io.o);go_wp2_with (first|(refine wpList_store_row rfl (.tmp 4) (.tmp 262) rfl rfl rfl Gi.o bV rfl rfl ?_))
  intro w7 r7 g7;obtain⟨p0,p1,p2,p3,p4,p5⟩:=aJ r7;clear c0 c1 c2 XE c4 c5;go_wp2;refine bodyPost_ret (v:=.tuple #[.agg #[ς eU qh.log.length eX,ι qh.aG,ι qh.next,ς kN qh.opn.length kP,ς ah x.aA.length ch,ς a3 (bW x.net qm).length c3],ι 0]) (by simp [results,Tryz.results16,go_sem,p0,p1,p2,p3,p4,p5]) rfl ?_;have G7:=G5.o.grown g7 (fun q hq=>by simp at hq;omega);rw [HE.o,HE2.o];refine⟨_,rfl,Of.ku ?_ (uD.o.mono (dM HC.o)) ?_,G7⟩
  ·refine Jg.o.mono fun a u e=>?_
   have e1:=sK (Sub.refl _) (wG.o.trans G3.o) a u e;have e4:=dY (w:=w) xJ.o (Nat.le_refl _) (τ HZ.o) a u e1;have e5:=dY (w:=w) rG.o (Nat.le_refl _) (τ HZ.o) a u e4;have e7:=dY (w:=w) g7 δ (τ HZ.o) a u e5;exact lW HC.o G1.o a u e7
  ·have hsz:=(γ Gf.o)
   have k_:=(γ UU.o);have h9:=Ht.o;rw [dZ] at h9;refine Sl.mono (fun a u e=>?_) (show uH _ _ _ from by simpa using h9);have hgd:=XD.o;have e4:=dY (w:=w) xJ.o (Nat.le_refl _) δ a u e;have e5:=dY (w:=w) rG.o (Nat.le_refl _) δ a u e4;have e7:=dY (w:=w) g7 δ δ a u e5;exact lW HC.o (xY.o.trans GD) a u e7
 ·intro K HK
  try simp only [aV]
  go_simp;refine HK.o _ _ ⟨fun _=>HS.o _ GD,?_⟩;clear HK K;try simp only [aK]
  refine bO 4 κ rfl ?_;intro K HK;try simp only [aV]
  go_simp;go_at_call 51
  refine(jJ (c:=c) (l:=x.net.map aS) (ms:=qm) _ (HC.o.trans (xY.o.trans GD).sub) ?nv (Sl.mono (Grow.sub (Grow.trans wG.o GD)) (Sl.mono (sJ (HC.o.trans G1.o.sub) ZE.o) UQ.o)) ZF.o (by rw [List.length_map];have:=EY.o;omega)).mono ?_
  case nv=>have h9:=xQ.o;simpa using h9
  rintro e3 w3 ⟨v3,rfl,hn3,hb3⟩;obtain⟨a3,c3,rfl,-⟩:=id hn3;have Ht:=η hn3;have G3:=η (Grow.trans GD hb3);have cE:=η hb3;have XD:=η (GD).size;clear hn3 hb3;rw [dZ,List.length_map];refine HK.o _ _ ⟨fun _=>HS.o _ G3.o,?_⟩;clear HK K;try simp only [aK]
  refine bO 6 κ rfl ?_;intro K HK;refine aC rfl ?_;try simp only [aV]
  refine fV (.tmp 260) (.tmp 255) (p:=0) (cells:=#[ς eU qh.log.length eX,ι qh.aG,ι qh.next,ς kN qh.opn.length kP]) (new:=#[ς eU qh.log.length eX,ι qh.aG,ι qh.next,ς kN qh.opn.length kP,ς ah x.aA.length ch,ς an x.net.length cn]) rfl rfl ρ (aj Gf.o G3.o) bU σ ρ ρ ?_;intro w4 r4 g4;have N8:=η r4;have xJ:=η g4;have N9:Hid (w4.cell? ⟨BH,0,none⟩=some (ς eU qh.log.length eX)/\w4.cell? ⟨BH,1,none⟩=some (ι qh.aG)/\w4.cell? ⟨BH,2,none⟩=some (ι qh.next)/\w4.cell? ⟨BH,3,none⟩=some (ς kN qh.opn.length kP)/\w4.cell? ⟨w.heap.size,5,none⟩=some (ς an x.net.length cn)):=η (by obtain⟨k0,k1,k2,k3,-⟩:=HS.o _ G3.o;obtain⟨-,-,-,-,-,j5⟩:=aJ r4;have hne:BH≠w.heap.size:=Nc.o;exact⟨aP k0 g4 hne,aP k1 g4 hne,aP k2 g4 hne,aP k3 g4 hne,j5⟩);clear r4 g4;refine HK.o _ _ ⟨fun _=>N9.o,?_⟩;clear HK K;try simp only [aK]
  refine bO 7 κ rfl ?_;intro K HK;try simp only [aV]
  go_simp;refine HK.o _ _ ⟨fun _=>N9.o,?_⟩;clear HK K;try simp only [aK]
  refine bO 8 κ rfl ?_;intro K HK;refine aC rfl ?_;try simp only [aV]
  refine aU (.tmp 261) (.tmp 259) (v:=ς a3 (bW x.net qm).length c3) (new:=#[ς eU qh.log.length eX,ι qh.aG,ι qh.next,ς kN qh.opn.length kP,ς ah x.aA.length ch,ς a3 (bW x.net qm).length c3]) rfl rfl ρ ρ N8.o gK σ ρ ρ ?_;intro w5 r5 g5;have Io:=η r5;have rG:=η g5;clear r5 g5;refine HK.o _ _ ⟨fun h=>absurd rfl h,?_⟩;clear HK K;try simp only [aK]
  refine aO κ ?_;have Gi:=η (aH (aH (aj UU.o G3.o) xJ.o (by intro e;have:=Option.some.inj e;omega)) rG.o (by intro e;have:=Option.some.inj e;omega));have G5:=η (((xY.o.trans G3.o).grown xJ.o (fun q hq=>by simp at hq;omega)).grown rG.o (fun q hq=>by simp at hq;omega));obtain⟨c0,c1,c2,XE,c4,c5⟩:=aJ Io.o;have z2:w.heap.size<w5:=(γ Io.o);go_wp2_with (first|(refine wpList_store_row rfl (.tmp 4) (.tmp 262) rfl rfl rfl Gi.o bV rfl rfl ?_))
  intro w7 r7 g7;obtain⟨p0,p1,p2,p3,p4,p5⟩:=aJ r7;clear c0 c1 c2 XE c4 c5;go_wp2;refine bodyPost_ret (v:=.tuple #[.agg #[ς eU qh.log.length eX,ι qh.aG,ι qh.next,ς kN qh.opn.length kP,ς ah x.aA.length ch,ς a3 (bW x.net qm).length c3],ι 0]) (by simp [results,Tryz.results16,go_sem,p0,p1,p2,p3,p4,p5]) rfl ?_;have G7:=G5.o.grown g7 (fun q hq=>by simp at hq;omega);rw [HE.o,HE2.o];refine⟨_,rfl,Of.ku ?_ (uD.o.mono (dM HC.o)) ?_,G7⟩
  ·refine Jg.o.mono fun a u e=>?_
   have e1:=sK (Sub.refl _) (wG.o.trans G3.o) a u e;have e4:=dY (w:=w) xJ.o (Nat.le_refl _) (τ HZ.o) a u e1;have e5:=dY (w:=w) rG.o (Nat.le_refl _) (τ HZ.o) a u e4;have e7:=dY (w:=w) g7 δ (τ HZ.o) a u e5;exact lW HC.o G1.o a u e7
  ·have hsz:=(γ Gf.o)
   have k_:=(γ UU.o);have h9:=Ht.o;rw [dZ] at h9;refine Sl.mono (fun a u e=>?_) (show uH _ _ _ from by simpa using h9);have hgd:=XD.o;have e4:=dY (w:=w) xJ.o (Nat.le_refl _) δ a u e;have e5:=dY (w:=w) rG.o (Nat.le_refl _) δ a u e4;have e7:=dY (w:=w) g7 δ δ a u e5;exact lW HC.o (xY.o.trans GD) a u e7
end Go.Proofs.YtocnmkefmgmkbaaGreat
