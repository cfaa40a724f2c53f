/- Parts of proofs, joined: U14. No condition beside those that each theorem names. -/
import Derived.Test.YtocnmkefmgmkbaaGreatJW1b
import Derived.Test.YtocnmkefmgmkbaaGreatJW6a
import Derived.Test.YtocnmkefmgmkbaaGreatJW4b
import Derived.Test.YtocnmkefmgmkbaaGreatJWUa
set_option maxRecDepth 100000
set_option maxHeartbeats 40000000
namespace Go.Proofs.YtocnmkefmgmkbaaGreat
open Go.RowKit
theorem J3 {c:CM} {v vs:Value} {x:AW} {sn:Int} {sp:List Pt} {n:Nat} {G:Reg} {k:Nat} (w:World) (hc:Sub c w.cell?) (hv:Of Ty.wd c v x) (hs:Of Ty.st c vs ⟨5,sn,sp⟩) (hi:WI n G x) (hf:tu k x) (hk:k<=90000) (h3:sn=3):
  Calls Tryz.prog 16 #[v,vs] w fun e w'=>∃v',e=.returned (.tuple #[v',ι (bI x ⟨5,sn,sp⟩)])/\Of Ty.wd (ov c w w') v' (iD x ⟨5,sn,sp⟩)/\Grow w w':=by
 obtain⟨al,cl,ao,co,ah,ch,an,cn,rfl⟩:=hv.fE;obtain⟨ap,cp,rfl⟩:=hs.je;obtain⟨q1,q2,q3⟩:=hv.eu;have uw:=η q1;have uD:=η q2;have xQ:=η q3;have vT:=η hs.ig;have FC:=η (hi.qE hf hk);have mY:=η hi;have HV:=η hv;have HC:=η hc;have H3:=η h3;clear h3;clear hc hv hs q1 q2 q3 hi hf;obtain⟨wa,cO⟩:∃y:World,y=w.alloc (.cells #[ς al x.head.log.length cl,ι x.head.aG,ι x.head.next,ς ao x.head.opn.length co,ς ah x.aA.length ch,ς an x.net.length cn] 33):=⟨_,rfl⟩;obtain⟨wb,hwb⟩:∃y:World,y=wa.alloc (.cells #[ι 5,ι sn,ς ap sp.length cp] 25):=⟨_,rfl⟩;obtain⟨wz,hwz⟩:∃y:World,y=wb.alloc (.cells #[(),ι 0,ι 0,(),(),()] 33):=⟨_,rfl⟩;have hsa:wa.heap.size=w.heap.size+1:=by rw [cO];simp
 have hsb:wb.heap.size=w.heap.size+2:=by rw [hwb];simp [hsa]
 have R2:Hid (wz.heap[w.heap.size]? =some (.cells #[ς al x.head.log.length cl,ι x.head.aG,ι x.head.next,ς ao x.head.opn.length co,ς ah x.aA.length ch,ς an x.net.length cn] 33 (0,0))):=η (by rw [hwz,hwb,cO];exact aB (aB (aF _ _) _) _);have R3:Hid (wz.heap[w.heap.size+1]? =some (.cells #[ι 5,ι sn,ς ap sp.length cp] 25 (0,0))):=η (by rw [hwz,hwb,<-hsa];exact aB (aF _ _) _);have R4:Hid (wz.heap[w.heap.size+2]? =some (.cells #[(),ι 0,ι 0,(),(),()] 33 (0,0))):=η (by rw [hwz,<-hsb];exact aF _ _);have G1:Hid (Grow w wz):=η (by rw [hwz,hwb,cO];exact(((Grow.refl w).alloc _).alloc _).alloc _);have HZ:Hid (wz.heap.size=w.heap.size+3):=η (by rw [hwz];simp [hsb]);go_enter Tryz.func16,Tryz.ntmps16;go_upto_region 1 with fail
 rw [<-cO];try rw [hsa]
 rw [<-hwb];try rw [hsb]
 rw [<-hwz];clear cO hwb hwz hsa hsb;obtain⟨c0,c1,c2,c3,c4,c5⟩:=aJ R2.o;obtain⟨d0,d1,d2⟩:=cells3 R3.o;have z2:w.heap.size<wz:=(γ R2.o);have z3:w.heap.size+1<wz:=(γ R3.o);go_cut [6] from 22 (fun s6 wc=>s6=.bool (there x sn)/\wz=wc)
 case first=>
  by_cases h0:0<=sn
  ·by_cases h1:sn<(x.net.length:Int)
   ·go_wp2
    go_meet
    case rel=>exact⟨by first|rfl|(simp [there,h0,h1];done),rfl⟩
   ·go_wp2
    go_meet
    case rel=>exact⟨by first|rfl|(simp [there,h0,h1];done)|(simp [there,h0];omega),rfl⟩
  ·go_wp2
   go_meet
   case rel=>exact⟨by first|rfl|(simp [there];done)|(simp [there];omega),rfl⟩
 case rest=>
 obtain⟨rfl,rfl⟩:=hcut;have hE:iD x ⟨5,sn,sp⟩={ x with head:=jA x.head }:=by unfold iD;simp [H3.o]
 have hE2:bI x ⟨5,sn,sp⟩=ou x.head:=by unfold bI;simp [H3.o]
 have HE:=η hE;have HE2:=η hE2;have ZL:(sn==3)=true:=by simp [H3.o]
 clear hE hE2 H3;go_wp2_with fail
 refine(WO (c:=c) wz (HC.o.trans G1.o.sub) uw.o FC.o).mono ?_;rintro e w1 ⟨v1,rfl,hx1,hb1⟩;obtain⟨eU,eX,kN,kP,rfl⟩:=hx1.dS;have Jg:=η hx1;have UR:=η (aj R2.o hb1);have ZC:=η (aj R4.o hb1);have ZE:=η hb1;clear hx1 hb1 c0 c1 c2 c3 c4 c5 d0 d1 d2 z2 z3;generalize ES:jA x.head=qh at*;generalize hqe:ou x.head=qe at*;clear ES hqe;go_upto_region 35 with fail
 obtain⟨w2,hw2⟩:∃y:World,y=w1.alloc (.cells #[ς eU qh.log.length eX,ι qh.aG,ι qh.next,ς kN qh.opn.length kP] 29):=⟨_,rfl⟩;obtain⟨BH,Aw⟩:∃y,y=w1.heap.size:=⟨_,rfl⟩;have wG:Hid (Grow w1 w2):=η (by rw [hw2];exact(Grow.refl _).alloc _);have RH:Hid (w2.heap[BH]? =some (.cells #[ς eU qh.log.length eX,ι qh.aG,ι qh.next,ς kN qh.opn.length kP] 29 (0,0))):=η (by rw [hw2,Aw];exact aF _ _);rw [<-hw2,<-Aw];clear hw2 Aw;have Gf:=η (aj UR.o wG.o);have UU:=η (aj ZC.o wG.o);have xY:=η (G1.o.trans (ZE.o.trans wG.o));obtain⟨k0,k1,k2,k3⟩:=cells4 RH.o;have zh:BH<w2.heap.size:=(γ RH.o);go_wp2_with (first|(refine qL rfl (.tmp 194) (.tmp 193) (p:=0) (cells:=#[ς eU qh.log.length eX,ι qh.aG,ι qh.next,ς kN qh.opn.length kP]) (new:=#[ς eU qh.log.length eX,ι qh.aG,ι qh.next,ς kN qh.opn.length kP,ς ah x.aA.length ch,ς an x.net.length cn]) rfl rfl ρ Gf.o bU σ ρ ρ ?_))
 intro w4 r4 g4;have N8:=η r4;have xJ:=η g4;have Gi:=η (aH UU.o g4 (by intro e;have:=Option.some.inj e;omega));have G5:=η (xY.o.grown g4 (fun q hq=>by simp at hq;omega));clear r4 g4 k0 k1 k2 k3 zh;obtain⟨c0,c1,c2,c3,c4,c5⟩:=aJ N8.o;have z2:w.heap.size<w4:=(γ N8.o);go_wp2_with (first|(refine wpList_store_row rfl (.tmp 4) (.tmp 195) rfl rfl rfl Gi.o bV rfl rfl ?_))
 intro w7 r7 g7;obtain⟨p0,p1,p2,p3,p4,p5⟩:=aJ r7;clear c0 c1 c2 c3 c4 c5;go_wp2;refine bodyPost_ret (v:=.tuple #[.agg #[ς eU qh.log.length eX,ι qh.aG,ι qh.next,ς kN qh.opn.length kP,ς ah x.aA.length ch,ς an x.net.length cn],ι qe]) (by simp [results,Tryz.results16,go_sem,p0,p1,p2,p3,p4,p5]) rfl ?_;have G7:=G5.o.grown g7 (fun q hq=>by simp at hq;omega);rw [HE.o,HE2.o];refine⟨_,rfl,Of.ku ?_ (uD.o.mono (dM HC.o)) (xQ.o.mono (dM HC.o)),G7⟩;refine Jg.o.mono fun a u e=>?_;have e1:=sK (Sub.refl _) wG.o a u e;have e4:=dY (w:=w) xJ.o (Nat.le_refl _) (τ HZ.o) a u e1;have e7:=dY (w:=w) g7 δ (τ HZ.o) a u e4;exact lW HC.o G1.o a u e7
theorem J4 {c:CM} {v vs:Value} {x:AW} {sn:Int} {sp:List Pt} {n:Nat} {G:Reg} {k:Nat} (w:World) (hc:Sub c w.cell?) (hv:Of Ty.wd c v x) (hs:Of Ty.st c vs ⟨5,sn,sp⟩) (hi:WI n G x) (hf:tu k x) (hk:k<=90000) (h3:¬sn=3):
  Calls Tryz.prog 16 #[v,vs] w fun e w'=>∃v',e=.returned (.tuple #[v',ι (bI x ⟨5,sn,sp⟩)])/\Of Ty.wd (ov c w w') v' (iD x ⟨5,sn,sp⟩)/\Grow w w':=by
 obtain⟨al,cl,ao,co,ah,ch,an,cn,rfl⟩:=hv.fE;obtain⟨ap,cp,rfl⟩:=hs.je;obtain⟨q1,q2,q3⟩:=hv.eu;have uw:=η q1;have uD:=η q2;have xQ:=η q3;have vT:=η hs.ig;have FC:=η (hi.qE hf hk);have mY:=η hi;have HV:=η hv;have HC:=η hc;clear hc hv hs q1 q2 q3 hi hf;obtain⟨wa,cO⟩:∃y:World,y=w.alloc (.cells #[ς al x.head.log.length cl,ι x.head.aG,ι x.head.next,ς ao x.head.opn.length co,ς ah x.aA.length ch,ς an x.net.length cn] 33):=⟨_,rfl⟩;obtain⟨wb,hwb⟩:∃y:World,y=wa.alloc (.cells #[ι 5,ι sn,ς ap sp.length cp] 25):=⟨_,rfl⟩;obtain⟨wz,hwz⟩:∃y:World,y=wb.alloc (.cells #[(),ι 0,ι 0,(),(),()] 33):=⟨_,rfl⟩;have hsa:wa.heap.size=w.heap.size+1:=by rw [cO];simp
 have hsb:wb.heap.size=w.heap.size+2:=by rw [hwb];simp [hsa]
 have R2:Hid (wz.heap[w.heap.size]? =some (.cells #[ς al x.head.log.length cl,ι x.head.aG,ι x.head.next,ς ao x.head.opn.length co,ς ah x.aA.length ch,ς an x.net.length cn] 33 (0,0))):=η (by rw [hwz,hwb,cO];exact aB (aB (aF _ _) _) _);have R3:Hid (wz.heap[w.heap.size+1]? =some (.cells #[ι 5,ι sn,ς ap sp.length cp] 25 (0,0))):=η (by rw [hwz,hwb,<-hsa];exact aB (aF _ _) _);have R4:Hid (wz.heap[w.heap.size+2]? =some (.cells #[(),ι 0,ι 0,(),(),()] 33 (0,0))):=η (by rw [hwz,<-hsb];exact aF _ _);have G1:Hid (Grow w wz):=η (by rw [hwz,hwb,cO];exact(((Grow.refl w).alloc _).alloc _).alloc _);have HZ:Hid (wz.heap.size=w.heap.size+3):=η (by rw [hwz];simp [hsb]);go_enter Tryz.func16,Tryz.ntmps16;go_upto_region 1 with fail
 rw [<-cO];try rw [hsa]
 rw [<-hwb];try rw [hsb]
 rw [<-hwz];clear cO hwb hwz hsa hsb;obtain⟨c0,c1,c2,c3,c4,c5⟩:=aJ R2.o;obtain⟨d0,d1,d2⟩:=cells3 R3.o;have z2:w.heap.size<wz:=(γ R2.o);have z3:w.heap.size+1<wz:=(γ R3.o);go_cut [6] from 22 (fun s6 wc=>s6=.bool (there x sn)/\wz=wc)
 case first=>
  by_cases h0:0<=sn
  ·by_cases h1:sn<(x.net.length:Int)
   ·go_wp2
    go_meet
    case rel=>exact⟨by first|rfl|(simp [there,h0,h1];done),rfl⟩
   ·go_wp2
    go_meet
    case rel=>exact⟨by first|rfl|(simp [there,h0,h1];done)|(simp [there,h0];omega),rfl⟩
  ·go_wp2
   go_meet
   case rel=>exact⟨by first|rfl|(simp [there];done)|(simp [there];omega),rfl⟩
 case rest=>
 obtain⟨rfl,rfl⟩:=hcut;have hE:iD x ⟨5,sn,sp⟩=x:=by unfold iD;simp [h3]
 have HE:=η hE;have ZL:(sn==3)=false:=by simp [h3]
 by_cases hl:sn<0
 ·have HE2:Hid (bI x ⟨5,sn,sp⟩=6):=η (by unfold bI oC;simp [h3];omega)
  clear hE h3;go_wp2_with (first|(refine wpList_store_row rfl (.tmp 4) (.tmp 208) rfl rfl rfl R4.o bV rfl rfl ?_))
  intro w7 r7 g7;obtain⟨p0,p1,p2,p3,p4,p5⟩:=aJ r7;clear c0 c1 c2 c3 c4 c5;go_wp2;refine bodyPost_ret (v:=.tuple #[.agg #[ς al x.head.log.length cl,ι x.head.aG,ι x.head.next,ς ao x.head.opn.length co,ς ah x.aA.length ch,ς an x.net.length cn],ι 6]) (by simp [results,Tryz.results16,go_sem,p0,p1,p2,p3,p4,p5]) rfl ?_;have G7:=G1.o.grown g7 (fun q hq=>by simp at hq;omega);rw [HE.o,HE2.o];exact⟨_,rfl,HV.o.mono (dM HC.o),G7⟩
 by_cases hg:(x.aA.length:Int)<=sn
 ·have HE2:Hid (bI x ⟨5,sn,sp⟩=6):=η (by unfold bI oC;simp [h3];omega)
  clear hE h3;go_wp2_with (first|(refine wpList_store_row rfl (.tmp 4) (.tmp 208) rfl rfl rfl R4.o bV rfl rfl ?_))
  intro w7 r7 g7;obtain⟨p0,p1,p2,p3,p4,p5⟩:=aJ r7;clear c0 c1 c2 c3 c4 c5;go_wp2;refine bodyPost_ret (v:=.tuple #[.agg #[ς al x.head.log.length cl,ι x.head.aG,ι x.head.next,ς ao x.head.opn.length co,ς ah x.aA.length ch,ς an x.net.length cn],ι 6]) (by simp [results,Tryz.results16,go_sem,p0,p1,p2,p3,p4,p5]) rfl ?_;have G7:=G1.o.grown g7 (fun q hq=>by simp at hq;omega);rw [HE.o,HE2.o];exact⟨_,rfl,HV.o.mono (dM HC.o),G7⟩
 have HE2:Hid (bI x ⟨5,sn,sp⟩=0):=η (by unfold bI oC;simp [h3];omega);clear hE h3;go_wp2_with (first|(refine wpList_store_row rfl (.tmp 4) (.tmp 262) rfl rfl rfl R4.o bV rfl rfl ?_))
 intro w7 r7 g7;obtain⟨p0,p1,p2,p3,p4,p5⟩:=aJ r7;clear c0 c1 c2 c3 c4 c5;go_wp2;refine bodyPost_ret (v:=.tuple #[.agg #[ς al x.head.log.length cl,ι x.head.aG,ι x.head.next,ς ao x.head.opn.length co,ς ah x.aA.length ch,ς an x.net.length cn],ι 0]) (by simp [results,Tryz.results16,go_sem,p0,p1,p2,p3,p4,p5]) rfl ?_;have G7:=G1.o.grown g7 (fun q hq=>by simp at hq;omega);rw [HE.o,HE2.o];exact⟨_,rfl,HV.o.mono (dM HC.o),G7⟩
theorem J5 {c:CM} {v vs:Value} {x:AW} {sn:Int} {sp:List Pt} {n:Nat} {G:Reg} {k:Nat} (w:World) (hc:Sub c w.cell?) (hv:Of Ty.wd c v x) (hs:Of Ty.st c vs ⟨2,sn,sp⟩) (hi:WI n G x) (hf:tu k x) (hk:k<=90000) (ht:there x sn=false):
  Calls Tryz.prog 16 #[v,vs] w fun e w'=>∃v',e=.returned (.tuple #[v',ι (bI x ⟨2,sn,sp⟩)])/\Of Ty.wd (ov c w w') v' (iD x ⟨2,sn,sp⟩)/\Grow w w':=by
 obtain⟨al,cl,ao,co,ah,ch,an,cn,rfl⟩:=hv.fE;obtain⟨ap,cp,rfl⟩:=hs.je;obtain⟨q1,q2,q3⟩:=hv.eu;have uw:=η q1;have uD:=η q2;have xQ:=η q3;have vT:=η hs.ig;have FC:=η (hi.qE hf hk);have mY:=η hi;have HV:=η hv;have HC:=η hc;clear hc hv hs q1 q2 q3 hi hf;obtain⟨wa,cO⟩:∃y:World,y=w.alloc (.cells #[ς al x.head.log.length cl,ι x.head.aG,ι x.head.next,ς ao x.head.opn.length co,ς ah x.aA.length ch,ς an x.net.length cn] 33):=⟨_,rfl⟩;obtain⟨wb,hwb⟩:∃y:World,y=wa.alloc (.cells #[ι 2,ι sn,ς ap sp.length cp] 25):=⟨_,rfl⟩;obtain⟨wz,hwz⟩:∃y:World,y=wb.alloc (.cells #[(),ι 0,ι 0,(),(),()] 33):=⟨_,rfl⟩;have hsa:wa.heap.size=w.heap.size+1:=by rw [cO];simp
 have hsb:wb.heap.size=w.heap.size+2:=by rw [hwb];simp [hsa]
 have R2:Hid (wz.heap[w.heap.size]? =some (.cells #[ς al x.head.log.length cl,ι x.head.aG,ι x.head.next,ς ao x.head.opn.length co,ς ah x.aA.length ch,ς an x.net.length cn] 33 (0,0))):=η (by rw [hwz,hwb,cO];exact aB (aB (aF _ _) _) _);have R3:Hid (wz.heap[w.heap.size+1]? =some (.cells #[ι 2,ι sn,ς ap sp.length cp] 25 (0,0))):=η (by rw [hwz,hwb,<-hsa];exact aB (aF _ _) _);have R4:Hid (wz.heap[w.heap.size+2]? =some (.cells #[(),ι 0,ι 0,(),(),()] 33 (0,0))):=η (by rw [hwz,<-hsb];exact aF _ _);have G1:Hid (Grow w wz):=η (by rw [hwz,hwb,cO];exact(((Grow.refl w).alloc _).alloc _).alloc _);have HZ:Hid (wz.heap.size=w.heap.size+3):=η (by rw [hwz];simp [hsb]);go_enter Tryz.func16,Tryz.ntmps16;go_upto_region 1 with fail
 rw [<-cO];try rw [hsa]
 rw [<-hwb];try rw [hsb]
 rw [<-hwz];clear cO hwb hwz hsa hsb;obtain⟨c0,c1,c2,c3,c4,c5⟩:=aJ R2.o;obtain⟨d0,d1,d2⟩:=cells3 R3.o;have z2:w.heap.size<wz:=(γ R2.o);have z3:w.heap.size+1<wz:=(γ R3.o);go_cut [6] from 22 (fun s6 wc=>s6=.bool (there x sn)/\wz=wc)
 case first=>
  by_cases h0:0<=sn
  ·by_cases h1:sn<(x.net.length:Int)
   ·go_wp2
    go_meet
    case rel=>exact⟨by first|rfl|(simp [there,h0,h1];done),rfl⟩
   ·go_wp2
    go_meet
    case rel=>exact⟨by first|rfl|(simp [there,h0,h1];done)|(simp [there,h0];omega),rfl⟩
  ·go_wp2
   go_meet
   case rel=>exact⟨by first|rfl|(simp [there];done)|(simp [there];omega),rfl⟩
 case rest=>
 obtain⟨rfl,rfl⟩:=hcut;have hE:iD x ⟨2,sn,sp⟩=x:=by unfold iD;simp [ht]
 have hE2:bI x ⟨2,sn,sp⟩=6:=by unfold bI;simp [ht]
 have HE:=η hE;have HE2:=η hE2;clear hE hE2;rw [ht];go_wp2_with (first|(refine wpList_store_row rfl (.tmp 4) (.tmp 72) rfl rfl rfl R4.o bV rfl rfl ?_))
 intro w7 r7 g7;obtain⟨p0,p1,p2,p3,p4,p5⟩:=aJ r7;clear c0 c1 c2 c3 c4 c5;go_wp2;refine bodyPost_ret (v:=.tuple #[.agg #[ς al x.head.log.length cl,ι x.head.aG,ι x.head.next,ς ao x.head.opn.length co,ς ah x.aA.length ch,ς an x.net.length cn],ι 6]) (by simp [results,Tryz.results16,go_sem,p0,p1,p2,p3,p4,p5]) rfl ?_;have G7:=G1.o.grown g7 (fun q hq=>by simp at hq;omega);rw [HE.o,HE2.o];exact⟨_,rfl,HV.o.mono (dM HC.o),G7⟩
theorem J6 {c:CM} {v vs:Value} {x:AW} {sn:Int} {sp:List Pt} {n:Nat} {G:Reg} {k:Nat} (w:World) (hc:Sub c w.cell?) (hv:Of Ty.wd c v x) (hs:Of Ty.st c vs ⟨3,sn,sp⟩) (hi:WI n G x) (hf:tu k x) (hk:k<=90000) (ht:there x sn=false):
  Calls Tryz.prog 16 #[v,vs] w fun e w'=>∃v',e=.returned (.tuple #[v',ι (bI x ⟨3,sn,sp⟩)])/\Of Ty.wd (ov c w w') v' (iD x ⟨3,sn,sp⟩)/\Grow w w':=by
 obtain⟨al,cl,ao,co,ah,ch,an,cn,rfl⟩:=hv.fE;obtain⟨ap,cp,rfl⟩:=hs.je;obtain⟨q1,q2,q3⟩:=hv.eu;have uw:=η q1;have uD:=η q2;have xQ:=η q3;have vT:=η hs.ig;have FC:=η (hi.qE hf hk);have mY:=η hi;have HV:=η hv;have HC:=η hc;clear hc hv hs q1 q2 q3 hi hf;obtain⟨wa,cO⟩:∃y:World,y=w.alloc (.cells #[ς al x.head.log.length cl,ι x.head.aG,ι x.head.next,ς ao x.head.opn.length co,ς ah x.aA.length ch,ς an x.net.length cn] 33):=⟨_,rfl⟩;obtain⟨wb,hwb⟩:∃y:World,y=wa.alloc (.cells #[ι 3,ι sn,ς ap sp.length cp] 25):=⟨_,rfl⟩;obtain⟨wz,hwz⟩:∃y:World,y=wb.alloc (.cells #[(),ι 0,ι 0,(),(),()] 33):=⟨_,rfl⟩;have hsa:wa.heap.size=w.heap.size+1:=by rw [cO];simp
 have hsb:wb.heap.size=w.heap.size+2:=by rw [hwb];simp [hsa]
 have R2:Hid (wz.heap[w.heap.size]? =some (.cells #[ς al x.head.log.length cl,ι x.head.aG,ι x.head.next,ς ao x.head.opn.length co,ς ah x.aA.length ch,ς an x.net.length cn] 33 (0,0))):=η (by rw [hwz,hwb,cO];exact aB (aB (aF _ _) _) _);have R3:Hid (wz.heap[w.heap.size+1]? =some (.cells #[ι 3,ι sn,ς ap sp.length cp] 25 (0,0))):=η (by rw [hwz,hwb,<-hsa];exact aB (aF _ _) _);have R4:Hid (wz.heap[w.heap.size+2]? =some (.cells #[(),ι 0,ι 0,(),(),()] 33 (0,0))):=η (by rw [hwz,<-hsb];exact aF _ _);have G1:Hid (Grow w wz):=η (by rw [hwz,hwb,cO];exact(((Grow.refl w).alloc _).alloc _).alloc _);have HZ:Hid (wz.heap.size=w.heap.size+3):=η (by rw [hwz];simp [hsb]);go_enter Tryz.func16,Tryz.ntmps16;go_upto_region 1 with fail
 rw [<-cO];try rw [hsa]
 rw [<-hwb];try rw [hsb]
 rw [<-hwz];clear cO hwb hwz hsa hsb;obtain⟨c0,c1,c2,c3,c4,c5⟩:=aJ R2.o;obtain⟨d0,d1,d2⟩:=cells3 R3.o;have z2:w.heap.size<wz:=(γ R2.o);have z3:w.heap.size+1<wz:=(γ R3.o);go_cut [6] from 22 (fun s6 wc=>s6=.bool (there x sn)/\wz=wc)
 case first=>
  by_cases h0:0<=sn
  ·by_cases h1:sn<(x.net.length:Int)
   ·go_wp2
    go_meet
    case rel=>exact⟨by first|rfl|(simp [there,h0,h1];done),rfl⟩
   ·go_wp2
    go_meet
    case rel=>exact⟨by first|rfl|(simp [there,h0,h1];done)|(simp [there,h0];omega),rfl⟩
  ·go_wp2
   go_meet
   case rel=>exact⟨by first|rfl|(simp [there];done)|(simp [there];omega),rfl⟩
 case rest=>
 obtain⟨rfl,rfl⟩:=hcut;have hE:iD x ⟨3,sn,sp⟩=x:=by unfold iD;simp [ht]
 have hE2:bI x ⟨3,sn,sp⟩=6:=by unfold bI;simp [ht]
 have HE:=η hE;have HE2:=η hE2;clear hE hE2;rw [ht];go_wp2_with (first|(refine wpList_store_row rfl (.tmp 4) (.tmp 72) rfl rfl rfl R4.o bV rfl rfl ?_))
 intro w7 r7 g7;obtain⟨p0,p1,p2,p3,p4,p5⟩:=aJ r7;clear c0 c1 c2 c3 c4 c5;go_wp2;refine bodyPost_ret (v:=.tuple #[.agg #[ς al x.head.log.length cl,ι x.head.aG,ι x.head.next,ς ao x.head.opn.length co,ς ah x.aA.length ch,ς an x.net.length cn],ι 6]) (by simp [results,Tryz.results16,go_sem,p0,p1,p2,p3,p4,p5]) rfl ?_;have G7:=G1.o.grown g7 (fun q hq=>by simp at hq;omega);rw [HE.o,HE2.o];exact⟨_,rfl,HV.o.mono (dM HC.o),G7⟩
theorem J7 {c:CM} {v vs:Value} {x:AW} {sn:Int} {sp:List Pt} {n:Nat} {G:Reg} {k:Nat} (w:World) (hc:Sub c w.cell?) (hv:Of Ty.wd c v x) (hs:Of Ty.st c vs ⟨4,sn,sp⟩) (hi:WI n G x) (hf:tu k x) (hk:k<=90000) (ht:there x sn=false):
  Calls Tryz.prog 16 #[v,vs] w fun e w'=>∃v',e=.returned (.tuple #[v',ι (bI x ⟨4,sn,sp⟩)])/\Of Ty.wd (ov c w w') v' (iD x ⟨4,sn,sp⟩)/\Grow w w':=by
 obtain⟨al,cl,ao,co,ah,ch,an,cn,rfl⟩:=hv.fE;obtain⟨ap,cp,rfl⟩:=hs.je;obtain⟨q1,q2,q3⟩:=hv.eu;have uw:=η q1;have uD:=η q2;have xQ:=η q3;have vT:=η hs.ig;have FC:=η (hi.qE hf hk);have mY:=η hi;have HV:=η hv;have HC:=η hc;clear hc hv hs q1 q2 q3 hi hf;obtain⟨wa,cO⟩:∃y:World,y=w.alloc (.cells #[ς al x.head.log.length cl,ι x.head.aG,ι x.head.next,ς ao x.head.opn.length co,ς ah x.aA.length ch,ς an x.net.length cn] 33):=⟨_,rfl⟩;obtain⟨wb,hwb⟩:∃y:World,y=wa.alloc (.cells #[ι 4,ι sn,ς ap sp.length cp] 25):=⟨_,rfl⟩;obtain⟨wz,hwz⟩:∃y:World,y=wb.alloc (.cells #[(),ι 0,ι 0,(),(),()] 33):=⟨_,rfl⟩;have hsa:wa.heap.size=w.heap.size+1:=by rw [cO];simp
 have hsb:wb.heap.size=w.heap.size+2:=by rw [hwb];simp [hsa]
 have R2:Hid (wz.heap[w.heap.size]? =some (.cells #[ς al x.head.log.length cl,ι x.head.aG,ι x.head.next,ς ao x.head.opn.length co,ς ah x.aA.length ch,ς an x.net.length cn] 33 (0,0))):=η (by rw [hwz,hwb,cO];exact aB (aB (aF _ _) _) _);have R3:Hid (wz.heap[w.heap.size+1]? =some (.cells #[ι 4,ι sn,ς ap sp.length cp] 25 (0,0))):=η (by rw [hwz,hwb,<-hsa];exact aB (aF _ _) _);have R4:Hid (wz.heap[w.heap.size+2]? =some (.cells #[(),ι 0,ι 0,(),(),()] 33 (0,0))):=η (by rw [hwz,<-hsb];exact aF _ _);have G1:Hid (Grow w wz):=η (by rw [hwz,hwb,cO];exact(((Grow.refl w).alloc _).alloc _).alloc _);have HZ:Hid (wz.heap.size=w.heap.size+3):=η (by rw [hwz];simp [hsb]);go_enter Tryz.func16,Tryz.ntmps16;go_upto_region 1 with fail
 rw [<-cO];try rw [hsa]
 rw [<-hwb];try rw [hsb]
 rw [<-hwz];clear cO hwb hwz hsa hsb;obtain⟨c0,c1,c2,c3,c4,c5⟩:=aJ R2.o;obtain⟨d0,d1,d2⟩:=cells3 R3.o;have z2:w.heap.size<wz:=(γ R2.o);have z3:w.heap.size+1<wz:=(γ R3.o);go_cut [6] from 22 (fun s6 wc=>s6=.bool (there x sn)/\wz=wc)
 case first=>
  by_cases h0:0<=sn
  ·by_cases h1:sn<(x.net.length:Int)
   ·go_wp2
    go_meet
    case rel=>exact⟨by first|rfl|(simp [there,h0,h1];done),rfl⟩
   ·go_wp2
    go_meet
    case rel=>exact⟨by first|rfl|(simp [there,h0,h1];done)|(simp [there,h0];omega),rfl⟩
  ·go_wp2
   go_meet
   case rel=>exact⟨by first|rfl|(simp [there];done)|(simp [there];omega),rfl⟩
 case rest=>
 obtain⟨rfl,rfl⟩:=hcut;have hE:iD x ⟨4,sn,sp⟩=x:=by unfold iD;simp [ht]
 have hE2:bI x ⟨4,sn,sp⟩=6:=by unfold bI;simp [ht]
 have HE:=η hE;have HE2:=η hE2;clear hE hE2;rw [ht];go_wp2_with (first|(refine wpList_store_row rfl (.tmp 4) (.tmp 72) rfl rfl rfl R4.o bV rfl rfl ?_))
 intro w7 r7 g7;obtain⟨p0,p1,p2,p3,p4,p5⟩:=aJ r7;clear c0 c1 c2 c3 c4 c5;go_wp2;refine bodyPost_ret (v:=.tuple #[.agg #[ς al x.head.log.length cl,ι x.head.aG,ι x.head.next,ς ao x.head.opn.length co,ς ah x.aA.length ch,ς an x.net.length cn],ι 6]) (by simp [results,Tryz.results16,go_sem,p0,p1,p2,p3,p4,p5]) rfl ?_;have G7:=G1.o.grown g7 (fun q hq=>by simp at hq;omega);rw [HE.o,HE2.o];exact⟨_,rfl,HV.o.mono (dM HC.o),G7⟩
theorem NP {c:CM} {v vs:Value} {x:AW} {kd sn:Int} {sp:List Pt} {n:Nat} {G:Reg} {k:Nat} (w:World) (hc:Sub c w.cell?) (hv:Of Ty.wd c v x) (hs:Of Ty.st c vs ⟨kd,sn,sp⟩) (hi:WI n G x) (hf:tu k x) (hk:k<=90000) (hkd:kd<1∨7<kd):
  Calls Tryz.prog 16 #[v,vs] w fun e w'=>∃v',e=.returned (.tuple #[v',ι (bI x ⟨kd,sn,sp⟩)])/\Of Ty.wd (ov c w w') v' (iD x ⟨kd,sn,sp⟩)/\Grow w w':=by
 obtain⟨al,cl,ao,co,ah,ch,an,cn,rfl⟩:=hv.fE;obtain⟨ap,cp,rfl⟩:=hs.je;obtain⟨q1,q2,q3⟩:=hv.eu;have uw:=η q1;have uD:=η q2;have xQ:=η q3;have vT:=η hs.ig;have FC:=η (hi.qE hf hk);have mY:=η hi;have HV:=η hv;have HC:=η hc;clear hc hv hs q1 q2 q3 hi hf;obtain⟨wa,cO⟩:∃y:World,y=w.alloc (.cells #[ς al x.head.log.length cl,ι x.head.aG,ι x.head.next,ς ao x.head.opn.length co,ς ah x.aA.length ch,ς an x.net.length cn] 33):=⟨_,rfl⟩;obtain⟨wb,hwb⟩:∃y:World,y=wa.alloc (.cells #[ι kd,ι sn,ς ap sp.length cp] 25):=⟨_,rfl⟩;obtain⟨wz,hwz⟩:∃y:World,y=wb.alloc (.cells #[(),ι 0,ι 0,(),(),()] 33):=⟨_,rfl⟩;have hsa:wa.heap.size=w.heap.size+1:=by rw [cO];simp
 have hsb:wb.heap.size=w.heap.size+2:=by rw [hwb];simp [hsa]
 have R2:Hid (wz.heap[w.heap.size]? =some (.cells #[ς al x.head.log.length cl,ι x.head.aG,ι x.head.next,ς ao x.head.opn.length co,ς ah x.aA.length ch,ς an x.net.length cn] 33 (0,0))):=η (by rw [hwz,hwb,cO];exact aB (aB (aF _ _) _) _);have R3:Hid (wz.heap[w.heap.size+1]? =some (.cells #[ι kd,ι sn,ς ap sp.length cp] 25 (0,0))):=η (by rw [hwz,hwb,<-hsa];exact aB (aF _ _) _);have R4:Hid (wz.heap[w.heap.size+2]? =some (.cells #[(),ι 0,ι 0,(),(),()] 33 (0,0))):=η (by rw [hwz,<-hsb];exact aF _ _);have G1:Hid (Grow w wz):=η (by rw [hwz,hwb,cO];exact(((Grow.refl w).alloc _).alloc _).alloc _);have HZ:Hid (wz.heap.size=w.heap.size+3):=η (by rw [hwz];simp [hsb]);go_enter Tryz.func16,Tryz.ntmps16;go_upto_region 1 with fail
 rw [<-cO];try rw [hsa]
 rw [<-hwb];try rw [hsb]
 rw [<-hwz];clear cO hwb hwz hsa hsb;obtain⟨c0,c1,c2,c3,c4,c5⟩:=aJ R2.o;obtain⟨d0,d1,d2⟩:=cells3 R3.o;have z2:w.heap.size<wz:=(γ R2.o);have z3:w.heap.size+1<wz:=(γ R3.o);go_cut [6] from 22 (fun s6 wc=>s6=.bool (there x sn)/\wz=wc)
 case first=>
  by_cases h0:0<=sn
  ·by_cases h1:sn<(x.net.length:Int)
   ·go_wp2
    go_meet
    case rel=>exact⟨by first|rfl|(simp [there,h0,h1];done),rfl⟩
   ·go_wp2
    go_meet
    case rel=>exact⟨by first|rfl|(simp [there,h0,h1];done)|(simp [there,h0];omega),rfl⟩
  ·go_wp2
   go_meet
   case rel=>exact⟨by first|rfl|(simp [there];done)|(simp [there];omega),rfl⟩
 case rest=>
 obtain⟨rfl,rfl⟩:=hcut;have e1:(kd==1)=false:=by rw [beq_eq_false_iff_ne];omega
 have e2:(kd==2)=false:=by rw [beq_eq_false_iff_ne];omega
 have e3:(kd==3)=false:=by rw [beq_eq_false_iff_ne];omega
 have e4:(kd==4)=false:=by rw [beq_eq_false_iff_ne];omega
 have e5:(kd==5)=false:=by rw [beq_eq_false_iff_ne];omega
 have e6:(kd==6)=false:=by rw [beq_eq_false_iff_ne];omega
 have e7:(kd==7)=false:=by rw [beq_eq_false_iff_ne];omega
 have HE:Hid (iD x ⟨kd,sn,sp⟩=x):=η (by unfold iD;simp only;rw [if_neg δ,if_neg δ,if_neg δ,if_neg δ,if_neg δ,if_neg δ,if_neg δ]);have HE2:Hid (bI x ⟨kd,sn,sp⟩=1):=η (by unfold bI;simp only;rw [if_neg δ,if_neg δ,if_neg δ,if_neg δ,if_neg δ]);clear hkd;go_wp2_with (first|(refine wpList_store_row rfl (.tmp 4) (.tmp 35) rfl rfl rfl R4.o bV rfl rfl ?_))
 intro w7 r7 g7;obtain⟨p0,p1,p2,p3,p4,p5⟩:=aJ r7;clear c0 c1 c2 c3 c4 c5;go_wp2;refine bodyPost_ret (v:=.tuple #[.agg #[ς al x.head.log.length cl,ι x.head.aG,ι x.head.next,ς ao x.head.opn.length co,ς ah x.aA.length ch,ς an x.net.length cn],ι 1]) (by simp [results,Tryz.results16,go_sem,p0,p1,p2,p3,p4,p5]) rfl ?_;have G7:=G1.o.grown g7 (fun q hq=>by simp at hq;omega);rw [HE.o,HE2.o];exact⟨_,rfl,HV.o.mono (dM HC.o),G7⟩
end Go.Proofs.YtocnmkefmgmkbaaGreat
