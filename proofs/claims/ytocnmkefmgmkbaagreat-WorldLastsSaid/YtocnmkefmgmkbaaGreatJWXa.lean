/- Parts of proofs, joined: U22. No condition beside those that each theorem names. -/
import Derived.Test.YtocnmkefmgmkbaaGreatJW1b
import Derived.Test.YtocnmkefmgmkbaaGreatJW6a
import Derived.Test.YtocnmkefmgmkbaaGreatJW4b
import Derived.Test.YtocnmkefmgmkbaaGreatJWUa
import Derived.Test.YtocnmkefmgmkbaaGreatJWHa
import Derived.Test.YtocnmkefmgmkbaaGreatJW7a
set_option maxRecDepth 100000
set_option maxHeartbeats 40000000
namespace Go.Proofs.YtocnmkefmgmkbaaGreat
open Go.RowKit
def dm (c:CM) (w W:World):CM:=wk w.heap.size 3 (ov c w W)
theorem Cb {c:CM} {w W:World} (hc:Sub c w.cell?):Sub c (dm c w W):=Dx hc 3
theorem mZ {c:CM} {w W:World} (hc:Sub c w.cell?) (hg:Grow w W):Sub (dm c w W) W.cell?:=QE hc hg 3
theorem JX (c:CM) (w W:World):Sub (dm c w W) (ov c w W):=IZ _ _ _
theorem Qm {c:CM} {w W:World} {a:Addr} (h:w.heap.size+3<=a.block):dm c w W a=W.cell? a:=dE h
theorem RV {c:CM} {w W W':World} (h:∀a v,w.heap.size+3<=a.block->W.cell? a=some v->W'.cell? a=some v):Sub (dm c w W) (dm c w W'):=fun a v e=>by
 unfold dm wk ov at e ⊢;split at e
 ·cases e
 ·rename_i hn
  rw [if_neg hn];split at e
  ·rw [if_pos ‹_›];exact e
  ·rw [if_neg ‹_›];exact h a v δ e
theorem jS {c:CM} {w W W':World} (h:Grow W W'):Sub (dm c w W) (dm c w W'):=RV fun a v _ e=>h.sub a v e
theorem jo {c:CM} {w W W':World} {b:Nat} (hg:W.grownBy W' (some b)) (hb:b<w.heap.size+3):Sub (dm c w W) (dm c w W'):=RV fun a v hl e=>aP e hg δ
theorem nH {c:CM} {w w6 W w7 w8:World} (g6:Grow w6 w8) (h:∀a v,W.heap.size<=a.block->w7.cell? a=some v->w8.cell? a=some v) (hk:w.heap.size+3<=W.heap.size):Sub (ov (dm c w w6) W w7) (dm c w w8):=fun a v e=>by
 unfold ov at e;split at e
 ·exact jS g6 a v e
 ·rw [Qm δ];exact h a v δ e
theorem R_ {m:Ms} (h:jg m):dw m.parts:=by
 by_cases hk:m.kind=1
 ·exact sO (h.parts hk).1
 ·rw [h.none hk];intro p hp;simp at hp
theorem dm_none {c:CM} {w W W1:World} (hk:w.heap.size+3<=W.heap.size):Sub (ov (fun _=>none) W W1) (dm c w W1):=fun a v e=>by
 unfold ov at e;split at e
 ·cases e
 ·rw [Qm δ];exact e
theorem oN {m:Ms}:iI m=decide (m.kind=1∨m.kind=4∨m.kind=5):=rfl
theorem Qn {w:AW} {m:Ms} {h:Hs} (e:w.aA[m.house.toNat]? =some h) (f:iI m=true):iY w m={ w with aA:=w.aA.set m.house.toNat (bg h m),net:=bW w.net (bG h m.house m) }:=by unfold iY;rw [e];simp only;rw [if_pos f]
theorem UC {w:AW} {m:Ms} {h:Hs} (e:w.aA[m.house.toNat]? =some h) (f:iI m=false):iY w m={ w with head:=f_ w.head m,net:=bW w.net (fG w.head m) }:=by unfold iY;rw [e];simp only;rw [if_neg (by rw [f];simp)]
theorem NK {c:CM} {v vs:Value} {x:AW} {sn:Int} {sp:List Pt} {n:Nat} {G:Reg} {k:Nat} (w:World) (hc:Sub c w.cell?) (hv:Of Ty.wd c v x) (hs:Of Ty.st c vs ⟨2,sn,sp⟩) (hi:WI n G x) (hf:tu k x) (hk:k<=90000) (ht:there x sn=true):
  Calls Tryz.prog 16 #[v,vs] w fun e w'=>∃v',e=.returned (.tuple #[v',ι (bI x ⟨2,sn,sp⟩)])/\Of Ty.wd (ov c w w') v' (iD x ⟨2,sn,sp⟩)/\Grow w w':=by
 obtain⟨al,cl,ao,co,ah,ch,an,cn,rfl⟩:=hv.fE;obtain⟨ap,cp,rfl⟩:=hs.je;obtain⟨q1,q2,q3⟩:=hv.eu;have uw:=η q1;have uD:=η q2;have xQ:=η q3;have vT:=η hs.ig;have FC:=η (hi.qE hf hk);have mY:=η hi;have HV:=η hv;have HC:=η hc;have HT:=η ht;have cC:=η hf;clear hc hv hs q1 q2 q3 hi hf;obtain⟨wa,cO⟩:∃y:World,y=w.alloc (.cells #[ς al x.head.log.length cl,ι x.head.aG,ι x.head.next,ς ao x.head.opn.length co,ς ah x.aA.length ch,ς an x.net.length cn] 33):=⟨_,rfl⟩;obtain⟨wb,hwb⟩:∃y:World,y=wa.alloc (.cells #[ι 2,ι sn,ς ap sp.length cp] 25):=⟨_,rfl⟩;obtain⟨wz,hwz⟩:∃y:World,y=wb.alloc (.cells #[(),ι 0,ι 0,(),(),()] 33):=⟨_,rfl⟩;have hsa:wa.heap.size=w.heap.size+1:=by rw [cO];simp
 have hsb:wb.heap.size=w.heap.size+2:=by rw [hwb];simp [hsa]
 have R2:Hid (wz.heap[w.heap.size]? =some (.cells #[ς al x.head.log.length cl,ι x.head.aG,ι x.head.next,ς ao x.head.opn.length co,ς ah x.aA.length ch,ς an x.net.length cn] 33 (0,0))):=η (by rw [hwz,hwb,cO];exact aB (aB (aF _ _) _) _);have R3:Hid (wz.heap[w.heap.size+1]? =some (.cells #[ι 2,ι sn,ς ap sp.length cp] 25 (0,0))):=η (by rw [hwz,hwb,<-hsa];exact aB (aF _ _) _);have R4:Hid (wz.heap[w.heap.size+2]? =some (.cells #[(),ι 0,ι 0,(),(),()] 33 (0,0))):=η (by rw [hwz,<-hsb];exact aF _ _);have G1:Hid (Grow w wz):=η (by rw [hwz,hwb,cO];exact(((Grow.refl w).alloc _).alloc _).alloc _);have HZ:Hid (wz.heap.size=w.heap.size+3):=η (by rw [hwz];simp [hsb]);go_enter Tryz.func16,Tryz.ntmps16;go_upto_region 1 with fail
 rw [<-cO];try rw [hsa]
 rw [<-hwb];try rw [hsb]
 rw [<-hwz];clear cO hwb hwz hsa hsb;obtain⟨c0,c1,c2,c3,c4,c5⟩:=aJ R2.o;obtain⟨d0,d1,d2⟩:=cells3 R3.o;have z2:w.heap.size<wz:=(γ R2.o);have z3:w.heap.size+1<wz:=(γ R3.o);go_cut [6] from 22 (fun s6 wc=>s6=.bool (there x sn)/\wz=wc)
 case first=>
  by_cases h0:0<=sn
  ·by_cases h1:sn<(x.net.length:Int)
   ·go_wp2
    go_meet
    case rel=>exact⟨by first|rfl|(simp [there,h0,h1];done),rfl⟩
   ·go_wp2
    go_meet
    case rel=>exact⟨by first|rfl|(simp [there,h0,h1];done)|(simp [there,h0];omega),rfl⟩
  ·go_wp2
   go_meet
   case rel=>exact⟨by first|rfl|(simp [there];done)|(simp [there];omega),rfl⟩
 case rest=>
 obtain⟨rfl,rfl⟩:=hcut;obtain⟨h0,h1⟩:0<=sn/\sn<(x.net.length:Int):=of_decide_eq_true HT.o;have HE2:Hid (bI x ⟨2,sn,sp⟩=0):=η (by unfold bI;simp [ht]);have Iq:Hid (iD x ⟨2,sn,sp⟩=iY { x with net:=x.net.eraseIdx sn.toNat } (x.net.getD sn.toNat ⟨0,0,0,[]⟩)):=η (by unfold iD;simp [ht]);rw [ht];obtain⟨i,hi⟩:∃i:Nat,sn=(i:Int):=⟨sn.toNat,δ⟩;have hil:i<x.net.length:=by omega
 have hti:sn.toNat=i:=by omega
 have hq3:=xQ.o;obtain⟨an',cn',EZ,hcc,-,-,hel⟩:=hq3;simp only [Value.slice.injEq] at EZ;obtain⟨rfl,-,rfl⟩:=EZ;rw [List.length_map] at hcc;obtain⟨bb,o,u,rfl,ci,hbi⟩:=uH.at_ hel i (by simpa using hil);obtain⟨au,cu,rfl,-⟩:=id hbi;have yU:Hid ((x.net.map aS)[i]'(by simpa using hil)=aS x.net[i]):=η (by rw [List.getElem_map]);rw [yU.o] at hbi ci;have vZ:=η (fun(W:World) (hW:Grow w W)=>Ir W (hbi.mono (HC.o.trans hW.sub)));have J8:=η (xC (mY.o.right _ (List.getElem_mem hil)));rw [J8.o] at vZ;have EY:=η mY.o.len;have Ht:Hid (uH c (ς (some ⟨bb,o,none⟩) x.net.length cn) (x.net.map aS)):=η xQ.o;rw [hti] at Iq;have HGD:Hid (x.net.getD i ⟨0,0,0,[]⟩=x.net[i]):=η (by rw [List.getD_eq_getElem?_getD,List.getElem?_eq_getElem hil];rfl);rw [HGD.o] at Iq;have Ik:Hid (qB n G x.head x.aA x.net[i]):=η (mY.o.net _ (List.getElem_mem hil));clear HGD;have TK:Hid (sn=(i:Int)):=η hi;replace ci:=(HC.o.trans G1.o.sub) _ _ ci;clear hel hbi ht HT J8 yU;generalize x.net[i]=m at*;have hi0:(0:Int)<=sn:=by omega
 have hi9:sn<(x.net.length:Int):=by omega
 subst hi;go_upto_region 21 with fail
 clear c0 c1 c2 c3 c4 c5 d0 d1 d2 ci z2 z3;have hll:(x.net.map aS).length=x.net.length:=List.length_map _;have kY:=η (Ht.o.take' i δ);have XY:=η (Ht.o.drop (i+1) δ);have qy:=η (Ak x.net i);have QW:Hid ((x.net.eraseIdx i).length=i+(x.net.length - (i+1))):=η (by rw [List.length_eraseIdx,if_pos hil];omega);have hii:IntKind.i64.wrap ((i:Int)+1)=(i:Int)+1:=IntWalk.i64_in _ (τ EY.o);have hi2:(0:Int)<=(i:Int)+1:=by omega
 have hi3:(i:Int)+1<=(x.net.length:Int):=by omega
 have hi4:((i:Int)+1).toNat=i+1:=by omega
 have hi5:(i:Int)<=(cn:Int):=by omega
 have UI:(x.net.length:Int)<=(cn:Int):=by omega
 have HS:Hid (∀W,Grow wz W->W.cell? ⟨w.heap.size,5,none⟩=some (ς (some ⟨bb,o,none⟩) x.net.length cn)/\W.cell? ⟨w.heap.size+1,1,none⟩=some (ι i)):=fun W hW=>by
  obtain⟨-,-,-,-,-,j5⟩:=aJ (aj R2.o hW);obtain⟨-,f1,-⟩:=cells3 (aj R3.o hW);exact⟨j5,f1⟩
 go_cut [11] from 95 (fun s11 wc=>s11=ς au (aS m).length cu/\∃a9 n9 c9,wc.heap[w.heap.size]? =some (.cells #[ς al x.head.log.length cl,ι x.head.aG,ι x.head.next,ς ao x.head.opn.length co,ς ah x.aA.length ch,ς a9 n9 c9] 33 (0,0))/\wc.heap[w.heap.size+1]? =some (.cells #[ι 2,ι i,ς ap sp.length cp] 25 (0,0))/\wc.heap[w.heap.size+2]? =some (.cells #[(),ι 0,ι 0,(),(),()] 33 (0,0))/\aI Ty.bs c wc (w.heap.size+3) 97 (ς a9 n9 c9) ((x.net.eraseIdx i).map aS)/\Grow w wc)
 case first=>
  by_cases hcap:cn=i+1
  ·have HDR:Hid (Sl Ty.bs c (ς (some ⟨bb,o,none⟩) 0 0) ((x.net.map aS).drop (i+1))):=η (Sl.none' _ _ _ (List.drop_eq_nil_of_le δ))
   obtain rfl:=hcap;have UP:(i:Int)<=(i:Int)+1:=by omega
   refine bf (fun w'=>w'.cell? ⟨w.heap.size,5,none⟩=some (ς (some ⟨bb,o,none⟩) x.net.length (i+1))/\w'.cell? ⟨w.heap.size+1,1,none⟩=some (ι i)) 15 κ ?_;obtain⟨wd,hWd⟩:∃x:World,x=wz.drew:=⟨_,rfl⟩;rw [<-hWd];have GD:Grow wz wd:=by rw [hWd];exact(Grow.refl _).drew
   have zD:wz.heap.size=wd.heap.size:=by rw [hWd];rfl
   have ZD:=η zD;clear hWd zD;refine ni [1,2,3,4,5,7,8,9,10,11,12] 20 κ (fun _ _ _ _ _ h=>h) (HS.o _ GD) ?_;repeat (refine gQ ?_;try simp only [aK])
   refine ny ?_;refine bO 0 κ rfl ?_;intro K HK;try simp only [aV]
   go_simp;obtain⟨w7,hw7⟩:∃y:World,y=wd.alloc (.cells #[] 97):=⟨_,rfl⟩;have uU:Hid (aI Ty.bs c w7 (w.heap.size+3) 97 (ς (some ⟨wd.heap.size,0,none⟩) 0 0) []):=η (by rw [hw7];exact aI.jw Ty.bs _ _ _ _ (by have:=ZD.o;have:=HZ.o;omega) rfl);have kE:Hid (Grow wz w7):=η (by rw [hw7];exact GD.alloc _);rw [<-hw7];clear hw7;refine HK.o _ _ ⟨fun _=>HS.o _ kE.o,?_⟩;clear HK K;try simp only [aK]
   refine bO 6 κ rfl ?_;intro K HK;refine aC rfl ?_;try simp only [aV]
   refine qO (c:=c) (base:=w.heap.size+3) (l:=[]) (m:=(x.net.map aS).take i) (k:=(x.net.map aS).take i) (v:=ς (some ⟨wd.heap.size,0,none⟩) 0 0) jU rfl (iZ Ty.byte) ε (.tmp 95) (.tmp 100) rfl (List.nil_append _) rfl uU.o rfl (Src.iK ε (HC.o.trans (G1.o.trans kE.o).sub) kY.o) (by have:=EY.o;rw [List.length_take];simp;omega) (by have:=kE.o.size;have:=HZ.o;omega) ?_;intro a8 n8 c8 w8 V6 kV rX hb8;have qX:=η kV;have oU:=η (bn (w0:=wz) kE.o rX (fun q hq=>by have:=(uU.o.lt q hq).1;have:=HZ.o;omega));clear V6 kV rX hb8;refine HK.o _ _ ⟨fun _=>HS.o _ oU.o,?_⟩;clear HK K;try simp only [aK]
   refine bO 13 κ rfl ?_;intro K HK;refine aC rfl ?_;try simp only [aV]
   refine qO (c:=c) (base:=w.heap.size+3) (l:=(x.net.map aS).take i) (m:=(x.net.map aS).drop (i+1)) (k:=(x.net.eraseIdx i).map aS) (v:=ς a8 n8 c8) jU rfl (iZ Ty.byte) ε (.tmp 101) (.tmp 107) rfl qy.o rfl qX.o rfl (Src.iK ε (HC.o.trans (G1.o.trans oU.o).sub) ?Qk) (by have:=EY.o;rw [List.length_take,List.length_drop,List.length_map];omega) (by have:=oU.o.size;have:=HZ.o;omega) ?_
   case Qk=>exact HDR.o
   intro a9 n9 c9 w9 Zc fB eF gI;have iF:=η fB;have jL:=η (bn (w0:=wz) oU.o eF (fun q hq=>by have:=(qX.o.lt q hq).1;have:=HZ.o;omega));clear Zc fB eF gI;refine HK.o _ _ ⟨fun _=>HS.o _ jL.o,?_⟩;clear HK K;try simp only [aK]
   refine bO 14 κ rfl ?_;intro K HK;try simp only [aV]
   go_simp;refine HK.o _ _ ⟨fun _=>HS.o _ jL.o,?_⟩;clear HK K;try simp only [aK]
   refine bO 15 κ rfl ?_;intro K HK;refine aC rfl ?_;try simp only [aV]
   refine aU (.tmp 109) (.tmp 108) (v:=ς a9 n9 c9) (new:=#[ς al x.head.log.length cl,ι x.head.aG,ι x.head.next,ς ao x.head.opn.length co,ς ah x.aA.length ch,ς a9 n9 c9]) rfl rfl ρ ρ (aj R2.o jL.o) gK σ ρ ρ ?_;intro w5 r5 g5;refine HK.o _ _ ⟨fun h=>absurd rfl h,?_⟩;clear HK K;try simp only [aK]
   refine aO κ ?_;go_wp2;go_meet
   case rel=>exact⟨rfl,a9,n9,c9,r5,aH (aj R3.o jL.o) g5 (by intro e;have:=Option.some.inj e;omega),aH (aj R4.o jL.o) g5 (by intro e;have:=Option.some.inj e;omega),iF.o.kept g5 (bJ iF.o δ),(G1.o.trans jL.o).grown g5 (fun q hq=>by simp at hq;omega)⟩
  ·have HDR:Hid (Sl Ty.bs c (ς (some ⟨bb,o+(i+1),none⟩) (x.net.length - (i+1)) (cn - (i+1))) ((x.net.map aS).drop (i+1))):=η (by simpa [show Ty.bs.size=1 from rfl] using XY.o)
   refine bf (fun w'=>w'.cell? ⟨w.heap.size,5,none⟩=some (ς (some ⟨bb,o,none⟩) x.net.length cn)/\w'.cell? ⟨w.heap.size+1,1,none⟩=some (ι i)) 15 κ ?_;obtain⟨wd,hWd⟩:∃x:World,x=wz.drew:=⟨_,rfl⟩;rw [<-hWd];have GD:Grow wz wd:=by rw [hWd];exact(Grow.refl _).drew
   have zD:wz.heap.size=wd.heap.size:=by rw [hWd];rfl
   have ZD:=η zD;clear hWd zD;refine ni [1,2,3,4,5,7,8,9,10,11,12] 20 κ (fun _ _ _ _ _ h=>h) (HS.o _ GD) ?_;repeat (refine gQ ?_;try simp only [aK])
   refine ny ?_;refine bO 0 κ rfl ?_;intro K HK;try simp only [aV]
   go_simp;obtain⟨w7,hw7⟩:∃y:World,y=wd.alloc (.cells #[] 97):=⟨_,rfl⟩;have uU:Hid (aI Ty.bs c w7 (w.heap.size+3) 97 (ς (some ⟨wd.heap.size,0,none⟩) 0 0) []):=η (by rw [hw7];exact aI.jw Ty.bs _ _ _ _ (by have:=ZD.o;have:=HZ.o;omega) rfl);have kE:Hid (Grow wz w7):=η (by rw [hw7];exact GD.alloc _);rw [<-hw7];clear hw7;refine HK.o _ _ ⟨fun _=>HS.o _ kE.o,?_⟩;clear HK K;try simp only [aK]
   refine bO 6 κ rfl ?_;intro K HK;refine aC rfl ?_;try simp only [aV]
   refine qO (c:=c) (base:=w.heap.size+3) (l:=[]) (m:=(x.net.map aS).take i) (k:=(x.net.map aS).take i) (v:=ς (some ⟨wd.heap.size,0,none⟩) 0 0) jU rfl (iZ Ty.byte) ε (.tmp 95) (.tmp 100) rfl (List.nil_append _) rfl uU.o rfl (Src.iK ε (HC.o.trans (G1.o.trans kE.o).sub) kY.o) (by have:=EY.o;rw [List.length_take];simp;omega) (by have:=kE.o.size;have:=HZ.o;omega) ?_;intro a8 n8 c8 w8 V6 kV rX hb8;have qX:=η kV;have oU:=η (bn (w0:=wz) kE.o rX (fun q hq=>by have:=(uU.o.lt q hq).1;have:=HZ.o;omega));clear V6 kV rX hb8;refine HK.o _ _ ⟨fun _=>HS.o _ oU.o,?_⟩;clear HK K;try simp only [aK]
   refine bO 13 κ rfl ?_;intro K HK;refine aC rfl ?_;try simp only [aV]
   refine qO (c:=c) (base:=w.heap.size+3) (l:=(x.net.map aS).take i) (m:=(x.net.map aS).drop (i+1)) (k:=(x.net.eraseIdx i).map aS) (v:=ς a8 n8 c8) jU rfl (iZ Ty.byte) ε (.tmp 101) (.tmp 107) rfl qy.o rfl qX.o rfl (Src.iK ε (HC.o.trans (G1.o.trans oU.o).sub) ?Qk) (by have:=EY.o;rw [List.length_take,List.length_drop,List.length_map];omega) (by have:=oU.o.size;have:=HZ.o;omega) ?_
   case Qk=>exact HDR.o
   intro a9 n9 c9 w9 Zc fB eF gI;have iF:=η fB;have jL:=η (bn (w0:=wz) oU.o eF (fun q hq=>by have:=(qX.o.lt q hq).1;have:=HZ.o;omega));clear Zc fB eF gI;refine HK.o _ _ ⟨fun _=>HS.o _ jL.o,?_⟩;clear HK K;try simp only [aK]
   refine bO 14 κ rfl ?_;intro K HK;try simp only [aV]
   go_simp;refine HK.o _ _ ⟨fun _=>HS.o _ jL.o,?_⟩;clear HK K;try simp only [aK]
   refine bO 15 κ rfl ?_;intro K HK;refine aC rfl ?_;try simp only [aV]
   refine aU (.tmp 109) (.tmp 108) (v:=ς a9 n9 c9) (new:=#[ς al x.head.log.length cl,ι x.head.aG,ι x.head.next,ς ao x.head.opn.length co,ς ah x.aA.length ch,ς a9 n9 c9]) rfl rfl ρ ρ (aj R2.o jL.o) gK σ ρ ρ ?_;intro w5 r5 g5;refine HK.o _ _ ⟨fun h=>absurd rfl h,?_⟩;clear HK K;try simp only [aK]
   refine aO κ ?_;go_wp2;go_meet
   case rel=>exact⟨rfl,a9,n9,c9,r5,aH (aj R3.o jL.o) g5 (by intro e;have:=Option.some.inj e;omega),aH (aj R4.o jL.o) g5 (by intro e;have:=Option.some.inj e;omega),iF.o.kept g5 (bJ iF.o δ),(G1.o.trans jL.o).grown g5 (fun q hq=>by simp at hq;omega)⟩
 case rest=>
 obtain⟨rfl,a9,n9,c9,r9,r3,r4,fB,hgw⟩:=hcut;have C_:=η r9;have gR:=η r3;have pP:=η r4;have iF:=η fB;have Zm:=η hgw;obtain⟨w9,rfl⟩:∃y:World,y=wc:=⟨_,rfl⟩;clear r9 r3 r4 fB hgw HS kY XY hii hi2 hi3 hi4 hi5 UI;go_wp2_with fail
 refine(vZ.o _ Zm.o).mono ?_;rintro e w5 ⟨v5,rfl,hx5,hb5⟩;have TY:=η mY.o.core.len;have VV:=η mY.o.core.n3;have V0:=η Ik.o.right;obtain⟨j,hj⟩:∃j:Nat,m.house=(j:Int):=⟨m.house.toNat,by have:=V0.o.house;omega⟩;have hjn:j<x.aA.length:=by have:=Ik.o.here;have:=TY.o;omega
 have hj3:x.aA.length<=3:=by have:=TY.o;have:=VV.o;omega
 have yU:Hid (I64 m.kind/\I64 m.deed/\I64 m.house):=η (by obtain⟨cs,he,vp,rfl,i0,i1,i2,-⟩:=hx5;exact⟨i0,i1,i2⟩);obtain⟨mN,cp5,rfl⟩:=hx5.fQ;have WD:Hid (m.house=(j:Int)):=η hj;have Z9:=η hx5;rw [hj] at Z9 ⊢;have G5:=η (Zm.o.trans hb5);have BN:Hid (w.heap.size+3<=w9.heap.size):=η (τ (γ pP.o));have UM:=η hb5;have mR:=η (aj C_.o hb5);have mS:=η (aj gR.o hb5);have Gi:=η (aj pP.o hb5);have l9:=η (iF.o.grow hb5);clear hx5 hb5 hj;obtain⟨c0,c1,c2,c3,c4,c5⟩:=aJ mR.o;obtain⟨d0,d1,d2⟩:=cells3 mS.o;have z2:w.heap.size<w5:=(γ mR.o);have z3:w.heap.size+1<w5:=(γ mS.o);go_upto_region 23 with fail
 obtain⟨w6,hw6⟩:∃y:World,y=w5.alloc (.cells #[ι m.kind,ι m.deed,ι (j:Int),ς mN m.parts.length cp5] 85):=⟨_,rfl⟩;have UY:Hid (Grow w5 w6):=η (by rw [hw6];exact(Grow.refl _).alloc _);obtain⟨BM,cF⟩:∃y,y=w5.heap.size:=⟨_,rfl⟩;have Ux:Hid (w6.heap[BM]? =some (.cells #[ι m.kind,ι m.deed,ι (j:Int),ς mN m.parts.length cp5] 85 (0,0))):=η (by rw [hw6,cF];exact aF _ _);have sL:Hid (w.heap.size+3<=BM):=η (by have:=BN.o;have:=UM.o.size;omega);rw [<-hw6,<-cF];clear hw6 cF c0 c1 c2 c3 c4 c5 d0 d1 d2 z2 z3;have XZ:=η (aj mR.o UY.o);have BV:=η (aj mS.o UY.o);have BW:=η (aj Gi.o UY.o);have Bl:=η (l9.o.grow UY.o);have G6:=η (G5.o.trans UY.o);have WF:Hid (Of Ty.ms (dm c w w6) (.agg #[ι m.kind,ι m.deed,ι (j:Int),ς mN m.parts.length cp5]) m):=η (Z9.o.mono ((dm_none BN.o).trans (jS UY.o)));have xZ:Hid (uH (dm c w w6) (ς a9 n9 c9) ((x.net.eraseIdx i).map aS)):=η (Bl.o.slc ε (Cb HC.o) fun a9 VS=>Qm δ);have m5:Hid (w.heap.size+3<=w6.heap.size):=η (by have:=sL.o;have:=(γ Ux.o);omega);have QW:Hid ((x.net.eraseIdx i).length<=24):=η (by have:=EY.o;rw [List.length_eraseIdx];split<;>omega);have lL:Hid (x.aA[m.house.toNat]? =some x.aA[j]):=η (by rw [WD.o,Int.toNat_natCast];exact List.getElem?_eq_getElem hjn);have hjl:¬(x.aA.length:Int)<=(j:Int):=by omega
 obtain⟨c0,c1,c2,c3,c4,c5⟩:=aJ XZ.o;obtain⟨d0,d1,d2⟩:=cells3 BV.o;obtain⟨m0,m1,m2,m3⟩:=cells4 Ux.o;have z2:w.heap.size<w6:=(γ XZ.o);have z3:w.heap.size+1<w6:=(γ BV.o);have zM:BM<w6.heap.size:=(γ Ux.o);go_upto_region 25 with fail
 obtain⟨tf,htf⟩:∃b:Bool,b=iI m:=⟨_,rfl⟩;have pS:=η htf;clear htf;go_cut [143] from 131 (fun WN wc=>WN=.bool tf/\w6=wc)
 case first=>
  by_cases hk1:m.kind=1
  ·have hb1:(m.kind==1)=true:=by simp [hk1]
   have d9:=η hk1;clear hk1;go_wp2;go_meet
   case rel=>exact⟨by rw [pS.o,oN];have h1:=d9.o;simp [h1],rfl⟩
  ·have hb1:(m.kind==1)=false:=by simp [hk1]
   have d9:=η hk1;clear hk1;by_cases hk4:m.kind=4
   ·have hb4:(m.kind==4)=true:=by simp [hk4]
    have gO:=η hk4;clear hk4;go_wp2;go_meet
    case rel=>exact⟨by rw [pS.o,oN];have h1:=gO.o;simp [h1],rfl⟩
   ·have hb4:(m.kind==4)=false:=by simp [hk4]
    have gO:=η hk4;clear hk4;by_cases hk5:m.kind=5
    ·have hb5:(m.kind==5)=true:=by simp [hk5]
     have Yi:=η hk5;clear hk5;go_wp2;go_meet
     case rel=>exact⟨by rw [pS.o,oN];have h1:=Yi.o;simp [h1],rfl⟩
    ·have hb5:(m.kind==5)=false:=by simp [hk5]
     have Yi:=η hk5;clear hk5;go_wp2;go_meet
     case rel=>exact⟨by rw [pS.o,oN];have h1:=d9.o;have h4:=gO.o;have h5:=Yi.o;simp [h1,h4,h5],rfl⟩
 case rest=>
 obtain⟨rfl,rfl⟩:=hcut;clear c0 c1 c2 c3 c4 c5 d0 d1 d2 m0 m1 m2 m3 z2 z3 zM;cases tf with
 |true=>
  have WP:=η (Qn (w:={ x with net:=x.net.eraseIdx i }) lL.o pS.o.symm);rw [WP.o,WD.o,Int.toNat_natCast] at Iq;as_aux_lemma=>
   have hq2:=uD.o;obtain⟨FG,ch',EZ,-,-,-,hel⟩:=hq2;simp only [Value.slice.injEq,true_and] at EZ;obtain⟨rfl,rfl⟩:=EZ;obtain⟨bh,oh,vl,vr,vd,rfl,e0,e1,e2,e3,e4,e5,e6,hH1,s1,s2,s3,s4,hH2,hH3⟩:=nQ.at_ hel j hjn;obtain⟨il,jl,rfl,-⟩:=id hH1;obtain⟨ir,jr,rfl,-⟩:=id hH2;obtain⟨N_,jd,rfl,-⟩:=id hH3;have YI:Hid (Of Ty.hs c (.agg #[.slice il x.aA[j].log.length jl,ι x.aA[j].sums.a,ι x.aA[j].sums.b,ι x.aA[j].sums.c,ι x.aA[j].sums.d,.slice ir x.aA[j].ready.length jr,.slice N_ x.aA[j].done.length jd]) x.aA[j]):=η ⟨_,rfl,_,_,_,rfl,hH1,s1,s2,s3,s4,hH2,hH3⟩;have F2:=η (And.intro e0 (And.intro e1 (And.intro e2 (And.intro e3 (And.intro e4 (And.intro e5 e6))))));have HHI:=η (mY.o.core.house j _ (List.getElem?_eq_getElem hjn));have NZ:Hid (x.aA[j].log.length<=k):=η (cC.o.logs _ (List.getElem_mem hjn));have Ko:Hid (∀q∈bG x.aA[j] m.house m,aQ q=0):=η (WI.says (mY.o.core.hear Ik.o lL.o).2.2);rw [WD.o] at Ko;have uq:=η HHI.o.keys;have EB:=η HHI.o.calm.made;clear hel hH1 hH2 hH3 s1 s2 s3 s4 e0 e1 e2 e3 e4 e5 e6;generalize x.aA[j]=hh at*;have HS:Hid (∀W,Grow w6 W->W.cell? ⟨w.heap.size,4,none⟩=some (ς (some ⟨bh,oh,none⟩) x.aA.length ch)/\W.cell? ⟨BM,0,none⟩=some (ι m.kind)/\W.cell? ⟨BM,1,none⟩=some (ι m.deed)/\W.cell? ⟨BM,2,none⟩=some (ι (j:Int))/\W.cell? ⟨BM,3,none⟩=some (ς mN m.parts.length cp5)/\W.cell? ⟨bh,oh+j*7,none⟩=some (ς il hh.log.length jl)/\W.cell? ⟨bh,oh+j*7+1,none⟩=some (ι hh.sums.a)/\W.cell? ⟨bh,oh+j*7+2,none⟩=some (ι hh.sums.b)/\W.cell? ⟨bh,oh+j*7+3,none⟩=some (ι hh.sums.c)/\W.cell? ⟨bh,oh+j*7+4,none⟩=some (ι hh.sums.d)/\W.cell? ⟨bh,oh+j*7+5,none⟩=some (ς ir hh.ready.length jr)/\W.cell? ⟨bh,oh+j*7+6,none⟩=some (ς N_ hh.done.length jd)):=fun W hW=>by
    obtain⟨-,-,-,-,j4,-⟩:=aJ (aj XZ.o hW);obtain⟨k0,k1,k2,k3⟩:=cells4 (aj Ux.o hW);have gs:=HC.o.trans (G6.o.trans hW).sub;obtain⟨e0,e1,e2,e3,e4,e5,e6⟩:=F2.o;exact⟨j4,k0,k1,k2,k3,gs _ _ e0,gs _ _ e1,gs _ _ e2,gs _ _ e3,gs _ _ e4,gs _ _ e5,gs _ _ e6⟩
   have hj0:(0:Int)<=(j:Int):=by omega
   have hj1:(j:Int)<(x.aA.length:Int):=by omega
   go_upto_region 26 with fail
   refine bf (fun w'=>w'.cell? ⟨w.heap.size,4,none⟩=some (ς (some ⟨bh,oh,none⟩) x.aA.length ch)/\w'.cell? ⟨BM,0,none⟩=some (ι m.kind)/\w'.cell? ⟨BM,1,none⟩=some (ι m.deed)/\w'.cell? ⟨BM,2,none⟩=some (ι (j:Int))/\w'.cell? ⟨BM,3,none⟩=some (ς mN m.parts.length cp5)/\w'.cell? ⟨bh,oh+j*7,none⟩=some (ς il hh.log.length jl)/\w'.cell? ⟨bh,oh+j*7+1,none⟩=some (ι hh.sums.a)/\w'.cell? ⟨bh,oh+j*7+2,none⟩=some (ι hh.sums.b)/\w'.cell? ⟨bh,oh+j*7+3,none⟩=some (ι hh.sums.c)/\w'.cell? ⟨bh,oh+j*7+4,none⟩=some (ι hh.sums.d)/\w'.cell? ⟨bh,oh+j*7+5,none⟩=some (ς ir hh.ready.length jr)/\w'.cell? ⟨bh,oh+j*7+6,none⟩=some (ς N_ hh.done.length jd)) 15 κ ?_;obtain⟨wd,hWd⟩:∃x:World,x=w6.drew:=⟨_,rfl⟩;rw [<-hWd];have GD:Grow w6 wd:=by rw [hWd];exact(Grow.refl _).drew
   have zD:w6.heap.size=wd.heap.size:=by rw [hWd];rfl
   have ZD:=η zD;clear hWd zD;refine ni [0,1,2,3,4,5,6,7,8] 20 κ (fun _ _ _ _ _ h=>h) (HS.o _ GD) ?_;repeat (refine gQ ?_;try simp only [aK])
   refine ny ?_;refine bP 9 13 κ rfl rfl ?_ ?_
   ·intro K HK
    try simp only [aV]
    go_simp;go_at_call 53
    refine(Nv (c:=dm c w w6) (h:=hh) (m:=m) (me:=(j:Int)) _ ((mZ HC.o G6.o).trans (Grow.sub GD)) (YI.o.mono (Cb HC.o)) WF.o uq.o (R_ V0.o) (τ NZ.o) (iW δ δ) EB.o).mono ?_;rintro e7 w7 ⟨v7,y7,rfl,hx7,F7,hb7⟩;have Yu:=η (Grow.trans GD hb7);have GB7:=η hb7;obtain⟨SU,SW,ar7,cr7,ad7,cd7,rfl⟩:=hx7.dF;obtain⟨ay7,cy7,rfl,-⟩:=id F7;have M_:=η hx7;have CN:=η F7;clear hx7 F7 hb7;generalize bg hh m=gh at*;generalize bG hh (j:Int) m=gm at*;refine HK.o _ _ ⟨fun _=>HS.o _ Yu.o,?_⟩;clear HK K;try simp only [aK]
    refine ni [10,11,12] 20 κ (fun _ _ _ _ _ h=>h) (HS.o _ Yu.o) ?_;repeat (refine gQ ?_;try simp only [aK])
    refine ny ?_;refine bO 13 κ rfl ?_;intro K HK;try simp only [aV]
    go_simp;obtain⟨wg,hwg⟩:∃y:World,y=w7.alloc (.cells #[(),ι 0,ι 0,ι 0,ι 0,(),()] 50):=⟨_,rfl⟩;obtain⟨BG,hBG⟩:∃y,y=w7.heap.size:=⟨_,rfl⟩;have GG:Hid (Grow w7 wg):=η (by rw [hwg];exact(Grow.refl _).alloc _);have m8:Hid (Grow w6 wg):=η (Grow.trans Yu.o GG.o);have RG:Hid (wg.heap[BG]? =some (.cells #[(),ι 0,ι 0,ι 0,ι 0,(),()] 50 (0,0))):=η (by rw [hwg,hBG];exact aF _ _);have GF:Hid (BG=w7.heap.size):=η hBG;have vY:Hid (w6.heap.size<=w7.heap.size):=η (Yu.o).size;rw [<-hwg,<-hBG];clear hwg hBG;have XN:=η RG.o;refine HK.o _ _ ⟨fun _=>HS.o _ m8.o,?_⟩;clear HK K;try simp only [aK]
    refine bO 14 κ rfl ?_;intro K HK;refine aC rfl ?_;try simp only [aV]
    refine wp_store_row (.tmp 14) (.tmp 155) rfl rfl rfl XN.o dL rfl rfl ?_;intro w8 r8 g8;have CR:=η r8;have NM:Hid (Grow w6 w8):=η (Grow.grown m8.o g8 (fun q hq=>by have:=Option.some.inj hq;have:=GF.o;have:=vY.o;omega));have Zf:Hid (Sub (ov (dm c w w6) wd w7) (dm c w w8)):=η (nH NM.o (fun a9 v9 hl9 e9=>aP (GG.o.sub _ _ e9) g8 (by have:=World.block_lt_of_cell? w7 a9 e9;have:=GF.o;omega)) (by have:=m5.o;have:=(GD).size;omega));have pT:=η (M_.o.mono Zf.o);have pZ:=η (CN.o.mono Zf.o);clear r8 g8;refine HK.o _ _ ⟨fun _=>(HS.o _ NM.o),?_⟩;clear HK K;try simp only [aK]
    refine bO 15 κ rfl ?_;intro K HK;try simp only [aV]
    go_simp;refine HK.o _ _ ⟨fun h=>absurd rfl h,?_⟩;clear HK K;try simp only [aK]
    refine aO κ ?_;have G8:=η (G6.o.trans NM.o);have F6:=η (aj XZ.o NM.o);have p7:=η (aj BW.o NM.o);have XP:=η (aj Ux.o NM.o);have Xu:=η (xZ.o.mono (jS NM.o));have m9:Hid (Of Ty.wd (dm c w w8) (.agg #[ς al x.head.log.length cl,ι x.head.aG,ι x.head.next,ς ao x.head.opn.length co,ς (some ⟨bh,oh,none⟩) x.aA.length ch,ς a9 n9 c9]) { x with net:=x.net.eraseIdx i }):=η (Of.ku (uw.o.mono (Cb HC.o)) (uD.o.mono (Cb HC.o)) Xu.o);clear HS xZ;obtain⟨c0,c1,c2,c3,c4,c5⟩:=aJ F6.o;obtain⟨m0,m1,m2,m3⟩:=cells4 XP.o;obtain⟨g0,g1,g2,g3,g4,g5,g6⟩:=aT CR.o;have z2:w.heap.size<w8:=(γ F6.o);have zM:BM<w8.heap.size:=(γ XP.o);have zG:BG<w8.heap.size:=(γ CR.o);go_wp2_with fail
    refine(MJ (c:=dm c w w8) (x:={ x with net:=x.net.eraseIdx i }) (h:=gh) (k:=j) _ (mZ HC.o G8.o) m9.o pT.o hjn hj3).mono ?_;rintro e9 w9x ⟨v9,rfl,nA,gI⟩;have p8:Hid (w.heap.size+3<=w8.heap.size):=η (by have:=m5.o;have:=NM.o.size;omega);have MH:=η (nA.mono (nH gI (fun _ _ _ e=>e) p8.o));have XS:=η (pZ.o.mono (jS gI));have C_:=η (aj F6.o gI);have X5:=η (aj p7.o gI);have G9:=η (G8.o.trans gI);obtain⟨CT,C0,C2,C3,C5,C6,an9,cn9,rfl⟩:=nA.fE;clear nA gI c0 c1 c2 c3 c4 c5 m0 m1 m2 m3 g0 g1 g2 g3 g4 g5 g6 z2 zM zG;have cN:Hid ((x.aA.set j gh).length=x.aA.length):=η List.length_set;have pB:Hid (((x.net.eraseIdx i).map aS).length*24+1000<=140737488355328):=η (by rw [List.length_map];have:=QW.o;omega);dsimp only at MH ⊢;generalize (x.aA.set j gh).length=nh at*;generalize (x.net.eraseIdx i).length=nn at*;go_wp2_with (first|(refine wpList_store_row rfl (.tmp 2) (.tmp 161) rfl rfl rfl C_.o bV rfl rfl ?_))
    intro w10 r10 g10;have EN:=η r10;have nB:=η (aH X5.o g10 (by intro e;have:=Option.some.inj e;omega));have jc:=η (G9.o.grown g10 (fun q hq=>by have:=Option.some.inj hq;omega));have X6:=η (MH.o.mono (jo g10 δ));have nE:=η (XS.o.mono (jo g10 δ));have X7:Hid (w.heap.size+3<=w10.heap.size):=η (by have:=g10.size;have:=(γ X5.o);omega);clear r10 g10;obtain⟨c0,c1,c2,c3,c4,c5⟩:=aJ EN.o;have z2:w.heap.size<w10:=(γ EN.o);have XX:=η X6.o.eu.2.2;go_wp2_with fail
    refine(jJ (c:=dm c w w10) (l:=(x.net.eraseIdx i).map aS) (ms:=gm) _ (mZ HC.o jc.o) XX.o (nE.o.mono (mZ HC.o jc.o)) Ko.o pB.o).mono ?_;rintro e11 ru ⟨v11,rfl,JY,tH⟩;rw [dZ] at JY;obtain⟨a11,c11,rfl,-⟩:=id JY;have EX:=η (JY.mono (nH tH (fun _ _ _ e=>e) X7.o));have Qo:=η (X6.o.mono (jS tH));have Qp:=η (aj EN.o tH);have Qq:=η (aj nB.o tH);have b8:=η (jc.o.trans tH);clear JY tH c0 c1 c2 c3 c4 c5 z2;generalize ((bW (x.net.eraseIdx i) gm).map aS).length=ns at*;go_wp2_with (first|(refine aN rfl (.tmp 166) (.tmp 165) (v:=ς a11 ns c11) (new:=#[ς CT x.head.log.length C0,ι x.head.aG,ι x.head.next,ς C2 x.head.opn.length C3,ς C5 nh C6,ς a11 ns c11]) rfl rfl ρ ρ Qp.o gK σ ρ ρ ?_))
    intro w12 r12 g12;have Fv:=η r12;have Qr:=η (aH Qq.o g12 (by intro e;have:=Option.some.inj e;omega));have wG:=η (b8.o.grown g12 (fun q hq=>by have:=Option.some.inj hq;omega));have Qs:=η (Qo.o.mono (jo g12 δ));have yT:=η (EX.o.mono (jo g12 δ));clear r12 g12;obtain⟨c0,c1,c2,c3,c4,c5⟩:=aJ Fv.o;have z2:w.heap.size<w12:=(γ Fv.o);go_upto_region 29 with fail
    go_wp2_with (first|(refine wpList_store_row rfl (.tmp 4) (.tmp 167) rfl rfl rfl Qr.o bV rfl rfl ?_))
    intro w7 r7 g7;obtain⟨p0,p1,p2,p3,p4,p5⟩:=aJ r7;clear c0 c1 c2 c3 c4 c5;go_wp2;refine bodyPost_ret (v:=.tuple #[.agg #[ς CT x.head.log.length C0,ι x.head.aG,ι x.head.next,ς C2 x.head.opn.length C3,ς C5 nh C6,ς a11 ns c11],ι 0]) (by simp [results,Tryz.results16,go_sem,p0,p1,p2,p3,p4,p5]) rfl ?_;have G7:=wG.o.grown g7 (fun q hq=>by simp at hq;omega);rw [Iq.o,HE2.o];have hsub:Sub (dm c w w12) (ov c w w7):=(jo g7 δ).trans (JX _ _ _);obtain⟨q1,q2,-⟩:=Qs.o.eu;exact⟨_,rfl,Of.ku (q1.mono hsub) (q2.mono hsub) (yT.o.mono hsub),G7⟩
   ·intro K HK
    try simp only [aV]
    go_simp;obtain⟨wg,hwg⟩:∃y:World,y=wd.alloc (.cells #[(),ι 0,ι 0,ι 0,ι 0,(),()] 50):=⟨_,rfl⟩;obtain⟨BG,hBG⟩:∃y,y=wd.heap.size:=⟨_,rfl⟩;have GG:Hid (Grow wd wg):=η (by rw [hwg];exact(Grow.refl _).alloc _);have m8:Hid (Grow w6 wg):=η (Grow.trans GD GG.o);have RG:Hid (wg.heap[BG]? =some (.cells #[(),ι 0,ι 0,ι 0,ι 0,(),()] 50 (0,0))):=η (by rw [hwg,hBG];exact aF _ _);have GF:Hid (BG=wd.heap.size):=η hBG;have vY:Hid (w6.heap.size<=wd.heap.size):=η (GD).size;rw [<-hwg,<-hBG];clear hwg hBG;refine HK.o _ _ ⟨fun _=>HS.o _ m8.o,?_⟩;clear HK K;try simp only [aK]
    refine bO 9 κ rfl ?_;intro K HK;try simp only [aV]
    go_simp;go_at_call 53
    refine(Nv (c:=dm c w w6) (h:=hh) (m:=m) (me:=(j:Int)) _ ((mZ HC.o G6.o).trans (Grow.sub m8.o)) (YI.o.mono (Cb HC.o)) WF.o uq.o (R_ V0.o) (τ NZ.o) (iW δ δ) EB.o).mono ?_;rintro e7 w7 ⟨v7,y7,rfl,hx7,F7,hb7⟩;have Yu:=η (Grow.trans m8.o hb7);have GB7:=η hb7;obtain⟨SU,SW,ar7,cr7,ad7,cd7,rfl⟩:=hx7.dF;obtain⟨ay7,cy7,rfl,-⟩:=id F7;have M_:=η hx7;have CN:=η F7;clear hx7 F7 hb7;generalize bg hh m=gh at*;generalize bG hh (j:Int) m=gm at*;have XN:=η (aj RG.o GB7.o);refine HK.o _ _ ⟨fun _=>HS.o _ Yu.o,?_⟩;clear HK K;try simp only [aK]
    refine ni [10,11,12] 20 κ (fun _ _ _ _ _ h=>h) (HS.o _ Yu.o) ?_;repeat (refine gQ ?_;try simp only [aK])
    refine ny ?_;refine bO 14 κ rfl ?_;intro K HK;refine aC rfl ?_;try simp only [aV]
    refine wp_store_row (.tmp 14) (.tmp 155) rfl rfl rfl XN.o dL rfl rfl ?_;intro w8 r8 g8;have CR:=η r8;have NM:Hid (Grow w6 w8):=η (Grow.grown Yu.o g8 (fun q hq=>by have:=Option.some.inj hq;have:=GF.o;have:=vY.o;omega));have Zf:Hid (Sub (ov (dm c w w6) wg w7) (dm c w w8)):=η (nH NM.o (fun a9 v9 hl9 e9=>aP e9 g8 (τ (γ RG.o))) (by have:=m5.o;have:=(m8.o).size;omega));have pT:=η (M_.o.mono Zf.o);have pZ:=η (CN.o.mono Zf.o);clear r8 g8;refine HK.o _ _ ⟨fun _=>(HS.o _ NM.o),?_⟩;clear HK K;try simp only [aK]
    refine bO 15 κ rfl ?_;intro K HK;try simp only [aV]
    go_simp;refine HK.o _ _ ⟨fun h=>absurd rfl h,?_⟩;clear HK K;try simp only [aK]
    refine aO κ ?_;have G8:=η (G6.o.trans NM.o);have F6:=η (aj XZ.o NM.o);have p7:=η (aj BW.o NM.o);have XP:=η (aj Ux.o NM.o);have Xu:=η (xZ.o.mono (jS NM.o));have m9:Hid (Of Ty.wd (dm c w w8) (.agg #[ς al x.head.log.length cl,ι x.head.aG,ι x.head.next,ς ao x.head.opn.length co,ς (some ⟨bh,oh,none⟩) x.aA.length ch,ς a9 n9 c9]) { x with net:=x.net.eraseIdx i }):=η (Of.ku (uw.o.mono (Cb HC.o)) (uD.o.mono (Cb HC.o)) Xu.o);clear HS xZ;obtain⟨c0,c1,c2,c3,c4,c5⟩:=aJ F6.o;obtain⟨m0,m1,m2,m3⟩:=cells4 XP.o;obtain⟨g0,g1,g2,g3,g4,g5,g6⟩:=aT CR.o;have z2:w.heap.size<w8:=(γ F6.o);have zM:BM<w8.heap.size:=(γ XP.o);have zG:BG<w8.heap.size:=(γ CR.o);go_wp2_with fail
    refine(MJ (c:=dm c w w8) (x:={ x with net:=x.net.eraseIdx i }) (h:=gh) (k:=j) _ (mZ HC.o G8.o) m9.o pT.o hjn hj3).mono ?_;rintro e9 w9x ⟨v9,rfl,nA,gI⟩;have p8:Hid (w.heap.size+3<=w8.heap.size):=η (by have:=m5.o;have:=NM.o.size;omega);have MH:=η (nA.mono (nH gI (fun _ _ _ e=>e) p8.o));have XS:=η (pZ.o.mono (jS gI));have C_:=η (aj F6.o gI);have X5:=η (aj p7.o gI);have G9:=η (G8.o.trans gI);obtain⟨CT,C0,C2,C3,C5,C6,an9,cn9,rfl⟩:=nA.fE;clear nA gI c0 c1 c2 c3 c4 c5 m0 m1 m2 m3 g0 g1 g2 g3 g4 g5 g6 z2 zM zG;have cN:Hid ((x.aA.set j gh).length=x.aA.length):=η List.length_set;have pB:Hid (((x.net.eraseIdx i).map aS).length*24+1000<=140737488355328):=η (by rw [List.length_map];have:=QW.o;omega);dsimp only at MH ⊢;generalize (x.aA.set j gh).length=nh at*;generalize (x.net.eraseIdx i).length=nn at*;go_wp2_with (first|(refine wpList_store_row rfl (.tmp 2) (.tmp 161) rfl rfl rfl C_.o bV rfl rfl ?_))
    intro w10 r10 g10;have EN:=η r10;have nB:=η (aH X5.o g10 (by intro e;have:=Option.some.inj e;omega));have jc:=η (G9.o.grown g10 (fun q hq=>by have:=Option.some.inj hq;omega));have X6:=η (MH.o.mono (jo g10 δ));have nE:=η (XS.o.mono (jo g10 δ));have X7:Hid (w.heap.size+3<=w10.heap.size):=η (by have:=g10.size;have:=(γ X5.o);omega);clear r10 g10;obtain⟨c0,c1,c2,c3,c4,c5⟩:=aJ EN.o;have z2:w.heap.size<w10:=(γ EN.o);have XX:=η X6.o.eu.2.2;go_wp2_with fail
    refine(jJ (c:=dm c w w10) (l:=(x.net.eraseIdx i).map aS) (ms:=gm) _ (mZ HC.o jc.o) XX.o (nE.o.mono (mZ HC.o jc.o)) Ko.o pB.o).mono ?_;rintro e11 ru ⟨v11,rfl,JY,tH⟩;rw [dZ] at JY;obtain⟨a11,c11,rfl,-⟩:=id JY;have EX:=η (JY.mono (nH tH (fun _ _ _ e=>e) X7.o));have Qo:=η (X6.o.mono (jS tH));have Qp:=η (aj EN.o tH);have Qq:=η (aj nB.o tH);have b8:=η (jc.o.trans tH);clear JY tH c0 c1 c2 c3 c4 c5 z2;generalize ((bW (x.net.eraseIdx i) gm).map aS).length=ns at*;go_wp2_with (first|(refine aN rfl (.tmp 166) (.tmp 165) (v:=ς a11 ns c11) (new:=#[ς CT x.head.log.length C0,ι x.head.aG,ι x.head.next,ς C2 x.head.opn.length C3,ς C5 nh C6,ς a11 ns c11]) rfl rfl ρ ρ Qp.o gK σ ρ ρ ?_))
    intro w12 r12 g12;have Fv:=η r12;have Qr:=η (aH Qq.o g12 (by intro e;have:=Option.some.inj e;omega));have wG:=η (b8.o.grown g12 (fun q hq=>by have:=Option.some.inj hq;omega));have Qs:=η (Qo.o.mono (jo g12 δ));have yT:=η (EX.o.mono (jo g12 δ));clear r12 g12;obtain⟨c0,c1,c2,c3,c4,c5⟩:=aJ Fv.o;have z2:w.heap.size<w12:=(γ Fv.o);go_upto_region 29 with fail
    go_wp2_with (first|(refine wpList_store_row rfl (.tmp 4) (.tmp 167) rfl rfl rfl Qr.o bV rfl rfl ?_))
    intro w7 r7 g7;obtain⟨p0,p1,p2,p3,p4,p5⟩:=aJ r7;clear c0 c1 c2 c3 c4 c5;go_wp2;refine bodyPost_ret (v:=.tuple #[.agg #[ς CT x.head.log.length C0,ι x.head.aG,ι x.head.next,ς C2 x.head.opn.length C3,ς C5 nh C6,ς a11 ns c11],ι 0]) (by simp [results,Tryz.results16,go_sem,p0,p1,p2,p3,p4,p5]) rfl ?_;have G7:=wG.o.grown g7 (fun q hq=>by simp at hq;omega);rw [Iq.o,HE2.o];have hsub:Sub (dm c w w12) (ov c w w7):=(jo g7 δ).trans (JX _ _ _);obtain⟨q1,q2,-⟩:=Qs.o.eu;exact⟨_,rfl,Of.ku (q1.mono hsub) (q2.mono hsub) (yT.o.mono hsub),G7⟩
 |false=>
  have WP:=η (UC (w:={ x with net:=x.net.eraseIdx i }) lL.o pS.o.symm);rw [WP.o] at Iq;as_aux_lemma=>
   have C7:Hid (∀q∈fG x.head m,aQ q=0):=η (WI.says (mY.o.core.Wx Ik.o).2.2);obtain⟨c0,c1,c2,c3,c4,c5⟩:=aJ XZ.o;obtain⟨m0,m1,m2,m3⟩:=cells4 Ux.o;have z2:w.heap.size<w6:=(γ XZ.o);have zM:BM<w6.heap.size:=(γ Ux.o);go_wp2_with fail
   refine(JR (c:=dm c w w6) (h:=x.head) (m:=m) _ (mZ HC.o G6.o) (uw.o.mono (Cb HC.o)) WF.o FC.o).mono ?_;rintro e7 w7 ⟨v7,y7,rfl,hx7,F7,hb7⟩;have M_:=η (hx7.mono (nH hb7 (fun _ _ _ e=>e) m5.o));have CN:=η (F7.mono (nH hb7 (fun _ _ _ e=>e) m5.o));have Yu:=η hb7;obtain⟨Si,Sj,Sr,Sv,rfl⟩:=hx7.dS;obtain⟨ay8,cy8,rfl,-⟩:=id F7;have FE:=η (aj XZ.o hb7);have R47:=η (aj BW.o hb7);have HN7:=η (xZ.o.mono (jS hb7));have G7x:=η (G6.o.trans hb7);clear hx7 F7 hb7 c0 c1 c2 c3 c4 c5 m0 m1 m2 m3 z2 zM xZ;generalize f_ x.head m=qh at*;generalize fG x.head m=qm at*;go_upto_region 31 with fail
   obtain⟨w8,hw8⟩:∃y:World,y=w7.alloc (.cells #[ς Si qh.log.length Sj,ι qh.aG,ι qh.next,ς Sr qh.opn.length Sv] 29):=⟨_,rfl⟩;obtain⟨BH,Aw⟩:∃y,y=w7.heap.size:=⟨_,rfl⟩;have nF:Hid (Grow w7 w8):=η (by rw [hw8];exact(Grow.refl _).alloc _);have RH8:Hid (w8.heap[BH]? =some (.cells #[ς Si qh.log.length Sj,ι qh.aG,ι qh.next,ς Sr qh.opn.length Sv] 29 (0,0))):=η (by rw [hw8,Aw];exact aF _ _);have Nc:Hid (BH≠w.heap.size):=η (τ (γ FE.o));rw [<-hw8,<-Aw];clear hw8 Aw;have F6:=η (aj FE.o nF.o);have p7:=η (aj R47.o nF.o);have G8:=η (G7x.o.trans nF.o);have Xu:=η (HN7.o.mono (jS nF.o));have pT:=η (M_.o.mono (jS nF.o));have pZ:=η (CN.o.mono (jS nF.o));have p8:Hid (w.heap.size+3<=w8.heap.size):=η (by have:=m5.o;have:=Yu.o.size;have:=nF.o.size;omega);have HS:Hid (∀W,Grow w8 W->W.cell? ⟨BH,0,none⟩=some (ς Si qh.log.length Sj)/\W.cell? ⟨BH,1,none⟩=some (ι qh.aG)/\W.cell? ⟨BH,2,none⟩=some (ι qh.next)/\W.cell? ⟨BH,3,none⟩=some (ς Sr qh.opn.length Sv)/\W.cell? ⟨w.heap.size,5,none⟩=some (ς a9 n9 c9)):=fun W hW=>by
    obtain⟨k0,k1,k2,k3⟩:=cells4 (aj RH8.o hW);obtain⟨-,-,-,-,-,j5⟩:=aJ (aj F6.o hW);exact⟨k0,k1,k2,k3,j5⟩
   refine bf (fun w'=>w'.cell? ⟨BH,0,none⟩=some (ς Si qh.log.length Sj)/\w'.cell? ⟨BH,1,none⟩=some (ι qh.aG)/\w'.cell? ⟨BH,2,none⟩=some (ι qh.next)/\w'.cell? ⟨BH,3,none⟩=some (ς Sr qh.opn.length Sv)/\w'.cell? ⟨w.heap.size,5,none⟩=some (ς a9 n9 c9)) 8 κ ?_;obtain⟨wd,hWd⟩:∃x:World,x=w8.drew:=⟨_,rfl⟩;rw [<-hWd];have GD:Grow w8 wd:=by rw [hWd];exact(Grow.refl _).drew
   have zD:w8.heap.size=wd.heap.size:=by rw [hWd];rfl
   have ZD:=η zD;clear hWd zD;refine ni [0,1,2,3] 12 κ (fun _ _ _ _ _ h=>h) (HS.o _ GD) ?_;repeat (refine gQ ?_;try simp only [aK])
   refine ny ?_;refine bP 4 5 κ rfl rfl ?_ ?_
   ·intro K HK
    try simp only [aV]
    go_simp;go_at_call 51
    refine(jJ (c:=dm c w w8) (l:=(x.net.eraseIdx i).map aS) (ms:=qm) _ ((mZ HC.o G8.o).trans (Grow.sub GD)) Xu.o (pZ.o.mono ((mZ HC.o G8.o).trans (Grow.sub GD))) C7.o (by rw [List.length_map];have:=QW.o;omega)).mono ?_;rintro e10 w10 ⟨v10,rfl,JZ,iL⟩;rw [dZ] at JZ;obtain⟨a10,c10,rfl,-⟩:=id JZ;have jc:=η (Grow.trans GD iL);have JG:=η (JZ.mono (nH (w8:=w10) jc.o (fun _ _ _ e=>e) (by have:=p8.o;have:=(GD).size;omega)));clear JZ iL;generalize ((bW (x.net.eraseIdx i) qm).map aS).length=ns at*;refine HK.o _ _ ⟨fun _=>HS.o _ jc.o,?_⟩;clear HK K;try simp only [aK]
    refine bO 5 κ rfl ?_;intro K HK;try simp only [aV]
    go_simp;refine HK.o _ _ ⟨fun _=>HS.o _ jc.o,?_⟩;clear HK K;try simp only [aK]
    refine bO 6 κ rfl ?_;intro K HK;refine aC rfl ?_;try simp only [aV]
    refine fV (.tmp 180) (.tmp 175) (p:=0) (cells:=#[ς Si qh.log.length Sj,ι qh.aG,ι qh.next,ς Sr qh.opn.length Sv]) (new:=#[ς Si qh.log.length Sj,ι qh.aG,ι qh.next,ς Sr qh.opn.length Sv,ς ah x.aA.length ch,ς a9 n9 c9]) rfl rfl ρ (aj F6.o jc.o) bU σ ρ ρ ?_;intro ru r11 g11;have Qp:=η r11;have Gh:=η g11;have Qq:=η (aH (aj p7.o jc.o) g11 (by intro e;have:=Option.some.inj e;omega));have EX:=η (JG.o.mono (jo g11 δ));have Qo:=η ((pT.o.mono (jS jc.o)).mono (jo g11 δ));have b8:=η ((G8.o.trans jc.o).grown g11 (fun q hq=>by have:=Option.some.inj hq;omega));have Au:Hid (ru.cell? ⟨BH,0,none⟩=some (ς Si qh.log.length Sj)/\ru.cell? ⟨BH,1,none⟩=some (ι qh.aG)/\ru.cell? ⟨BH,2,none⟩=some (ι qh.next)/\ru.cell? ⟨BH,3,none⟩=some (ς Sr qh.opn.length Sv)/\ru.cell? ⟨w.heap.size,5,none⟩=some (ς a9 n9 c9)):=η (by obtain⟨k0,k1,k2,k3,-⟩:=HS.o _ jc.o;obtain⟨-,-,-,-,-,j5⟩:=aJ r11;have hne:BH≠w.heap.size:=Nc.o;exact⟨aP k0 g11 hne,aP k1 g11 hne,aP k2 g11 hne,aP k3 g11 hne,j5⟩);clear r11 g11;refine HK.o _ _ ⟨fun _=>Au.o,?_⟩;clear HK K;try simp only [aK]
    refine bO 7 κ rfl ?_;intro K HK;try simp only [aV]
    go_simp;refine HK.o _ _ ⟨fun _=>Au.o,?_⟩;clear HK K;try simp only [aK]
    refine bO 8 κ rfl ?_;intro K HK;refine aC rfl ?_;try simp only [aV]
    refine aU (.tmp 181) (.tmp 179) (v:=ς a10 ns c10) (new:=#[ς Si qh.log.length Sj,ι qh.aG,ι qh.next,ς Sr qh.opn.length Sv,ς ah x.aA.length ch,ς a10 ns c10]) rfl rfl ρ ρ Qp.o gK σ ρ ρ ?_;intro w12 r12 g12;have Fv:=η r12;have Qr:=η (aH Qq.o g12 (by intro e;have:=Option.some.inj e;omega));have yT:=η (EX.o.mono (jo g12 δ));have Qs:=η (Qo.o.mono (jo g12 δ));have wG:=η (b8.o.grown g12 (fun q hq=>by have:=Option.some.inj hq;omega));clear r12 g12;refine HK.o _ _ ⟨fun h=>absurd rfl h,?_⟩;clear HK K;try simp only [aK]
    refine aO κ ?_;obtain⟨c0,c1,c2,c3,c4,c5⟩:=aJ Fv.o;have z2:w.heap.size<w12:=(γ Fv.o);go_wp2_with (first|(refine wpList_store_row rfl (.tmp 4) (.tmp 262) rfl rfl rfl Qr.o bV rfl rfl ?_))
    intro X1 r7 g7;obtain⟨p0,p1,p2,p3,p4,p5⟩:=aJ r7;clear c0 c1 c2 c3 c4 c5;go_wp2;refine bodyPost_ret (v:=.tuple #[.agg #[ς Si qh.log.length Sj,ι qh.aG,ι qh.next,ς Sr qh.opn.length Sv,ς ah x.aA.length ch,ς a10 ns c10],ι 0]) (by simp [results,Tryz.results16,go_sem,p0,p1,p2,p3,p4,p5]) rfl ?_;have G7:=wG.o.grown g7 (fun q hq=>by simp at hq;omega);rw [Iq.o,HE2.o];have hsub:Sub (dm c w w12) (ov c w X1):=(jo g7 δ).trans (JX _ _ _);exact⟨_,rfl,Of.ku (Qs.o.mono hsub) (uD.o.mono (dM HC.o)) (yT.o.mono hsub),G7⟩
   ·intro K HK
    try simp only [aV]
    go_simp;refine HK.o _ _ ⟨fun _=>HS.o _ GD,?_⟩;clear HK K;try simp only [aK]
    refine bO 4 κ rfl ?_;intro K HK;try simp only [aV]
    go_simp;go_at_call 51
    refine(jJ (c:=dm c w w8) (l:=(x.net.eraseIdx i).map aS) (ms:=qm) _ ((mZ HC.o G8.o).trans (Grow.sub GD)) Xu.o (pZ.o.mono ((mZ HC.o G8.o).trans (Grow.sub GD))) C7.o (by rw [List.length_map];have:=QW.o;omega)).mono ?_;rintro e10 w10 ⟨v10,rfl,JZ,iL⟩;rw [dZ] at JZ;obtain⟨a10,c10,rfl,-⟩:=id JZ;have jc:=η (Grow.trans GD iL);have JG:=η (JZ.mono (nH (w8:=w10) jc.o (fun _ _ _ e=>e) (by have:=p8.o;have:=(GD).size;omega)));clear JZ iL;generalize ((bW (x.net.eraseIdx i) qm).map aS).length=ns at*;refine HK.o _ _ ⟨fun _=>HS.o _ jc.o,?_⟩;clear HK K;try simp only [aK]
    refine bO 6 κ rfl ?_;intro K HK;refine aC rfl ?_;try simp only [aV]
    refine fV (.tmp 180) (.tmp 175) (p:=0) (cells:=#[ς Si qh.log.length Sj,ι qh.aG,ι qh.next,ς Sr qh.opn.length Sv]) (new:=#[ς Si qh.log.length Sj,ι qh.aG,ι qh.next,ς Sr qh.opn.length Sv,ς ah x.aA.length ch,ς a9 n9 c9]) rfl rfl ρ (aj F6.o jc.o) bU σ ρ ρ ?_;intro ru r11 g11;have Qp:=η r11;have Gh:=η g11;have Qq:=η (aH (aj p7.o jc.o) g11 (by intro e;have:=Option.some.inj e;omega));have EX:=η (JG.o.mono (jo g11 δ));have Qo:=η ((pT.o.mono (jS jc.o)).mono (jo g11 δ));have b8:=η ((G8.o.trans jc.o).grown g11 (fun q hq=>by have:=Option.some.inj hq;omega));have Au:Hid (ru.cell? ⟨BH,0,none⟩=some (ς Si qh.log.length Sj)/\ru.cell? ⟨BH,1,none⟩=some (ι qh.aG)/\ru.cell? ⟨BH,2,none⟩=some (ι qh.next)/\ru.cell? ⟨BH,3,none⟩=some (ς Sr qh.opn.length Sv)/\ru.cell? ⟨w.heap.size,5,none⟩=some (ς a9 n9 c9)):=η (by obtain⟨k0,k1,k2,k3,-⟩:=HS.o _ jc.o;obtain⟨-,-,-,-,-,j5⟩:=aJ r11;have hne:BH≠w.heap.size:=Nc.o;exact⟨aP k0 g11 hne,aP k1 g11 hne,aP k2 g11 hne,aP k3 g11 hne,j5⟩);clear r11 g11;refine HK.o _ _ ⟨fun _=>Au.o,?_⟩;clear HK K;try simp only [aK]
    refine bO 7 κ rfl ?_;intro K HK;try simp only [aV]
    go_simp;refine HK.o _ _ ⟨fun _=>Au.o,?_⟩;clear HK K;try simp only [aK]
    refine bO 8 κ rfl ?_;intro K HK;refine aC rfl ?_;try simp only [aV]
    refine aU (.tmp 181) (.tmp 179) (v:=ς a10 ns c10) (new:=#[ς Si qh.log.length Sj,ι qh.aG,ι qh.next,ς Sr qh.opn.length Sv,ς ah x.aA.length ch,ς a10 ns c10]) rfl rfl ρ ρ Qp.o gK σ ρ ρ ?_;intro w12 r12 g12;have Fv:=η r12;have Qr:=η (aH Qq.o g12 (by intro e;have:=Option.some.inj e;omega));have yT:=η (EX.o.mono (jo g12 δ));have Qs:=η (Qo.o.mono (jo g12 δ));have wG:=η (b8.o.grown g12 (fun q hq=>by have:=Option.some.inj hq;omega));clear r12 g12;refine HK.o _ _ ⟨fun h=>absurd rfl h,?_⟩;clear HK K;try simp only [aK]
    refine aO κ ?_;obtain⟨c0,c1,c2,c3,c4,c5⟩:=aJ Fv.o;have z2:w.heap.size<w12:=(γ Fv.o);go_wp2_with (first|(refine wpList_store_row rfl (.tmp 4) (.tmp 262) rfl rfl rfl Qr.o bV rfl rfl ?_))
    intro X1 r7 g7;obtain⟨p0,p1,p2,p3,p4,p5⟩:=aJ r7;clear c0 c1 c2 c3 c4 c5;go_wp2;refine bodyPost_ret (v:=.tuple #[.agg #[ς Si qh.log.length Sj,ι qh.aG,ι qh.next,ς Sr qh.opn.length Sv,ς ah x.aA.length ch,ς a10 ns c10],ι 0]) (by simp [results,Tryz.results16,go_sem,p0,p1,p2,p3,p4,p5]) rfl ?_;have G7:=wG.o.grown g7 (fun q hq=>by simp at hq;omega);rw [Iq.o,HE2.o];have hsub:Sub (dm c w w12) (ov c w X1):=(jo g7 δ).trans (JX _ _ _);exact⟨_,rfl,Of.ku (Qs.o.mono hsub) (uD.o.mono (dM HC.o)) (yT.o.mono hsub),G7⟩
end Go.Proofs.YtocnmkefmgmkbaaGreat
