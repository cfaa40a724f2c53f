/- Parts of proofs, joined: U24. No condition beside those that each theorem names. -/
import Derived.Deep.DeepCutAuto
import Derived.Test.YtocnmkefmgmkbaaGreatJW1b
import Derived.Test.YtocnmkefmgmkbaaGreatJW6a
import Derived.Test.YtocnmkefmgmkbaaGreatJW4b
set_option maxRecDepth 100000
set_option maxHeartbeats 40000000
namespace Go.Proofs.YtocnmkefmgmkbaaGreat
open Go.RowKit
theorem JR {c:CM} {v vm:Value} {h:Hd} {m:Ms} (w:World) (hc:Sub c w.cell?) (hv:Of Ty.hd c v h) (hm:Of Ty.ms c vm m) (hk:yR h):
  Calls Tryz.prog 55 #[v,vm] w fun e w'=>∃v1 v2,e=.returned (.tuple #[v1,v2])/\Of Ty.hd (ov c w w') v1 (f_ h m)/\Sl Ty.ms (ov c w w') v2 (fG h m)/\Grow w w':=by
 obtain⟨al,cl,ar,cr,rfl⟩:=hv.dS;have yU:Hid (I64 m.kind/\I64 m.deed/\I64 m.house):=η (by obtain⟨cs,he,vp,rfl,i0,i1,i2,-⟩:=hm;exact⟨i0,i1,i2⟩);obtain⟨ap,cp,rfl⟩:=hm.fQ;have IU:=η (Of.lq hv).1;have nG:Hid (I64 h.aG/\I64 h.next):=η (by obtain⟨cs,he,_,_,rfl,_,h1,h2,_⟩:=hv;exact⟨h1,h2⟩);obtain⟨IK,IL,he,h1,h2,-,hel⟩:=(Of.lq hv).2;obtain⟨rfl,rfl⟩:ar=IK/\cr=IL:=by simpa using he
 unfold maxLen at h2;have Ye:=η hk.parts;have NA:=η hk.heard;have h12:=hk.opn;have Am:=η hk.log;have HC:=η hc;clear hk he hv hm hc;obtain⟨wa,cO⟩:∃y:World,y=w.alloc (.cells #[ς al h.log.length cl,ι h.aG,ι h.next,ς ar h.opn.length cr] 29):=⟨_,rfl⟩;obtain⟨wb,hwb⟩:∃y:World,y=wa.alloc (.cells #[ι m.kind,ι m.deed,ι m.house,ς ap m.parts.length cp] 85):=⟨_,rfl⟩;obtain⟨wq,hwq⟩:∃y:World,y=wb.alloc (.cells #[(),ι 0,ι 0,()] 29):=⟨_,rfl⟩;obtain⟨wz,hwz⟩:∃y:World,y=wq.alloc (.cells #[ς al h.log.length cl,ι h.aG,ι h.next,()] 29):=⟨_,rfl⟩;have hsa:wa.heap.size=w.heap.size+1:=by rw [cO];simp
 have hsb:wb.heap.size=w.heap.size+2:=by rw [hwb];simp [hsa]
 have F_:wq.heap.size=w.heap.size+3:=by rw [hwq];simp [hsb]
 have RQ:Hid (wq.heap[w.heap.size]? =some (.cells #[ς al h.log.length cl,ι h.aG,ι h.next,ς ar h.opn.length cr] 29 (0,0))):=η (by rw [hwq,hwb,cO];exact aB (aB (aF _ _) _) _);have R1:Hid (wz.heap[w.heap.size]? =some (.cells #[ς al h.log.length cl,ι h.aG,ι h.next,ς ar h.opn.length cr] 29 (0,0))):=η (by rw [hwz];exact aB RQ.o _);have R2:Hid (wz.heap[w.heap.size+1]? =some (.cells #[ι m.kind,ι m.deed,ι m.house,ς ap m.parts.length cp] 85 (0,0))):=η (by rw [hwz,hwq,hwb,<-hsa];exact aB (aB (aF _ _) _) _);have R3:Hid (wz.heap[w.heap.size+2]? =some (.cells #[(),ι 0,ι 0,()] 29 (0,0))):=η (by rw [hwz,hwq,<-hsb];exact aB (aF _ _) _);have R4:Hid (wz.heap[w.heap.size+3]? =some (.cells #[ς al h.log.length cl,ι h.aG,ι h.next,()] 29 (0,0))):=η (by rw [hwz,<-F_];exact aF _ _);have G1:Hid (Grow w wz):=η (by rw [hwz,hwq,hwb,cO];exact((((Grow.refl w).alloc _).alloc _).alloc _).alloc _);have HZ:Hid (wz.heap.size=w.heap.size+4):=η (by rw [hwz];simp [F_]);have sE:=η hwz;have HSQ:=η F_;clear hwz F_;go_enter Tryz.func55,Tryz.ntmps55;go_upto_region 1 with fail
 rw [<-cO];try rw [hsa]
 rw [<-hwb];try rw [hsb]
 rw [<-hwq];clear cO hwb hwq hsa hsb;obtain⟨c0,c1,c2,c3⟩:=cells4 RQ.o;have z0:w.heap.size<wq:=(γ RQ.o);go_upto_region 2 with fail
 rw [<-sE.o];try rw [HSQ.o]
 clear sE HSQ c0 c1 c2 c3 z0 RQ;obtain⟨c0,c1,c2,c3⟩:=cells4 R1.o;have z0:w.heap.size<wz:=(γ R1.o);go_wp2;clear c0 c1 c2 c3 z0;go_loopw [7,8,24] (fun s7 s8 i wr=>∃(k:Nat) (vl vo:Value),k<=h.opn.length/\i=ι k/\s8=.bool (hgo m (h.opn.take k)).known/\iJ c w wz wr h (hgo m (h.opn.take k)) vl vo s7) (fun _ _ i _=>h.opn.length - (intOf i).toNat)
 case atStart=>exact⟨0,_,_,δ,rfl,rfl,⟨R4.o,by simpa [hgo] using IU.o.mono (jQ (HC.o.trans G1.o.sub)),aI.nil _ _ _ _ _,Sl.nil _ _,fun _ _=>rfl,G1.o,HZ.o⟩⟩
 case round=>
  obtain⟨k,vl,vo,hk',rfl,h8,hbx⟩:=hrel;by_cases hlt:k<h.opn.length
  ·have qI:=η (WG m hlt)
   have YJ:Hid ((hgo m (h.opn.take k)).known=false->(hgo m (h.opn.take k)).recs=[]/\(hgo m (h.opn.take k)).says=[]):=η (Ib m (h.opn.take k) ⟨[],[],[],false⟩ (fun _=>⟨rfl,rfl⟩));have HSL:Hid ((hgo m (h.opn.take k)).opn.length<=12):=η (by have h9:=Rj m (h.opn.take k) ⟨[],[],[],false⟩;rw [List.length_take] at h9;unfold hgo;simp at h9;omega);obtain⟨b,o,vp,vh,rfl,c0,c1,c2,c3,i0,hP,hH⟩:=Ci.at_ hel k hlt;obtain⟨qw,cp2,rfl,-⟩:=id hP;obtain⟨ah,ch,rfl,-⟩:=id hH;have lI:=η (And.intro i0 (And.intro hP hH));have KH:=η (Ye.o _ (List.getElem_mem hlt));have cN:=η (NA.o _ (List.getElem_mem hlt));replace c0:=hbx.grow.sub _ _ (HC.o _ _ c0);replace c1:=hbx.grow.sub _ _ (HC.o _ _ c1);replace c2:=hbx.grow.sub _ _ (HC.o _ _ c2);replace c3:=hbx.grow.sub _ _ (HC.o _ _ c3);clear hel hP hH i0;generalize h.opn[k]=q at*;generalize hgo m (h.opn.take k)=s at*;obtain⟨so,sr,ss,sk⟩:=s;have h8':_=Value.bool sk:=h8;subst h8';have FZ:=hbx.opn;have Fg:=hbx.says;have nY:=hbx.log;dsimp only at FZ Fg nY;obtain⟨ao,co,rfl⟩:=FZ.form;obtain⟨av,cv,rfl,-⟩:=id Fg;obtain⟨Yq,Yr,rfl,-⟩:=id nY;clear h8 FZ Fg nY;generalize (h.log++sr).length=nl at*;have B9:Hid (sk=false->sr=[]/\ss=[]):=η YJ.o;have CA:Hid (so.length<=12):=η HSL.o;clear YJ HSL;have HSL:=η CA.o;clear CA;obtain⟨wo,hwo⟩:∃y:World,y=wr.alloc (.cells #[ι q.deed,ς qw q.parts.length cp2,.bool q.dec,ς ah q.heard.length ch] 58):=⟨_,rfl⟩;have GO:Hid (Grow wr wo):=η (by rw [hwo];exact(Grow.refl _).alloc _);have oP:=η (hbx.later GO.o);have UW:=η hbx;obtain⟨BO,Ro⟩:∃y,y=wr.heap.size:=⟨_,rfl⟩;have RO:Hid (wo.heap[BO]? =some (.cells #[ι q.deed,ς qw q.parts.length cp2,.bool q.dec,ς ah q.heard.length ch] 58 (0,0))):=η (by rw [hwo,Ro];exact aF _ _);have UL:Hid (BO=wr.heap.size):=η Ro;go_upto_region 7 with fail
   rw [<-hwo,<-Ro];clear hwo Ro c0 c1 c2 c3 hbx;obtain⟨e0,e1,e2,e3⟩:=cells4 RO.o;have zO:BO<wo.heap.size:=(γ RO.o);have tJ:=η ((oP.o.old 0 δ).trans R1.o);have rZ:=η ((oP.o.old 1 δ).trans R2.o);obtain⟨y0,y1,y2,y3⟩:=cells4 tJ.o;obtain⟨d0,d1,d2,d3⟩:=cells4 rZ.o;obtain⟨x0,x1,x2,x3⟩:=cells4 oP.o.row;have zz:=oP.o.size;have zA:w.heap.size<wo:=by omega
   have zB:w.heap.size+1<wo:=by omega
   have zX:w.heap.size+3<wo:=by omega
   by_cases hd:q.deed=m.deed
   ·have hdb:(q.deed !=m.deed)=false:=by simp [hd]
    cases sk with
    |true=>
     have HST:Hid (dQ m ⟨so,sr,ss,true⟩ q=⟨so++ [q],sr,ss,true⟩):=η (MQ (fun h=>by have:=h.2;simp at this));clear hd;go_wp2_with (first|(at_builtin;refine aZ (c:=fc c wz wo [(Value.slice ao so.length co).ownBlock]) (base:=w.heap.size+4) (l:=so) (m:=[q]) h_ rfl fZ ε rfl (.tmp 37) (.tmp 39) rfl rfl ?own rfl (Src.bQ (T:=Ty.opn) (x:=q) (cs:=#[ι q.deed,ς qw q.parts.length cp2,.bool q.dec,ς ah q.heard.length ch]) ?d0 _ _ ?d1) ?d2 ?d3 ?_))
     case own=>exact aI.grow oP.o.opn ((Grow.refl _).alloc _)
     case d0=>exact⟨_,_,rfl,lI.o.1,lI.o.2.1.mono (jQ (HC.o.trans G1.o.sub)),lI.o.2.2.mono (jQ (HC.o.trans G1.o.sub))⟩
     case d1=>first|rfl|simp
     case d2=>have:=HSL.o;simp;omega
     case d3=>have:=oP.o.size;simp;omega
     intro a9 c9 w9 fB eF gI;have R9:=η (aH (aj oP.o.row ((Grow.refl _).alloc (.cells #[ι q.deed,ς qw q.parts.length cp2,.bool q.dec,ς ah q.heard.length ch] 58))) eF (by intro e;have:=(oP.o.opn.lt _ e.symm).1;omega));have iF:=η fB;have jL:=η eF;have sU:=η gI;clear fB eF gI;go_wp2_with (first|(refine aN rfl (.tmp 41) (.tmp 40) (v:=ς a9 (so.length+1) c9) (new:=#[ς Yq nl Yr,ι h.aG,ι h.next,ς a9 (so.length+1) c9]) rfl rfl ρ ρ R9.o eH σ ρ ρ ?_))
     intro w10 r10 g10;have uG:=η (iJ.app oP.o q ((Grow.refl _).alloc (.cells #[ι q.deed,ς qw q.parts.length cp2,.bool q.dec,ς ah q.heard.length ch] 58)) jL.o (sU.o.imp_right fun⟨g,e,hge⟩=>⟨g,e,by simpa using hge⟩) iF.o g10 r10);clear r10 g10;go_wp2;go_roundw
     case rel=>exact⟨k+1,_,_,δ,by go_num,by rw [qI.o,HST.o],by rw [qI.o,HST.o];exact uG.o⟩
     case measure=>simp [intOf];omega
    |false=>
     obtain⟨e1r,e1s⟩:=B9.o rfl;subst e1r;subst e1s;have UK:=η hd;have HAT:=η (hJ (s:=⟨so,[],[],false⟩) hd rfl);clear hd B9;have uy:=η (fun(W:World) (hW:Grow w W)=>xw (v:=ς qw q.parts.length cp2) (l:=q.parts) W (lI.o.2.1.mono (HC.o.trans hW.sub)) (τ KH.o));have sS:=η (fun(n:Int) (W:World) (hW:Grow w W)=>kQ (v:=ς ah q.heard.length ch) (l:=q.heard) (n:=n) W (lI.o.2.2.mono (HC.o.trans hW.sub)));have HHN:=η (iC q.parts);go_upto_region 10 with fail
     clear e0 e1 e2 e3 zO;clear y0 y1 y2 y3 d0 d1 d2 d3 x0 x1 x2 x3 zz zA zB zX tJ rZ;have HS:Hid (∀W,Grow wo W->W.cell? ⟨BO,1,none⟩=some (ς qw q.parts.length cp2)/\W.cell? ⟨BO,3,none⟩=some (ς ah q.heard.length ch)/\W.cell? ⟨w.heap.size+1,2,none⟩=some (ι m.house)):=fun W hW=>by
      obtain⟨-,k1,-,k3⟩:=cells4 (aj RO.o hW);obtain⟨-,-,j2,-⟩:=cells4 (aj ((oP.o.old 1 δ).trans R2.o) hW);exact⟨k1,k3,j2⟩
     obtain⟨tn,htn⟩:∃b:Bool,b=decide (mG q m):=⟨_,rfl⟩;have Yt:=η htn;clear htn;go_cut [11,158,159,160,161,162,163,164,165,166,167,168,169,170,171,172] from 42 (fun s11 AA AB AL AO AP AQ AU AV AX AY AZ A8 A_ Ba Bc wc=>s11=.bool tn/\(AA=undef/\AB=undef/\AL=undef/\AO=undef/\AP=undef/\AQ=undef/\AU=undef/\AV=undef/\AX=undef/\AY=undef/\AZ=undef/\A8=undef/\A_=undef/\Ba=undef/\Bc=undef)/\Grow wo wc)
     case first=>
      by_cases h1:m.house∈aX q.parts
      ·have Ym:=η h1
       clear h1;refine bf (fun w'=>w'.cell? ⟨BO,1,none⟩=some (ς qw q.parts.length cp2)/\w'.cell? ⟨BO,3,none⟩=some (ς ah q.heard.length ch)/\w'.cell? ⟨w.heap.size+1,2,none⟩=some (ι m.house)) 14 κ ?_;obtain⟨wd,hWd⟩:∃x:World,x=wo.drew:=⟨_,rfl⟩;rw [<-hWd];have GD:Grow wo wd:=by rw [hWd];exact(Grow.refl _).drew
       have zD:wo.heap.size=wd.heap.size:=by rw [hWd];rfl
       have ZD:=η zD;clear hWd zD;refine ni [0,1,3,4] 18 κ (fun _ _ _ _ _ h=>h) (HS.o _ GD) ?_;repeat (refine gQ ?_;try simp only [aK])
       refine ny ?_;refine bO 2 κ rfl ?_;intro K HK;try simp only [aV]
       go_simp;go_at_call 99
       refine(uy.o _ (oP.o.grow.trans GD)).mono ?_;rintro e2x w2 ⟨v2,rfl,ho2,hb2⟩;obtain⟨a2,c2,rfl⟩:=aY ho2;have HI2:=η (nD ho2 (jI q.parts));have G2:=η (Grow.trans GD hb2);clear ho2 hb2;refine HK.o _ _ ⟨fun _=>HS.o _ G2.o,?_⟩;clear HK K;try simp only [aK]
       refine bO 5 κ rfl ?_;intro K HK;try simp only [aV]
       go_simp;go_at_call 68
       refine(kQ (n:=m.house) _ HI2.o).mono ?_;rintro e5 w5 ⟨rfl,hb5⟩;rw [decide_eq_true Ym.o];have G5:=η (Grow.trans G2.o hb5);clear hb5;refine HK.o _ _ ⟨fun _=>HS.o _ G5.o,?_⟩;clear HK K;try simp only [aK]
       refine bO 6 κ rfl ?_;intro K HK;try simp only [aV]
       go_simp;refine HK.o _ _ ⟨fun _=>HS.o _ G5.o,?_⟩;clear HK K;try simp only [aK]
       refine ni [7,8,9,10] 18 κ (fun _ _ _ _ _ h=>h) (HS.o _ G5.o) ?_;repeat (refine gQ ?_;try simp only [aK])
       refine ny ?_;refine bO 11 κ rfl ?_;intro K HK;refine DW ρ ?_;try simp only [aV]
       go_simp;go_at_call 68
       refine(sS.o m.house _ (oP.o.grow.trans G5.o)).mono ?_;rintro e6 w6 ⟨rfl,hb6⟩;have G6:=η (Grow.trans G5.o hb6);clear hb6;refine HK.o _ _ ⟨fun _=>HS.o _ G6.o,?_⟩;clear HK K;try simp only [aK]
       refine bO 12 κ rfl ?_;intro K HK;refine DW ρ ?_;try simp only [aV]
       go_simp;refine HK.o _ _ ⟨fun _=>HS.o _ G6.o,?_⟩;clear HK K;try simp only [aK]
       refine bO 13 κ rfl ?_;intro K HK;try simp only [aV]
       go_simp;refine HK.o _ _ ⟨fun _=>HS.o _ G6.o,?_⟩;clear HK K;try simp only [aK]
       refine bO 14 κ rfl ?_;intro K HK;try simp only [aV]
       go_simp;refine HK.o _ _ ⟨fun h=>absurd rfl h,?_⟩;clear HK K;try simp only [aK]
       refine aO κ ?_;go_wp2;go_meet
       case rel=>exact⟨by have h1:=Ym.o;rw [Yt.o];simp [mG,h1],⟨rfl,rfl,rfl,rfl,rfl,rfl,rfl,rfl,rfl,rfl,rfl,rfl,rfl,rfl,rfl⟩,G6.o⟩
      ·have Ym:=η h1
       clear h1;refine bf (fun w'=>w'.cell? ⟨BO,1,none⟩=some (ς qw q.parts.length cp2)/\w'.cell? ⟨BO,3,none⟩=some (ς ah q.heard.length ch)/\w'.cell? ⟨w.heap.size+1,2,none⟩=some (ι m.house)) 14 κ ?_;obtain⟨wd,hWd⟩:∃x:World,x=wo.drew:=⟨_,rfl⟩;rw [<-hWd];have GD:Grow wo wd:=by rw [hWd];exact(Grow.refl _).drew
       have zD:wo.heap.size=wd.heap.size:=by rw [hWd];rfl
       have ZD:=η zD;clear hWd zD;refine ni [0,1,3,4] 18 κ (fun _ _ _ _ _ h=>h) (HS.o _ GD) ?_;repeat (refine gQ ?_;try simp only [aK])
       refine ny ?_;refine bO 2 κ rfl ?_;intro K HK;try simp only [aV]
       go_simp;go_at_call 99
       refine(uy.o _ (oP.o.grow.trans GD)).mono ?_;rintro e2x w2 ⟨v2,rfl,ho2,hb2⟩;obtain⟨a2,c2,rfl⟩:=aY ho2;have HI2:=η (nD ho2 (jI q.parts));have G2:=η (Grow.trans GD hb2);clear ho2 hb2;refine HK.o _ _ ⟨fun _=>HS.o _ G2.o,?_⟩;clear HK K;try simp only [aK]
       refine bO 5 κ rfl ?_;intro K HK;try simp only [aV]
       go_simp;go_at_call 68
       refine(kQ (n:=m.house) _ HI2.o).mono ?_;rintro e5 w5 ⟨rfl,hb5⟩;rw [decide_eq_false Ym.o];have G5:=η (Grow.trans G2.o hb5);clear hb5;refine HK.o _ _ ⟨fun _=>HS.o _ G5.o,?_⟩;clear HK K;try simp only [aK]
       refine bO 6 κ rfl ?_;intro K HK;try simp only [aV]
       go_simp;refine HK.o _ _ ⟨fun _=>HS.o _ G5.o,?_⟩;clear HK K;try simp only [aK]
       refine rF (i:=7) (v:=undef) 18 rfl κ κ κ κ κ (fun _ _ _ h=>h) (HS.o _ G5.o) (Or.inr ⟨ρ,rfl⟩) ?_;try simp only [aK]
       refine rF (i:=8) (v:=undef) 18 rfl κ κ κ κ κ (fun _ _ _ h=>h) (HS.o _ G5.o) (Or.inr ⟨ρ,rfl⟩) ?_;try simp only [aK]
       refine rF (i:=9) (v:=undef) 18 rfl κ κ κ κ κ (fun _ _ _ h=>h) (HS.o _ G5.o) (Or.inr ⟨ρ,rfl⟩) ?_;try simp only [aK]
       refine rF (i:=10) (v:=undef) 18 rfl κ κ κ κ κ (fun _ _ _ h=>h) (HS.o _ G5.o) (Or.inr ⟨ρ,rfl⟩) ?_;try simp only [aK]
       refine rF (i:=11) (v:=undef) 18 rfl κ κ κ κ κ (fun _ _ _ h=>h) (HS.o _ G5.o) (Or.inr ⟨ρ,rfl⟩) ?_;try simp only [aK]
       refine rF (i:=12) (v:=undef) 18 rfl κ κ κ κ κ (fun _ _ _ h=>h) (HS.o _ G5.o) (Or.inr ⟨ρ,rfl⟩) ?_;try simp only [aK]
       refine bO 13 κ rfl ?_;intro K HK;try simp only [aV]
       go_simp;refine HK.o _ _ ⟨fun _=>HS.o _ G5.o,?_⟩;clear HK K;try simp only [aK]
       refine bO 14 κ rfl ?_;intro K HK;try simp only [aV]
       go_simp;refine HK.o _ _ ⟨fun h=>absurd rfl h,?_⟩;clear HK K;try simp only [aK]
       refine aO κ ?_;go_wp2;go_meet
       case rel=>exact⟨by have h1:=Ym.o;rw [Yt.o];simp [mG,h1],⟨rfl,rfl,rfl,rfl,rfl,rfl,rfl,rfl,rfl,rfl,rfl,rfl,rfl,rfl,rfl⟩,G5.o⟩
     case rest=>
     obtain⟨rfl,⟨rfl,rfl,rfl,rfl,rfl,rfl,rfl,rfl,rfl,rfl,rfl,rfl,rfl,rfl,rfl⟩,hgc⟩:=hcut;obtain⟨ru,rfl⟩:∃y:World,y=wc:=⟨_,rfl⟩;have JU:=η hgc;clear hgc;have P7:=η (oP.o.later JU.o);have ZQ:=η (aj RO.o JU.o);clear HS;have zJ:=η (fun(W:World) (hW:Grow ru W)=>Src.iK (T:=Ty.int) ε (HC.o.trans (P7.o.grow.trans hW).sub) lI.o.2.2);have HS:Hid (∀W,Grow ru W->W.cell? ⟨BO,3,none⟩=some (ς ah q.heard.length ch)/\W.cell? ⟨w.heap.size+1,2,none⟩=some (ι m.house)):=fun W hW=>by
      obtain⟨-,-,-,k3⟩:=cells4 (aj ZQ.o hW);obtain⟨-,-,j2,-⟩:=cells4 (aj ((P7.o.old 1 δ).trans R2.o) hW);exact⟨k3,j2⟩
     go_upto_region 11 with fail
     go_cut [12,158,159,160,161,162,163,164,165,166,167,168,169,170,171,172] from 56 (fun s12 AA AB AL AO AP AQ AU AV AX AY AZ A8 A_ Ba Bc wc=>(∃a12 c12,s12=ς a12 (q.heard.length+1) c12/\aI Ty.int c wc ru.heap.size 3 (ς a12 (q.heard.length+1) c12) (q.heard++ [m.house]))/\(AA=undef/\AB=undef/\AL=undef/\AO=undef/\AP=undef/\AQ=undef/\AU=undef/\AV=undef/\AX=undef/\AY=undef/\AZ=undef/\A8=undef/\A_=undef/\Ba=undef/\Bc=undef)/\Grow ru wc)
     case first=>
      refine bf (fun w'=>w'.cell? ⟨BO,3,none⟩=some (ς ah q.heard.length ch)/\w'.cell? ⟨w.heap.size+1,2,none⟩=some (ι m.house)) 8 κ ?_;obtain⟨wd,hWd⟩:∃x:World,x=ru.drew:=⟨_,rfl⟩;rw [<-hWd];have GD:Grow ru wd:=by rw [hWd];exact(Grow.refl _).drew
      have zD:ru.heap.size=wd.heap.size:=by rw [hWd];rfl
      have ZD:=η zD;clear hWd zD;refine ni [1,2,4,5] 12 κ (fun _ _ _ _ _ h=>h) (HS.o _ GD) ?_;repeat (refine gQ ?_;try simp only [aK])
      refine ny ?_;refine bP 0 6 κ rfl rfl ?_ ?_
      ·intro K HK
       try simp only [aV]
       go_simp;refine HK.o _ _ ⟨fun _=>HS.o _ (GD.alloc _),?_⟩;clear HK K;try simp only [aK]
       refine bP 3 6 κ rfl rfl ?_ ?_
       ·intro K HK
        refine aC rfl ?_;try simp only [aV]
        refine dD (l:=[]) (m:=q.heard) (v:=ς (some ⟨wd.heap.size,0,none⟩) 0 0) iM rfl jW ε (.tmp 56) (.tmp 58) rfl rfl ((aI.jw Ty.int c _ ru.heap.size _ (φ ZD.o) σ)) rfl (zJ.o _ (GD.alloc _)) (by have:=cN.o;simp;omega) (GD.alloc _).size ?_;intro a3 c3 q3 ho3 hg3 hb3;try simp only [iO,List.nil_append] at ho3
        try simp only [iO] at hb3
        try simp only [iO]
        have G3:=bn (w0:=ru) (GD.alloc _) hg3 (d_ (φ ZD.o));have B3:=η (dW (B:=ru.heap.size) (GD.alloc _).size hb3 (d_ (φ ZD.o)));have nC:=η ho3;have oq:=η hg3;clear ho3 hg3 hb3;refine HK.o _ _ ⟨fun _=>HS.o _ G3,?_⟩;clear HK K;try simp only [aK]
        refine bO 6 κ rfl ?_;intro K HK;try simp only [aV]
        go_simp;refine HK.o _ _ ⟨fun _=>HS.o _ (G3.alloc _),?_⟩;clear HK K;try simp only [aK]
        refine bO 7 κ rfl ?_;intro K HK;refine aC rfl ?_;try simp only [aV]
        refine dD (l:=q.heard) (m:=[m.house]) (v:=ς a3 (q.heard.length) c3) iM rfl jW ε (.tmp 59) (.tmp 62) rfl rfl ((nC.o).grow ((Grow.refl _).alloc _)) rfl ((Src.bQ (T:=Ty.int) (x:=m.house) (c:=c) (cs:=#[ι m.house]) (show Ty.int.R c _ m.house from⟨rfl,yU.o.2.2⟩) _ _ σ)) (by have:=cN.o;simp;omega) (G3.alloc _).size ?_;intro a7 c7 q7 r_ su hb7;try simp only [iO] at r_
        try simp only [iO] at hb7
        try simp only [iO]
        have G7:=bn (w0:=ru) (G3.alloc _) su B3.o;have B7:=η (dW (B:=ru.heap.size) (G3.alloc _).size hb7 B3.o);have uU:=η r_;have kE:=η su;clear r_ su hb7;refine HK.o _ _ ⟨fun _=>HS.o _ G7,?_⟩;clear HK K;try simp only [aK]
        refine bO 8 κ rfl ?_;intro K HK;try simp only [aV]
        go_simp;refine HK.o _ _ ⟨fun h=>absurd rfl h,?_⟩;clear HK K;try simp only [aK]
        refine aO κ ?_;go_wp2;go_meet
        case rel=>exact⟨⟨_,_,rfl,uU.o⟩,⟨rfl,rfl,rfl,rfl,rfl,rfl,rfl,rfl,rfl,rfl,rfl,rfl,rfl,rfl,rfl⟩,G7⟩
       ·intro K HK
        try simp only [aV]
        go_simp;refine HK.o _ _ ⟨fun _=>HS.o _ ((GD.alloc _).alloc _),?_⟩;clear HK K;try simp only [aK]
        refine bO 3 κ rfl ?_;intro K HK;refine aC rfl ?_;try simp only [aV]
        refine dD (l:=[]) (m:=q.heard) (v:=ς (some ⟨wd.heap.size,0,none⟩) 0 0) iM rfl jW ε (.tmp 56) (.tmp 58) rfl rfl (((aI.jw Ty.int c _ ru.heap.size _ (φ ZD.o) σ)).grow ((Grow.refl _).alloc _)) rfl (zJ.o _ ((GD.alloc _).alloc _)) (by have:=cN.o;simp;omega) ((GD.alloc _).alloc _).size ?_;intro a3 c3 q3 ho3 hg3 hb3;try simp only [iO,List.nil_append] at ho3
        try simp only [iO] at hb3
        try simp only [iO]
        have G3:=bn (w0:=ru) ((GD.alloc _).alloc _) hg3 (d_ (φ ZD.o));have B3:=η (dW (B:=ru.heap.size) ((GD.alloc _).alloc _).size hb3 (d_ (φ ZD.o)));have nC:=η ho3;have oq:=η hg3;clear ho3 hg3 hb3;refine HK.o _ _ ⟨fun _=>HS.o _ G3,?_⟩;clear HK K;try simp only [aK]
        refine bO 7 κ rfl ?_;intro K HK;refine aC rfl ?_;try simp only [aV]
        refine dD (l:=q.heard) (m:=[m.house]) (v:=ς a3 (q.heard.length) c3) iM rfl jW ε (.tmp 59) (.tmp 62) rfl rfl (nC.o) rfl (((Src.bQ (T:=Ty.int) (x:=m.house) (c:=c) (cs:=#[ι m.house]) (show Ty.int.R c _ m.house from⟨rfl,yU.o.2.2⟩) _ _ σ)).kept oq.o (by simp [Value.ownBlock])) (by have:=cN.o;simp;omega) G3.size ?_;intro a7 c7 q7 r_ su hb7;try simp only [iO] at r_
        try simp only [iO] at hb7
        try simp only [iO]
        have G7:=bn (w0:=ru) G3 su B3.o;have B7:=η (dW (B:=ru.heap.size) G3.size hb7 B3.o);have uU:=η r_;have kE:=η su;clear r_ su hb7;refine HK.o _ _ ⟨fun _=>HS.o _ G7,?_⟩;clear HK K;try simp only [aK]
        refine bO 8 κ rfl ?_;intro K HK;try simp only [aV]
        go_simp;refine HK.o _ _ ⟨fun h=>absurd rfl h,?_⟩;clear HK K;try simp only [aK]
        refine aO κ ?_;go_wp2;go_meet
        case rel=>exact⟨⟨_,_,rfl,uU.o⟩,⟨rfl,rfl,rfl,rfl,rfl,rfl,rfl,rfl,rfl,rfl,rfl,rfl,rfl,rfl,rfl⟩,G7⟩
      ·intro K HK
       try simp only [aV]
       go_simp;refine HK.o _ _ ⟨fun _=>HS.o _ (GD.alloc _),?_⟩;clear HK K;try simp only [aK]
       refine bO 0 κ rfl ?_;intro K HK;try simp only [aV]
       go_simp;refine HK.o _ _ ⟨fun _=>HS.o _ ((GD.alloc _).alloc _),?_⟩;clear HK K;try simp only [aK]
       refine bO 3 κ rfl ?_;intro K HK;refine aC rfl ?_;try simp only [aV]
       refine dD (l:=[]) (m:=q.heard) (v:=ς (some ⟨wd.heap.size+1,0,none⟩) 0 0) iM rfl jW ε (.tmp 56) (.tmp 58) rfl rfl ((aI.jw Ty.int c _ ru.heap.size _ (φ ZD.o) σ)) rfl (zJ.o _ ((GD.alloc _).alloc _)) (by have:=cN.o;simp;omega) ((GD.alloc _).alloc _).size ?_;intro a3 c3 q3 ho3 hg3 hb3;try simp only [iO,List.nil_append] at ho3
       try simp only [iO] at hb3
       try simp only [iO]
       have G3:=bn (w0:=ru) ((GD.alloc _).alloc _) hg3 (d_ (φ ZD.o));have B3:=η (dW (B:=ru.heap.size) ((GD.alloc _).alloc _).size hb3 (d_ (φ ZD.o)));have nC:=η ho3;have oq:=η hg3;clear ho3 hg3 hb3;refine HK.o _ _ ⟨fun _=>HS.o _ G3,?_⟩;clear HK K;try simp only [aK]
       refine bO 7 κ rfl ?_;intro K HK;refine aC rfl ?_;try simp only [aV]
       refine dD (l:=q.heard) (m:=[m.house]) (v:=ς a3 (q.heard.length) c3) iM rfl jW ε (.tmp 59) (.tmp 62) rfl rfl (nC.o) rfl ((((Src.bQ (T:=Ty.int) (x:=m.house) (c:=c) (cs:=#[ι m.house]) (show Ty.int.R c _ m.house from⟨rfl,yU.o.2.2⟩) _ _ σ)).grow ((Grow.refl _).alloc _)).kept oq.o (by simp [Value.ownBlock])) (by have:=cN.o;simp;omega) G3.size ?_;intro a7 c7 q7 r_ su hb7;try simp only [iO] at r_
       try simp only [iO] at hb7
       try simp only [iO]
       have G7:=bn (w0:=ru) G3 su B3.o;have B7:=η (dW (B:=ru.heap.size) G3.size hb7 B3.o);have uU:=η r_;have kE:=η su;clear r_ su hb7;refine HK.o _ _ ⟨fun _=>HS.o _ G7,?_⟩;clear HK K;try simp only [aK]
       refine bO 8 κ rfl ?_;intro K HK;try simp only [aV]
       go_simp;refine HK.o _ _ ⟨fun h=>absurd rfl h,?_⟩;clear HK K;try simp only [aK]
       refine aO κ ?_;go_wp2;go_meet
       case rel=>exact⟨⟨_,_,rfl,uU.o⟩,⟨rfl,rfl,rfl,rfl,rfl,rfl,rfl,rfl,rfl,rfl,rfl,rfl,rfl,rfl,rfl⟩,G7⟩
     case rest=>
     obtain⟨⟨a12,c12,rfl,CC⟩,⟨rfl,rfl,rfl,rfl,rfl,rfl,rfl,rfl,rfl,rfl,rfl,rfl,rfl,rfl,rfl⟩,hgc⟩:=hcut;obtain⟨w12,rfl⟩:∃y:World,y=wc:=⟨_,rfl⟩;have JV:=η hgc;clear hgc;have US:=η CC;clear CC HS;have CD:=η (P7.o.later JV.o);have mT:=η (aj ZQ.o JV.o);obtain⟨ta,hta⟩:∃b:Bool,b=rY q:=⟨_,rfl⟩;have cP:=η hta;clear hta;go_upto_region 12 with fail
     obtain⟨e0,e1,e2,e3⟩:=cells4 mT.o;have zO:BO<w12.heap.size:=(γ mT.o);go_cut [13,158,159,160,161,162,163,164,165,166,167,168,169,170,171,172] from 64 (fun s13 AA AB AL AO AP AQ AU AV AX AY AZ A8 A_ Ba Bc wc=>s13=.bool ta/\(AA=undef/\AB=undef/\AL=undef/\AO=undef/\AP=undef/\AQ=undef/\AU=undef/\AV=undef/\AX=undef/\AY=undef/\AZ=undef/\A8=undef/\A_=undef/\Ba=undef/\Bc=undef)/\Grow w12 wc)
     case first=>
      go_wp2_with fail
      refine(uy.o _ CD.o.grow).mono ?_;rintro e2x w2 ⟨v2,rfl,ho2,hb2⟩;obtain⟨a2,c2,rfl⟩:=aY ho2;clear ho2;go_wp2;go_meet
      case rel=>exact⟨by rw [cP.o];unfold rY;congr 1;first|rfl|(rw [Bool.eq_iff_iff];simp;omega),⟨rfl,rfl,rfl,rfl,rfl,rfl,rfl,rfl,rfl,rfl,rfl,rfl,rfl,rfl,rfl⟩,hb2⟩
     case rest=>
     obtain⟨rfl,⟨rfl,rfl,rfl,rfl,rfl,rfl,rfl,rfl,rfl,rfl,rfl,rfl,rfl,rfl,rfl⟩,hgc⟩:=hcut;obtain⟨sD,rfl⟩:∃y:World,y=wc:=⟨_,rfl⟩;have Fh:=η hgc;clear hgc;have lC:=η (CD.o.later Fh.o);have tK:=η (aj mT.o Fh.o);have ZR:=η (US.o.grow Fh.o);try clear e0 e1 e2 e3 zO
     obtain⟨t71,CE⟩:∃b:Bool,b=decide (m.kind=2/\q.dec=false/\mG q m):=⟨_,rfl⟩;have X0:=η CE;clear CE;go_upto_region 13 with fail
     obtain⟨e0,e1,e2,e3⟩:=cells4 tK.o;have zO:BO<sD.heap.size:=(γ tK.o);have tJ:=η ((lC.o.old 0 δ).trans R1.o);have rZ:=η ((lC.o.old 1 δ).trans R2.o);obtain⟨y0,y1,y2,y3⟩:=cells4 tJ.o;obtain⟨d0,d1,d2,d3⟩:=cells4 rZ.o;obtain⟨x0,x1,x2,x3⟩:=cells4 lC.o.row;have zz:=lC.o.size;have zA:w.heap.size<sD:=by omega
     have zB:w.heap.size+1<sD:=by omega
     have zX:w.heap.size+3<sD:=by omega
     go_cut [71,158,159,160,161,162,163,164,165,166,167,168,169,170,171,172] from 72 (fun s71 AA AB AL AO AP AQ AU AV AX AY AZ A8 A_ Ba Bc wc=>s71=.bool t71/\(AA=undef/\AB=undef/\AL=undef/\AO=undef/\AP=undef/\AQ=undef/\AU=undef/\AV=undef/\AX=undef/\AY=undef/\AZ=undef/\A8=undef/\A_=undef/\Ba=undef/\Bc=undef)/\sD=wc)
     case first=>
      by_cases hk:m.kind=2
      ·have hkb:(m.kind==2)=true:=by simp [hk]
       have HK:=η hk;clear hk;obtain⟨db,Kw⟩:∃b,b=q.dec:=⟨_,rfl⟩;rw [<-Kw] at e2;have X3:=η Kw;clear Kw;cases db with
       |true=>
        go_wp2;go_meet
        case rel=>exact⟨by have h1:=HK.o;have h2:=X3.o.symm;rw [X0.o];(try rw [Yt.o]);simp [h1,h2],⟨rfl,rfl,rfl,rfl,rfl,rfl,rfl,rfl,rfl,rfl,rfl,rfl,rfl,rfl,rfl⟩,rfl⟩
       |false=>
        go_wp2;go_meet
        case rel=>exact⟨by have h1:=HK.o;have h2:=X3.o.symm;rw [X0.o];(try rw [Yt.o]);simp [h1,h2],⟨rfl,rfl,rfl,rfl,rfl,rfl,rfl,rfl,rfl,rfl,rfl,rfl,rfl,rfl,rfl⟩,rfl⟩
      ·have hkb:(m.kind==2)=false:=by simp [hk]
       have HK:=η hk;clear hk;go_wp2;go_meet
       case rel=>exact⟨by have h1:=HK.o;rw [X0.o];simp [h1],⟨rfl,rfl,rfl,rfl,rfl,rfl,rfl,rfl,rfl,rfl,rfl,rfl,rfl,rfl,rfl⟩,rfl⟩
     case rest=>
     obtain⟨rfl,⟨rfl,rfl,rfl,rfl,rfl,rfl,rfl,rfl,rfl,rfl,rfl,rfl,rfl,rfl,rfl⟩,rfl⟩:=hcut;clear e0 e1 e2 e3 zO y0 y1 y2 y3 d0 d1 d2 d3 x0 x1 x2 x3 zz zA zB zX tJ rZ;cases t71 with
     |true=>
      skip
      as_aux_lemma=>
       have HA:=η (of_decide_eq_true X0.o.symm);have hdc:=HA.o.2.1;rw [hdc] at tK;clear hdc;go_wp2_with (first|(refine aN rfl (.tmp 84) (.tmp 83) (v:=ς a12 (q.heard.length+1) c12) (new:=#[ι q.deed,ς qw q.parts.length cp2,.bool false,ς a12 (q.heard.length+1) c12]) rfl rfl ρ ρ tK.o vV σ ρ ρ ?_))
       intro uF i7 g14;have Gp:=η i7;have cA:Hid (Grow wr uF):=η ((((GO.o.trans JU.o).trans JV.o).trans Fh.o).grown g14 (fun q9 e9=>by have:=Option.some.inj e9;have:=UL.o;omega));have oM:=η (UW.o.later cA.o);have mU:=η (ZR.o.kept g14 (bJ ZR.o (τ (γ ZQ.o))));clear i7 g14;cases ta with
       |true=>
        have Yk:=η cP.o.symm;have HST:Hid (dQ m ⟨so,[],[],false⟩ q=⟨so++ [⟨q.deed,q.parts,true,[]⟩],[⟨5,q.deed,q.parts⟩],gG ⟨q.deed,q.parts,true,[]⟩,true⟩):=η (by rw [HAT.o,Jz HA.o Yk.o];try simp);go_wp2_with (first|(refine aN rfl (.tmp 86) (.const (.bool true)) (v:=.bool true) (new:=#[ι q.deed,ς qw q.parts.length cp2,.bool true,ς a12 (q.heard.length+1) c12]) rfl rfl ρ ρ Gp.o Uo σ ρ ρ ?_))
        intro w15 r15 g15;have UT:=η r15;have G15:Hid (Grow wr w15):=η (cA.o.grown g15 (fun q9 e9=>by have:=Option.some.inj e9;have:=UL.o;omega));clear r15 g15;go_wp2_with (first|(refine aN rfl (.tmp 87) (.const (ς none 0 0)) (v:=ς none 0 0) (new:=#[ι q.deed,ς qw q.parts.length cp2,.bool true,()]) rfl rfl ρ ρ UT.o vV σ ρ ρ ?_))
        intro w16 r16 g16;have ZT:=η r16;have G16:Hid (Grow wr w16):=η (G15.o.grown g16 (fun q9 e9=>by have:=Option.some.inj e9;have:=UL.o;omega));clear r16 g16;have Fj:=η (UW.o.later G16.o);have Ql:=η (fun(W:World) (hW:Grow w16 W)=>Src.iK (T:=Ty.rc) ε (HC.o.trans (Fj.o.grow.trans hW).sub) IU.o);have HS:Hid (∀W,Grow w16 W->W.cell? ⟨w.heap.size,0,none⟩=some (ς al h.log.length cl)/\W.cell? ⟨BO,0,none⟩=some (ι q.deed)/\W.cell? ⟨BO,1,none⟩=some (ς qw q.parts.length cp2)):=fun W hW=>by
         obtain⟨k0,k1,-,-⟩:=cells4 (aj ZT.o hW);obtain⟨j0,-,-,-⟩:=cells4 (aj ((Fj.o.old 0 δ).trans R1.o) hW);exact⟨j0,k0,k1⟩
        go_upto_region 17 with fail
        refine bf (fun w'=>w'.cell? ⟨w.heap.size,0,none⟩=some (ς al h.log.length cl)/\w'.cell? ⟨BO,0,none⟩=some (ι q.deed)/\w'.cell? ⟨BO,1,none⟩=some (ς qw q.parts.length cp2)) 12 κ ?_;obtain⟨wd,hWd⟩:∃x:World,x=w16.drew:=⟨_,rfl⟩;rw [<-hWd];have GD:Grow w16 wd:=by rw [hWd];exact(Grow.refl _).drew
        have zD:w16.heap.size=wd.heap.size:=by rw [hWd];rfl
        have ZD:=η zD;clear hWd zD;refine ni [1,2,4,5,6,7,8] 16 κ (fun _ _ _ _ _ h=>h) (HS.o _ GD) ?_;repeat (refine gQ ?_;try simp only [aK])
        refine ny ?_;refine bP 0 9 κ rfl rfl ?_ ?_
        ·intro K HK
         try simp only [aV]
         go_simp;refine HK.o _ _ ⟨fun _=>HS.o _ (GD.alloc _),?_⟩;clear HK K;try simp only [aK]
         refine bP 3 9 κ rfl rfl ?_ ?_
         ·intro K HK
          refine aC rfl ?_;try simp only [aV]
          refine dD (l:=[]) (m:=h.log) (v:=ς (some ⟨wd.heap.size,0,none⟩) 0 0) jv rfl eY ε (.tmp 88) (.tmp 90) rfl rfl ((aI.jw Ty.rc c _ w16.heap.size _ (φ ZD.o) σ)) rfl (Ql.o _ (GD.alloc _)) (by have:=Am.o;simp;omega) (GD.alloc _).size ?_;intro a3 c3 q3 ho3 hg3 hb3;try simp only [iO,List.nil_append] at ho3
          try simp only [iO] at hb3
          try simp only [iO]
          have G3:=bn (w0:=w16) (GD.alloc _) hg3 (d_ (φ ZD.o));have B3:=η (dW (B:=w16.heap.size) (GD.alloc _).size hb3 (d_ (φ ZD.o)));have nC:=η ho3;have oq:=η hg3;clear ho3 hg3 hb3;refine HK.o _ _ ⟨fun _=>HS.o _ G3,?_⟩;clear HK K;try simp only [aK]
          refine bO 9 κ rfl ?_;intro K HK;try simp only [aV]
          go_simp;refine HK.o _ _ ⟨fun _=>HS.o _ (G3.alloc _),?_⟩;clear HK K;try simp only [aK]
          refine bO 10 κ rfl ?_;intro K HK;refine aC rfl ?_;try simp only [aV]
          refine dD (l:=h.log) (m:=[⟨5,q.deed,q.parts⟩]) (v:=ς a3 (h.log.length) c3) jv rfl eY ε (.tmp 91) (.tmp 97) rfl rfl ((nC.o).grow ((Grow.refl _).alloc _)) rfl ((Src.bQ (T:=Ty.rc) (x:=⟨5,q.deed,q.parts⟩) (c:=c) (cs:=#[ι 5,ι q.deed,ς qw q.parts.length cp2]) (show Ty.rc.R c _ (⟨5,q.deed,q.parts⟩:Rc) from⟨_,rfl,(show I64 5 from by unfold I64;decide),lI.o.1,lI.o.2.1⟩) _ _ σ)) (by have:=Am.o;simp;omega) (G3.alloc _).size ?_;intro a10 c10 q10 kL Fp iL;try simp only [iO] at kL
          try simp only [iO] at iL
          try simp only [iO]
          have jc:=bn (w0:=w16) (G3.alloc _) Fp B3.o;have B10:=η (dW (B:=w16.heap.size) (G3.alloc _).size iL B3.o);have uz:=η kL;have XM:=η Fp;clear kL Fp iL;refine HK.o _ _ ⟨fun _=>HS.o _ jc,?_⟩;clear HK K;try simp only [aK]
          refine bO 11 κ rfl ?_;intro K HK;try simp only [aV]
          go_simp;refine HK.o _ _ ⟨fun _=>HS.o _ jc,?_⟩;clear HK K;try simp only [aK]
          refine bO 12 κ rfl ?_;intro K HK;refine aC rfl ?_;try simp only [aV]
          refine aU (.tmp 99) (.tmp 98) (v:=ς a10 (h.log.length+1) c10) (new:=#[ς a10 (h.log.length+1) c10,ι h.aG,ι h.next,ς ao so.length co]) rfl rfl ρ ρ (aj Fj.o.row jc) nT σ ρ ρ ?_;intro X4 ND g17;have BD:=η (iJ.Aq (Fj.o.later jc) [⟨5,q.deed,q.parts⟩] g17 ND (by
           have h9:=Fj.o.qN ε (jQ (HC.o.trans G1.o.sub)) uz.o;simpa using h9))
          have zk:=η (aH (aj ZT.o jc) g17 (by intro e;have:=Option.some.inj e;have:=UL.o;have:=UW.o.size;omega));clear ND g17;refine HK.o _ _ ⟨fun h=>absurd rfl h,?_⟩;clear HK K;try simp only [aK]
          refine aO κ ?_;have HAS:=η (fun(W:World) (hW:Grow w W)=>qc (v:=.agg #[ι q.deed,ς qw q.parts.length cp2,.bool true,()]) (o:=⟨q.deed,q.parts,true,[]⟩) W ⟨_,rfl,_,_,rfl,lI.o.1,lI.o.2.1.mono (HC.o.trans hW.sub),Sl.nil _ _⟩ (by show q.parts.length*24<=_;have:=KH.o;omega));obtain⟨e0,e1,e2,e3⟩:=cells4 zk.o;have zO:BO<X4.heap.size:=(γ zk.o);go_wp2_with fail
          refine(HAS.o _ BD.o.grow).mono ?_;rintro e18 vX ⟨v18,rfl,xU,zl⟩;obtain⟨UV,c18,rfl⟩:=xU.form;have Fq:=η (aj zk.o zl);have iq:=η ((BD.o.later zl).kW (BD.o.qN ε BD.o.Xk xU));clear xU zl e0 e1 e2 e3 zO;obtain⟨e0,e1,e2,e3⟩:=cells4 Fq.o;have zO:BO<vX.heap.size:=(γ Fq.o);have tJ:=η ((iq.o.old 0 δ).trans R1.o);have rZ:=η ((iq.o.old 1 δ).trans R2.o);obtain⟨y0,y1,y2,y3⟩:=cells4 tJ.o;obtain⟨d0,d1,d2,d3⟩:=cells4 rZ.o;obtain⟨x0,x1,x2,x3⟩:=cells4 iq.o.row;have zz:=iq.o.size;have zA:w.heap.size<vX:=by omega
          have zB:w.heap.size+1<vX:=by omega
          have zX:w.heap.size+3<vX:=by omega
          go_wp2_with (first|(at_builtin;refine aZ (c:=fc c wz vX [(Value.slice ao so.length co).ownBlock]) (base:=w.heap.size+4) (l:=so) (m:=[⟨q.deed,q.parts,true,[]⟩]) h_ rfl fZ ε rfl (.tmp 152) (.tmp 154) rfl rfl ?own rfl (Src.bQ (T:=Ty.opn) (x:=⟨q.deed,q.parts,true,[]⟩) (cs:=#[ι q.deed,ς qw q.parts.length cp2,.bool true,()]) ?d0 _ _ ?d1) ?d2 ?d3 ?_))
          case own=>exact aI.grow iq.o.opn ((Grow.refl _).alloc _)
          case d0=>exact⟨_,_,rfl,lI.o.1,lI.o.2.1.mono (jQ (HC.o.trans G1.o.sub)),Sl.nil _ _⟩
          case d1=>first|rfl|simp
          case d2=>have:=HSL.o;simp;omega
          case d3=>have:=iq.o.size;simp;omega
          intro a9 c9 w9 fB eF gI;have R9:=η (aH (aj iq.o.row ((Grow.refl _).alloc (.cells #[ι q.deed,ς qw q.parts.length cp2,.bool true,()] 58))) eF (by intro e;have:=(iq.o.opn.lt _ e.symm).1;omega));have iF:=η fB;have jL:=η eF;have sU:=η gI;clear fB eF gI;go_wp2_with (first|(refine aN rfl (.tmp 156) (.tmp 155) (v:=ς a9 (so.length+1) c9) (new:=#[ς a10 (h.log.length+1) c10,ι h.aG,ι h.next,ς a9 (so.length+1) c9]) rfl rfl ρ ρ R9.o eH σ ρ ρ ?_))
          intro w10 r10 g10;have uG:=η (iJ.app iq.o ⟨q.deed,q.parts,true,[]⟩ ((Grow.refl _).alloc (.cells #[ι q.deed,ς qw q.parts.length cp2,.bool true,()] 58)) jL.o (sU.o.imp_right fun⟨g,e,hge⟩=>⟨g,e,by simpa using hge⟩) iF.o g10 r10);clear r10 g10;go_wp2;go_roundw
          case rel=>exact⟨k+1,_,_,δ,by go_num,by rw [qI.o,HST.o],by rw [qI.o,HST.o];exact uG.o⟩
          case measure=>simp [intOf];omega
         ·intro K HK
          try simp only [aV]
          go_simp;refine HK.o _ _ ⟨fun _=>HS.o _ ((GD.alloc _).alloc _),?_⟩;clear HK K;try simp only [aK]
          refine bO 3 κ rfl ?_;intro K HK;refine aC rfl ?_;try simp only [aV]
          refine dD (l:=[]) (m:=h.log) (v:=ς (some ⟨wd.heap.size,0,none⟩) 0 0) jv rfl eY ε (.tmp 88) (.tmp 90) rfl rfl (((aI.jw Ty.rc c _ w16.heap.size _ (φ ZD.o) σ)).grow ((Grow.refl _).alloc _)) rfl (Ql.o _ ((GD.alloc _).alloc _)) (by have:=Am.o;simp;omega) ((GD.alloc _).alloc _).size ?_;intro a3 c3 q3 ho3 hg3 hb3;try simp only [iO,List.nil_append] at ho3
          try simp only [iO] at hb3
          try simp only [iO]
          have G3:=bn (w0:=w16) ((GD.alloc _).alloc _) hg3 (d_ (φ ZD.o));have B3:=η (dW (B:=w16.heap.size) ((GD.alloc _).alloc _).size hb3 (d_ (φ ZD.o)));have nC:=η ho3;have oq:=η hg3;clear ho3 hg3 hb3;refine HK.o _ _ ⟨fun _=>HS.o _ G3,?_⟩;clear HK K;try simp only [aK]
          refine bO 10 κ rfl ?_;intro K HK;refine aC rfl ?_;try simp only [aV]
          refine dD (l:=h.log) (m:=[⟨5,q.deed,q.parts⟩]) (v:=ς a3 (h.log.length) c3) jv rfl eY ε (.tmp 91) (.tmp 97) rfl rfl (nC.o) rfl (((Src.bQ (T:=Ty.rc) (x:=⟨5,q.deed,q.parts⟩) (c:=c) (cs:=#[ι 5,ι q.deed,ς qw q.parts.length cp2]) (show Ty.rc.R c _ (⟨5,q.deed,q.parts⟩:Rc) from⟨_,rfl,(show I64 5 from by unfold I64;decide),lI.o.1,lI.o.2.1⟩) _ _ σ)).kept oq.o (by simp [Value.ownBlock])) (by have:=Am.o;simp;omega) G3.size ?_;intro a10 c10 q10 kL Fp iL;try simp only [iO] at kL
          try simp only [iO] at iL
          try simp only [iO]
          have jc:=bn (w0:=w16) G3 Fp B3.o;have B10:=η (dW (B:=w16.heap.size) G3.size iL B3.o);have uz:=η kL;have XM:=η Fp;clear kL Fp iL;refine HK.o _ _ ⟨fun _=>HS.o _ jc,?_⟩;clear HK K;try simp only [aK]
          refine bO 11 κ rfl ?_;intro K HK;try simp only [aV]
          go_simp;refine HK.o _ _ ⟨fun _=>HS.o _ jc,?_⟩;clear HK K;try simp only [aK]
          refine bO 12 κ rfl ?_;intro K HK;refine aC rfl ?_;try simp only [aV]
          refine aU (.tmp 99) (.tmp 98) (v:=ς a10 (h.log.length+1) c10) (new:=#[ς a10 (h.log.length+1) c10,ι h.aG,ι h.next,ς ao so.length co]) rfl rfl ρ ρ (aj Fj.o.row jc) nT σ ρ ρ ?_;intro X4 ND g17;have BD:=η (iJ.Aq (Fj.o.later jc) [⟨5,q.deed,q.parts⟩] g17 ND (by
           have h9:=Fj.o.qN ε (jQ (HC.o.trans G1.o.sub)) uz.o;simpa using h9))
          have zk:=η (aH (aj ZT.o jc) g17 (by intro e;have:=Option.some.inj e;have:=UL.o;have:=UW.o.size;omega));clear ND g17;refine HK.o _ _ ⟨fun h=>absurd rfl h,?_⟩;clear HK K;try simp only [aK]
          refine aO κ ?_;have HAS:=η (fun(W:World) (hW:Grow w W)=>qc (v:=.agg #[ι q.deed,ς qw q.parts.length cp2,.bool true,()]) (o:=⟨q.deed,q.parts,true,[]⟩) W ⟨_,rfl,_,_,rfl,lI.o.1,lI.o.2.1.mono (HC.o.trans hW.sub),Sl.nil _ _⟩ (by show q.parts.length*24<=_;have:=KH.o;omega));obtain⟨e0,e1,e2,e3⟩:=cells4 zk.o;have zO:BO<X4.heap.size:=(γ zk.o);go_wp2_with fail
          refine(HAS.o _ BD.o.grow).mono ?_;rintro e18 vX ⟨v18,rfl,xU,zl⟩;obtain⟨UV,c18,rfl⟩:=xU.form;have Fq:=η (aj zk.o zl);have iq:=η ((BD.o.later zl).kW (BD.o.qN ε BD.o.Xk xU));clear xU zl e0 e1 e2 e3 zO;obtain⟨e0,e1,e2,e3⟩:=cells4 Fq.o;have zO:BO<vX.heap.size:=(γ Fq.o);have tJ:=η ((iq.o.old 0 δ).trans R1.o);have rZ:=η ((iq.o.old 1 δ).trans R2.o);obtain⟨y0,y1,y2,y3⟩:=cells4 tJ.o;obtain⟨d0,d1,d2,d3⟩:=cells4 rZ.o;obtain⟨x0,x1,x2,x3⟩:=cells4 iq.o.row;have zz:=iq.o.size;have zA:w.heap.size<vX:=by omega
          have zB:w.heap.size+1<vX:=by omega
          have zX:w.heap.size+3<vX:=by omega
          go_wp2_with (first|(at_builtin;refine aZ (c:=fc c wz vX [(Value.slice ao so.length co).ownBlock]) (base:=w.heap.size+4) (l:=so) (m:=[⟨q.deed,q.parts,true,[]⟩]) h_ rfl fZ ε rfl (.tmp 152) (.tmp 154) rfl rfl ?own rfl (Src.bQ (T:=Ty.opn) (x:=⟨q.deed,q.parts,true,[]⟩) (cs:=#[ι q.deed,ς qw q.parts.length cp2,.bool true,()]) ?d0 _ _ ?d1) ?d2 ?d3 ?_))
          case own=>exact aI.grow iq.o.opn ((Grow.refl _).alloc _)
          case d0=>exact⟨_,_,rfl,lI.o.1,lI.o.2.1.mono (jQ (HC.o.trans G1.o.sub)),Sl.nil _ _⟩
          case d1=>first|rfl|simp
          case d2=>have:=HSL.o;simp;omega
          case d3=>have:=iq.o.size;simp;omega
          intro a9 c9 w9 fB eF gI;have R9:=η (aH (aj iq.o.row ((Grow.refl _).alloc (.cells #[ι q.deed,ς qw q.parts.length cp2,.bool true,()] 58))) eF (by intro e;have:=(iq.o.opn.lt _ e.symm).1;omega));have iF:=η fB;have jL:=η eF;have sU:=η gI;clear fB eF gI;go_wp2_with (first|(refine aN rfl (.tmp 156) (.tmp 155) (v:=ς a9 (so.length+1) c9) (new:=#[ς a10 (h.log.length+1) c10,ι h.aG,ι h.next,ς a9 (so.length+1) c9]) rfl rfl ρ ρ R9.o eH σ ρ ρ ?_))
          intro w10 r10 g10;have uG:=η (iJ.app iq.o ⟨q.deed,q.parts,true,[]⟩ ((Grow.refl _).alloc (.cells #[ι q.deed,ς qw q.parts.length cp2,.bool true,()] 58)) jL.o (sU.o.imp_right fun⟨g,e,hge⟩=>⟨g,e,by simpa using hge⟩) iF.o g10 r10);clear r10 g10;go_wp2;go_roundw
          case rel=>exact⟨k+1,_,_,δ,by go_num,by rw [qI.o,HST.o],by rw [qI.o,HST.o];exact uG.o⟩
          case measure=>simp [intOf];omega
        ·intro K HK
         try simp only [aV]
         go_simp;refine HK.o _ _ ⟨fun _=>HS.o _ (GD.alloc _),?_⟩;clear HK K;try simp only [aK]
         refine bO 0 κ rfl ?_;intro K HK;try simp only [aV]
         go_simp;refine HK.o _ _ ⟨fun _=>HS.o _ ((GD.alloc _).alloc _),?_⟩;clear HK K;try simp only [aK]
         refine bO 3 κ rfl ?_;intro K HK;refine aC rfl ?_;try simp only [aV]
         refine dD (l:=[]) (m:=h.log) (v:=ς (some ⟨wd.heap.size+1,0,none⟩) 0 0) jv rfl eY ε (.tmp 88) (.tmp 90) rfl rfl ((aI.jw Ty.rc c _ w16.heap.size _ (φ ZD.o) σ)) rfl (Ql.o _ ((GD.alloc _).alloc _)) (by have:=Am.o;simp;omega) ((GD.alloc _).alloc _).size ?_;intro a3 c3 q3 ho3 hg3 hb3;try simp only [iO,List.nil_append] at ho3
         try simp only [iO] at hb3
         try simp only [iO]
         have G3:=bn (w0:=w16) ((GD.alloc _).alloc _) hg3 (d_ (φ ZD.o));have B3:=η (dW (B:=w16.heap.size) ((GD.alloc _).alloc _).size hb3 (d_ (φ ZD.o)));have nC:=η ho3;have oq:=η hg3;clear ho3 hg3 hb3;refine HK.o _ _ ⟨fun _=>HS.o _ G3,?_⟩;clear HK K;try simp only [aK]
         refine bO 10 κ rfl ?_;intro K HK;refine aC rfl ?_;try simp only [aV]
         refine dD (l:=h.log) (m:=[⟨5,q.deed,q.parts⟩]) (v:=ς a3 (h.log.length) c3) jv rfl eY ε (.tmp 91) (.tmp 97) rfl rfl (nC.o) rfl ((((Src.bQ (T:=Ty.rc) (x:=⟨5,q.deed,q.parts⟩) (c:=c) (cs:=#[ι 5,ι q.deed,ς qw q.parts.length cp2]) (show Ty.rc.R c _ (⟨5,q.deed,q.parts⟩:Rc) from⟨_,rfl,(show I64 5 from by unfold I64;decide),lI.o.1,lI.o.2.1⟩) _ _ σ)).grow ((Grow.refl _).alloc _)).kept oq.o (by simp [Value.ownBlock])) (by have:=Am.o;simp;omega) G3.size ?_;intro a10 c10 q10 kL Fp iL;try simp only [iO] at kL
         try simp only [iO] at iL
         try simp only [iO]
         have jc:=bn (w0:=w16) G3 Fp B3.o;have B10:=η (dW (B:=w16.heap.size) G3.size iL B3.o);have uz:=η kL;have XM:=η Fp;clear kL Fp iL;refine HK.o _ _ ⟨fun _=>HS.o _ jc,?_⟩;clear HK K;try simp only [aK]
         refine bO 11 κ rfl ?_;intro K HK;try simp only [aV]
         go_simp;refine HK.o _ _ ⟨fun _=>HS.o _ jc,?_⟩;clear HK K;try simp only [aK]
         refine bO 12 κ rfl ?_;intro K HK;refine aC rfl ?_;try simp only [aV]
         refine aU (.tmp 99) (.tmp 98) (v:=ς a10 (h.log.length+1) c10) (new:=#[ς a10 (h.log.length+1) c10,ι h.aG,ι h.next,ς ao so.length co]) rfl rfl ρ ρ (aj Fj.o.row jc) nT σ ρ ρ ?_;intro X4 ND g17;have BD:=η (iJ.Aq (Fj.o.later jc) [⟨5,q.deed,q.parts⟩] g17 ND (by
          have h9:=Fj.o.qN ε (jQ (HC.o.trans G1.o.sub)) uz.o;simpa using h9))
         have zk:=η (aH (aj ZT.o jc) g17 (by intro e;have:=Option.some.inj e;have:=UL.o;have:=UW.o.size;omega));clear ND g17;refine HK.o _ _ ⟨fun h=>absurd rfl h,?_⟩;clear HK K;try simp only [aK]
         refine aO κ ?_;have HAS:=η (fun(W:World) (hW:Grow w W)=>qc (v:=.agg #[ι q.deed,ς qw q.parts.length cp2,.bool true,()]) (o:=⟨q.deed,q.parts,true,[]⟩) W ⟨_,rfl,_,_,rfl,lI.o.1,lI.o.2.1.mono (HC.o.trans hW.sub),Sl.nil _ _⟩ (by show q.parts.length*24<=_;have:=KH.o;omega));obtain⟨e0,e1,e2,e3⟩:=cells4 zk.o;have zO:BO<X4.heap.size:=(γ zk.o);go_wp2_with fail
         refine(HAS.o _ BD.o.grow).mono ?_;rintro e18 vX ⟨v18,rfl,xU,zl⟩;obtain⟨UV,c18,rfl⟩:=xU.form;have Fq:=η (aj zk.o zl);have iq:=η ((BD.o.later zl).kW (BD.o.qN ε BD.o.Xk xU));clear xU zl e0 e1 e2 e3 zO;obtain⟨e0,e1,e2,e3⟩:=cells4 Fq.o;have zO:BO<vX.heap.size:=(γ Fq.o);have tJ:=η ((iq.o.old 0 δ).trans R1.o);have rZ:=η ((iq.o.old 1 δ).trans R2.o);obtain⟨y0,y1,y2,y3⟩:=cells4 tJ.o;obtain⟨d0,d1,d2,d3⟩:=cells4 rZ.o;obtain⟨x0,x1,x2,x3⟩:=cells4 iq.o.row;have zz:=iq.o.size;have zA:w.heap.size<vX:=by omega
         have zB:w.heap.size+1<vX:=by omega
         have zX:w.heap.size+3<vX:=by omega
         go_wp2_with (first|(at_builtin;refine aZ (c:=fc c wz vX [(Value.slice ao so.length co).ownBlock]) (base:=w.heap.size+4) (l:=so) (m:=[⟨q.deed,q.parts,true,[]⟩]) h_ rfl fZ ε rfl (.tmp 152) (.tmp 154) rfl rfl ?own rfl (Src.bQ (T:=Ty.opn) (x:=⟨q.deed,q.parts,true,[]⟩) (cs:=#[ι q.deed,ς qw q.parts.length cp2,.bool true,()]) ?d0 _ _ ?d1) ?d2 ?d3 ?_))
         case own=>exact aI.grow iq.o.opn ((Grow.refl _).alloc _)
         case d0=>exact⟨_,_,rfl,lI.o.1,lI.o.2.1.mono (jQ (HC.o.trans G1.o.sub)),Sl.nil _ _⟩
         case d1=>first|rfl|simp
         case d2=>have:=HSL.o;simp;omega
         case d3=>have:=iq.o.size;simp;omega
         intro a9 c9 w9 fB eF gI;have R9:=η (aH (aj iq.o.row ((Grow.refl _).alloc (.cells #[ι q.deed,ς qw q.parts.length cp2,.bool true,()] 58))) eF (by intro e;have:=(iq.o.opn.lt _ e.symm).1;omega));have iF:=η fB;have jL:=η eF;have sU:=η gI;clear fB eF gI;go_wp2_with (first|(refine aN rfl (.tmp 156) (.tmp 155) (v:=ς a9 (so.length+1) c9) (new:=#[ς a10 (h.log.length+1) c10,ι h.aG,ι h.next,ς a9 (so.length+1) c9]) rfl rfl ρ ρ R9.o eH σ ρ ρ ?_))
         intro w10 r10 g10;have uG:=η (iJ.app iq.o ⟨q.deed,q.parts,true,[]⟩ ((Grow.refl _).alloc (.cells #[ι q.deed,ς qw q.parts.length cp2,.bool true,()] 58)) jL.o (sU.o.imp_right fun⟨g,e,hge⟩=>⟨g,e,by simpa using hge⟩) iF.o g10 r10);clear r10 g10;go_wp2;go_roundw
         case rel=>exact⟨k+1,_,_,δ,by go_num,by rw [qI.o,HST.o],by rw [qI.o,HST.o];exact uG.o⟩
         case measure=>simp [intOf];omega
       |false=>
        have Yk:=η cP.o.symm;have HST:Hid (dQ m ⟨so,[],[],false⟩ q=⟨so++ [⟨q.deed,q.parts,false,q.heard++ [m.house]⟩],[],[],true⟩):=η (by rw [HAT.o,Ul HA.o Yk.o];try simp);obtain⟨e0,e1,e2,e3⟩:=cells4 Gp.o;have zO:BO<uF.heap.size:=(γ Gp.o);have tJ:=η ((oM.o.old 0 δ).trans R1.o);have rZ:=η ((oM.o.old 1 δ).trans R2.o);obtain⟨y0,y1,y2,y3⟩:=cells4 tJ.o;obtain⟨d0,d1,d2,d3⟩:=cells4 rZ.o;obtain⟨x0,x1,x2,x3⟩:=cells4 oM.o.row;have zz:=oM.o.size;have zA:w.heap.size<uF:=by omega
        have zB:w.heap.size+1<uF:=by omega
        have zX:w.heap.size+3<uF:=by omega
        have nU:Hid (iJ c w wz uF h ⟨so,[],[],true⟩ _ _ _):=η (oM.o.kW oM.o.says);go_wp2_with (first|(at_builtin;refine aZ (c:=fc c wz uF [(Value.slice ao so.length co).ownBlock]) (base:=w.heap.size+4) (l:=so) (m:=[⟨q.deed,q.parts,false,q.heard++ [m.house]⟩]) h_ rfl fZ ε rfl (.tmp 152) (.tmp 154) rfl rfl ?own rfl (Src.bQ (T:=Ty.opn) (x:=⟨q.deed,q.parts,false,q.heard++ [m.house]⟩) (cs:=#[ι q.deed,ς qw q.parts.length cp2,.bool false,ς a12 (q.heard.length+1) c12]) ?d0 _ _ ?d1) ?d2 ?d3 ?_))
        case own=>exact aI.grow nU.o.opn ((Grow.refl _).alloc _)
        case d0=>exact⟨_,_,rfl,lI.o.1,lI.o.2.1.mono (jQ (HC.o.trans G1.o.sub)),P7.o.qN ε (jQ (HC.o.trans G1.o.sub)) mU.o⟩
        case d1=>first|rfl|simp
        case d2=>have:=HSL.o;simp;omega
        case d3=>have:=nU.o.size;simp;omega
        intro a9 c9 w9 fB eF gI;have R9:=η (aH (aj nU.o.row ((Grow.refl _).alloc (.cells #[ι q.deed,ς qw q.parts.length cp2,.bool false,ς a12 (q.heard.length+1) c12] 58))) eF (by intro e;have:=(nU.o.opn.lt _ e.symm).1;omega));have iF:=η fB;have jL:=η eF;have sU:=η gI;clear fB eF gI;go_wp2_with (first|(refine aN rfl (.tmp 156) (.tmp 155) (v:=ς a9 (so.length+1) c9) (new:=#[ς Yq nl Yr,ι h.aG,ι h.next,ς a9 (so.length+1) c9]) rfl rfl ρ ρ R9.o eH σ ρ ρ ?_))
        intro w10 r10 g10;have uG:=η (iJ.app nU.o ⟨q.deed,q.parts,false,q.heard++ [m.house]⟩ ((Grow.refl _).alloc (.cells #[ι q.deed,ς qw q.parts.length cp2,.bool false,ς a12 (q.heard.length+1) c12] 58)) jL.o (sU.o.imp_right fun⟨g,e,hge⟩=>⟨g,e,by simpa using hge⟩) iF.o g10 r10);clear r10 g10;go_wp2;go_roundw
        case rel=>exact⟨k+1,_,_,δ,by go_num,by rw [qI.o,HST.o],by rw [qI.o,HST.o];exact uG.o⟩
        case measure=>simp [intOf];omega
     |false=>
      have HA:=η (of_decide_eq_false X0.o.symm);obtain⟨CF,cQ⟩:∃b:Bool,b=decide (m.kind=3/\q.dec=false):=⟨_,rfl⟩;have NH:=η cQ;clear cQ;go_upto_region 19 with fail
      obtain⟨e0,e1,e2,e3⟩:=cells4 tK.o;have zO:BO<sD.heap.size:=(γ tK.o);have tJ:=η ((lC.o.old 0 δ).trans R1.o);have rZ:=η ((lC.o.old 1 δ).trans R2.o);obtain⟨y0,y1,y2,y3⟩:=cells4 tJ.o;obtain⟨d0,d1,d2,d3⟩:=cells4 rZ.o;obtain⟨x0,x1,x2,x3⟩:=cells4 lC.o.row;have zz:=lC.o.size;have zA:w.heap.size<sD:=by omega
      have zB:w.heap.size+1<sD:=by omega
      have zX:w.heap.size+3<sD:=by omega
      go_cut [102,158,159,160,161,162,163,164,165,166,167,168,169,170,171,172] from 103 (fun UX AA AB AL AO AP AQ AU AV AX AY AZ A8 A_ Ba Bc wc=>UX=.bool CF/\(AA=undef/\AB=undef/\AL=undef/\AO=undef/\AP=undef/\AQ=undef/\AU=undef/\AV=undef/\AX=undef/\AY=undef/\AZ=undef/\A8=undef/\A_=undef/\Ba=undef/\Bc=undef)/\sD=wc)
      case first=>
       by_cases hk:m.kind=3
       ·have hkb:(m.kind==3)=true:=by simp [hk]
        have HK:=η hk;clear hk;obtain⟨db,Kw⟩:∃b,b=q.dec:=⟨_,rfl⟩;rw [<-Kw] at e2;have X3:=η Kw;clear Kw;cases db with
        |true=>
         go_wp2;go_meet
         case rel=>exact⟨by have h1:=HK.o;have h2:=X3.o.symm;rw [NH.o];(try rw [Yt.o]);simp [h1,h2],⟨rfl,rfl,rfl,rfl,rfl,rfl,rfl,rfl,rfl,rfl,rfl,rfl,rfl,rfl,rfl⟩,rfl⟩
        |false=>
         go_wp2;go_meet
         case rel=>exact⟨by have h1:=HK.o;have h2:=X3.o.symm;rw [NH.o];(try rw [Yt.o]);simp [h1,h2],⟨rfl,rfl,rfl,rfl,rfl,rfl,rfl,rfl,rfl,rfl,rfl,rfl,rfl,rfl,rfl⟩,rfl⟩
       ·have hkb:(m.kind==3)=false:=by simp [hk]
        have HK:=η hk;clear hk;go_wp2;go_meet
        case rel=>exact⟨by have h1:=HK.o;rw [NH.o];simp [h1],⟨rfl,rfl,rfl,rfl,rfl,rfl,rfl,rfl,rfl,rfl,rfl,rfl,rfl,rfl,rfl⟩,rfl⟩
      case rest=>
      obtain⟨rfl,⟨rfl,rfl,rfl,rfl,rfl,rfl,rfl,rfl,rfl,rfl,rfl,rfl,rfl,rfl,rfl⟩,rfl⟩:=hcut;clear e0 e1 e2 e3 zO y0 y1 y2 y3 d0 d1 d2 d3 x0 x1 x2 x3 zz zA zB zX tJ rZ;cases CF with
      |true=>
       skip
       have HBH:=η (of_decide_eq_true NH.o.symm);have HST:Hid (dQ m ⟨so,[],[],false⟩ q=⟨so,[],dG q.deed q.parts,true⟩):=η (by rw [HAT.o,Xj HA.o HBH.o];try simp);have HAB:=η (fun(W:World) (hW:Grow w W)=>EK (v:=.agg #[ι q.deed,ς qw q.parts.length cp2,.bool q.dec,ς ah q.heard.length ch]) (o:=q) W ⟨_,rfl,_,_,rfl,lI.o.1,lI.o.2.1.mono (HC.o.trans hW.sub),lI.o.2.2.mono (HC.o.trans hW.sub)⟩ (τ KH.o));obtain⟨e0,e1,e2,e3⟩:=cells4 tK.o;have zO:BO<sD.heap.size:=(γ tK.o);go_wp2_with fail
       refine(HAB.o _ lC.o.grow).mono ?_;rintro e18 vX ⟨v18,rfl,xU,zl⟩;obtain⟨UV,c18,rfl⟩:=xU.form;have uG:Hid (iJ c w wz vX h ⟨so,[],dG q.deed q.parts,true⟩ _ _ _):=η ((lC.o.later zl).kW (lC.o.qN ε (fun _ _ e9=>by cases e9) xU));clear xU zl e0 e1 e2 e3 zO;go_wp2;go_roundw
       case rel=>exact⟨k+1,_,_,δ,by go_num,by rw [qI.o,HST.o],by rw [qI.o,HST.o];exact uG.o⟩
       case measure=>simp [intOf];omega
      |false=>
       have HB:=η (of_decide_eq_false NH.o.symm);obtain⟨CH,cR⟩:∃b:Bool,b=decide (m.kind=6/\q.dec=true/\mG q m):=⟨_,rfl⟩;have NI:=η cR;clear cR;go_upto_region 21 with fail
       obtain⟨e0,e1,e2,e3⟩:=cells4 tK.o;have zO:BO<sD.heap.size:=(γ tK.o);have tJ:=η ((lC.o.old 0 δ).trans R1.o);have rZ:=η ((lC.o.old 1 δ).trans R2.o);obtain⟨y0,y1,y2,y3⟩:=cells4 tJ.o;obtain⟨d0,d1,d2,d3⟩:=cells4 rZ.o;obtain⟨x0,x1,x2,x3⟩:=cells4 lC.o.row;have zz:=lC.o.size;have zA:w.heap.size<sD:=by omega
       have zB:w.heap.size+1<sD:=by omega
       have zX:w.heap.size+3<sD:=by omega
       go_cut [113,158,159,160,161,162,163,164,165,166,167,168,169,170,171,172] from 114 (fun VC AA AB AL AO AP AQ AU AV AX AY AZ A8 A_ Ba Bc wc=>VC=.bool CH/\(AA=undef/\AB=undef/\AL=undef/\AO=undef/\AP=undef/\AQ=undef/\AU=undef/\AV=undef/\AX=undef/\AY=undef/\AZ=undef/\A8=undef/\A_=undef/\Ba=undef/\Bc=undef)/\sD=wc)
       case first=>
        by_cases hk:m.kind=6
        ·have hkb:(m.kind==6)=true:=by simp [hk]
         have HK:=η hk;clear hk;obtain⟨db,Kw⟩:∃b,b=q.dec:=⟨_,rfl⟩;rw [<-Kw] at e2;have X3:=η Kw;clear Kw;cases db with
         |true=>
          go_wp2;go_meet
          case rel=>exact⟨by have h1:=HK.o;have h2:=X3.o.symm;rw [NI.o];(try rw [Yt.o]);simp [h1,h2],⟨rfl,rfl,rfl,rfl,rfl,rfl,rfl,rfl,rfl,rfl,rfl,rfl,rfl,rfl,rfl⟩,rfl⟩
         |false=>
          go_wp2;go_meet
          case rel=>exact⟨by have h1:=HK.o;have h2:=X3.o.symm;rw [NI.o];(try rw [Yt.o]);simp [h1,h2],⟨rfl,rfl,rfl,rfl,rfl,rfl,rfl,rfl,rfl,rfl,rfl,rfl,rfl,rfl,rfl⟩,rfl⟩
        ·have hkb:(m.kind==6)=false:=by simp [hk]
         have HK:=η hk;clear hk;go_wp2;go_meet
         case rel=>exact⟨by have h1:=HK.o;rw [NI.o];simp [h1],⟨rfl,rfl,rfl,rfl,rfl,rfl,rfl,rfl,rfl,rfl,rfl,rfl,rfl,rfl,rfl⟩,rfl⟩
       case rest=>
       obtain⟨rfl,⟨rfl,rfl,rfl,rfl,rfl,rfl,rfl,rfl,rfl,rfl,rfl,rfl,rfl,rfl,rfl⟩,rfl⟩:=hcut;clear e0 e1 e2 e3 zO y0 y1 y2 y3 d0 d1 d2 d3 x0 x1 x2 x3 zz zA zB zX tJ rZ;cases CH with
       |true=>
        skip
        as_aux_lemma=>
         have aM:=η (of_decide_eq_true NI.o.symm);have hdc:=aM.o.2.1;rw [hdc] at tK;clear hdc;go_wp2_with (first|(refine aN rfl (.tmp 125) (.tmp 124) (v:=ς a12 (q.heard.length+1) c12) (new:=#[ι q.deed,ς qw q.parts.length cp2,.bool true,ς a12 (q.heard.length+1) c12]) rfl rfl ρ ρ tK.o vV σ ρ ρ ?_))
         intro uF i7 g14;have Gp:=η i7;have cA:Hid (Grow wr uF):=η ((((GO.o.trans JU.o).trans JV.o).trans Fh.o).grown g14 (fun q9 e9=>by have:=Option.some.inj e9;have:=UL.o;omega));have oM:=η (UW.o.later cA.o);have mU:=η (ZR.o.kept g14 (bJ ZR.o (τ (γ ZQ.o))));clear i7 g14;cases ta with
         |true=>
          have Yk:=η cP.o.symm;have HST:Hid (dQ m ⟨so,[],[],false⟩ q=⟨so,[⟨6,q.deed,[]⟩],[],true⟩):=η (by rw [HAT.o,JA HA.o HB.o aM.o Yk.o];try simp);have Ql:=η (fun(W:World) (hW:Grow uF W)=>Src.iK (T:=Ty.rc) ε (HC.o.trans (oM.o.grow.trans hW).sub) IU.o);have HS:Hid (∀W,Grow uF W->W.cell? ⟨w.heap.size,0,none⟩=some (ς al h.log.length cl)/\W.cell? ⟨BO,0,none⟩=some (ι q.deed)):=fun W hW=>by
           obtain⟨k0,k1,-,-⟩:=cells4 (aj Gp.o hW);obtain⟨j0,-,-,-⟩:=cells4 (aj ((oM.o.old 0 δ).trans R1.o) hW);exact⟨j0,k0⟩
          go_upto_region 24 with fail
          refine bf (fun w'=>w'.cell? ⟨w.heap.size,0,none⟩=some (ς al h.log.length cl)/\w'.cell? ⟨BO,0,none⟩=some (ι q.deed)) 10 κ ?_;obtain⟨wd,hWd⟩:∃x:World,x=uF.drew:=⟨_,rfl⟩;rw [<-hWd];have GD:Grow uF wd:=by rw [hWd];exact(Grow.refl _).drew
          have zD:uF.heap.size=wd.heap.size:=by rw [hWd];rfl
          have ZD:=η zD;clear hWd zD;refine ni [1,2,4,5,6] 16 κ (fun _ _ _ _ _ h=>h) (HS.o _ GD) ?_;repeat (refine gQ ?_;try simp only [aK])
          refine ny ?_;refine bP 0 7 κ rfl rfl ?_ ?_
          ·intro K HK
           try simp only [aV]
           go_simp;refine HK.o _ _ ⟨fun _=>HS.o _ (GD.alloc _),?_⟩;clear HK K;try simp only [aK]
           refine bP 3 7 κ rfl rfl ?_ ?_
           ·intro K HK
            refine aC rfl ?_;try simp only [aV]
            refine dD (l:=[]) (m:=h.log) (v:=ς (some ⟨wd.heap.size,0,none⟩) 0 0) jv rfl eY ε (.tmp 127) (.tmp 129) rfl rfl ((aI.jw Ty.rc c _ uF.heap.size _ (φ ZD.o) σ)) rfl (Ql.o _ (GD.alloc _)) (by have:=Am.o;simp;omega) (GD.alloc _).size ?_;intro a3 c3 q3 ho3 hg3 hb3;try simp only [iO,List.nil_append] at ho3
            try simp only [iO] at hb3
            try simp only [iO]
            have G3:=bn (w0:=uF) (GD.alloc _) hg3 (d_ (φ ZD.o));have B3:=η (dW (B:=uF.heap.size) (GD.alloc _).size hb3 (d_ (φ ZD.o)));have nC:=η ho3;have oq:=η hg3;clear ho3 hg3 hb3;refine HK.o _ _ ⟨fun _=>HS.o _ G3,?_⟩;clear HK K;try simp only [aK]
            refine bO 7 κ rfl ?_;intro K HK;try simp only [aV]
            go_simp;refine HK.o _ _ ⟨fun _=>HS.o _ (G3.alloc _),?_⟩;clear HK K;try simp only [aK]
            refine bO 8 κ rfl ?_;intro K HK;refine aC rfl ?_;try simp only [aV]
            refine dD (l:=h.log) (m:=[⟨6,q.deed,[]⟩]) (v:=ς a3 (h.log.length) c3) jv rfl eY ε (.tmp 130) (.tmp 134) rfl rfl ((nC.o).grow ((Grow.refl _).alloc _)) rfl ((Src.bQ (T:=Ty.rc) (x:=⟨6,q.deed,[]⟩) (c:=c) (cs:=#[ι 6,ι q.deed,()]) (show Ty.rc.R c _ (⟨6,q.deed,[]⟩:Rc) from⟨_,rfl,(show I64 6 from by unfold I64;decide),lI.o.1,Sl.nil _ _⟩) _ _ σ)) (by have:=Am.o;simp;omega) (G3.alloc _).size ?_;intro a8 c8 q8 kV rX hb8;try simp only [iO] at kV
            try simp only [iO] at hb8
            try simp only [iO]
            have G8:=bn (w0:=uF) (G3.alloc _) rX B3.o;have B8:=η (dW (B:=uF.heap.size) (G3.alloc _).size hb8 B3.o);have qX:=η kV;have oU:=η rX;clear kV rX hb8;refine HK.o _ _ ⟨fun _=>HS.o _ G8,?_⟩;clear HK K;try simp only [aK]
            refine bO 9 κ rfl ?_;intro K HK;try simp only [aV]
            go_simp;refine HK.o _ _ ⟨fun _=>HS.o _ G8,?_⟩;clear HK K;try simp only [aK]
            refine bO 10 κ rfl ?_;intro K HK;refine aC rfl ?_;try simp only [aV]
            refine aU (.tmp 136) (.tmp 135) (v:=ς a8 (h.log.length+1) c8) (new:=#[ς a8 (h.log.length+1) c8,ι h.aG,ι h.next,ς ao so.length co]) rfl rfl ρ ρ (aj oM.o.row G8) nT σ ρ ρ ?_;intro X4 ND g17;have BD:=η (iJ.Aq (oM.o.later G8) [⟨6,q.deed,[]⟩] g17 ND (by
             have h9:=oM.o.qN ε (jQ (HC.o.trans G1.o.sub)) qX.o;simpa using h9))
            have zk:=η (aH (aj Gp.o G8) g17 (by intro e;have:=Option.some.inj e;have:=UL.o;have:=UW.o.size;omega));clear ND g17;refine HK.o _ _ ⟨fun h=>absurd rfl h,?_⟩;clear HK K;try simp only [aK]
            refine aO κ ?_;have uG:Hid (iJ c w wz X4 h ⟨so,[⟨6,q.deed,[]⟩],[],true⟩ _ _ _):=η (BD.o.kW BD.o.says);go_wp2;go_roundw
            case rel=>exact⟨k+1,_,_,δ,by go_num,by rw [qI.o,HST.o],by rw [qI.o,HST.o];exact uG.o⟩
            case measure=>simp [intOf];omega
           ·intro K HK
            try simp only [aV]
            go_simp;refine HK.o _ _ ⟨fun _=>HS.o _ ((GD.alloc _).alloc _),?_⟩;clear HK K;try simp only [aK]
            refine bO 3 κ rfl ?_;intro K HK;refine aC rfl ?_;try simp only [aV]
            refine dD (l:=[]) (m:=h.log) (v:=ς (some ⟨wd.heap.size,0,none⟩) 0 0) jv rfl eY ε (.tmp 127) (.tmp 129) rfl rfl (((aI.jw Ty.rc c _ uF.heap.size _ (φ ZD.o) σ)).grow ((Grow.refl _).alloc _)) rfl (Ql.o _ ((GD.alloc _).alloc _)) (by have:=Am.o;simp;omega) ((GD.alloc _).alloc _).size ?_;intro a3 c3 q3 ho3 hg3 hb3;try simp only [iO,List.nil_append] at ho3
            try simp only [iO] at hb3
            try simp only [iO]
            have G3:=bn (w0:=uF) ((GD.alloc _).alloc _) hg3 (d_ (φ ZD.o));have B3:=η (dW (B:=uF.heap.size) ((GD.alloc _).alloc _).size hb3 (d_ (φ ZD.o)));have nC:=η ho3;have oq:=η hg3;clear ho3 hg3 hb3;refine HK.o _ _ ⟨fun _=>HS.o _ G3,?_⟩;clear HK K;try simp only [aK]
            refine bO 8 κ rfl ?_;intro K HK;refine aC rfl ?_;try simp only [aV]
            refine dD (l:=h.log) (m:=[⟨6,q.deed,[]⟩]) (v:=ς a3 (h.log.length) c3) jv rfl eY ε (.tmp 130) (.tmp 134) rfl rfl (nC.o) rfl (((Src.bQ (T:=Ty.rc) (x:=⟨6,q.deed,[]⟩) (c:=c) (cs:=#[ι 6,ι q.deed,()]) (show Ty.rc.R c _ (⟨6,q.deed,[]⟩:Rc) from⟨_,rfl,(show I64 6 from by unfold I64;decide),lI.o.1,Sl.nil _ _⟩) _ _ σ)).kept oq.o (by simp [Value.ownBlock])) (by have:=Am.o;simp;omega) G3.size ?_;intro a8 c8 q8 kV rX hb8;try simp only [iO] at kV
            try simp only [iO] at hb8
            try simp only [iO]
            have G8:=bn (w0:=uF) G3 rX B3.o;have B8:=η (dW (B:=uF.heap.size) G3.size hb8 B3.o);have qX:=η kV;have oU:=η rX;clear kV rX hb8;refine HK.o _ _ ⟨fun _=>HS.o _ G8,?_⟩;clear HK K;try simp only [aK]
            refine bO 9 κ rfl ?_;intro K HK;try simp only [aV]
            go_simp;refine HK.o _ _ ⟨fun _=>HS.o _ G8,?_⟩;clear HK K;try simp only [aK]
            refine bO 10 κ rfl ?_;intro K HK;refine aC rfl ?_;try simp only [aV]
            refine aU (.tmp 136) (.tmp 135) (v:=ς a8 (h.log.length+1) c8) (new:=#[ς a8 (h.log.length+1) c8,ι h.aG,ι h.next,ς ao so.length co]) rfl rfl ρ ρ (aj oM.o.row G8) nT σ ρ ρ ?_;intro X4 ND g17;have BD:=η (iJ.Aq (oM.o.later G8) [⟨6,q.deed,[]⟩] g17 ND (by
             have h9:=oM.o.qN ε (jQ (HC.o.trans G1.o.sub)) qX.o;simpa using h9))
            have zk:=η (aH (aj Gp.o G8) g17 (by intro e;have:=Option.some.inj e;have:=UL.o;have:=UW.o.size;omega));clear ND g17;refine HK.o _ _ ⟨fun h=>absurd rfl h,?_⟩;clear HK K;try simp only [aK]
            refine aO κ ?_;have uG:Hid (iJ c w wz X4 h ⟨so,[⟨6,q.deed,[]⟩],[],true⟩ _ _ _):=η (BD.o.kW BD.o.says);go_wp2;go_roundw
            case rel=>exact⟨k+1,_,_,δ,by go_num,by rw [qI.o,HST.o],by rw [qI.o,HST.o];exact uG.o⟩
            case measure=>simp [intOf];omega
          ·intro K HK
           try simp only [aV]
           go_simp;refine HK.o _ _ ⟨fun _=>HS.o _ (GD.alloc _),?_⟩;clear HK K;try simp only [aK]
           refine bO 0 κ rfl ?_;intro K HK;try simp only [aV]
           go_simp;refine HK.o _ _ ⟨fun _=>HS.o _ ((GD.alloc _).alloc _),?_⟩;clear HK K;try simp only [aK]
           refine bO 3 κ rfl ?_;intro K HK;refine aC rfl ?_;try simp only [aV]
           refine dD (l:=[]) (m:=h.log) (v:=ς (some ⟨wd.heap.size+1,0,none⟩) 0 0) jv rfl eY ε (.tmp 127) (.tmp 129) rfl rfl ((aI.jw Ty.rc c _ uF.heap.size _ (φ ZD.o) σ)) rfl (Ql.o _ ((GD.alloc _).alloc _)) (by have:=Am.o;simp;omega) ((GD.alloc _).alloc _).size ?_;intro a3 c3 q3 ho3 hg3 hb3;try simp only [iO,List.nil_append] at ho3
           try simp only [iO] at hb3
           try simp only [iO]
           have G3:=bn (w0:=uF) ((GD.alloc _).alloc _) hg3 (d_ (φ ZD.o));have B3:=η (dW (B:=uF.heap.size) ((GD.alloc _).alloc _).size hb3 (d_ (φ ZD.o)));have nC:=η ho3;have oq:=η hg3;clear ho3 hg3 hb3;refine HK.o _ _ ⟨fun _=>HS.o _ G3,?_⟩;clear HK K;try simp only [aK]
           refine bO 8 κ rfl ?_;intro K HK;refine aC rfl ?_;try simp only [aV]
           refine dD (l:=h.log) (m:=[⟨6,q.deed,[]⟩]) (v:=ς a3 (h.log.length) c3) jv rfl eY ε (.tmp 130) (.tmp 134) rfl rfl (nC.o) rfl ((((Src.bQ (T:=Ty.rc) (x:=⟨6,q.deed,[]⟩) (c:=c) (cs:=#[ι 6,ι q.deed,()]) (show Ty.rc.R c _ (⟨6,q.deed,[]⟩:Rc) from⟨_,rfl,(show I64 6 from by unfold I64;decide),lI.o.1,Sl.nil _ _⟩) _ _ σ)).grow ((Grow.refl _).alloc _)).kept oq.o (by simp [Value.ownBlock])) (by have:=Am.o;simp;omega) G3.size ?_;intro a8 c8 q8 kV rX hb8;try simp only [iO] at kV
           try simp only [iO] at hb8
           try simp only [iO]
           have G8:=bn (w0:=uF) G3 rX B3.o;have B8:=η (dW (B:=uF.heap.size) G3.size hb8 B3.o);have qX:=η kV;have oU:=η rX;clear kV rX hb8;refine HK.o _ _ ⟨fun _=>HS.o _ G8,?_⟩;clear HK K;try simp only [aK]
           refine bO 9 κ rfl ?_;intro K HK;try simp only [aV]
           go_simp;refine HK.o _ _ ⟨fun _=>HS.o _ G8,?_⟩;clear HK K;try simp only [aK]
           refine bO 10 κ rfl ?_;intro K HK;refine aC rfl ?_;try simp only [aV]
           refine aU (.tmp 136) (.tmp 135) (v:=ς a8 (h.log.length+1) c8) (new:=#[ς a8 (h.log.length+1) c8,ι h.aG,ι h.next,ς ao so.length co]) rfl rfl ρ ρ (aj oM.o.row G8) nT σ ρ ρ ?_;intro X4 ND g17;have BD:=η (iJ.Aq (oM.o.later G8) [⟨6,q.deed,[]⟩] g17 ND (by
            have h9:=oM.o.qN ε (jQ (HC.o.trans G1.o.sub)) qX.o;simpa using h9))
           have zk:=η (aH (aj Gp.o G8) g17 (by intro e;have:=Option.some.inj e;have:=UL.o;have:=UW.o.size;omega));clear ND g17;refine HK.o _ _ ⟨fun h=>absurd rfl h,?_⟩;clear HK K;try simp only [aK]
           refine aO κ ?_;have uG:Hid (iJ c w wz X4 h ⟨so,[⟨6,q.deed,[]⟩],[],true⟩ _ _ _):=η (BD.o.kW BD.o.says);go_wp2;go_roundw
           case rel=>exact⟨k+1,_,_,δ,by go_num,by rw [qI.o,HST.o],by rw [qI.o,HST.o];exact uG.o⟩
           case measure=>simp [intOf];omega
         |false=>
          have Yk:=η cP.o.symm;have HST:Hid (dQ m ⟨so,[],[],false⟩ q=⟨so++ [⟨q.deed,q.parts,true,q.heard++ [m.house]⟩],[],[],true⟩):=η (by rw [HAT.o,Um HA.o HB.o aM.o Yk.o];try simp);obtain⟨e0,e1,e2,e3⟩:=cells4 Gp.o;have zO:BO<uF.heap.size:=(γ Gp.o);have tJ:=η ((oM.o.old 0 δ).trans R1.o);have rZ:=η ((oM.o.old 1 δ).trans R2.o);obtain⟨y0,y1,y2,y3⟩:=cells4 tJ.o;obtain⟨d0,d1,d2,d3⟩:=cells4 rZ.o;obtain⟨x0,x1,x2,x3⟩:=cells4 oM.o.row;have zz:=oM.o.size;have zA:w.heap.size<uF:=by omega
          have zB:w.heap.size+1<uF:=by omega
          have zX:w.heap.size+3<uF:=by omega
          have nU:Hid (iJ c w wz uF h ⟨so,[],[],true⟩ _ _ _):=η (oM.o.kW oM.o.says);go_wp2_with (first|(at_builtin;refine aZ (c:=fc c wz uF [(Value.slice ao so.length co).ownBlock]) (base:=w.heap.size+4) (l:=so) (m:=[⟨q.deed,q.parts,true,q.heard++ [m.house]⟩]) h_ rfl fZ ε rfl (.tmp 152) (.tmp 154) rfl rfl ?own rfl (Src.bQ (T:=Ty.opn) (x:=⟨q.deed,q.parts,true,q.heard++ [m.house]⟩) (cs:=#[ι q.deed,ς qw q.parts.length cp2,.bool true,ς a12 (q.heard.length+1) c12]) ?d0 _ _ ?d1) ?d2 ?d3 ?_))
          case own=>exact aI.grow nU.o.opn ((Grow.refl _).alloc _)
          case d0=>exact⟨_,_,rfl,lI.o.1,lI.o.2.1.mono (jQ (HC.o.trans G1.o.sub)),P7.o.qN ε (jQ (HC.o.trans G1.o.sub)) mU.o⟩
          case d1=>first|rfl|simp
          case d2=>have:=HSL.o;simp;omega
          case d3=>have:=nU.o.size;simp;omega
          intro a9 c9 w9 fB eF gI;have R9:=η (aH (aj nU.o.row ((Grow.refl _).alloc (.cells #[ι q.deed,ς qw q.parts.length cp2,.bool true,ς a12 (q.heard.length+1) c12] 58))) eF (by intro e;have:=(nU.o.opn.lt _ e.symm).1;omega));have iF:=η fB;have jL:=η eF;have sU:=η gI;clear fB eF gI;go_wp2_with (first|(refine aN rfl (.tmp 156) (.tmp 155) (v:=ς a9 (so.length+1) c9) (new:=#[ς Yq nl Yr,ι h.aG,ι h.next,ς a9 (so.length+1) c9]) rfl rfl ρ ρ R9.o eH σ ρ ρ ?_))
          intro w10 r10 g10;have uG:=η (iJ.app nU.o ⟨q.deed,q.parts,true,q.heard++ [m.house]⟩ ((Grow.refl _).alloc (.cells #[ι q.deed,ς qw q.parts.length cp2,.bool true,ς a12 (q.heard.length+1) c12] 58)) jL.o (sU.o.imp_right fun⟨g,e,hge⟩=>⟨g,e,by simpa using hge⟩) iF.o g10 r10);clear r10 g10;go_wp2;go_roundw
          case rel=>exact⟨k+1,_,_,δ,by go_num,by rw [qI.o,HST.o],by rw [qI.o,HST.o];exact uG.o⟩
          case measure=>simp [intOf];omega
       |false=>
        have aM:=η (of_decide_eq_false NI.o.symm);obtain⟨CI,cS⟩:∃b:Bool,b=decide (m.kind=7/\q.dec=true):=⟨_,rfl⟩;have NJ:=η cS;clear cS;go_upto_region 25 with fail
        obtain⟨e0,e1,e2,e3⟩:=cells4 tK.o;have zO:BO<sD.heap.size:=(γ tK.o);have tJ:=η ((lC.o.old 0 δ).trans R1.o);have rZ:=η ((lC.o.old 1 δ).trans R2.o);obtain⟨y0,y1,y2,y3⟩:=cells4 tJ.o;obtain⟨d0,d1,d2,d3⟩:=cells4 rZ.o;obtain⟨x0,x1,x2,x3⟩:=cells4 lC.o.row;have zz:=lC.o.size;have zA:w.heap.size<sD:=by omega
        have zB:w.heap.size+1<sD:=by omega
        have zX:w.heap.size+3<sD:=by omega
        go_cut [137,158,159,160,161,162,163,164,165,166,167,168,169,170,171,172] from 138 (fun VM AA AB AL AO AP AQ AU AV AX AY AZ A8 A_ Ba Bc wc=>VM=.bool CI/\(AA=undef/\AB=undef/\AL=undef/\AO=undef/\AP=undef/\AQ=undef/\AU=undef/\AV=undef/\AX=undef/\AY=undef/\AZ=undef/\A8=undef/\A_=undef/\Ba=undef/\Bc=undef)/\sD=wc)
        case first=>
         by_cases hk:m.kind=7
         ·have hkb:(m.kind==7)=true:=by simp [hk]
          have HK:=η hk;clear hk;obtain⟨db,Kw⟩:∃b,b=q.dec:=⟨_,rfl⟩;rw [<-Kw] at e2;have X3:=η Kw;clear Kw;cases db with
          |true=>
           go_wp2;go_meet
           case rel=>exact⟨by have h1:=HK.o;have h2:=X3.o.symm;rw [NJ.o];(try rw [Yt.o]);simp [h1,h2],⟨rfl,rfl,rfl,rfl,rfl,rfl,rfl,rfl,rfl,rfl,rfl,rfl,rfl,rfl,rfl⟩,rfl⟩
          |false=>
           go_wp2;go_meet
           case rel=>exact⟨by have h1:=HK.o;have h2:=X3.o.symm;rw [NJ.o];(try rw [Yt.o]);simp [h1,h2],⟨rfl,rfl,rfl,rfl,rfl,rfl,rfl,rfl,rfl,rfl,rfl,rfl,rfl,rfl,rfl⟩,rfl⟩
         ·have hkb:(m.kind==7)=false:=by simp [hk]
          have HK:=η hk;clear hk;go_wp2;go_meet
          case rel=>exact⟨by have h1:=HK.o;rw [NJ.o];simp [h1],⟨rfl,rfl,rfl,rfl,rfl,rfl,rfl,rfl,rfl,rfl,rfl,rfl,rfl,rfl,rfl⟩,rfl⟩
        case rest=>
        obtain⟨rfl,⟨rfl,rfl,rfl,rfl,rfl,rfl,rfl,rfl,rfl,rfl,rfl,rfl,rfl,rfl,rfl⟩,rfl⟩:=hcut;clear e0 e1 e2 e3 zO y0 y1 y2 y3 d0 d1 d2 d3 x0 x1 x2 x3 zz zA zB zX tJ rZ;cases CI with
        |true=>
         skip
         have HD4:=η (of_decide_eq_true NJ.o.symm);have HST:Hid (dQ m ⟨so,[],[],false⟩ q=⟨so++ [q],[],[⟨4,m.deed,m.house,[]⟩],true⟩):=η (by rw [HAT.o,Un HA.o HB.o aM.o HD4.o];try simp);obtain⟨e0,e1,e2,e3⟩:=cells4 tK.o;have zO:BO<sD.heap.size:=(γ tK.o);have tJ:=η ((lC.o.old 0 δ).trans R1.o);have rZ:=η ((lC.o.old 1 δ).trans R2.o);obtain⟨y0,y1,y2,y3⟩:=cells4 tJ.o;obtain⟨d0,d1,d2,d3⟩:=cells4 rZ.o;obtain⟨x0,x1,x2,x3⟩:=cells4 lC.o.row;have zz:=lC.o.size;have zA:w.heap.size<sD:=by omega
         have zB:w.heap.size+1<sD:=by omega
         have zX:w.heap.size+3<sD:=by omega
         obtain⟨vX,JW⟩:∃y:World,y=sD.alloc (.cells #[ι 4,ι m.deed,ι m.house,()] 85):=⟨_,rfl⟩;have y_:Hid (Grow sD vX):=η (by rw [JW];exact(Grow.refl _).alloc _);have iq:Hid (iJ c w wz vX h ⟨so,[],[⟨4,m.deed,m.house,[]⟩],true⟩ _ _ (ς (some ⟨sD.heap.size,0,none⟩) 1 1)):=η ((lC.o.later y_.o).kW (lC.o.qN (T:=Ty.ms) (d:=fun _=>none) ε (fun _ _ e9=>by cases e9) (by
          rw [JW];exact aI.lit (T:=Ty.ms) (c:=fun _=>none) sD [[ι 4,ι m.deed,ι m.house,()]] rfl rfl (Nat.le_refl _) (by simp [maxLen]) rfl ⟨⟨_,rfl,(show I64 4 from by unfold I64;decide),yU.o.2.1,yU.o.2.2,Sl.nil _ _⟩,trivial⟩)))
         go_upto_region 27 with fail
         rw [<-JW];clear JW;have Fq:=η (aj tK.o y_.o);clear e0 e1 e2 e3 zO y0 y1 y2 y3 d0 d1 d2 d3 x0 x1 x2 x3 zz zA zB zX tJ rZ;obtain⟨e0,e1,e2,e3⟩:=cells4 Fq.o;have zO:BO<vX.heap.size:=(γ Fq.o);have tJ:=η ((iq.o.old 0 δ).trans R1.o);have rZ:=η ((iq.o.old 1 δ).trans R2.o);obtain⟨y0,y1,y2,y3⟩:=cells4 tJ.o;obtain⟨d0,d1,d2,d3⟩:=cells4 rZ.o;obtain⟨x0,x1,x2,x3⟩:=cells4 iq.o.row;have zz:=iq.o.size;have zA:w.heap.size<vX:=by omega
         have zB:w.heap.size+1<vX:=by omega
         have zX:w.heap.size+3<vX:=by omega
         go_wp2_with (first|(at_builtin;refine aZ (c:=fc c wz vX [(Value.slice ao so.length co).ownBlock]) (base:=w.heap.size+4) (l:=so) (m:=[q]) h_ rfl fZ ε rfl (.tmp 152) (.tmp 154) rfl rfl ?own rfl (Src.bQ (T:=Ty.opn) (x:=q) (cs:=#[ι q.deed,ς qw q.parts.length cp2,.bool q.dec,ς ah q.heard.length ch]) ?d0 _ _ ?d1) ?d2 ?d3 ?_))
         case own=>exact aI.grow iq.o.opn ((Grow.refl _).alloc _)
         case d0=>exact⟨_,_,rfl,lI.o.1,lI.o.2.1.mono (jQ (HC.o.trans G1.o.sub)),lI.o.2.2.mono (jQ (HC.o.trans G1.o.sub))⟩
         case d1=>first|rfl|simp
         case d2=>have:=HSL.o;simp;omega
         case d3=>have:=iq.o.size;simp;omega
         intro a9 c9 w9 fB eF gI;have R9:=η (aH (aj iq.o.row ((Grow.refl _).alloc (.cells #[ι q.deed,ς qw q.parts.length cp2,.bool q.dec,ς ah q.heard.length ch] 58))) eF (by intro e;have:=(iq.o.opn.lt _ e.symm).1;omega));have iF:=η fB;have jL:=η eF;have sU:=η gI;clear fB eF gI;go_wp2_with (first|(refine aN rfl (.tmp 156) (.tmp 155) (v:=ς a9 (so.length+1) c9) (new:=#[ς Yq nl Yr,ι h.aG,ι h.next,ς a9 (so.length+1) c9]) rfl rfl ρ ρ R9.o eH σ ρ ρ ?_))
         intro w10 r10 g10;have uG:=η (iJ.app iq.o q ((Grow.refl _).alloc (.cells #[ι q.deed,ς qw q.parts.length cp2,.bool q.dec,ς ah q.heard.length ch] 58)) jL.o (sU.o.imp_right fun⟨g,e,hge⟩=>⟨g,e,by simpa using hge⟩) iF.o g10 r10);clear r10 g10;go_wp2;go_roundw
         case rel=>exact⟨k+1,_,_,δ,by go_num,by rw [qI.o,HST.o],by rw [qI.o,HST.o];exact uG.o⟩
         case measure=>simp [intOf];omega
        |false=>
         skip
         have HD4:=η (of_decide_eq_false NJ.o.symm);have HST:Hid (dQ m ⟨so,[],[],false⟩ q=⟨so++ [q],[],[],true⟩):=η (by rw [HAT.o,Px HA.o HB.o aM.o HD4.o];try simp);obtain⟨e0,e1,e2,e3⟩:=cells4 tK.o;have zO:BO<sD.heap.size:=(γ tK.o);have tJ:=η ((lC.o.old 0 δ).trans R1.o);have rZ:=η ((lC.o.old 1 δ).trans R2.o);obtain⟨y0,y1,y2,y3⟩:=cells4 tJ.o;obtain⟨d0,d1,d2,d3⟩:=cells4 rZ.o;obtain⟨x0,x1,x2,x3⟩:=cells4 lC.o.row;have zz:=lC.o.size;have zA:w.heap.size<sD:=by omega
         have zB:w.heap.size+1<sD:=by omega
         have zX:w.heap.size+3<sD:=by omega
         have nU:Hid (iJ c w wz sD h ⟨so,[],[],true⟩ _ _ _):=η (lC.o.kW lC.o.says);go_wp2_with (first|(at_builtin;refine aZ (c:=fc c wz sD [(Value.slice ao so.length co).ownBlock]) (base:=w.heap.size+4) (l:=so) (m:=[q]) h_ rfl fZ ε rfl (.tmp 152) (.tmp 154) rfl rfl ?own rfl (Src.bQ (T:=Ty.opn) (x:=q) (cs:=#[ι q.deed,ς qw q.parts.length cp2,.bool q.dec,ς ah q.heard.length ch]) ?d0 _ _ ?d1) ?d2 ?d3 ?_))
         case own=>exact aI.grow nU.o.opn ((Grow.refl _).alloc _)
         case d0=>exact⟨_,_,rfl,lI.o.1,lI.o.2.1.mono (jQ (HC.o.trans G1.o.sub)),lI.o.2.2.mono (jQ (HC.o.trans G1.o.sub))⟩
         case d1=>first|rfl|simp
         case d2=>have:=HSL.o;simp;omega
         case d3=>have:=nU.o.size;simp;omega
         intro a9 c9 w9 fB eF gI;have R9:=η (aH (aj nU.o.row ((Grow.refl _).alloc (.cells #[ι q.deed,ς qw q.parts.length cp2,.bool q.dec,ς ah q.heard.length ch] 58))) eF (by intro e;have:=(nU.o.opn.lt _ e.symm).1;omega));have iF:=η fB;have jL:=η eF;have sU:=η gI;clear fB eF gI;go_wp2_with (first|(refine aN rfl (.tmp 156) (.tmp 155) (v:=ς a9 (so.length+1) c9) (new:=#[ς Yq nl Yr,ι h.aG,ι h.next,ς a9 (so.length+1) c9]) rfl rfl ρ ρ R9.o eH σ ρ ρ ?_))
         intro w10 r10 g10;have uG:=η (iJ.app nU.o q ((Grow.refl _).alloc (.cells #[ι q.deed,ς qw q.parts.length cp2,.bool q.dec,ς ah q.heard.length ch] 58)) jL.o (sU.o.imp_right fun⟨g,e,hge⟩=>⟨g,e,by simpa using hge⟩) iF.o g10 r10);clear r10 g10;go_wp2;go_roundw
         case rel=>exact⟨k+1,_,_,δ,by go_num,by rw [qI.o,HST.o],by rw [qI.o,HST.o];exact uG.o⟩
         case measure=>simp [intOf];omega
   ·have hdb:(q.deed !=m.deed)=true:=by simp [hd]
    have HST:Hid (dQ m ⟨so,sr,ss,sk⟩ q=⟨so++ [q],sr,ss,sk⟩):=η (MQ (fun h=>hd h.1));clear hd;go_wp2_with (first|(at_builtin;refine aZ (c:=fc c wz wo [(Value.slice ao so.length co).ownBlock]) (base:=w.heap.size+4) (l:=so) (m:=[q]) h_ rfl fZ ε rfl (.tmp 37) (.tmp 39) rfl rfl ?own rfl (Src.bQ (T:=Ty.opn) (x:=q) (cs:=#[ι q.deed,ς qw q.parts.length cp2,.bool q.dec,ς ah q.heard.length ch]) ?d0 _ _ ?d1) ?d2 ?d3 ?_))
    case own=>exact aI.grow oP.o.opn ((Grow.refl _).alloc _)
    case d0=>exact⟨_,_,rfl,lI.o.1,lI.o.2.1.mono (jQ (HC.o.trans G1.o.sub)),lI.o.2.2.mono (jQ (HC.o.trans G1.o.sub))⟩
    case d1=>first|rfl|simp
    case d2=>have:=HSL.o;simp;omega
    case d3=>have:=oP.o.size;simp;omega
    intro a9 c9 w9 fB eF gI;have R9:=η (aH (aj oP.o.row ((Grow.refl _).alloc (.cells #[ι q.deed,ς qw q.parts.length cp2,.bool q.dec,ς ah q.heard.length ch] 58))) eF (by intro e;have:=(oP.o.opn.lt _ e.symm).1;omega));have iF:=η fB;have jL:=η eF;have sU:=η gI;clear fB eF gI;go_wp2_with (first|(refine aN rfl (.tmp 41) (.tmp 40) (v:=ς a9 (so.length+1) c9) (new:=#[ς Yq nl Yr,ι h.aG,ι h.next,ς a9 (so.length+1) c9]) rfl rfl ρ ρ R9.o eH σ ρ ρ ?_))
    intro w10 r10 g10;have uG:=η (iJ.app oP.o q ((Grow.refl _).alloc (.cells #[ι q.deed,ς qw q.parts.length cp2,.bool q.dec,ς ah q.heard.length ch] 58)) jL.o (sU.o.imp_right fun⟨g,e,hge⟩=>⟨g,e,by simpa using hge⟩) iF.o g10 r10);clear r10 g10;go_wp2;go_roundw
    case rel=>exact⟨k+1,_,_,δ,by go_num,by rw [qI.o,HST.o],by rw [qI.o,HST.o];exact uG.o⟩
    case measure=>simp [intOf];omega
  ·have EM:=η (WH h m)
   rw [List.take_of_length_le δ] at h8 hbx;have A0t:Hid ((hgo m h.opn).recs.length<=1):=η (Rn m h.opn ⟨[],[],[],false⟩ σ);clear hel;generalize hgo m h.opn=s at*;obtain⟨so,sr,ss,sk⟩:=s;have h8':_=Value.bool sk:=h8;subst h8';have FZ:=hbx.opn;have Fg:=hbx.says;have nY:=hbx.log;dsimp only at FZ Fg nY;obtain⟨ao,co,rfl⟩:=FZ.form;obtain⟨av,cv,rfl,-⟩:=id Fg;obtain⟨Yq,Yr,rfl,-⟩:=id nY;clear h8 FZ Fg nY;generalize (h.log++sr).length=nl at*;have oP:=η hbx;clear hbx;have tJ:=η ((oP.o.old 0 δ).trans R1.o);have rZ:=η ((oP.o.old 1 δ).trans R2.o);obtain⟨y0,y1,y2,y3⟩:=cells4 tJ.o;obtain⟨d0,d1,d2,d3⟩:=cells4 rZ.o;obtain⟨x0,x1,x2,x3⟩:=cells4 oP.o.row;have zz:=oP.o.size;have zA:w.heap.size<wr:=by omega
   have zB:w.heap.size+1<wr:=by omega
   have zX:w.heap.size+3<wr:=by omega
   cases sk with
   |true=>
    have HM:Hid (fG h m=ss):=η (by rw [EM.o.2,if_neg σ]);have CK:=η ((oP.o.old 2 δ).trans R3.o);go_wp2_with (first|(refine wpList_store_row rfl (.tmp 4) (.tmp 171) rfl rfl rfl CK.o bU rfl rfl ?_))
    intro w7 r7 g7;obtain⟨p0,p1,p2,p3⟩:=cells4 r7;clear y0 y1 y2 y3 d0 d1 d2 d3 x0 x1 x2 x3 zz zA zB zX tJ rZ;go_wp2;refine bodyPost_ret (v:=.tuple #[.agg #[ς Yq nl Yr,ι h.aG,ι h.next,ς ao so.length co],ς av ss.length cv]) (by simp [results,Tryz.results55,go_sem,p0,p1,p2,p3]) rfl ?_;have hz:=HZ.o;have hsub:Sub (fc c wz wr [(Value.slice ao so.length co).ownBlock]) (ov c w w7):=Pv HC.o G1.o g7 δ;rw [EM.o.1,HM.o];refine⟨_,_,rfl,⟨_,rfl,_,_,rfl,oP.o.log.mono hsub,nG.o.1,nG.o.2,((oP.o.opn.kept g7 (bJ oP.o.opn δ)).slc ε hsub fun a9 VS=>bH δ)⟩,oP.o.says.mono hsub,oP.o.grow.grown g7 (fun q9 CL=>by have:=Option.some.inj CL;omega)⟩
   |false=>
    by_cases hk:m.kind=7
    ·have hkb:(m.kind==7)=true:=by simp [hk]
     have HM:Hid (fG h m=[⟨5,m.deed,m.house,[]⟩]):=η (by rw [EM.o.2,if_pos ⟨rfl,hk⟩]);clear hk;obtain⟨vX,JW⟩:∃y:World,y=wr.alloc (.cells #[ι 5,ι m.deed,ι m.house,()] 85):=⟨_,rfl⟩;have y_:Hid (Grow wr vX):=η (by rw [JW];exact(Grow.refl _).alloc _);have iq:Hid (iJ c w wz vX h ⟨so,sr,[⟨5,m.deed,m.house,[]⟩],true⟩ _ _ (ς (some ⟨wr.heap.size,0,none⟩) 1 1)):=η ((oP.o.later y_.o).kW (oP.o.qN (T:=Ty.ms) (d:=fun _=>none) ε (fun _ _ e9=>by cases e9) (by
      rw [JW];exact aI.lit (T:=Ty.ms) (c:=fun _=>none) wr [[ι 5,ι m.deed,ι m.house,()]] rfl rfl (Nat.le_refl _) (by simp [maxLen]) rfl ⟨⟨_,rfl,(show I64 5 from by unfold I64;decide),yU.o.2.1,yU.o.2.2,Sl.nil _ _⟩,trivial⟩)))
     go_upto_region 31 with fail
     rw [<-JW];clear JW;clear y0 y1 y2 y3 d0 d1 d2 d3 x0 x1 x2 x3 zz zA zB zX tJ rZ;have tJ:=η ((iq.o.old 0 δ).trans R1.o);have rZ:=η ((iq.o.old 1 δ).trans R2.o);obtain⟨y0,y1,y2,y3⟩:=cells4 tJ.o;obtain⟨d0,d1,d2,d3⟩:=cells4 rZ.o;obtain⟨x0,x1,x2,x3⟩:=cells4 iq.o.row;have zz:=iq.o.size;have zA:w.heap.size<vX:=by omega
     have zB:w.heap.size+1<vX:=by omega
     have zX:w.heap.size+3<vX:=by omega
     have CK:=η ((iq.o.old 2 δ).trans R3.o);go_wp2_with (first|(refine wpList_store_row rfl (.tmp 4) (.tmp 171) rfl rfl rfl CK.o bU rfl rfl ?_))
     intro w7 r7 g7;obtain⟨p0,p1,p2,p3⟩:=cells4 r7;clear y0 y1 y2 y3 d0 d1 d2 d3 x0 x1 x2 x3 zz zA zB zX tJ rZ;go_wp2;refine bodyPost_ret (v:=.tuple #[.agg #[ς Yq nl Yr,ι h.aG,ι h.next,ς ao so.length co],ς (some ⟨wr.heap.size,0,none⟩) 1 1]) (by simp [results,Tryz.results55,go_sem,p0,p1,p2,p3]) rfl ?_;have hz:=HZ.o;have hsub:Sub (fc c wz vX [(Value.slice ao so.length co).ownBlock]) (ov c w w7):=Pv HC.o G1.o g7 δ;rw [EM.o.1,HM.o];refine⟨_,_,rfl,⟨_,rfl,_,_,rfl,iq.o.log.mono hsub,nG.o.1,nG.o.2,((iq.o.opn.kept g7 (bJ iq.o.opn δ)).slc ε hsub fun a9 VS=>bH δ)⟩,iq.o.says.mono hsub,iq.o.grow.grown g7 (fun q9 CL=>by have:=Option.some.inj CL;omega)⟩
    ·have hkb:(m.kind==7)=false:=by simp [hk]
     have HM:Hid (fG h m=ss):=η (by rw [EM.o.2,if_neg (fun x=>hk x.2)]);clear hk;have CK:=η ((oP.o.old 2 δ).trans R3.o);go_wp2_with (first|(refine wpList_store_row rfl (.tmp 4) (.tmp 171) rfl rfl rfl CK.o bU rfl rfl ?_))
     intro w7 r7 g7;obtain⟨p0,p1,p2,p3⟩:=cells4 r7;clear y0 y1 y2 y3 d0 d1 d2 d3 x0 x1 x2 x3 zz zA zB zX tJ rZ;go_wp2;refine bodyPost_ret (v:=.tuple #[.agg #[ς Yq nl Yr,ι h.aG,ι h.next,ς ao so.length co],ς av ss.length cv]) (by simp [results,Tryz.results55,go_sem,p0,p1,p2,p3]) rfl ?_;have hz:=HZ.o;have hsub:Sub (fc c wz wr [(Value.slice ao so.length co).ownBlock]) (ov c w w7):=Pv HC.o G1.o g7 δ;rw [EM.o.1,HM.o];refine⟨_,_,rfl,⟨_,rfl,_,_,rfl,oP.o.log.mono hsub,nG.o.1,nG.o.2,((oP.o.opn.kept g7 (bJ oP.o.opn δ)).slc ε hsub fun a9 VS=>bH δ)⟩,oP.o.says.mono hsub,oP.o.grow.grown g7 (fun q9 CL=>by have:=Option.some.inj CL;omega)⟩
end Go.Proofs.YtocnmkefmgmkbaaGreat
