/- Parts of proofs, joined: U23, U25. No condition beside those that each theorem names. -/
import Derived.Test.YtocnmkefmgmkbaaGreatJW1b
import Derived.Test.YtocnmkefmgmkbaaGreatJW6a
import Derived.Test.YtocnmkefmgmkbaaGreatJW4b
import Derived.Test.YtocnmkefmgmkbaaGreatJWUa
import Derived.Test.YtocnmkefmgmkbaaGreatJWHa
import Derived.Test.YtocnmkefmgmkbaaGreatJW7a
import Derived.Test.YtocnmkefmgmkbaaGreatJW8a
import Derived.Test.YtocnmkefmgmkbaaGreatJWXa
set_option maxRecDepth 100000
set_option maxHeartbeats 40000000
namespace Go.Proofs.YtocnmkefmgmkbaaGreat
open Go.RowKit
theorem Cc {c:CM} {v vs:Value} {x:AW} {s:St} {n:Nat} {G:Reg} {k:Nat} (w:World) (hc:Sub c w.cell?) (hv:Of Ty.wd c v x) (hs:Of Ty.st c vs s) (hi:WI n G x) (hf:tu k x) (hk:k<=90000):
  Calls Tryz.prog 16 #[v,vs] w fun e w'=>∃v',e=.returned (.tuple #[v',ι (bI x s)])/\Of Ty.wd (ov c w w') v' (iD x s)/\Grow w w':=by
 obtain⟨kd,sn,sp⟩:=s;by_cases h1:kd=1
 ·subst h1
  by_cases hw:bD sp x.aA.length=0
  ·exact JJ w hc hv hs hi hf hk hw
  ·exact Gn w hc hv hs hi hf hk hw
 by_cases h2:kd=2
 ·subst h2
  cases ht:there x sn with
  |true=>exact NK w hc hv hs hi hf hk ht
  |false=>exact J5 w hc hv hs hi hf hk ht
 by_cases h3:kd=3
 ·subst h3
  cases ht:there x sn with
  |true=>exact NC w hc hv hs hi hf hk ht
  |false=>exact J6 w hc hv hs hi hf hk ht
 by_cases h4:kd=4
 ·subst h4
  cases ht:there x sn with
  |true=>exact JO w hc hv hs hi hf hk ht
  |false=>exact J7 w hc hv hs hi hf hk ht
 by_cases h5:kd=5
 ·subst h5
  by_cases hs3:sn=3
  ·exact J3 w hc hv hs hi hf hk hs3
  ·exact J4 w hc hv hs hi hf hk hs3
 by_cases h6:kd=6
 ·subst h6
  by_cases hs3:sn=3
  ·exact JK w hc hv hs hi hf hk hs3
  ·cases hh:oC x sn with
   |true=>exact JM w hc hv hs hi hf hk hh
   |false=>exact JL w hc hv hs hi hf hk hs3 hh
 by_cases h7:kd=7
 ·subst h7
  exact Nb w hc hv hs hi hf hk
 ·exact NP w hc hv hs hi hf hk δ
theorem ZU {c:CM} {W0 w:World} {X:List (Option Nat)} (h:Sub c w.cell?):Sub (fc c W0 w X) w.cell?:=fun a v e=>by
 unfold fc at e;split at e
 ·exact h _ _ e
 ·exact fF _ _ _ _ _ e
theorem ZW {c:CM} {W0 wr W W1:World} {X:List (Option Nat)} (h1:Grow wr W1) (h0:W0.heap.size<=W.heap.size) (hX:∀k,W.heap.size<=k->some k∉X):Sub (ov (fc c W0 wr X) W W1) (fc c W0 W1 X):=fun a v e=>by
 unfold ov at e;split at e
 ·exact qM h1 a v e
 ·rw [Pq δ (hX _ δ)];exact e
theorem Iu {c:CM} {v:Value} {l:List St} {n:Nat} (w:World) (hn:1<=n/\n<=3) (hc:Sub c w.cell?) (hv:Sl Ty.st c v l):
  Calls Tryz.prog 14 #[ι n,v] w fun e w'=>∃v1 v2,e=.returned (.tuple #[v1,v2])/\Of Ty.wd (ov c w w') v1 (jG (pI n) (l.take 150))/\Sl Ty.int (ov (fun _=>none) w w') v2 (kC (pI n) (l.take 150))/\Grow w w':=by
 have HC:=η hc;clear hc;obtain⟨a,cap,rfl,h1,h2,-,hel⟩:=hv;unfold maxLen at h2;have HN:=η hn;clear hn;obtain⟨wb,hwb⟩:∃y:World,y=w.alloc (.cells #[(),ι 0,ι 0,(),(),()] 33):=⟨_,rfl⟩;have RB:Hid (wb.heap[w.heap.size]? =some (.cells #[(),ι 0,ι 0,(),(),()] 33 (0,0))):=η (by rw [hwb];exact aF _ _);have GB0:Hid (Grow w wb):=η (by rw [hwb];exact(Grow.refl w).alloc _);have oA:Hid (wb.heap.size=w.heap.size+1):=η (by rw [hwb];simp);have HWB:=η hwb;clear hwb;go_enter Tryz.func14,Tryz.ntmps14;go_upto_region 1 with fail
 rw [<-HWB.o];clear HWB;go_wp2_with fail
 refine(Xl wb HN.o).mono ?_;rintro e w2 ⟨v2,rfl,hx2,hb2⟩;obtain⟨al,cl,ao,co,ah,ch,an,cn,rfl⟩:=hx2.fE;have UQ:Hid (Of Ty.wd (wo w.heap.size (ov c w w2)) _ (pI n)):=η (hx2.mono (fun a9 v9 e9=>by
  unfold ov at e9;split at e9
  ·cases e9
  ·unfold wo
   rw [if_neg (τ oA.o),bH (τ oA.o)];exact e9))
 have G2:=η (GB0.o.trans hb2);have RB2:=η (aj RB.o hb2);have HSW:Hid (w.heap.size<w2):=η (by have:=hb2.size;have:=oA.o;omega);have HC2:Hid (Sub c (wo w.heap.size (ov c w w2))):=η (uJ HC.o (Nat.le_refl _));clear hx2 hb2;obtain⟨x0,hx0⟩:∃y,y=pI n:=⟨_,rfl⟩;rw [<-hx0] at UQ ⊢;have HX0:=η hx0;clear hx0;go_upto_region 2 with fail
 obtain⟨wz,hwz⟩:∃y:World,y=w2.alloc (.cells #[ς al x0.head.log.length cl,ι x0.head.aG,ι x0.head.next,ς ao x0.head.opn.length co,ς ah x0.aA.length ch,ς an x0.net.length cn] 33):=⟨_,rfl⟩;obtain⟨B6,Jc⟩:∃y,y=w2.heap.size:=⟨_,rfl⟩;have GZ:Hid (Grow w2 wz):=η (by rw [hwz];exact(Grow.refl _).alloc _);have R6:Hid (wz.heap[B6]? =some (.cells #[ς al x0.head.log.length cl,ι x0.head.aG,ι x0.head.next,ς ao x0.head.opn.length co,ς ah x0.aA.length ch,ς an x0.net.length cn] 33 (0,0))):=η (by rw [hwz,Jc];exact aF _ _);have GJ:Hid (wz.heap.size=B6+1):=η (by rw [hwz,Jc];simp);have HB2:Hid (B6=w2.heap.size):=η Jc;rw [<-hwz,<-Jc];clear hwz Jc;go_wp2;go_loopw [8,20] (fun s8 i wr=>∃(k:Nat) (row:Array Value),k<=l.length/\k<=150/\i=ι k/\wr.heap[B6]? =some (.cells row 33 (0,0))/\Of Ty.wd (fc (wo w.heap.size (ov c w w2)) wz wr [s8.ownBlock]) (.agg row) (jG x0 (l.take k))/\aI Ty.int (fun _=>none) wr (B6+1) 34 s8 (kC x0 (l.take k))/\Grow w2 wr) (fun _ i _=>l.length - (intOf i).toNat)
 case atStart=>exact⟨0,_,δ,δ,rfl,R6.o,UQ.o.mono (jQ ((mO HC.o G2.o).trans GZ.o.sub)),aI.nil _ _ _ _ _,GZ.o⟩
 case round=>
  obtain⟨k,row,hk',hk5,rfl,hrow,hx,how,hb⟩:=hrel;have lI:Hid (I64 (0:Int)):=η fP;obtain⟨a8,c8,rfl⟩:=how.form;obtain⟨eU,eX,kN,kP,pM,cK,A7,BB,hrw⟩:=hx.fE;simp only [Value.agg.injEq] at hrw;subst hrw;have KH:Hid ((kC x0 (l.take k)).length<=150):=η (by rw [Ic,List.length_take];omega);have mY:Hid (∃G,WI n G (jG x0 (l.take k))):=η (by rw [HX0.o];obtain⟨G,hw,-⟩:=WI.Zi HN.o (l.take k);exact⟨G,hw⟩);have cC:Hid (tu k (jG x0 (l.take k))):=η (by rw [HX0.o];have h9:=tu.play n (l.take k) (tu.zero n);rw [List.length_take,Nat.min_eq_left hk',Nat.zero_add] at h9;exact h9);have yw:=η hrow;have HX:=η hx;have HOW:=η how;have HB:=η hb;have RZR:=η (aj RB2.o hb);have hBr:B6<wr.heap.size:=(γ hrow);have HCR:Hid (Sub (fc (wo w.heap.size (ov c w w2)) wz wr [(Value.slice a8 (kC x0 (l.take k)).length c8).ownBlock]) wr.cell?):=η (ZU ((mO HC.o G2.o).trans hb.sub));have X2:Hid (∀q,(Value.slice a8 (kC x0 (l.take k)).length c8).ownBlock=some q->B6+1<=q/\q<wr.heap.size):=η how.lt;clear hrow hx how hb;by_cases hlt:k<l.length
  ·obtain⟨b,o,vp,rfl,c0,c1,c2,i0,i1,hP⟩:=Sts.at_ hel k hlt
   obtain⟨ap,cp,rfl,-⟩:=id hP;have HST:Hid (Of Ty.st c (.agg #[ι l[k].kind,ι l[k].n,.slice ap l[k].parts.length cp]) l[k]):=η ⟨_,rfl,_,rfl,i0,i1,hP⟩;have x8:Hid (jG x0 (l.take (k+1))=iD (jG x0 (l.take k)) l[k]):=η (Pz hlt x0);have og:Hid (kC x0 (l.take (k+1))=kC x0 (l.take k)++ [bI (jG x0 (l.take k)) l[k]]):=η (PD hlt x0);have cP:Hid (k=150->jG x0 (l.take 150)=jG x0 (l.take k)/\kC x0 (l.take 150)=kC x0 (l.take k)):=η (fun e=>by rw [e];exact⟨rfl,rfl⟩);have gs:=G2.o.trans HB.o;replace c0:=gs.sub _ _ (HC.o _ _ c0);replace c1:=gs.sub _ _ (HC.o _ _ c1);replace c2:=gs.sub _ _ (HC.o _ _ c2);clear hel hP i0 i1 gs;generalize l[k]=st at*;generalize jG x0 (l.take k)=x at*;generalize kC x0 (l.take k)=es at*;go_upto_region 6 with fail
   obtain⟨ws,hws⟩:∃y:World,y=wr.alloc (.cells #[ι st.kind,ι st.n,ς ap st.parts.length cp] 25):=⟨_,rfl⟩;obtain⟨BS,hBS⟩:∃y,y=wr.heap.size:=⟨_,rfl⟩;have GS:Hid (Grow wr ws):=η (by rw [hws];exact(Grow.refl _).alloc _);have RS:Hid (ws.heap[BS]? =some (.cells #[ι st.kind,ι st.n,ς ap st.parts.length cp] 25 (0,0))):=η (by rw [hws,hBS];exact aF _ _);rw [<-hws,<-hBS];clear hws hBS c0 c1 c2;have RWS:=η (aj yw.o GS.o);have GP:=η (aj RZR.o GS.o);have p9:=η (HB.o.trans GS.o);have YY:=η (HX.o.mono (qM GS.o));have p_:=η (HOW.o.grow GS.o);obtain⟨x1,x2,x3,x4,x5,x6⟩:=aJ RWS.o;obtain⟨s0,s1,s2⟩:=cells3 RS.o;have zX:B6<ws.heap.size:=(γ RWS.o);have zS:BS<ws.heap.size:=(γ RS.o);by_cases C8:k=150
   ·have DA:((k:Int)==150)=true:=by simp;omega
    obtain⟨ea,ee⟩:=cP.o C8;have pN:=η ea;have ZS:=η ee;clear ea ee C8;go_wp2_with (first|(refine wpList_store_row rfl (.tmp 4) (.tmp 39) rfl rfl rfl GP.o bV rfl rfl ?_))
    intro w7 r7 g7;obtain⟨p0,p1,p2,p3,p4,p5⟩:=aJ r7;clear x1 x2 x3 x4 x5 x6;go_wp2;refine bodyPost_ret (v:=.tuple #[.agg #[ς eU x.head.log.length eX,ι x.head.aG,ι x.head.next,ς kN x.head.opn.length kP,ς pM x.aA.length cK,ς A7 x.net.length BB],ς a8 es.length c8]) (by simp [results,Tryz.results14,go_sem,p0,p1,p2,p3,p4,p5]) rfl ?_;have hs1:=HSW.o;have hs2:=HB2.o;have hsub:Sub (fc (wo w.heap.size (ov c w w2)) wz ws [(Value.slice a8 es.length c8).ownBlock]) (ov c w w7):=fun a9 v9 e9=>by
     have hl:=GJ.o;unfold fc at e9;split at e9
     ·have e8:=oZ _ _ _ _ e9
      unfold ov at e8 ⊢;split at e8
      ·rw [if_pos ‹_›];exact e8
      ·rw [if_neg ‹_›];exact aP (p9.o.sub _ _ e8) g7 (MF e9)
     ·rw [bH δ];exact aP (fF _ _ _ _ _ e9) g7 δ
    have G7:Grow w w7:=(G2.o.trans p9.o).grown g7 (fun q hq=>by have:=Option.some.inj hq;omega);rw [<-HX0.o,pN.o,ZS.o];exact⟨_,_,rfl,YY.o.mono hsub,(p_.o.kept g7 (bJ p_.o δ)).slc ε (fun _ _ e9=>by cases e9) fun a9 h9=>bH δ,G7⟩
   ·have DA:((k:Int)==150)=false:=by simp;omega
    obtain⟨G,hwi⟩:=mY.o;have nW:=η (Cc (s:=st) ws ((HCR.o).trans GS.o.sub) HX.o (HST.o.mono (HC2.o.trans (jQ ((mO HC.o G2.o).trans GZ.o.sub)))) hwi cC.o δ);clear hwi mY cC cP;go_wp2_with fail
    refine nW.o.mono ?_;rintro e w3 ⟨v3,rfl,hx3,hb3⟩;obtain⟨CX,CY,Rw,co3,BC,ch3,PX,cn3,rfl⟩:=hx3.fE;have cJ:Hid (Of Ty.wd (fc (wo w.heap.size (ov c w w2)) wz w3 [(Value.slice a8 es.length c8).ownBlock]) (.agg #[ς CX (iD x st).head.log.length CY,ι (iD x st).head.aG,ι (iD x st).head.next,ς Rw (iD x st).head.opn.length co3,ς BC (iD x st).aA.length ch3,ς PX (iD x st).net.length cn3]) (iD x st)):=η (hx3.mono (ZW (GS.o.trans hb3) (τ GJ.o) (fun k9 hk9=>by simp only [List.mem_singleton];intro e9;have:=(X2.o _ e9.symm).2;have:=GS.o.size;omega)));have RW3:=η (aj RWS.o hb3);have RZ3:=η (aj GP.o hb3);have cE:=η (p9.o.trans hb3);have nC:=η (p_.o.grow hb3);have HEI:=η (X8 x st);clear hx3 hb3 nW x1 x2 x3 x4 x5 x6 s0 s1 s2 zX zS;generalize iD x st=y at*;generalize bI x st=er at*;go_upto_region 8 with fail
    obtain⟨w4,hw4⟩:∃y9:World,y9=w3.alloc (.cells #[ς CX y.head.log.length CY,ι y.head.aG,ι y.head.next,ς Rw y.head.opn.length co3,ς BC y.aA.length ch3,ς PX y.net.length cn3] 33):=⟨_,rfl⟩;obtain⟨BX,GQ⟩:∃y9,y9=w3.heap.size:=⟨_,rfl⟩;have RJ:Hid (Grow w3 w4):=η (by rw [hw4];exact(Grow.refl _).alloc _);have RX4:Hid (w4.heap[BX]? =some (.cells #[ς CX y.head.log.length CY,ι y.head.aG,ι y.head.next,ς Rw y.head.opn.length co3,ς BC y.aA.length ch3,ς PX y.net.length cn3] 33 (0,0))):=η (by rw [hw4,GQ];exact aF _ _);have gW:Hid (BX=w3.heap.size):=η GQ;rw [<-hw4,<-GQ];clear hw4 GQ;have RW4:=η (aj RW3.o RJ.o);obtain⟨x1,x2,x3,x4,x5,x6⟩:=aJ RX4.o;have zX:BX<w4.heap.size:=(γ RX4.o);go_wp2_with (first|(refine wpList_store_row rfl (.tmp 6) (.tmp 33) rfl rfl rfl RW4.o bV rfl rfl ?_))
    intro w5 r5 g5;have QP:=η r5;have UM:=η ((cE.o.trans RJ.o).grown g5 (fun q hq=>by have:=Option.some.inj hq;have:=HB2.o;omega));have HX5:=η ((cJ.o.mono (qM RJ.o)).mono (Ap g5 (τ GJ.o)));have l9:=η ((nC.o.grow RJ.o).kept g5 (bJ nC.o δ));have RE:Hid (B6+1<=w5.heap.size):=η (τ (γ r5));clear r5 g5 x1 x2 x3 x4 x5 x6 zX;go_wp2_with (first|(at_builtin;refine aZ (c:=fun _=>none) (base:=B6+1) (l:=es) (m:=[er]) UZ rfl jW ε rfl (.tmp 34) (.tmp 36) rfl rfl (l9.o.grow ((Grow.refl _).alloc _)) rfl (Src.bQ (T:=Ty.int) (x:=er) (cs:=#[ι er]) ⟨rfl,HEI.o⟩ _ _ ?d1) ?d2 ?d3 ?_))
    case d1=>first|rfl|simp
    case d2=>have:=KH.o;simp;omega
    case d3=>have:=RE.o;simp;omega
    intro a9 c9 w9 fB eF gI;have MV:=l9.o.lt;have MH:=η ((HX5.o.mono (qM ((Grow.refl w5).alloc (.cells #[ι er] 34)))).mono (Xi eF (gI.imp_right fun⟨g,e,hge⟩=>⟨g,e,by simpa using hge⟩)));have MT:=η (aH (aj QP.o ((Grow.refl w5).alloc (.cells #[ι er] 34))) eF (by intro e;have:=(MV _ e.symm).1;omega));have QL:=η ((UM.o.alloc (.cells #[ι er] 34)).grown eF (fun q hq=>by have:=(MV q hq).1;have:=HB2.o;omega));have iF:=η fB;clear fB eF gI MV;go_wp2;go_roundw
    case rel=>exact⟨k+1,_,δ,δ,by go_num,MT.o,by rw [x8.o];exact MH.o,by rw [og.o];exact iF.o,QL.o⟩
    case measure=>simp [intOf];omega
  ·have pN:Hid (jG x0 (l.take 150)=jG x0 (l.take k)):=η (by rw [List.take_of_length_le δ,List.take_of_length_le δ])
   have ZS:Hid (kC x0 (l.take 150)=kC x0 (l.take k)):=η (by rw [List.take_of_length_le δ,List.take_of_length_le δ]);clear hel;generalize jG x0 (l.take k)=x at*;generalize kC x0 (l.take k)=es at*;have GP:=η RZR.o;have p9:=η HB.o;have YY:=η HX.o;have p_:=η HOW.o;obtain⟨x1,x2,x3,x4,x5,x6⟩:=aJ yw.o;go_wp2_with (first|(refine wpList_store_row rfl (.tmp 4) (.tmp 39) rfl rfl rfl GP.o bV rfl rfl ?_))
   intro w7 r7 g7;obtain⟨p0,p1,p2,p3,p4,p5⟩:=aJ r7;clear x1 x2 x3 x4 x5 x6;go_wp2;refine bodyPost_ret (v:=.tuple #[.agg #[ς eU x.head.log.length eX,ι x.head.aG,ι x.head.next,ς kN x.head.opn.length kP,ς pM x.aA.length cK,ς A7 x.net.length BB],ς a8 es.length c8]) (by simp [results,Tryz.results14,go_sem,p0,p1,p2,p3,p4,p5]) rfl ?_;have hs1:=HSW.o;have hs2:=HB2.o;have hsub:Sub (fc (wo w.heap.size (ov c w w2)) wz wr [(Value.slice a8 es.length c8).ownBlock]) (ov c w w7):=fun a9 v9 e9=>by
    have hl:=GJ.o;unfold fc at e9;split at e9
    ·have e8:=oZ _ _ _ _ e9
     unfold ov at e8 ⊢;split at e8
     ·rw [if_pos ‹_›];exact e8
     ·rw [if_neg ‹_›];exact aP (p9.o.sub _ _ e8) g7 (MF e9)
    ·rw [bH δ];exact aP (fF _ _ _ _ _ e9) g7 δ
   have G7:Grow w w7:=(G2.o.trans p9.o).grown g7 (fun q hq=>by have:=Option.some.inj hq;omega);rw [<-HX0.o,pN.o,ZS.o];exact⟨_,_,rfl,YY.o.mono hsub,(p_.o.kept g7 (bJ p_.o δ)).slc ε (fun _ _ e9=>by cases e9) fun a9 h9=>bH δ,G7⟩
theorem X9 {v:Value} {l:List St} {n:Nat} (w:World) (hn:1<=n/\n<=3) (hv:Sl Ty.st w.cell? v l):
  Calls Tryz.prog 14 #[ι n,v] w fun e w'=>∃v1 v2,e=.returned (.tuple #[v1,v2])/\Of Ty.wd w'.cell? v1 (jG (pI n) (l.take 150))/\Sl Ty.int w'.cell? v2 (kC (pI n) (l.take 150))/\Grow w w':=
 (Iu w hn (Sub.refl _) hv).mono fun _ w' ⟨v1,v2,he,h1,h2,hg⟩=>⟨v1,v2,he,h1.mono (sJ (Sub.refl _) hg),h2.mono (qK w w'),hg⟩
end Go.Proofs.YtocnmkefmgmkbaaGreat
