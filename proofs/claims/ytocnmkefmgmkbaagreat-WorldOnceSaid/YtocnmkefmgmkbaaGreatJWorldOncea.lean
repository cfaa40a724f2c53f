/- Parts of proofs, joined: A10, K30, Trod, Trod2, Trod3. No condition beside those that each theorem names. -/
import Derived.Deep.Slices
import Derived.OpenShut
import Derived.Below
import Derived.ChangeOld
import Derived.ProofKit
import Derived.SizedLaws
import Derived.Test.YtocnmkefmgmkbaaGreatJW1b
import Derived.Test.YtocnmkefmgmkbaaGreatJW6a
import Derived.Test.YtocnmkefmgmkbaaGreatJW4b
import Derived.Test.YtocnmkefmgmkbaaGreatJWUa
import Derived.Test.YtocnmkefmgmkbaaGreatJWHa
import Derived.Test.YtocnmkefmgmkbaaGreatJW7a
import Derived.Test.YtocnmkefmgmkbaaGreatJW8a
import Derived.Test.YtocnmkefmgmkbaaGreatJWXa
import Derived.Test.YtocnmkefmgmkbaaGreatJW9a
import Derived.Test.YtocnmkefmgmkbaaGreatJW3a
import Derived.Test.YtocnmkefmgmkbaaGreatJW2a
import Derived.Test.YtocnmkefmgmkbaaGreatJWGa
import Derived.Test.YtocnmkefmgmkbaaGreatJW5a
set_option maxRecDepth 100000
set_option maxHeartbeats 40000000
namespace Go.Proofs.YtocnmkefmgmkbaaGreat
open Go.RowKit
def A1g:List St:=[⟨1,0,[⟨1,0,7⟩]⟩,⟨2,0,[]⟩,⟨5,1,[]⟩,⟨2,0,[]⟩,⟨2,0,[]⟩]
structure F10 (X:Nat->AW) (L:List St):Prop where
 l:L=A1g
 x0:X 0=pI 2
 s:∀k (h:k<L.length),X (k+1)=iD (X k) L[k]
 e:∀k (h:k<L.length),bI (X k) L[k]=0
 w:∀k,k<=5->WK 5 (X k)
 n:(X 5).aA.length=2
 a:(X 5).aA[1]?.map (fun h=>h.sums.a)=some 7
 t:(X 5).net.length=1
theorem A14 (a:Option Addr) (n c:Nat) (v0 v1 v2 v3 v4:Value) (w:World):(Instr.field 33 (.agg #[v0,v1,v2,v3,v4,ς a n c]) 2).run Tryz.prog w=.ok (ς a n c) w:=by kernel_rfl
theorem f10:∃X L,F10 X L:=by
 refine⟨fun k=>jG (pI 2) (A1g.take k),A1g,rfl,rfl,fun k h=>Pz h _,fun k h=>?_,fun k h=>?_,κ,κ,κ⟩
 ·have:k=0∨k=1∨k=2∨k=3∨k=4:=by simp [A1g] at h;omega
  rcases this with rfl|rfl|rfl|rfl|rfl
  all_goals
   show bI _ _=0;kernel_rfl
 ·exact(WK.play ε _ (by rw [List.length_take];omega)).up (by rw [List.length_take];omega) ε
theorem A1h (w:World):Calls Tryz.prog 18 #[] w fun e w'=>e=.returned (.bool true)/\Grow w w':=by
 obtain⟨X,L,hF⟩:=f10;have HF:=η hF;have HL:Hid (L.length=5):=η (by rw [hF.l];rfl);clear hF;have HNW:=Uz (n:=2) w ε;rw [show((2:Nat):Int)=2 from rfl,<-HF.o.x0] at HNW;obtain⟨x,hx⟩:∃y,y=X 0:=⟨_,rfl⟩;rw [<-hx] at HNW;have HNW:=η HNW;have HX0:=η hx;clear hx;go_enter Tryz.func18,Tryz.ntmps18;go_wp2_with fail
 refine HNW.o.mono ?_;rintro e w1 ⟨v1,rfl,hx1,hb1⟩;obtain⟨al,cl,ao,co,ah,ch,an,cn,rfl⟩:=hx1.fE;have Jg:=η hx1;have G1:=η hb1;clear hx1 hb1 HNW;obtain⟨w2,hw2⟩:∃y:World,y=w1.alloc (.cells #[ς al x.head.log.length cl,ι x.head.aG,ι x.head.next,ς ao x.head.opn.length co,ς ah x.aA.length ch,ς an x.net.length cn] 33):=⟨_,rfl⟩;obtain⟨B1,hB1⟩:∃y,y=w1.heap.size:=⟨_,rfl⟩;have wG:Hid (Grow w1 w2):=η (by rw [hw2];exact(Grow.refl _).alloc _);have R1:Hid (w2.heap[B1]? =some (.cells #[ς al x.head.log.length cl,ι x.head.aG,ι x.head.next,ς ao x.head.opn.length co,ς ah x.aA.length ch,ς an x.net.length cn] 33 (0,0))):=η (by rw [hw2,hB1];exact aF _ _);have HS2:Hid (w2.heap.size=B1+1/\w.heap.size<=B1):=η (by rw [hw2,hB1];have:=G1.o.size;simp;omega);have UQ:Hid (Of Ty.wd (fr w w2 [some B1]) (.agg #[ς al x.head.log.length cl,ι x.head.aG,ι x.head.next,ς ao x.head.opn.length co,ς ah x.aA.length ch,ς an x.net.length cn]) x):=η (Jg.o.mono fun a9 v9 e9=>by
  unfold ov at e9;split at e9
  ·cases e9
  ·have hl:=World.block_lt_of_cell? w1 a9 e9
   rw [gy δ (fun hm=>by simp at hm;omega)];exact wG.o.sub _ _ e9)
 go_upto_region 2 with fail
 rw [<-hw2,<-hB1];clear hw2 hB1;obtain⟨wp,hwp⟩:∃y:World,y=w2.alloc (.cells #[ι 1,ι 0,ι 7] 111):=⟨_,rfl⟩;obtain⟨A01,hBP⟩:∃y,y=w2.heap.size:=⟨_,rfl⟩;have G2P:Hid (Grow w2 wp):=η (by rw [hwp];exact(Grow.refl _).alloc _);have HPT:Hid (Sl Ty.pt (fr w wp [some B1]) (ς (some ⟨A01,0,none⟩) 1 1) [⟨1,0,7⟩]):=η (by
  have h9:=aI.lit (T:=Ty.pt) (c:=fun _=>none) (base:=B1+1) (e:=111) w2 (cs:=#[ι 1,ι 0,ι 7]) [[ι 1,ι 0,ι 7]] (l:=[⟨1,0,7⟩]) (n:=1) hBP rfl (τ HS2.o) (by show 1<=maxLen;decide) rfl ⟨⟨rfl,(show I64 1 from by unfold I64;decide),(show I64 0 from by unfold I64;decide),(show I64 7 from by unfold I64;decide)⟩,trivial⟩;rw [<-hwp] at h9;exact h9.slc (d:=fr w wp [some B1]) ε (fun _ _ e9=>by cases e9) fun a9 h8=>gy (τ HS2.o) (fun hm=>by simp at hm;have:=HS2.o;omega))
 have HPS:Hid (wp.heap.size=w2.heap.size+1):=η (by rw [hwp];simp);obtain⟨wz,hwz⟩:∃y:World,y=wp.alloc (.cells #[ι 1,ι 0,ς (some ⟨A01,0,none⟩) 1 1,ι 2,ι 0,(),ι 5,ι 1,(),ι 2,ι 0,(),ι 2,ι 0,()] 25):=⟨_,rfl⟩;obtain⟨A02,hBL⟩:∃y,y=w2.heap.size+1:=⟨_,rfl⟩;have GPZ:Hid (Grow wp wz):=η (by rw [hwz];exact(Grow.refl _).alloc _);have S_:Hid (Sl Ty.st (fr w wz [some B1]) (ς (some ⟨A02,0,none⟩) L.length 5) L):=η (by
  have h9:=aI.lit (T:=Ty.st) (c:=fr w wp [some B1]) (base:=B1+1) (e:=25) wp (cs:=#[ι 1,ι 0,ς (some ⟨A01,0,none⟩) 1 1,ι 2,ι 0,(),ι 5,ι 1,(),ι 2,ι 0,(),ι 2,ι 0,()]) [[ι 1,ι 0,ς (some ⟨A01,0,none⟩) 1 1],[ι 2,ι 0,()],[ι 5,ι 1,()],[ι 2,ι 0,()],[ι 2,ι 0,()]] (l:=A1g) (g:=A02) (n:=5) (by rw [hBL];exact HPS.o.symm) rfl (by have:=HS2.o;have:=G2P.o.size;omega) (by show 5<=maxLen;decide) rfl ⟨⟨_,rfl,(show I64 1 from by unfold I64;decide),(show I64 0 from by unfold I64;decide),HPT.o⟩,⟨_,rfl,(show I64 2 from by unfold I64;decide),(show I64 0 from by unfold I64;decide),Sl.nil _ _⟩,⟨_,rfl,(show I64 5 from by unfold I64;decide),(show I64 1 from by unfold I64;decide),Sl.nil _ _⟩,⟨_,rfl,(show I64 2 from by unfold I64;decide),(show I64 0 from by unfold I64;decide),Sl.nil _ _⟩,⟨_,rfl,(show I64 2 from by unfold I64;decide),(show I64 0 from by unfold I64;decide),Sl.nil _ _⟩,trivial⟩;rw [<-hwz] at h9;rw [HL.o,HF.o.l];exact h9.slc (d:=fr w wz [some B1]) ε (dO GPZ.o) fun a9 h8=>gy (τ HS2.o) (fun hm=>by simp at hm;have:=HS2.o;omega))
 go_wp2;rw [<-hwp,<-hBL,<-hBP,<-hwz];clear hwp hBP hwz hBL HPT;have G2Z:=η (G2P.o.trans GPZ.o);have RZ:=η (aj R1.o G2Z.o);have HXZ:=η (UQ.o.mono (dO G2Z.o));have GZ:=η ((G1.o.trans wG.o).trans G2Z.o);go_loopw [22] (fun i wr=>∃(k:Nat) (row:Array Value),k<=5/\i=ι k/\wr.heap[B1]? =some (.cells row 33 (0,0))/\Of Ty.wd (fr w wr [some B1]) (.agg row) (X k)/\Sl Ty.st (fr w wr [some B1]) (ς (some ⟨A02,0,none⟩) L.length 5) L/\Grow w wr) (fun i _=>5 - (intOf i).toNat)
 case atStart=>exact⟨0,_,δ,rfl,RZ.o,by rw [<-HX0.o];exact HXZ.o,S_.o,GZ.o⟩
 case round=>
  obtain⟨k,row,hk',rfl,hrow,hx,hsl,hb⟩:=hrel;obtain⟨eU,eX,kN,kP,pM,cK,A7,BB,hrw⟩:=hx.fE;simp only [Value.agg.injEq] at hrw;subst hrw;have wV:=η (HF.o.w k hk');have yw:=η hrow;have HX:=η hx;have HSL:=η hsl;have HB:=η hb;have hBr:B1<wr.heap.size:=(γ hrow);clear hrow hx hsl hb;by_cases hlt:k<5
  ·obtain⟨aq,cq,heq,-,-,-,hel⟩:=HSL.o
   simp only [Value.slice.injEq] at heq;obtain⟨rfl,-,rfl⟩:=heq;have hlL:k<L.length:=by rw [HL.o];exact hlt
   obtain⟨b,o,vp,hae,c0,c1,c2,i0,i1,hP⟩:=Sts.at_ hel k hlL;simp only [Option.some.injEq,Addr.mk.injEq,and_true] at hae;obtain⟨rfl,rfl⟩:=hae;obtain⟨ap,cp,rfl,-⟩:=id hP;simp only [Nat.zero_add] at c0 c1 c2;have HST:Hid (Of Ty.st wr.cell? (.agg #[ι L[k].kind,ι L[k].n,.slice ap L[k].parts.length cp]) L[k]):=η ⟨_,rfl,_,rfl,i0,i1,hP.mono (fF _ _ _)⟩;have x8:=η (HF.o.s k hlL);have og:=η (HF.o.e k hlL);replace c0:=fF _ _ _ _ _ c0;replace c1:=fF _ _ _ _ _ c1;replace c2:=fF _ _ _ _ _ c2;clear hel hP i0 i1;generalize L[k]=st at*;generalize hxk:X k=x1 at*;have PH:=η hxk;clear hxk hlL;go_upto_region 5 with fail
   obtain⟨ws,hws⟩:∃y:World,y=wr.alloc (.cells #[ι st.kind,ι st.n,ς ap st.parts.length cp] 25):=⟨_,rfl⟩;obtain⟨BS,hBS⟩:∃y,y=wr.heap.size:=⟨_,rfl⟩;have GS:Hid (Grow wr ws):=η (by rw [hws];exact(Grow.refl _).alloc _);have RS:Hid (ws.heap[BS]? =some (.cells #[ι st.kind,ι st.n,ς ap st.parts.length cp] 25 (0,0))):=η (by rw [hws,hBS];exact aF _ _);rw [<-hws,<-hBS];clear hws hBS c0 c1 c2;have RWS:=η (aj yw.o GS.o);have p9:=η (HB.o.trans GS.o);obtain⟨x1',x2,x3,x4,x5,x6⟩:=aJ RWS.o;obtain⟨s0,s1,s2⟩:=cells3 RS.o;have zX:B1<ws.heap.size:=(γ RWS.o);have zS:BS<ws.heap.size:=(γ RS.o);have nW:=η (XQ (s:=st) ws ((HX.o.mono (dO GS.o)).mono (fF _ _ _)) (HST.o.mono GS.o.sub) wV.o);clear wV;go_wp2_with fail
   refine nW.o.mono ?_;rintro e w3 ⟨v3,rfl,hx3,hb3⟩;obtain⟨CX,CY,Rw,co3,BC,ch3,PX,cn3,rfl⟩:=hx3.fE;rw [og.o];have cJ:Hid (Of Ty.wd (fr w w3 [some B1]) (.agg #[ς CX (iD x1 st).head.log.length CY,ι (iD x1 st).head.aG,ι (iD x1 st).head.next,ς Rw (iD x1 st).head.opn.length co3,ς BC (iD x1 st).aA.length ch3,ς PX (iD x1 st).net.length cn3]) (iD x1 st)):=η (hx3.mono (PV p9.o (fun q hq=>by simp at hq;omega)));have RW3:=η (aj RWS.o hb3);have G3:=η (GS.o.trans hb3);clear hx3 hb3 nW x1' x2 x3 x4 x5 x6 s0 s1 s2 zX zS og;generalize iD x1 st=y at*;obtain⟨w4,hw4⟩:∃y9:World,y9=w3.alloc (.cells #[ς CX y.head.log.length CY,ι y.head.aG,ι y.head.next,ς Rw y.head.opn.length co3,ς BC y.aA.length ch3,ς PX y.net.length cn3] 33):=⟨_,rfl⟩;obtain⟨BX,GQ⟩:∃y9,y9=w3.heap.size:=⟨_,rfl⟩;have RJ:Hid (Grow w3 w4):=η (by rw [hw4];exact(Grow.refl _).alloc _);have RX4:Hid (w4.heap[BX]? =some (.cells #[ς CX y.head.log.length CY,ι y.head.aG,ι y.head.next,ς Rw y.head.opn.length co3,ς BC y.aA.length ch3,ς PX y.net.length cn3] 33 (0,0))):=η (by rw [hw4,GQ];exact aF _ _);go_upto_region 6 with fail
   rw [<-hw4,<-GQ];clear hw4 GQ;have RW4:=η (aj RW3.o RJ.o);have G4:=η (G3.o.trans RJ.o);obtain⟨x1',x2,x3,x4,x5,x6⟩:=aJ RX4.o;have zX:BX<w4.heap.size:=(γ RX4.o);go_wp2_with (first|(refine wpList_store_row rfl (.tmp 1) (.tmp 34) rfl rfl rfl RW4.o bV rfl rfl ?_))
   intro w5 r5 g5;have R15:=η r5;have UM:=η ((HB.o.trans G4.o).grown g5 (fun q hq=>by have:=Option.some.inj hq;have:=HS2.o;omega));have HX5:=η ((cJ.o.mono (dO RJ.o)).mono (XA g5 σ));have L0:=η ((HSL.o.mono (dO G4.o)).mono (XA g5 σ));clear r5 g5 x1' x2 x3 x4 x5 x6 zX;go_wp2;go_roundw
   case rel=>exact⟨k+1,_,δ,by go_num,R15.o,by rw [x8.o];exact HX5.o,L0.o,UM.o⟩
   case measure=>simp [intOf];omega
  ·obtain rfl:k=5:=by omega
   have hn:=HF.o.n;have ha:=HF.o.a;have ht:=HF.o.t;generalize X 5=y at*;obtain⟨hh,h1,h7⟩:∃h,y.aA[1]? =some h/\h.sums.a=7:=by
    cases e9:y.aA[1]? with
    |none=>rw [e9] at ha;cases ha
    |some h=>rw [e9] at ha;exact⟨h,rfl,Option.some.inj ha⟩
   obtain⟨q1,q2,q3⟩:=HX.o.eu;obtain⟨aq,cq,heq,-,-,-,hel⟩:=q2;simp only [Value.slice.injEq] at heq;obtain⟨rfl,-,rfl⟩:=heq;obtain⟨bh,oh,cs,rfl,hR,hAt⟩:=hel 1 hh h1;obtain⟨vl9,vr9,vd9,rfl,-⟩:=hR;have c1:=fF _ _ _ _ _ (hAt 1 _ rfl);have u1:((y.aA.length:Int)==2)=true:=by rw [hn];rfl
   have u2:(hh.sums.a==7)=true:=by rw [h7];rfl
   have u3:((y.net.length:Int)==1)=true:=by rw [ht];rfl
   have u4:(1:Int)<(y.aA.length:Int):=by rw [hn];decide
   have u5:1<y.aA.length:=by rw [hn];decide
   have C1:=η c1;clear hel hAt q1 q3 c1 hn ha ht h1 h7 hlt;have TY:=P_ (n:=0) wr ε;have TY:=η TY;go_wp2_with fail
   refine TY.o.mono ?_;rintro e w6 ⟨rfl,hb6⟩;have G6:=η hb6;clear hb6 TY;obtain⟨w7,hw7⟩:∃y9:World,y9=w6.alloc (.cells #[(),ι 0,ι 0,(),(),()] 33):=⟨_,rfl⟩;obtain⟨B7,yL⟩:∃y9,y9=w6.heap.size:=⟨_,rfl⟩;have G67:Hid (Grow w6 w7):=η (by rw [hw7];exact(Grow.refl _).alloc _);go_upto_region 11 with fail
   rw [<-hw7,<-yL];clear hw7 yL;have G7:=η (G6.o.trans G67.o);have R17:=η (aj yw.o G7.o);obtain⟨x1,x2,x3,x4,x5,x6⟩:=aJ R17.o;have zX:B1<w7.heap.size:=(γ R17.o);have c1:=G7.o.sub _ _ C1.o;have c8:w7.cell? ⟨bh,oh+7+1,none⟩=some (ι hh.sums.a):=c1;have c9:w7.cell? ⟨bh,oh+8,none⟩=some (ι hh.sums.a):=c1;go_wp2_with fail
   refine(Ip w7 ((HX.o.mono (fF _ _ _)).mono G7.o.sub) wV.o).mono ?_;rintro eo wo ⟨vlo,voo,vho,vno,A0y,rfl,hbx⟩;have GO:=η ((HB.o.trans G7.o).trans hbx.grow);obtain⟨alo,clo,aoo,coo,aho,cho,ano,cno,rfl,rfl,rfl,rfl⟩:=hbx.form;clear hbx x1 x2 x3 x4 x5 x6 zX c1 c8 c9;have hfn:=A14;go_wp2;go_ret;exact⟨rfl,GO.o⟩
theorem A1j {α:Type} {f:α->Int} {l:List α} (h:(l.map f).Nodup) {k:Nat} (hk:k<l.length):f l[k]∉(l.take k).map f:=fun hm=>by
 have e:l.map f=(l.take k).map f++f l[k]::(l.drop (k+1)).map f:=by rw [<-List.map_cons,<-List.drop_eq_getElem_cons hk,<-List.map_append,List.take_append_drop]
 rw [e,List.nodup_append] at h;exact h.2.2 _ hm _ List.mem_cons_self rfl
theorem A15 {α:Type} {f:α->Int} {l:List α} {k:Nat} (hk:k<l.length) (y:Int):y∈(l.take (k+1)).map f↔y∈(l.take k).map f∨y=f l[k]:=by
 rw [List.take_succ_eq_append_getElem hk,List.map_append,List.mem_append,List.map_cons,List.map_nil,List.mem_singleton]
theorem A1n {n0:Int} {v vs:Value} {l:List St} {s:St} (w:World) (_hn:I64 n0) (hv:Sl Ty.st w.cell? v l) (_hs:l.length*40<=140737488351232) (hst:Of Ty.st w.cell? vs s):
  Calls Tryz.prog 5 #[ι n0,v,vs] w fun e w'=>e=.returned (.bool true)/\Grow w w':=by
 obtain⟨aps,cps,rfl⟩:=hst.je;obtain⟨av,cv,rfl,-⟩:=id hv;obtain⟨wa,hwq⟩:∃zq:World,zq=w.alloc (.cells #[ι s.kind,ι s.n,ς aps s.parts.length cps] 25):=⟨_,rfl⟩;obtain⟨B5,hBq⟩:∃zq,zq=w.heap.size:=⟨_,rfl⟩;have GA:Hid (Grow w wa):=η (by rw [hwq];exact(Grow.refl _).alloc _);have R5:Hid (wa.heap[B5]? =some (.cells #[ι s.kind,ι s.n,ς aps s.parts.length cps] 25 (0,0))):=η (by rw [hwq,hBq];exact aF _ _);by_cases hin:1<=n0/\n0<=3;rotate_left
 ·have t:(decide (n0<1)=true∨(decide (n0<1)=false/\decide (3<n0)=true)):=by
   by_cases h:n0<1
   ·left;simp [h]
   ·right;simp;omega
  clear hv hst hin;go_enter Tryz.func5,Tryz.ntmps5;go_upto_region 1 with fail
  rw [<-hwq,<-hBq];clear hwq hBq;go_wp2_with fail
  refine(A1h _).mono ?_;rintro e w1 ⟨rfl,hb1⟩;rcases t with t|⟨t1,t2⟩
  all_goals
   go_wp2;go_ret;exact⟨rfl,GA.o.trans hb1⟩
 obtain⟨n,rfl⟩:∃n:Nat,n0=(n:Int):=⟨n0.toNat,δ⟩;have hn:1<=n/\n<=3:=by omega
 have tn1:decide ((n:Int)<1)=false:=by simp;omega
 have tn3:decide ((3:Int)<(n:Int))=false:=by simp;omega
 obtain⟨A03,hwi,-⟩:=WI.Zi hn (l.take 150);have hwk:=WK.play hn (l.take 150) (by rw [List.length_take];omega);have hwy:=hwk.step s (by rw [List.length_take];omega);have hfy:=hwy.few;obtain⟨G,hiy,-⟩:=hwi.step' s;have KH:=η (fun(W:World) (hW:Grow w W)=>X9 (l:=l) W hn (hv.mono hW.sub));have Z0:=η (fun(W:World) (v:Value) (h1:Of Ty.wd W.cell? v (jG (pI n) (l.take 150))) (h2:Of Ty.st W.cell? (.agg #[ι s.kind,ι s.n,ς aps s.parts.length cps]) s)=>XQ W h1 h2 hwk);have Am:Hid ((iD (jG (pI n) (l.take 150)) s).head.log.length<=3000):=η (by have:=hfy.log;rw [List.length_take] at this;omega);have HND:=η hiy.core.dec.nd;have FY:=η hiy.core.NV;have HOD:=η hiy.core.nP;have HOL:=η hiy.core.wB;have oE:=η hiy.len;have HST:=η hst;clear hv hst hin hwi hwk hwy hfy hiy hn;generalize jG (pI n) (l.take 150)=x at*;generalize iD x s=y at*;go_enter Tryz.func5,Tryz.ntmps5;go_upto_region 1 with fail
 rw [<-hwq,<-hBq];clear hwq hBq;go_wp2_with fail
 refine(A1h _).mono ?_;rintro e w1 ⟨rfl,hb1⟩;have G1:=η (GA.o.trans hb1);have R51:=η (aj R5.o hb1);clear hb1;go_wp2_with fail
 refine(KH.o _ G1.o).mono ?_;rintro e w2 ⟨v2,es2,rfl,hx2,-,hb2⟩;obtain⟨al,cl,ao,co,ah,ch,an,cn,rfl⟩:=hx2.fE;have UQ:=η hx2;have G2:=η (G1.o.trans hb2);have R52:=η (aj R51.o hb2);clear hx2 hb2 KH tn1 tn3;obtain⟨w3,hwq⟩:∃zq:World,zq=w2.alloc (.cells #[ς al x.head.log.length cl,ι x.head.aG,ι x.head.next,ς ao x.head.opn.length co,ς ah x.aA.length ch,ς an x.net.length cn] 33):=⟨_,rfl⟩;obtain⟨B7,hBq⟩:∃zq,zq=w2.heap.size:=⟨_,rfl⟩;have cI:Hid (Grow w2 w3):=η (by rw [hwq];exact(Grow.refl _).alloc _);have R7:Hid (w3.heap[B7]? =some (.cells #[ς al x.head.log.length cl,ι x.head.aG,ι x.head.next,ς ao x.head.opn.length co,ς ah x.aA.length ch,ς an x.net.length cn] 33 (0,0))):=η (by rw [hwq,hBq];exact aF _ _);go_upto_region 6 with fail
 rw [<-hwq,<-hBq];clear hwq hBq;have HX:=η (UQ.o.mono cI.o.sub);have G3:=η (G2.o.trans cI.o);have R53:=η (aj R52.o cI.o);obtain⟨a0,a1,a2,a3,a4,a5⟩:=aJ R7.o;obtain⟨b0,b1,b2⟩:=cells3 R53.o;have za:B7<w3.heap.size:=(γ R7.o);have zb:B5<w3.heap.size:=(γ R53.o);go_wp2_with fail
 refine(Z0.o w3 _ HX.o (HST.o.mono G3.o.sub)).mono ?_;rintro e w4 ⟨v4,rfl,hx4,hb4⟩;obtain⟨al4,cl4,PM,PP,ah4,ch4,an4,cn4,rfl⟩:=hx4.fE;have HX4:=η (hx4.mono (qK _ _));have RJ:=η (G3.o.trans hb4);clear a0 a1 a2 a3 a4 a5 b0 b1 b2 za zb Z0 hx4 hb4;generalize bI x s=er at*;obtain⟨w5,hwq⟩:∃zq:World,zq=w4.alloc (.cells #[ς al4 y.head.log.length cl4,ι y.head.aG,ι y.head.next,ς PM y.head.opn.length PP,ς ah4 y.aA.length ch4,ς an4 y.net.length cn4] 33):=⟨_,rfl⟩;obtain⟨A0v,hBq⟩:∃zq,zq=w4.heap.size:=⟨_,rfl⟩;have G45:Hid (Grow w4 w5):=η (by rw [hwq];exact(Grow.refl _).alloc _);have R9:Hid (w5.heap[A0v]? =some (.cells #[ς al4 y.head.log.length cl4,ι y.head.aG,ι y.head.next,ς PM y.head.opn.length PP,ς ah4 y.aA.length ch4,ς an4 y.net.length cn4] 33 (0,0))):=η (by rw [hwq,hBq];exact aF _ _);go_upto_region 7 with fail
 rw [<-hwq,<-hBq];clear hwq hBq;have H9:=η (HX4.o.mono G45.o.sub);have GB:=η (RJ.o.trans G45.o);clear UQ HX HX4 R5 R51 R52 R53 R7 HST;have hzb:∀w,(zeroValue 4).run Tryz.prog w=.ok (.bool false) w:=fun w=>by kernel_rfl
 have hmm:=@run_makeMap Tryz.prog;obtain⟨wm,hwm⟩:∃y:World,y=w5.alloc (.map #[] 0):=⟨_,rfl⟩;obtain⟨M,hM⟩:∃y,y=w5.heap.size:=⟨_,rfl⟩;have HM0:Hid (lD uM wm M (tV [])):=η (by rw [hwm,hM];exact lD.new w5);have G5M:Hid (Grow w5 wm):=η (by rw [hwm];exact(Grow.refl _).alloc _);have HMZ:Hid (M=w5.heap.size):=η hM;have lM:Hid (wm.heap.size=M+1):=η (by rw [hwm,hM];simp);go_upto_region 8 with fail
 rw [<-hwm,<-hM];clear hwm hM;obtain⟨q1,q2,q3⟩:=H9.o.eu;have IU:=η (Of.lq q1).1;have Ye:=η (Of.lq q1).2;clear q1 q2 q3;have R9M:=η (aj R9.o G5M.o);obtain⟨a0,a1,a2,a3,a4,a5⟩:=aJ R9M.o;have za:A0v<wm.heap.size:=(γ R9M.o);go_wp2_with fail
 refine(A1f (c:=wo M wm.cell?) _ (oZ _ _) (IU.o.mono (A1s G5M.o (τ HMZ.o))) (τ Am.o)).mono ?_;rintro e w6 ⟨v6,rfl,tX,hb6⟩;have DD:Hid (Sl Ty.rd (wo M w6.cell?) v6 (aW y.head.log)):=η (tX.slc ε (Qw hb6.sub) (fun a ha=>MG (τ lM.o)));have UY:=η (G5M.o.trans hb6);have WF:=η (HM0.o.grown (ak hb6 none) σ);clear tX hb6 a0 a1 a2 a3 a4 a5 za HM0;obtain⟨ad,cd,rfl,hd1,hd2,-,hdl⟩:=DD.o;unfold maxLen at hd2;have FP:=η hdl;clear hdl DD;generalize aW y.head.log=D at*;go_wp2;go_loopw [42] (fun i wr=>∃(k:Nat) (ks:List Int),k<=D.length/\i=ι k/\Grow w5 wr/\Sub (wo M w6.cell?) (wo M wr.cell?)/\lD uM wr M (tV ks)/\∀z,z∈ks↔z∈(D.take k).map (·.deed)) (fun i _=>D.length - (intOf i).toNat)
 case atStart=>exact⟨0,[],δ,rfl,UY.o,Sub.refl _,WF.o,fun z=>σ⟩
 case round=>
  obtain⟨k,ks,hk',rfl,hb,hs6,hmap,hks⟩:=hrel;have HKS:=η hks;have HM:=η hmap;have HB:=η hb;have H6:=η hs6;clear hks hmap hb hs6;by_cases hlt:k<D.length
  ·obtain⟨br,orr,vp,rfl,t0,t1,-,hP⟩:=Yv.at_ FP.o k hlt
   obtain⟨ap,cp,rfl,-⟩:=id hP;have HNO:Hid (D[k].deed∉ks):=η (fun h=>A1j HND.o hlt ((HKS.o _).1 h));have qI:=η (A15 (f:=fun r:Rd=>r.deed) hlt);replace t0:=(H6.o.trans (oZ _ _)) _ _ t0;replace t1:=(H6.o.trans (oZ _ _)) _ _ t1;clear hP;generalize D[k]=r at*;have HGT:Hid ((IV (tV ks) r.deed).getD (.bool false)=.bool false):=η (Vr HNO.o);go_wp2_with (first|(at_lookup;refine zN zL Tryz.underlying51 hzb rfl _ _ rfl (HM.o.grown (ak ((Grow.refl _).alloc _) none) σ) r.deed rfl rfl ?_;rw [HGT.o])|(at_mapUpdate;refine c_ zL Tryz.underlying51 rfl _ _ _ rfl (HM.o.grown (ak ((Grow.refl _).alloc _) none) σ) r.deed (.bool true) rfl rfl rfl ?_;intro wq hm' hg';have PT:=η hm';have HGQ:=η hg';clear hm' hg'))
   obtain⟨ks3,hk3,hmem⟩:=Vt ks r.deed;have hm':=PT.o;rw [hk3] at hm';have uL:=η hm';have GA1:Hid (Grow wr (wr.alloc (.cells #[ι r.deed,ς ap r.parts.length cp] 53))):=η ((Grow.refl _).alloc _);have HG2:=η ((HB.o.trans GA1.o).grown HGQ.o (fun q hq=>by have:=Option.some.inj hq;have:=HMZ.o;omega));have HS2:Hid (Sub (wo M w6.cell?) (wo M wq.cell?)):=η (H6.o.trans ((Qw GA1.o.sub).trans fun a u e=>by rw [MG (MF e)];exact Jq HGQ.o _ _ e));clear hm';try go_wp2
   go_roundw
   case rel=>exact⟨k+1,ks3,δ,by go_num,HG2.o,HS2.o,uL.o,fun z=>by rw [hmem,HKS.o,qI.o z]⟩
   case measure=>simp [intOf];omega
  ·rw [List.take_of_length_le δ] at HKS
   have R9r:=η (aj R9.o HB.o);obtain⟨aoq,coq,heq,ho1,ho2,-,hol⟩:=Ye.o;obtain⟨rfl,rfl⟩:PM=aoq/\PP=coq:=by simpa using heq
   unfold maxLen at ho2;have HOE:=η hol;clear heq hol;obtain⟨a0,a1,a2,a3,a4,a5⟩:=aJ R9r.o;have za:A0v<wr.heap.size:=(γ R9r.o);go_wp2;clear a0 a1 a2 a3 a4 a5 za hlt;clear H6 R9r;obtain⟨wx,rfl⟩:∃q:World,q=wr:=⟨_,rfl⟩;go_loopw [58] (fun i wr=>∃(k:Nat) (ks:List Int),k<=y.head.opn.length/\i=ι k/\Grow w5 wr/\lD uM wr M (tV ks)/\∀z,z∈ks↔(∃r∈D,r.deed=z)∨z∈(y.head.opn.take k).map (·.deed)) (fun i _=>y.head.opn.length - (intOf i).toNat)
   case atStart=>exact⟨0,ks,δ,rfl,HB.o,HM.o,fun z=>by rw [HKS.o z];simp⟩
   case round=>
    obtain⟨j,ks2,hj',rfl,hb,hmap,hks⟩:=hrel;have IH:=η hks;have FU:=η hmap;have HB2:=η hb;clear hks hmap hb;by_cases hlt:j<y.head.opn.length
    ·obtain⟨br,orr,vp,vh,rfl,t0,t1,t2,t3,-,hP,hH⟩:=Ci.at_ HOE.o j hlt
     obtain⟨ap,cp,rfl,-⟩:=id hP;obtain⟨C5,C6,rfl,-⟩:=id hH;have HNO:=η (A1j FY.o hlt);have X3:=η (HOD.o _ (List.getElem_mem hlt));have qI:=η (A15 (f:=fun r:Opn=>r.deed) hlt);replace t0:=HB2.o.sub _ _ t0;replace t1:=HB2.o.sub _ _ t1;replace t2:=HB2.o.sub _ _ t2;replace t3:=HB2.o.sub _ _ t3;clear hP hH;generalize y.head.opn[j]=q at*;have HGT:Hid ((IV (tV ks2) q.deed).getD (.bool false)=.bool q.dec):=η (by
      rw [KA];congr 1;cases hq:q.dec with
      |true=>exact decide_eq_true ((IH.o _).2 (.inl (X3.o.1 hq)))
      |false=>exact decide_eq_false fun h=>((IH.o _).1 h).elim (fun h9=>by have:=X3.o.2 h9;rw [hq] at this;cases this) HNO.o)
     obtain⟨qd,o3⟩:∃b,b=q.dec:=⟨_,rfl⟩;rw [<-o3] at HGT t2;clear o3;have hbb:(qd !=qd)=false:=by cases qd<;>rfl
     go_wp2_with (first|(at_lookup;refine zN zL Tryz.underlying51 hzb rfl _ _ rfl (FU.o.grown (ak ((Grow.refl _).alloc _) none) σ) q.deed rfl rfl ?_;rw [HGT.o])|(at_mapUpdate;refine c_ zL Tryz.underlying51 rfl _ _ _ rfl (FU.o.grown (ak ((Grow.refl _).alloc _) none) σ) q.deed (.bool true) rfl rfl rfl ?_;intro wq hm' hg';have PT:=η hm';have HGQ:=η hg';clear hm' hg'))
     obtain⟨ks3,hk3,hmem⟩:=Vt ks2 q.deed;have hm':=PT.o;rw [hk3] at hm';have uL:=η hm';have HG2:=η ((HB2.o.alloc (.cells #[ι q.deed,ς ap q.parts.length cp,.bool qd,ς C5 q.heard.length C6] 58)).grown HGQ.o (fun q hq=>by have:=Option.some.inj hq;have:=HMZ.o;omega));clear hm';try go_wp2
     go_roundw
     case rel=>exact⟨j+1,ks3,δ,by go_num,HG2.o,uL.o,fun z=>by rw [hmem,IH.o,qI.o z,or_assoc]⟩
     case measure=>simp [intOf];omega
    ·have R9r:=η (aj R9.o HB2.o)
     obtain⟨a0,a1,a2,a3,a4,a5⟩:=aJ R9r.o;have za:A0v<wr.heap.size:=(γ R9r.o);have u1:decide ((y.net.length:Int)<=24)=true:=by have:=oE.o;simp;omega
     have u2:decide ((y.head.opn.length:Int)<=32)=true:=by have:=HOL.o;simp;omega
     go_wp2;go_ret;exact⟨rfl,GB.o.trans HB2.o⟩
end Go.Proofs.YtocnmkefmgmkbaaGreat
namespace Go.Proofs.YtocnmkefmgmkbaaGreat
open Go.RowKit Go.ChangeShapes Go.WideShapes Go.ChangeAt
def Reads {α:Type} (P:Program) (t:TypeId) (T:Ty α):Prop:=∀(H:Type) (enc:TypeId×Value->H) (W:World) (fuel:Nat) (cs:List Value) (x:DataW H×List MemPlace),
 DataW.trod enc P W 0 (fun _=>true) true fuel t cs=some x->∃y,T.R W.cell? cs y
theorem A19 {P:Program} {t:TypeId} (ht:P.underlying t=some (.int .i64)):Reads P t Ty.int:=by
 intro H enc W fuel cs x h;obtain⟨n,rfl,_,hw⟩:=DataW.trod_int ht h;exact⟨n,rfl,hw⟩
theorem A2a {α:Type} {P:Program} {t e:TypeId} {T:Ty α} (hR:Reads P e T) (ht:P.underlying t=some (.slice e)) (hc:P.cellsOf e=T.size) (h0:0<T.size):Reads P t T.sl:=by
 intro H enc W fuel cs x h;rcases Deep.open_slice ht h with⟨rfl,_⟩|⟨a,len,cap,m,n,D,Pl,rfl,_,hl,hm,hmm,hxe,hx⟩
 ·exact⟨[],_,rfl,none,0,rfl,Nat.le_refl _,Nat.zero_le _,fun _=>rfl,fun i x e=>by simp at e⟩
 ·simp only [if_true] at hmm
  subst m;have h2:∀i,i<len->∃(p:List Value×α),T.R W.cell? p.1 p.2/\W.cells? 0 (a.add (i*T.size)) T.size=some p.1:=by
   intro i hi;obtain⟨cs',h1,h2⟩:=hx i δ;obtain⟨y,hy⟩:=hR H enc W n cs' _ h2;rw [hc] at h1;exact⟨(cs',y),hy,h1⟩
  have h3:∃l:List α,l.length=len/\∀i y,l[i]? =some y->∃cs',T.R W.cell? cs' y/\W.cells? 0 (a.add (i*T.size)) T.size=some cs':=by
   clear hx hl h hxe;induction len with
   |zero=>exact⟨[],rfl,σ⟩
   |succ len ih=>
    obtain⟨l,hl,hi⟩:=ih (by intro i hi;exact h2 i δ);obtain⟨⟨cs',y⟩,hy,h1⟩:=h2 len δ;refine⟨l++ [y],by simp [hl],fun i z hz=>?_⟩;rcases Nat.lt_or_ge i l.length with hlt|hge
    ·rw [List.getElem?_append_left hlt] at hz;exact hi i z hz
    ·have hb:=(List.getElem?_eq_some_iff.1 hz).1
     simp at hb;obtain rfl:i=len:=by omega
     rw [List.getElem?_append_right hge,hl] at hz;simp at hz;subst hz;exact⟨cs',hy,h1⟩
  obtain⟨l,hlen,hl2⟩:=h3;refine⟨l,_,rfl,some a,cap,by rw [hlen],δ,hm,σ,fun i y hy=>?_⟩;obtain⟨cs',hR',hcs⟩:=hl2 i y hy;obtain⟨_,hlen',hat⟩:=World.cells?_some hcs;have hpos:0<l.length:=by have:=(List.getElem?_eq_some_iff.1 hy).1;omega
  obtain⟨cs0,_,hcs0⟩:=hl2 0 l[0] (List.getElem?_eq_getElem hpos);obtain⟨_,hlen0,A2k⟩:=World.cells?_some hcs0;have hfirst:=A2k 0 h0;rw [List.getElem?_eq_getElem δ] at hfirst;have hsp:=World.cell?_spot hfirst;obtain⟨b,o,s⟩:=a;have hs:s=none:=by simpa [Addr.add] using hsp
  subst hs;refine⟨b,o,cs',rfl,hR',fun j u hu=>?_⟩;have hj:j<T.size:=by rw [<-hlen'];exact(List.getElem?_eq_some_iff.1 hu).1
  have:=hat j hj;rw [Addr.add_lit,Addr.add_lit,hu] at this;exact this
def structOf (P:Program) (t:TypeId):Option (List (TypeId×Nat×Nat)):=
 match P.underlying t with
 |some (.struct fs)=>some (fs.toList.map fun f=>(f.type,f.offset,P.cellsOf f.type))
 |_=>none
theorem A1_ {P:Program} {t:TypeId} {fs':List (TypeId×Nat×Nat)} (hs:structOf P t=some fs') {H:Type} {enc:TypeId×Value->H} {W:World} {fuel:Nat} {cs:List Value} {x:DataW H×List MemPlace}
  (h:DataW.trod enc P W 0 (fun _=>true) true fuel t cs=some x):cs.length=P.cellsOf t/\∀(i:Nat) (f:TypeId×Nat×Nat),fs'[i]? =some f->∃n y,DataW.trod enc P W 0 (fun _=>true) true n f.1 ((cs.drop f.2.1).take f.2.2)=some y:=by
 unfold structOf at hs;split at hs
 ·rename_i fs hu
  obtain rfl:=Option.some.inj hs;obtain⟨xs,n,_,_,hl,hlen,hf⟩:=DataW.trod_struct hu h;refine⟨hl,fun i f hi=>?_⟩;rw [List.getElem?_map] at hi;cases hfi:fs.toList[i]? with
  |none=>rw [hfi] at hi;cases hi
  |some fd=>
   rw [hfi] at hi;obtain rfl:=Option.some.inj hi;have A2i:fs[i]? =some fd:=by simpa using hfi
   have hlt:i<xs.length:=by rw [hlen];exact(Array.getElem?_eq_some_iff.1 A2i).1
   have:=hf i fd A2i;rw [List.getElem?_eq_getElem hlt] at this;exact⟨n,_,this⟩
 ·cases hs
theorem A2e:Reads Tryz.prog 111 Ty.pt:=by
 intro H enc W fuel cs x h;obtain⟨hl,hf⟩:=A1_ (fs':=[(3,0,1),(3,1,1),(3,2,1)]) κ h;rw [show(Tryz.prog).cellsOf 111=3 by kernel_rfl] at hl;match cs,hl with
 | [a,b,c],_=>
  obtain⟨_,_,h0⟩:=hf 0 _ rfl;obtain⟨_,_,h1⟩:=hf 1 _ rfl;obtain⟨_,_,h2⟩:=hf 2 _ rfl;obtain⟨x0,e0,w0⟩:=A19 κ _ _ _ _ _ _ h0;obtain⟨x1,e1,w1⟩:=A19 κ _ _ _ _ _ _ h1;obtain⟨x2,e2,w2⟩:=A19 κ _ _ _ _ _ _ h2;refine⟨⟨x0,x1,x2⟩,?_,w0,w1,w2⟩;simp at e0 e1 e2;subst e0 e1 e2;rfl
theorem A2c:Reads Tryz.prog 23 Ty.pts:=A2a A2e κ κ ε
theorem A2g {α:Type} {P:Program} {t e:TypeId} {T:Ty α} (hR:Reads P t T.sl) (ht:P.underlying t=some (.slice e)) {H:Type} {enc:TypeId×Value->H} {W:World} {r:Reach} {b:Nat} {v:Value} {d:DataW H} {p:List MemPlace}
  (hval:Value.okWide P W r b t v) (h:DataW.Trod enc P W 0 (fun _=>true) true t v d p):∃l,Sl T W.cell? v l:=by
 obtain⟨a,len,cap,rfl⟩:=okWide_slice ht hval;obtain⟨fuel,hf⟩:=h;obtain⟨l,v,e,hv⟩:=hR _ _ _ _ _ _ hf;simp [Value.cells] at e;subst e;exact⟨l,hv⟩
theorem own:ownKnob (Tryz.prog).godebug=none:=by kernel_rfl
theorem laidOut:laidOutB Tryz.prog=true:=by kernel_rfl
end Go.Proofs.YtocnmkefmgmkbaaGreat
namespace Go.Proofs.YtocnmkefmgmkbaaGreat
open Go.RowKit Go.ChangeShapes Go.WideShapes Go.ChangeAt
theorem A2h {α:Type} {T:Ty α} {c:CM} {a:Option Addr} {n cap:Nat} {l:List α} (h:Sl T c (ς a n cap) l):l.length=n:=by
 obtain⟨a',cap',he,_⟩:=h;simp only [Value.slice.injEq] at he;exact he.2.1.symm
theorem A2f {α:Type} {P:Program} {t e:TypeId} {T:Ty α} {k:Nat} (ht:P.underlying t=some (.slice e)) (hb:P.bytesOf e=k) {H:Type} {enc:TypeId×Value->H} {W:World} {r:Reach} {b:Nat} {v:Value} {d:DataW H} {p:List MemPlace} {ts:List TypeId} {ds:List (DataW H)} {j:Nat}
  (hsz:(DataW.weightsEach P ts ds).all (· <=reachBytes)=true) (hj:ts[j]? =some t) (hd:ds[j]? =some d)
  (hval:Value.okWide P W r b t v) (h:DataW.Trod enc P W 0 (fun _=>true) true t v d p) {l:List α} (hl:Sl T W.cell? v l):l.length*k<=140737488351232:=by
 obtain⟨a,len,cap,rfl⟩:=okWide_slice ht hval;obtain⟨fuel,hf⟩:=h;have hll:=A2h hl;rcases Deep.open_slice ht hf with⟨he,_⟩|⟨a',len',cap',m,n,D,Pl,he,_,hlc,_,hmm,hxe,_⟩
 ·simp [Value.cells] at he
  rw [hll,he.2.1];simp
 ·simp [Value.cells] at he
  obtain⟨_,rfl,rfl⟩:=he;obtain rfl:d=.slice ((List.range len).map D) ((List.range (m - len)).map fun j=>D (len+j)):=by simpa using congrArg Prod.fst hxe
  have:=sized_slice hsz hj hd ht;rw [hb,List.length_map,List.length_range] at this;rw [hll];have h2:len*k<=(len+((List.range (m - len)).map fun j=>D (len+j)).length)*k:=Nat.mul_le_mul_right _ (Nat.le_add_right _ _);have h3:reachBytes=140737488351232:=rfl;omega
theorem A2j {α:Type} {P:Program} {t:TypeId} {fs:Array Field} {T:Ty α} (hR:Reads P t T) (ht:P.underlying t=some (.struct fs)) {H:Type} {enc:TypeId×Value->H} {W:World} {r:Reach} {b:Nat} {v:Value} {d:DataW H} {p:List MemPlace}
  (hval:Value.okWide P W r b t v) (h:DataW.Trod enc P W 0 (fun _=>true) true t v d p):∃x,Of T W.cell? v x:=by
 obtain⟨cs,rfl,_⟩:=okWide_struct ht hval;obtain⟨fuel,hf⟩:=h;obtain⟨x,hx⟩:=hR _ _ _ _ _ _ hf;exact⟨x,cs.toList,rfl,hx⟩
theorem A2b:Reads Tryz.prog 25 Ty.st:=by
 intro H enc W fuel cs x h;obtain⟨hl,hf⟩:=A1_ (fs':=[(3,0,1),(3,1,1),(23,2,1)]) κ h;rw [show(Tryz.prog).cellsOf 25=3 by kernel_rfl] at hl;match cs,hl with
 | [a,b,c],_=>
  obtain⟨_,_,h0⟩:=hf 0 _ rfl;obtain⟨_,_,h1⟩:=hf 1 _ rfl;obtain⟨_,_,h2⟩:=hf 2 _ rfl;obtain⟨x0,e0,w0⟩:=A19 κ _ _ _ _ _ _ h0;obtain⟨x1,e1,w1⟩:=A19 κ _ _ _ _ _ _ h1;obtain⟨x2,v2,e2,w2⟩:=A2c _ _ _ _ _ _ h2;refine⟨⟨x0,x1,x2⟩,v2,?_,w0,w1,w2⟩;simp at e0 e1 e2;subst e0 e1 e2;rfl
theorem A2d:Reads Tryz.prog 22 (Ty.sl Ty.st):=A2a A2b κ κ ε
end Go.Proofs.YtocnmkefmgmkbaaGreat
