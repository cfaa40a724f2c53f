/- Parts of proofs, joined: M6, U20, G2, G13, A12, U27, K32, Trod, Trod2, Trod3. No condition beside those that each theorem names. -/
import Derived.Deep.Slices
import Derived.OpenShut
import Derived.Below
import Derived.ChangeOld
import Derived.ProofKit
import Derived.SizedLaws
import Derived.Test.YtocnmkefmgmkbaaGreatJE1b
import Derived.Test.YtocnmkefmgmkbaaGreatJE6a
import Derived.Test.YtocnmkefmgmkbaaGreatJE4b
import Derived.Test.YtocnmkefmgmkbaaGreatJEUa
import Derived.Test.YtocnmkefmgmkbaaGreatJEHa
import Derived.Test.YtocnmkefmgmkbaaGreatJE7b
import Derived.Test.YtocnmkefmgmkbaaGreatJEDa
import Derived.Test.YtocnmkefmgmkbaaGreatJE9a
import Derived.Test.YtocnmkefmgmkbaaGreatJE3a
import Derived.Test.YtocnmkefmgmkbaaGreatJE2a
import Derived.Test.YtocnmkefmgmkbaaGreatJEGa
import Derived.Test.YtocnmkefmgmkbaaGreatJE5a
import Derived.Test.YtocnmkefmgmkbaaGreatJEAa
set_option maxRecDepth 100000
set_option maxHeartbeats 40000000
namespace Go.Proofs.YtocnmkefmgmkbaaGreat
open Go.RowKit
theorem tX {c:CM} {v:Value} {l:List Rc} (w:World) (hc:Sub c w.cell?) (hv:NT c v l) (hm:l.length*40<=140737488355328):
  Calls Tryz.prog 19 #[v] w fun e w'=>∃v',e=.returned v'/\bK Ty.rd c w' w.heap.size 53 v' (bH l)/\aK w w':=by
 obtain⟨a,cap,rfl,N,Y,-,hel⟩:=hv;unfold maxLen at Y;have HM:=I hm;clear hm;go_enter Tryz.func19,Tryz.ntmps19;go_wp2;go_loopw [3,8] (fun s3 i wr=>∃k:Nat,k<=l.length/\i=J k/\aK w wr/\bK Ty.rd c wr w.heap.size 53 s3 (bH (l.take k))) (fun _ i _=>l.length - (intOf i).toNat)
 case atStart=>exact⟨0,V,rfl,aG _,bK.nil _ _ _ _ _⟩
 case round=>
  obtain⟨k,hk',rfl,hb,bU⟩:=hrel;by_cases hlt:k<l.length
  ·obtain⟨b,o,vp,rfl,c0,c1,c2,i0,i1,hP⟩:=NT.at_ hel k hlt
   obtain⟨ap,cp,rfl,-⟩:=id hP;replace c0:=hb.sub _ _ (hc _ _ c0);replace c1:=hb.sub _ _ (hc _ _ c1);replace c2:=hb.sub _ _ (hc _ _ c2);have htk:bH (l.take (k+1))=if l[k].aX=5 then bH (l.take k)++ [⟨l[k].aJ,l[k].aH⟩] else bH (l.take k):=by rw [List.take_succ_eq_append_getElem hlt,qR]
   have nK:=I htk;have hlk:(bH (l.take k)).length<=l.length:=Nat.le_trans (J4 _) (by simp;omega);have dX:=I bU;have HI:=I (And.intro i1 hP);obtain⟨av,cv,rfl⟩:=bU.form;have CB:=I hlk;clear hel hP htk bU i0 i1 hlk;generalize l[k]=r at*;generalize bH (l.take k)=ds at*;by_cases h5:r.aX=5
   ·have b5:(r.aX==5)=true:=by simp [h5]
    have Jo:=I h5;clear h5;go_wp2_with (first|(at_builtin;refine cO (c:=c) (base:=w.heap.size) (l:=ds) (m:=[⟨r.aJ,r.aH⟩]) AZ rfl zo ε rfl (.tmp 15) (.tmp 21) rfl rfl ?own rfl (Src.dU (T:=Ty.rd) (cs:=#[J r.aJ,U ap r.aH.length cp]) ⟨_,rfl,HI.o.1,HI.o.2⟩ _ _ ?d1) ?d2 ?d3 ?_))
    case own=>exact dX.o.grow (((aG _).alloc _).alloc _)
    case d1=>simp
    case d2=>have:=HM.o;have:=CB.o;simp;omega
    case d3=>have:=hb.size;simp;omega
    intro a9 c9 w9 gX fV iE;have kR:Hid (aK w w9):=I (dI (w0:=w) ((hb.alloc _).alloc _) fV (fun q O=>(dX.o.lt q O).1));have jE:=I gX;clear gX fV iE;go_wp2;go_roundw
    case rel=>exact⟨k+1,V,by go_num,kR.o,by rw [nK.o,bC Jo.o];exact jE.o⟩
    case measure=>simp [intOf];omega
   ·have b5:(r.aX==5)=false:=by simp [h5]
    have Jo:=I h5;clear h5;go_wp2;go_roundw
    case rel=>exact⟨k+1,V,by go_num,hb.alloc _,by rw [nK.o,aV Jo.o];exact dX.o.grow ((aG _).alloc _)⟩
    case measure=>simp [intOf];omega
  ·clear hel
   go_wp2;go_ret;have h9:=bU;rw [eG V] at h9;exact⟨_,rfl,h9,hb⟩
def wI (hs:List Hs) (x:Int):Prop:=∃h∈hs,dP h.ready x=true
def BU (hs:List Hs) (r:Rd) (j:Nat):Prop:=∃k h,k<j/\hs[k]? =some h/\jT r.aH k≠ []/\r.aJ∉h.done
def ru (hs:List Hs) (D:List Rd) (x:Int):Prop:=∃r∈D,r.aJ=x/\BU hs r hs.length
theorem Ez {w:AW} {x:Int}:isOpen w x=true↔wI w.aI x∨ru w.aI (bH w.aN.bg) x:=by
 unfold isOpen wI ru BU;rw [Bool.or_eq_true,List.any_eq_true,List.any_eq_true];refine or_congr Iff.rfl ⟨?_,?_⟩
 ·rintro⟨r,hr,h⟩
  rw [Bool.and_eq_true,List.any_eq_true] at h;obtain⟨e,k,hk,Y⟩:=h;rw [Bool.and_eq_true] at Y;have hk':=List.mem_range.1 hk;refine⟨r,hr,by simpa using e,k,w.aI[k],hk',dM hk',fun e0=>by rw [e0] at Y;simp at Y,?_⟩;have h3:=Y.2;rw [List.getD_eq_getElem?_getD,dM hk'] at h3;have e':r.aJ=x:=by simpa using e
  rw [e'];simpa using h3
 ·rintro⟨r,hr,e,k,h,hk,hh,N,Y⟩
  refine⟨r,hr,?_⟩;rw [Bool.and_eq_true,List.any_eq_true];refine⟨by simpa using e,k,List.mem_range.2 hk,?_⟩;rw [Bool.and_eq_true,List.getD_eq_getElem?_getD,hh];refine⟨?_,by rw [<-e];simpa using Y⟩;cases ho:jT r.aH k with
  |nil=>exact absurd ho N
  |cons a b=>rfl
theorem I9 (x:Int):¬wI [] x:=by rintro⟨h,hh,-⟩;simp at hh
theorem I_ {hs:List Hs} {j:Nat} (hj:j<hs.length) (x:Int):wI (hs.take (j+1)) x↔wI (hs.take j) x∨dP hs[j].ready x=true:=by
 unfold wI;rw [List.take_succ_eq_append_getElem hj];constructor
 ·rintro⟨h,hh,e⟩
  rcases List.mem_append.1 hh with hh|hh
  ·exact .inl ⟨h,hh,e⟩
  ·rw [List.mem_singleton.1 hh] at e;exact .inr e
 ·rintro(⟨h,hh,e⟩|e)
  ·exact⟨h,List.mem_append.2 (.inl hh),e⟩
  ·exact⟨_,List.mem_append.2 (.inr (List.mem_singleton.2 rfl)),e⟩
theorem BZ {l:List Rd} {j:Nat} (hj:j<l.length) (x:Int):dP (l.take (j+1)) x=true↔dP (l.take j) x=true∨l[j].aJ=x:=by
 unfold dP;rw [List.take_succ_eq_append_getElem hj,List.any_append,Bool.or_eq_true];simp [nG]
theorem Ja {hs:List Hs} {r:Rd}:¬BU hs r 0:=by rintro⟨k,h,hk,-⟩;omega
theorem Jb {hs:List Hs} {r:Rd} {j:Nat} {h:Hs} (hj:hs[j]? =some h):BU hs r (j+1)↔BU hs r j∨(jT r.aH j≠ []/\r.aJ∉h.done):=by
 unfold BU;constructor
 ·rintro⟨k,h',hk,e,N,Y⟩
  by_cases hkj:k=j
  ·subst hkj
   rw [hj] at e;obtain rfl:=bI e;exact .inr ⟨N,Y⟩
  ·exact .inl ⟨k,h',V,e,N,Y⟩
 ·rintro(⟨k,h',hk,e,N,Y⟩|⟨N,Y⟩)
  ·exact⟨k,h',V,e,N,Y⟩
  ·exact⟨j,h,V,hj,N,Y⟩
theorem EC (hs:List Hs) (x:Int):¬ru hs [] x:=by rintro⟨r,hr,-⟩;simp at hr
theorem ED {hs:List Hs} {D:List Rd} {j:Nat} (hj:j<D.length) (x:Int):ru hs (D.take (j+1)) x↔ru hs (D.take j) x∨(D[j].aJ=x/\BU hs D[j] hs.length):=by
 unfold ru;rw [List.take_succ_eq_append_getElem hj];constructor
 ·rintro⟨r,hr,e,h⟩
  rcases List.mem_append.1 hr with hr|hr
  ·exact .inl ⟨r,hr,e,h⟩
  ·rw [List.mem_singleton.1 hr] at e h;exact .inr ⟨e,h⟩
 ·rintro(⟨r,hr,e,h⟩|⟨e,h⟩)
  ·exact⟨r,List.mem_append.2 (.inl hr),e,h⟩
  ·exact⟨_,List.mem_append.2 (.inr (List.mem_singleton.2 rfl)),e,h⟩
def jW (p:Int->Bool) (j:Nat):List Int:=((List.range j).map fun d:Nat=>(d:Int)).filter p
theorem z_ (p:Int->Bool) (j:Nat):jW p (j+1)=if p j=true then jW p j++ [(j:Int)] else jW p j:=by
 unfold jW;rw [List.range_succ,List.map_append,List.filter_append];by_cases h:p j=true<;>simp [h]
theorem B_ (p:Int->Bool) (j:Nat):(jW p j).length<=j:=by
 unfold jW;exact Nat.le_trans (List.length_filter_le _ _) σ
theorem HR.low {w0 w W:World} {B:Nat} {vl vo:Value} {lg:List Rc} {L:List AQ} (b:HR w W B vl vo lg L) (h:aK w0 w):HR w0 W B vl vo lg L:=
 have hs:=h.size;⟨(b.bg.mono (kG hs)).base hs,(b.bG.mono (kG hs)).base hs,fun x Z=>(b.aZ x Z).base hs,⟨b.ok.pw,fun q O=>by have:=b.ok.lt q O;omega⟩,h.trans b.grow⟩
section
variable {w W W1 W2:World} {B:Nat} {vl vo vh vn:Value} {x:AW}
theorem iL.low {w0:World} (b:iL w W B vl vo vh vn x) (h:aK w0 w):iL w0 W B vl vo vh vn x:=
 have hs:=h.size;⟨b.row,Nat.le_trans hs b.ge,b.aN.mono (kG hs),(b.hs.mono (kG hs)).base hs,b.ne,b.bM.mono (kG hs),h.trans b.grow⟩
end
def wH:List Pt:=[⟨0,0,7⟩,⟨1,1,8⟩]
structure F12 (L:List St) (X aC:AW) (E:List Int) (K:Nat):Prop where
 l:L=[⟨1,0,wH⟩]
 x:d_ (gK 2) L=X
 e:jK (gK 2) L=E
 e1:E.length=1
 w:WK 1 X
 wy:WK 34000 aC
 i:idleA X=false
 j:idleA aC=true
 y:fD X=(aC,K)
 k:1<=K
 n:aC.aI.length=2
 r:(fQ X).aI.length=2
 a:aC.aI[0]?.map (fun h:Hs=>h.aP.a)=some 7
 b:aC.aI[1]?.map (fun h:Hs=>h.aP.b)=some 8
theorem f12:∃L x y E k,F12 L x y E k:=by
 obtain⟨G,hi,-⟩:=WI.sQ (n:=2) ε [⟨1,0,wH⟩];have hw:=WK.play (n:=2) ε [⟨1,0,wH⟩] ε;obtain⟨O,hs,-⟩:=hi.settle;have Z:idleA (d_ (gK 2) [⟨1,0,wH⟩])=false:=by kernel_rfl
 refine⟨_,d_ (gK 2) [⟨1,0,wH⟩],(fD (d_ (gK 2) [⟨1,0,wH⟩])).1,_,(fD (d_ (gK 2) [⟨1,0,wH⟩])).2,rfl,rfl,rfl,κ,hw,(hw.settle ε).up ε ε,Z,(tC hs).2 O,rfl,?_,hs.core.len,(hi.round).core.len,κ,κ⟩;have h9:fD (d_ (gK 2) [⟨1,0,wH⟩])=((gq 29 (fQ (d_ (gK 2) [⟨1,0,wH⟩]))).1,(gq 29 (fQ (d_ (gK 2) [⟨1,0,wH⟩]))).2+1):=oK 29 Z;rw [h9];exact Nat.le_add_left 1 _
theorem kY (a:Option Addr) (n c:Nat) (v0 v1 v2 v3 v5:Value) (w:World):(Instr.field 33 (.agg #[v0,v1,v2,v3,U a n c,v5]) 1).run Tryz.prog w=.ok (U a n c) w:=by kernel_rfl
theorem BQ {l:List Hs} {j:Nat} {f:Hs->Int} {n:Int} (h:l[j]?.map f=some n):∃x,l[j]? =some x/\f x=n:=by
 cases e:l[j]? with
 |none=>rw [e] at h;cases h
 |some x=>rw [e] at h;exact⟨x,rfl,bI h⟩
theorem sW (w:World):Calls Tryz.prog 32 #[] w fun e w'=>e=.returned (.bool true)/\aK w w':=by
 obtain⟨L,x,y,E,k,hF⟩:=f12;obtain⟨wp,hwp⟩:=χ (w.alloc (.cells #[J 0,J 0,J 7,J 1,J 1,J 8] 111));have uR:Sl Ty.pt wp.cell? (U (some ⟨w,0,none⟩) 2 2) wH:=Sl.lit w [[J 0,J 0,J 7],[J 1,J 1,J 8]] ε (by rw [hwp];exact aG _) rfl rfl (by show 2<=maxLen;decide) rfl ⟨⟨rfl,(show I64 0 from by unfold I64;decide),(show I64 0 from by unfold I64;decide),(show I64 7 from by unfold I64;decide)⟩,⟨rfl,(show I64 1 from by unfold I64;decide),(show I64 1 from by unfold I64;decide),(show I64 8 from by unfold I64;decide)⟩,trivial⟩;obtain⟨wl,hwl⟩:=χ (wp.alloc (.cells #[J 1,J 0,U (some ⟨w,0,none⟩) 2 2] 25));have yj:Sl Ty.st wl.cell? (U (some ⟨w+1,0,none⟩) 1 1) L:=by
  rw [hF.l];exact Sl.lit wp [[J 1,J 0,U (some ⟨w,0,none⟩) 2 2]] ε (by rw [hwl];exact aG _) (by rw [hwp];simp) rfl (by show 1<=maxLen;decide) rfl ⟨⟨_,rfl,(show I64 1 from by unfold I64;decide),(show I64 0 from by unfold I64;decide),uR⟩,trivial⟩
 have GL:Hid (aK w wl):=I (by rw [hwl,hwp];exact((aG w).alloc _).alloc _);have pU:=yP (n:=2) wl ε yj (by rw [hF.l];decide);rw [show((2:Nat):Int)=2 from rfl,hF.x,hF.e] at pU;have pU:=I pU;have HST:=I (fun(W:World) (v:Value) (N:Of Ty.wd W.cell? v x)=>kP W N hF.w ε);rw [hF.y] at HST;have NU:=I (fun(W:World) (v:Value) (N:Of Ty.wd W.cell? v x)=>mQ W N hF.w);have uW:=I (fun(W:World) (v:Value) (N:Of Ty.wd W.cell? v y)=>mQ W N hF.wy);have Yf:=I (fun(W:World) (v:Value) (N:Of Ty.wd W.cell? v x)=>ql W N hF.w ε);rw [hF.i] at NU;rw [hF.j] at uW;obtain⟨g0,h0,s0⟩:=BQ hF.a;obtain⟨g1,N,s1⟩:=BQ hF.b;have u0:(g0.aP.a==7)=true:=by rw [s0];rfl
 have u1:(g1.aP.b==8)=true:=by rw [s1];rfl
 have ue:((E.length:Int)==1)=true:=by rw [hF.e1];rfl
 have uk:decide ((1:Int)<=(k:Int))=true:=by have:=hF.k;simp;omega
 have ur:(((fQ x).aI.length:Int)==2)=true:=by rw [hF.r];rfl
 have un:(1:Int)<(y.aI.length:Int):=by rw [hF.n];decide
 have um:1<y.aI.length:=by rw [hF.n];decide
 have uo:(0:Int)<(y.aI.length:Int):=by rw [hF.n];decide
 have H0:=I h0;have H1:=I N;have HWL:=I hwl;have fX:=I hwp;clear hF h0 N s0 s1 uR yj hwl hwp;generalize fQ x=z at*;go_enter Tryz.func32,Tryz.ntmps32;go_wp2_with fail
 try rw [<-fX.o]
 try rw [<-HWL.o]
 refine pU.o.mono ?_;rintro e w2 ⟨v2,ve,rfl,pV,he2,gB⟩;obtain⟨al,cl,ao,co,ah,ch,an,cn,rfl⟩:=pV.dJ;obtain⟨ae,ce,rfl,-⟩:=he2;have AX:=I (pV.mono (fG _ _));have G2:=I (GL.o.trans gB);clear pV gB pU GL;obtain⟨w3,hwq⟩:=χ (w2.alloc (.cells #[U al x.aN.bg.length cl,J x.aN.aW,J x.aN.next,U ao x.aN.bG.length co,U ah x.aI.length ch,U an x.bM.length cn] 33));obtain⟨B1,lq⟩:=χ w2.heap.size;have AU:Hid (aK w2 w3):=I (by rw [hwq];exact(aG _).alloc _);have R1:Hid (w3.heap[B1]? =some (.cells #[U al x.aN.bg.length cl,J x.aN.aW,J x.aN.next,U ao x.aN.bG.length co,U ah x.aI.length ch,U an x.bM.length cn] 33 (0,0))):=I (by rw [hwq,lq];exact bn _ _);go_upto_region 2 with fail
 rw [<-hwq,<-lq];clear hwq lq;have Dj:=I (AX.o.mono AU.o.sub);obtain⟨a0,a1,a2,a3,a4,a5⟩:=bF R1.o;have za:B1<w3.heap.size:=(γ R1.o);go_wp2_with fail
 refine(HST.o w3 _ Dj.o).mono ?_;rintro e w4 ⟨v4,rfl,FX,qW⟩;obtain⟨N9,N_,JD,JE,Oa,ch4,Ob,Oc,rfl⟩:=FX.dJ;have N8:=I (FX.mono (fG _ _));have xM:=I qW;clear FX qW HST a0 a1 a2 a3 a4 a5 za;obtain⟨w5,hwq⟩:=χ (w4.alloc (.cells #[U N9 y.aN.bg.length N_,J y.aN.aW,J y.aN.next,U JD y.aN.bG.length JE,U Oa y.aI.length ch4,U Ob y.bM.length Oc] 33));obtain⟨B4,lq⟩:=χ w4.heap.size;have Oe:Hid (aK w4 w5):=I (by rw [hwq];exact(aG _).alloc _);have R4:Hid (w5.heap[B4]? =some (.cells #[U N9 y.aN.bg.length N_,J y.aN.aW,J y.aN.next,U JD y.aN.bG.length JE,U Oa y.aI.length ch4,U Ob y.bM.length Oc] 33 (0,0))):=I (by rw [hwq,lq];exact bn _ _);go_upto_region 3 with fail
 rw [<-hwq,<-lq];clear hwq lq;have Wj:=I (xM.o.trans Oe.o);have F5:=I (Dj.o.mono Wj.o.sub);have vD:=I (N8.o.mono Oe.o.sub);have I8:=I (aF R1.o Wj.o);obtain⟨a0,a1,a2,a3,a4,a5⟩:=bF I8.o;obtain⟨b0,b1,b2,b3,b4,b5⟩:=bF R4.o;have za:B1<w5.heap.size:=(γ I8.o);have zb:B4<w5.heap.size:=(γ R4.o);go_wp2_with fail
 refine(NU.o w5 _ F5.o).mono ?_;rintro e w6 ⟨rfl,nS⟩;have tK:=I nS;clear nS a0 a1 a2 a3 a4 a5 b0 b1 b2 b3 b4 b5 za zb;obtain⟨a0,a1,a2,a3,a4,a5⟩:=bF (aF I8.o tK.o);obtain⟨b0,b1,b2,b3,b4,b5⟩:=bF (aF R4.o tK.o);have za:B1<w6.heap.size:=(Array.getElem?_eq_some_iff.1 (aF I8.o tK.o)).1;have zb:B4<w6.heap.size:=(Array.getElem?_eq_some_iff.1 (aF R4.o tK.o)).1;go_wp2_with fail
 refine(uW.o w6 _ (vD.o.mono tK.o.sub)).mono ?_;rintro e w7 ⟨rfl,jQ⟩;have yQ:=I (tK.o.trans jQ);clear jQ a0 a1 a2 a3 a4 a5 b0 b1 b2 b3 b4 b5 za zb;obtain⟨a0,a1,a2,a3,a4,a5⟩:=bF (aF I8.o yQ.o);obtain⟨b0,b1,b2,b3,b4,b5⟩:=bF (aF R4.o yQ.o);have za:B1<w7.heap.size:=(Array.getElem?_eq_some_iff.1 (aF I8.o yQ.o)).1;have zb:B4<w7.heap.size:=(Array.getElem?_eq_some_iff.1 (aF R4.o yQ.o)).1;obtain⟨-,q2,-⟩:=vD.o.ji;obtain⟨aq,cq,heq,-,-,-,hel⟩:=q2;simp only [Value.slice.injEq] at heq;obtain⟨rfl,-,rfl⟩:=heq;obtain⟨bh,oh,cs,rfl,⟨vl9,vr9,vd9,rfl,-⟩,hA0⟩:=hel 0 g0 H0.o;obtain⟨bh',oh',cs,wG,⟨vl8,vr8,vd8,rfl,-⟩,hA1⟩:=hel 1 g1 H1.o;simp only [Option.some.injEq,Addr.mk.injEq,and_true] at wG;obtain⟨rfl,rfl⟩:=wG;have c0:=yQ.o.sub _ _ (hA0 1 _ rfl);have c1:=yQ.o.sub _ _ (hA1 2 _ rfl);have c2:w7.cell? ⟨bh,oh+1,none⟩=some (J g0.aP.a):=by simpa using c0
 have c3:w7.cell? ⟨bh,oh+7+1+1,none⟩=some (J g1.aP.b):=by simpa [show Ty.hs.size=7 from rfl] using c1
 have c4:w7.cell? ⟨bh,oh+9,none⟩=some (J g1.aP.b):=c3;clear hel hA0 hA1 c0 c1;go_wp2_with fail
 refine(Yf.o w7 _ (F5.o.mono yQ.o.sub)).mono ?_;rintro e w8 ⟨v8,rfl,vE,lD⟩;obtain⟨SS,SV,SX,SY,ah8,ch8,an8,cn8,rfl⟩:=vE.dJ;have G8:=I (G2.o.trans (AU.o.trans (Wj.o.trans (yQ.o.trans lD))));clear vE lD a0 a1 a2 a3 a4 a5 b0 b1 b2 b3 b4 b5 za zb c2 c3 c4;have hfn:=kY;go_wp2;go_ret;exact⟨rfl,G8.o⟩
theorem x9 {v:Value} {x:AW} (w:World) (hv:Of Ty.wd w.cell? v x) (hl:x.aI.length<=3) (hg:x.aN.bg.length<=100000) (hp:∀r∈bH x.aN.bg,r.aH.length<=4):
  Calls Tryz.prog 33 #[v] w fun e w'=>∃v',e=.returned v'/\bK Ty.int (fun _=>none) w' w.heap.size 3 v' (opensE x)/\aK w w':=by
 obtain⟨al,cl,ao,co,ah,ch,an,cn,rfl⟩:=hv.dJ;obtain⟨q1,q2,-⟩:=hv.ji;have G_:=I (Of.lM q1).1;obtain⟨AN,ch',wG,N,Y,-,hel⟩:=q2;simp only [Value.slice.injEq,true_and] at wG;obtain⟨rfl,rfl⟩:=wG;unfold maxLen at Y;have nH:=I hel;have A3:=I hp;have gC:=I hg;have HOI:Hid (∀y,isOpen x y=true↔wI x.aI y∨ru x.aI (bH x.aN.bg) y):=I (fun y=>Ez);clear hv q1 hel hp hg;have hzb:∀w,(zeroValue 4).run Tryz.prog w=.ok (.bool false) w:=fun w=>by kernel_rfl
 have hmm:=@run_makeMap Tryz.prog;obtain⟨wa,fZ⟩:=χ (w.alloc (.cells #[U al x.aN.bg.length cl,J x.aN.aW,J x.aN.next,U ao x.aN.bG.length co,U ah x.aI.length ch,U an x.bM.length cn] 33));have RA:Hid (wa.heap[w.heap.size]? =some (.cells #[U al x.aN.bg.length cl,J x.aN.aW,J x.aN.next,U ao x.aN.bG.length co,U ah x.aI.length ch,U an x.bM.length cn] 33 (0,0))):=I (by rw [fZ];exact bn _ _);have GA:Hid (aK w wa):=I (by rw [fZ];exact(aG w).alloc _);have SO:Hid (wa.heap.size=w.heap.size+1):=I (by rw [fZ];simp);have uE:=I fZ;clear fZ;go_enter Tryz.func33,Tryz.ntmps33;go_upto_region 1 with fail
 rw [<-uE.o];clear uE;go_upto_region 2 with fail
 obtain⟨wm,hwm⟩:=χ (wa.alloc (.map #[] 0));have HM0:Hid (kD l7 wm (w.heap.size+1) (nP [])):=I (by rw [hwm,<-SO.o];exact kD.new wa);have G1:Hid (aK w wm):=I (by rw [hwm];exact GA.o.alloc _);have R1:Hid (wm.heap[w.heap.size]? =some (.cells #[U al x.aN.bg.length cl,J x.aN.aW,J x.aN.next,U ao x.aN.bG.length co,U ah x.aI.length ch,U an x.bM.length cn] 33 (0,0))):=I (by rw [hwm];exact bQ RA.o _);rw [<-hwm];try rw [SO.o]
 clear hwm;obtain⟨c0,c1,c2,c3,c4,c5⟩:=bF R1.o;have z1:w.heap.size<wm:=(γ R1.o);go_wp2;clear c0 c1 c2 c3 c4 c5 z1;go_loopw [18] (fun i wr=>∃(k:Nat) (ks:List Int),k<=x.aI.length/\i=J k/\aK w wr/\wr.heap[w.heap.size]? =some (.cells #[U al x.aN.bg.length cl,J x.aN.aW,J x.aN.next,U ao x.aN.bG.length co,U ah x.aI.length ch,U an x.bM.length cn] 33 (0,0))/\kD l7 wr (w.heap.size+1) (nP ks)/\∀y,y∈ks↔wI (x.aI.take k) y) (fun i _=>x.aI.length - (intOf i).toNat)
 case atStart=>exact⟨0,[],V,rfl,G1.o,R1.o,HM0.o,fun y=>⟨fun h=>by simp at h,fun h=>absurd h (I9 y)⟩⟩
 case round=>
  obtain⟨k,ks,hk',rfl,hb,hrow,hmap,hks⟩:=hrel;by_cases hlt:k<x.aI.length
  ·obtain⟨bh,oh,vl,vr,vd,rfl,e0,e1,e2,e3,e4,e5,e6,yu,-,-,-,-,Ar,xk⟩:=VW.at_ nH.o k hlt
   obtain⟨il,jl,rfl,-⟩:=id yu;obtain⟨yX,jd,rfl,-⟩:=id xk;obtain⟨ir,jr,rfl,hr1,VY,-,JG⟩:=Ar;unfold maxLen at VY;have og:=I (I_ hlt);have HRN:=I (fun(j:Nat) (hj:j<x.aI[k].ready.length) (y:Int)=>BZ hj y);have NV:Hid (∀y:Int,dP ([]:List Rd) y=false):=I (fun y=>rfl);have HRE:=I JG;have gS:=I hks;have HM:=I hmap;have jw:=I hrow;have HB:=I hb;replace e0:=hb.sub _ _ e0;replace e1:=hb.sub _ _ e1;replace e2:=hb.sub _ _ e2;replace e3:=hb.sub _ _ e3;replace e4:=hb.sub _ _ e4;replace e5:=hb.sub _ _ e5;replace e6:=hb.sub _ _ e6;clear yu xk JG hks hmap hrow hb;generalize x.aI[k]=h at*;go_upto_region 5 with fail
   obtain⟨wo,hwo⟩:=χ (wr.alloc (.cells #[U il h.bg.length jl,J h.aP.a,J h.aP.b,J h.aP.c,J h.aP.d,U ir h.ready.length jr,U yX h.done.length jd] 50));obtain⟨BO,Aq⟩:=χ wr.heap.size;have GO:Hid (aK wr wo):=I (by rw [hwo];exact(aG _).alloc _);have RO:Hid (wo.heap[BO]? =some (.cells #[U il h.bg.length jl,J h.aP.a,J h.aP.b,J h.aP.c,J h.aP.d,U ir h.ready.length jr,U yX h.done.length jd] 50 (0,0))):=I (by rw [hwo,Aq];exact bn _ _);rw [<-hwo,<-Aq];clear hwo Aq e0 e1 e2 e3 e4 e5 e6;obtain⟨f0,f1,f2,f3,f4,f5,f6⟩:=bZ RO.o;have zO:BO<wo.heap.size:=(γ RO.o);go_wp2;clear f0 f1 f2 f3 f4 f5 f6 zO;obtain⟨wx,hwx⟩:=χ wr;rw [<-hwx] at GO HM jw HB;clear hwx;go_loopw [25] (fun i2 wr=>∃(j:Nat) (Jc:List Int),j<=h.ready.length/\i2=J j/\aK w wr/\wr.heap[w.heap.size]? =some (.cells #[U al x.aN.bg.length cl,J x.aN.aW,J x.aN.next,U ao x.aN.bG.length co,U (some ⟨bh,oh,none⟩) x.aI.length ch,U an x.bM.length cn] 33 (0,0))/\kD l7 wr (w.heap.size+1) (nP Jc)/\∀y,y∈Jc↔wI (x.aI.take k) y∨dP (h.ready.take j) y=true) (fun i2 _=>h.ready.length - (intOf i2).toNat)
   case atStart=>exact⟨0,ks,V,rfl,HB.o.trans GO.o,aF jw.o GO.o,HM.o.grown (aO GO.o none) σ,fun y=>by rw [gS.o y];constructor;exact .inl;rintro(a|a);exact a;simp [NV.o] at a⟩
   case round=>
    obtain⟨j,Jc,hj',rfl,gB,iJ,rC,Aa⟩:=hrel;by_cases hjl:j<h.ready.length
    ·obtain⟨br,orr,vp,rfl,t0,t1,-,hP⟩:=VU.at_ HRE.o j hjl
     obtain⟨ap,cp,rfl,-⟩:=id hP;have YI:=I (HRN.o j hjl);have JK:=I Aa;have yI:=I rC;have zu:=I iJ;have jq:=I gB;replace t0:=gB.sub _ _ t0;replace t1:=gB.sub _ _ t1;clear hP Aa rC iJ gB;generalize h.ready[j]=r at*;go_wp2_with (first|(at_mapUpdate;refine KN qN Tryz.underlying51 rfl _ _ _ rfl (yI.o.grown (aO ((aG _).alloc _) none) σ) r.aJ (.bool true) rfl rfl rfl ?_;intro wq hm' hg';have tD:=I hm';have XR:=I hg';clear hm' hg'))
     obtain⟨ks3,L9,hmem⟩:=Ba Jc r.aJ;have hm':=tD.o;rw [L9] at hm';have yh:=I ((jq.o.alloc (.cells #[J r.aJ,U ap r.aH.length cp] 53)).grown XR.o (fun q O=>by have:=bI O;omega));have qF:=I (bJ (aF zu.o ((aG _).alloc (.cells #[J r.aJ,U ap r.aH.length cp] 53))) XR.o iP);have NI:=I hm';clear hm';try go_wp2
     go_roundw
     case rel=>exact⟨j+1,ks3,V,by go_num,yh.o,qF.o,NI.o,fun y=>by rw [hmem,JK.o,YI.o y,or_assoc];constructor<;>(rintro(a|a|a))<;>first|exact .inl a|exact .inr (.inl a)|exact .inr (.inr a.symm)|exact .inr (.inr (by rw [a]))⟩
     case measure=>simp [intOf];omega
    ·have JK:=I Aa
     have yI:=I rC;have zu:=I iJ;have jq:=I gB;clear Aa rC iJ gB;have hTL:h.ready.take j=h.ready:=eG V;rw [hTL] at JK;clear hTL;go_wp2;go_roundw
     case rel=>exact⟨k+1,Jc,V,by go_num,jq.o,zu.o,yI.o,fun y=>by rw [JK.o,og.o y]⟩
     case measure=>simp [intOf];omega
  ·have gS:=I hks
   have HM:=I hmap;have jw:=I hrow;have HB:=I hb;rw [eG V] at gS;clear hks hmap hrow hb;obtain⟨c0,c1,c2,c3,c4,c5⟩:=bF jw.o;have z1:w.heap.size<wr:=(γ jw.o);go_wp2_with fail
   refine(tX (c:=w.cell?) (l:=x.aN.bg) _ HB.o.sub G_.o (τ gC.o)).mono ?_;rintro e w5 ⟨v5,rfl,mW,iY⟩;obtain⟨a5,vR,rfl⟩:=mW.form;have oQ:=I mW;have AV:=I (HB.o.trans iY);have Gp:=I (aF jw.o iY);have HM5:=I (HM.o.grown (aO iY none) σ);have Y_:Hid (w.heap.size+2<=wr.heap.size):=I (τ HM.o.lt);clear mW iY c0 c1 c2 c3 c4 c5 z1;have hdl:(bH x.aN.bg).length<=100000:=by unfold bH;rw [List.length_map];exact Nat.le_trans (List.length_filter_le _ _) gC.o
   obtain⟨D,hD⟩:=χ (bH x.aN.bg);rw [<-hD] at oQ HOI A3 hdl ⊢;clear hD;obtain⟨BD,hBD⟩:=χ wr.heap.size;rw [<-hBD] at oQ Y_;clear hBD;go_wp2;go_loopw [39] (fun i wr=>∃(k:Nat) (ks:List Int),k<=D.length/\i=J k/\aK w wr/\wr.heap[w.heap.size]? =some (.cells #[U al x.aN.bg.length cl,J x.aN.aW,J x.aN.next,U ao x.aN.bG.length co,U ah x.aI.length ch,U an x.bM.length cn] 33 (0,0))/\kD l7 wr (w.heap.size+1) (nP ks)/\bK Ty.rd w.cell? wr BD 53 (U a5 D.length vR) D/\∀y,y∈ks↔wI x.aI y∨ru x.aI (D.take k) y) (fun i _=>D.length - (intOf i).toNat)
   case atStart=>exact⟨0,ks,V,rfl,AV.o,Gp.o,HM5.o,oQ.o,fun y=>by rw [gS.o y];constructor;exact .inl;rintro(a|a);exact a;exact absurd a (EC _ _)⟩
   case round=>
    obtain⟨k3,ks3,A3l,rfl,fB,DY,Gi,Sz,SA⟩:=hrel;by_cases hlt3:k3<D.length
    ·obtain⟨bd,cs,rfl,hRR,hAt⟩:=Sz.get ε k3 hlt3
     obtain⟨vp,rfl,hdi,hP⟩:=hRR;have t0:=hAt 0 _ rfl;have t1:=hAt 1 _ rfl;simp only [show Ty.rd.size=2 from rfl,Nat.add_zero] at t0 t1;obtain⟨ap,cp,rfl,-⟩:=id hP;have HDN:=I (ED (hs:=x.aI) hlt3);have BW:=I (A3.o _ (List.getElem_mem hlt3));have Dk:=I hP;have ZN:=I SA;have NI:=I Gi;have qF:=I DY;have lU:=I fB;have n_:=I Sz;clear hP SA Gi DY fB Sz hAt;generalize D[k3]=r at*;go_upto_region 14 with fail
     obtain⟨wq3,hwq⟩:=χ (wr.alloc (.cells #[J r.aJ,U ap r.aH.length cp] 53));obtain⟨BR,eI⟩:=χ wr.heap.size;have GQ:Hid (aK wr wq3):=I (by rw [hwq];exact(aG _).alloc _);have RQ:Hid (wq3.heap[BR]? =some (.cells #[J r.aJ,U ap r.aH.length cp] 53 (0,0))):=I (by rw [hwq,eI];exact bn _ _);have PV:Hid (w.heap.size+2<=BR):=I (τ NI.o.lt);rw [<-hwq,<-eI];clear hwq eI t0 t1;have Eb:=I (aF qF.o GQ.o);obtain⟨c0,c1,c2,c3,c4,c5⟩:=bF Eb.o;have z1:w.heap.size<wq3:=(γ Eb.o);go_wp2;clear c0 c1 c2 c3 c4 c5 z1;obtain⟨wx,hwx⟩:=χ wr;rw [<-hwx] at GQ NI qF lU n_;clear hwx;go_loopw [46] (fun i2 wr=>∃(j:Nat) (Jc:List Int),j<=x.aI.length/\i2=J j/\aK w wr/\Sub w.cell? wr.cell?/\wr.heap[w.heap.size]? =some (.cells #[U al x.aN.bg.length cl,J x.aN.aW,J x.aN.next,U ao x.aN.bG.length co,U ah x.aI.length ch,U an x.bM.length cn] 33 (0,0))/\kD l7 wr (w.heap.size+1) (nP Jc)/\bK Ty.rd w.cell? wr BD 53 (U (some ⟨bd,0,none⟩) D.length vR) D/\wr.heap[BR]? =some (.cells #[J r.aJ,U ap r.aH.length cp] 53 (0,0))/\∀y,y∈Jc↔(wI x.aI y∨ru x.aI (D.take k3) y)∨(r.aJ=y/\BU x.aI r j)) (fun i2 _=>x.aI.length - (intOf i2).toNat)
     case atStart=>exact⟨0,ks3,V,rfl,lU.o.trans GQ.o,(lU.o.trans GQ.o).sub,Eb.o,NI.o.grown (aO GQ.o none) σ,n_.o.grow GQ.o,RQ.o,fun y=>by rw [ZN.o y];constructor;exact .inl;rintro(a|⟨-,a⟩);exact a;exact absurd a Ja⟩
     case round=>
      obtain⟨j,Jc,hj',rfl,gB,hs2,iJ,rC,SB,XT,Aa⟩:=hrel;by_cases hjl:j<x.aI.length
      ·obtain⟨bh,oh,vl,vr,vd,rfl,e0,e1,e2,e3,e4,e5,e6,yu,-,-,-,-,Ar,xk⟩:=VW.at_ nH.o j hjl
       obtain⟨il,jl,rfl,-⟩:=id yu;obtain⟨ir,jr,rfl,-⟩:=id Ar;obtain⟨yX,jd,rfl,-⟩:=id xk;have KK:=I (Jb (r:=r) (dM hjl));have UN:=I xk;have JK:=I Aa;have yI:=I rC;have zu:=I iJ;have jq:=I gB;have pI:=I SB;have Il:=I XT;replace e0:=gB.sub _ _ e0;replace e1:=gB.sub _ _ e1;replace e2:=gB.sub _ _ e2;replace e3:=gB.sub _ _ e3;replace e4:=gB.sub _ _ e4;replace e5:=gB.sub _ _ e5;replace e6:=gB.sub _ _ e6;clear yu Ar xk Aa rC iJ gB hs2 SB XT;generalize x.aI[j]=h at*;go_upto_region 17 with fail
       obtain⟨wo,hwo⟩:=χ (wr.alloc (.cells #[U il h.bg.length jl,J h.aP.a,J h.aP.b,J h.aP.c,J h.aP.d,U ir h.ready.length jr,U yX h.done.length jd] 50));obtain⟨BO,Aq⟩:=χ wr.heap.size;have GO:Hid (aK wr wo):=I (by rw [hwo];exact(aG _).alloc _);have RO:Hid (wo.heap[BO]? =some (.cells #[U il h.bg.length jl,J h.aP.a,J h.aP.b,J h.aP.c,J h.aP.d,U ir h.ready.length jr,U yX h.done.length jd] 50 (0,0))):=I (by rw [hwo,Aq];exact bn _ _);rw [<-hwo,<-Aq];clear hwo Aq e0 e1 e2 e3 e4 e5 e6;have RQO:=I (aF Il.o GO.o);obtain⟨s0,s1⟩:=jP RQO.o;have zR:BR<wo.heap.size:=(γ RQO.o);go_wp2_with fail
       refine(KE (n:=(j:Int)) _ (Dk.o.mono (jq.o.trans GO.o).sub) (τ BW.o)).mono ?_;rintro e w6 ⟨v6,rfl,tZ,nS⟩;obtain⟨a6,c6,rfl⟩:=dG tZ;have G6:=I (GO.o.trans nS);have uL:=I (aF RQO.o nS);have RO6:=I (aF RO.o nS);clear tZ nS s0 s1 zR;by_cases hpl:jT r.aH (j:Int)=[]
       ·have zi:¬(0:Int)<((jT r.aH (j:Int)).length:Int):=by rw [hpl];simp
        have pU:=I hpl;clear hpl;generalize jT r.aH (j:Int)=pl at*;go_wp2;go_roundw
        case rel=>exact⟨j+1,Jc,V,by go_num,jq.o.trans G6.o,(jq.o.trans G6.o).sub,aF zu.o G6.o,yI.o.grown (aO G6.o none) σ,pI.o.grow G6.o,uL.o,fun y=>by rw [JK.o y,KK.o];constructor;(rintro(a|⟨a,b⟩);exact .inl a;exact .inr ⟨a,.inl b⟩);(rintro(a|⟨a,b|b⟩);exact .inl a;exact .inr ⟨a,b⟩;exact absurd pU.o b.1)⟩
        case measure=>simp [intOf];omega
       ·have zi:(0:Int)<((jT r.aH (j:Int)).length:Int):=by have:=List.length_pos_iff.2 hpl;omega
        have pU:=I hpl;clear hpl;generalize jT r.aH (j:Int)=pl at*;obtain⟨s0,s1⟩:=jP uL.o;obtain⟨f0,f1,f2,f3,f4,f5,f6⟩:=bZ RO6.o;have zR:BR<w6.heap.size:=(γ uL.o);have zO:BO<w6.heap.size:=(γ RO6.o);go_wp2_with fail
        refine(zC (n:=r.aJ) _ (UN.o.mono (jq.o.trans G6.o).sub)).mono ?_;rintro e w7 ⟨rfl,jQ⟩;have G7:=I (G6.o.trans jQ);have KS:=I (aF uL.o jQ);clear jQ s0 s1 f0 f1 f2 f3 f4 f5 f6 zR zO;obtain⟨tn,htn⟩:=χ (decide (r.aJ∈h.done));rw [<-htn];have Rk:=I htn;clear htn;cases tn with
        |true=>
         have yF:=I (of_decide_eq_true Rk.o.symm);go_wp2;go_roundw
         case rel=>exact⟨j+1,Jc,V,by go_num,jq.o.trans G7.o,(jq.o.trans G7.o).sub,aF zu.o G7.o,yI.o.grown (aO G7.o none) σ,pI.o.grow G7.o,KS.o,fun y=>by rw [JK.o y,KK.o];constructor;(rintro(a|⟨a,b⟩);exact .inl a;exact .inr ⟨a,.inl b⟩);(rintro(a|⟨a,b|b⟩);exact .inl a;exact .inr ⟨a,b⟩;exact absurd yF.o b.2)⟩
         case measure=>simp [intOf];omega
        |false=>
         have yF:=I (of_decide_eq_false Rk.o.symm);have HM7:=I (yI.o.grown (aO G7.o none) σ);obtain⟨s0,s1⟩:=jP KS.o;have zR:BR<w7.heap.size:=(γ KS.o);go_wp2_with (first|(at_mapUpdate;refine KN qN Tryz.underlying51 rfl _ _ _ rfl (HM7.o) r.aJ (.bool true) rfl rfl rfl ?_;intro wq hm' hg';have tD:=I hm';have XR:=I hg';clear hm' hg'))
         obtain⟨ks3,L9,hmem⟩:=Ba Jc r.aJ;have hm':=tD.o;rw [L9] at hm';have yh:=I ((jq.o.trans G7.o).grown XR.o (fun q O=>by have:=bI O;omega));have A0L:=I (bJ (aF zu.o G7.o) XR.o iP);have A0M:=I (bJ KS.o XR.o (by intro e;have:=bI e;have:=PV.o;omega));have A0N:=I ((pI.o.grow G7.o).kept XR.o (eF pI.o (τ Y_.o)));have A0O:=I hm';clear hm' s0 s1 zR;try go_wp2
         go_roundw
         case rel=>exact⟨j+1,ks3,V,by go_num,yh.o,yh.o.sub,A0L.o,A0O.o,A0N.o,A0M.o,fun y=>by rw [hmem,JK.o y,KK.o];constructor;(rintro((a|⟨a,b⟩)|a);exact .inl a;exact .inr ⟨a,.inl b⟩;exact .inr ⟨a.symm,.inr ⟨pU.o,yF.o⟩⟩);(rintro(a|⟨a,b⟩);exact .inl (.inl a);exact .inr a.symm)⟩
         case measure=>simp [intOf];omega
      ·have JK:=I Aa
       have yI:=I rC;have zu:=I iJ;have jq:=I gB;have pI:=I SB;clear Aa rC iJ gB hs2 SB XT;have hjE:j=x.aI.length:=by omega
       subst hjE;go_wp2;go_roundw
       case rel=>exact⟨k3+1,Jc,V,by go_num,jq.o,zu.o,yI.o,pI.o,fun y=>by rw [JK.o,HDN.o y,or_assoc]⟩
       case measure=>simp [intOf];omega
    ·have ZN:=I SA
     have NI:=I Gi;have lU:=I fB;rw [eG V] at ZN;clear SA Gi DY fB Sz;have HPE:Hid (jW (fun y=>decide (y∈ks3)) 1344=opensE x):=I (by
      unfold jW opensE;congr 1;funext y;rw [Bool.eq_iff_iff,HOI.o y,decide_eq_true_iff,ZN.o y])
     go_wp2;go_loopw [12,70] (fun s12 i wr=>∃j:Nat,j<=1344/\i=J j/\aK w wr/\kD l7 wr (w.heap.size+1) (nP ks3)/\bK Ty.int (fun _=>none) wr (w.heap.size+2) 3 s12 (jW (fun y=>decide (y∈ks3)) j)) (fun _ i _=>1344 - (intOf i).toNat)
     case atStart=>exact⟨0,V,rfl,lU.o,NI.o,bK.nil _ _ _ _ _⟩
     case round=>
      obtain⟨j,hj',rfl,iE,Uo,XU⟩:=hrel;obtain⟨a9,c9,rfl⟩:=XU.form;have og:=I (z_ (fun y=>decide (y∈ks3)) j);have Am:=I (B_ (fun y=>decide (y∈ks3)) j);have HM:=I Uo;have HO:=I XU;have HB:=I iE;have J3:Hid (w.heap.size+2<=wr.heap.size):=I (τ Uo.lt);clear iE Uo XU;by_cases hj:j<1344
      ·have hji:(j:Int)<1344:=by omega
       generalize jW (fun y=>decide (y∈ks3)) j=ls at*;by_cases hin:(j:Int)∈ks3
       ·have HG:=I (Qw hin)
        rw [bC (decide_eq_true hin)] at og;clear hin;go_wp2_with (first|(at_lookup;refine rV qN Tryz.underlying51 hzb rfl _ _ rfl HM.o (j:Int) rfl rfl ?_;rw [HG.o])|(at_builtin;refine cO (c:=fun _=>none) (base:=w.heap.size+2) (l:=ls) (m:=[(j:Int)]) jL rfl jX ε rfl (.tmp 76) (.tmp 78) rfl rfl (HO.o.grow ((aG _).alloc _)) rfl (Src.dU (T:=Ty.int) (x:=(j:Int)) (cs:=#[J (j:Int)]) ⟨rfl,ku V V⟩ _ _ ?d1) ?d2 ?d3 ?_))
        case d1=>first|rfl|simp
        case d2=>have:=Am.o;simp;omega
        case d3=>have:=J3.o;simp;omega
        intro a8 c8 w9 gX fV iE;have yj:=HO.o.lt;have kR:Hid (aK w w9):=I ((HB.o.alloc _).grown fV (fun q O=>by have:=(yj q O).1;omega));have HM9:=I ((HM.o.grown (aO ((aG wr).alloc (.cells #[J (j:Int)] 3)) none) σ).grown fV (by intro e;have:=(yj _ e).1;omega));have jE:=I gX;clear gX fV iE yj;go_wp2;go_roundw
        case rel=>exact⟨j+1,V,by go_num,kR.o,HM9.o,by rw [og.o];exact jE.o⟩
        case measure=>simp [intOf];omega
       ·have HG:=I (KO hin)
        rw [aV (by simpa using hin)] at og;clear hin;go_wp2_with (first|(at_lookup;refine rV qN Tryz.underlying51 hzb rfl _ _ rfl HM.o (j:Int) rfl rfl ?_;rw [HG.o]))
        go_roundw
        case rel=>exact⟨j+1,V,by go_num,HB.o,HM.o,by rw [og.o];exact HO.o⟩
        case measure=>simp [intOf];omega
      ·have hjE:j=1344:=by omega
       subst hjE;rw [HPE.o] at HO ⊢;obtain⟨ls,hls⟩:=χ (opensE x);rw [<-hls] at HO ⊢;have HLS:=I hls;clear hls;go_wp2;go_ret;exact⟨_,rfl,by rw [<-HLS.o];exact HO.o.base (Nat.le_add_right _ 2),HB.o⟩
theorem eK {n:Nat} {G:Reg} {y:AW} (i:WI n G y) (q:Quiet y):opensE y=[]:=by
 have h:=(tC i).2 q;unfold idleA at h;simp only [Bool.and_eq_true,List.isEmpty_iff] at h;exact h.2
theorem OU {n0:Int} {v:Value} {l:List St} (w:World) (_hn:I64 n0) (hv:Sl Ty.st w.cell? v l) (_hs:l.length*40<=140737488351232):
  Calls Tryz.prog 8 #[J n0,v] w fun e w'=>e=.returned (.bool true)/\aK w w':=by
 obtain⟨av,cv,rfl,-⟩:=id hv;by_cases hin:1<=n0/\n0<=3;rotate_left
 ·have t:(decide (n0<1)=true∨(decide (n0<1)=false/\decide (3<n0)=true)):=by
   by_cases h:n0<1
   ·left;simp [h]
   ·right;simp;omega
  clear hv hin;go_enter Tryz.func8,Tryz.ntmps8;go_wp2_with fail
  refine(sW _).mono ?_;rintro e w1 ⟨rfl,dZ⟩;rcases t with t|⟨t1,t2⟩
  all_goals
   go_wp2;go_ret;exact⟨rfl,dZ⟩
 obtain⟨n,rfl⟩:∃n:Nat,n0=(n:Int):=⟨n0.toNat,V⟩;have hn:1<=n/\n<=3:=by omega
 have tn1:decide ((n:Int)<1)=false:=by simp;omega
 have tn3:decide ((3:Int)<(n:Int))=false:=by simp;omega
 obtain⟨G,hwi,-⟩:=WI.sQ hn (l.take 150);have YZ:(l.take 150).length<=150:=by rw [List.length_take];omega
 have hwk:=(WK.play hn (l.take 150) V).up (k':=150) YZ ε;obtain⟨v_,XV,hsn⟩:=hwi.settle;have hwy:=(hwk.settle ε).up (k':=33150) ε ε;have pU:=I (fun(W:World) (hW:aK w W)=>BJ (l:=l) W hn (hv.mono hW.sub));have HST:=I (fun(W:World) (v:Value) (N:Of Ty.wd W.cell? v (d_ (gK n) (l.take 150)))=>kP W N hwk ε);have NU:=I (fun(W:World) (v:Value) (N:Of Ty.wd W.cell? v (fD (d_ (gK n) (l.take 150))).1)=>mQ W N hwy);rw [(tC XV).2 v_] at NU;have Ux:=I (fun(W:World) (v:Value) (N:Of Ty.wd W.cell? v (fD (d_ (gK n) (l.take 150))).1)=>x9 W N hwy.I5.2 (τ hwy.few.bg) (fun r hr=>(g_ (XV.core.reg.ok _ (XV.core.dec.reg r hr)).2).2.1));rw [eK XV v_] at Ux;have Jj:Hid (∀h∈(fD (d_ (gK n) (l.take 150))).1.aI,h.ready=[]):=I (fun h hh=>by obtain⟨j,hj⟩:=List.mem_iff_getElem?.1 hh;exact v_.ready j h hj);have t30:decide ((30:Int)<((fD (d_ (gK n) (l.take 150))).2:Int))=false:=by simp;omega
 have Am:=I XV.core.len;clear hv hin hn hwi hwk YZ v_ XV hwy;generalize d_ (gK n) (l.take 150)=x at*;generalize fD x=sx at*;obtain⟨y,ks⟩:=sx;dsimp only at*;go_enter Tryz.func8,Tryz.ntmps8;go_wp2_with fail
 refine(sW _).mono ?_;rintro e w1 ⟨rfl,dZ⟩;have G1:=I dZ;clear dZ;go_wp2_with fail
 refine(pU.o _ G1.o).mono ?_;rintro e w2 ⟨v2,es2,rfl,pV,-,gB⟩;obtain⟨al,cl,ao,co,ah,ch,an,cn,rfl⟩:=pV.dJ;have AX:=I pV;have G2:=I (G1.o.trans gB);clear pV gB pU tn1 tn3;obtain⟨w3,hwq⟩:=χ (w2.alloc (.cells #[U al x.aN.bg.length cl,J x.aN.aW,J x.aN.next,U ao x.aN.bG.length co,U ah x.aI.length ch,U an x.bM.length cn] 33));obtain⟨B5,lq⟩:=χ w2.heap.size;have AU:Hid (aK w2 w3):=I (by rw [hwq];exact(aG _).alloc _);have R5:Hid (w3.heap[B5]? =some (.cells #[U al x.aN.bg.length cl,J x.aN.aW,J x.aN.next,U ao x.aN.bG.length co,U ah x.aI.length ch,U an x.bM.length cn] 33 (0,0))):=I (by rw [hwq,lq];exact bn _ _);go_upto_region 6 with fail
 rw [<-hwq,<-lq];clear hwq lq;obtain⟨a0,a1,a2,a3,a4,a5⟩:=bF R5.o;have za:B5<w3.heap.size:=(γ R5.o);go_wp2_with fail
 refine(HST.o w3 _ (AX.o.mono AU.o.sub)).mono ?_;rintro e w4 ⟨v4,rfl,FX,qW⟩;obtain⟨N9,N_,JD,JE,Oa,ch4,Ob,Oc,rfl⟩:=FX.dJ;have N8:=I (FX.mono (fG _ _));have xM:=I (G2.o.trans (AU.o.trans qW));clear FX qW HST a0 a1 a2 a3 a4 a5 za AX R5;obtain⟨w5,hwq⟩:=χ (w4.alloc (.cells #[U N9 y.aN.bg.length N_,J y.aN.aW,J y.aN.next,U JD y.aN.bG.length JE,U Oa y.aI.length ch4,U Ob y.bM.length Oc] 33));obtain⟨B7,lq⟩:=χ w4.heap.size;have Oe:Hid (aK w4 w5):=I (by rw [hwq];exact(aG _).alloc _);have R7:Hid (w5.heap[B7]? =some (.cells #[U N9 y.aN.bg.length N_,J y.aN.aW,J y.aN.next,U JD y.aN.bG.length JE,U Oa y.aI.length ch4,U Ob y.bM.length Oc] 33 (0,0))):=I (by rw [hwq,lq];exact bn _ _);go_upto_region 7 with fail
 rw [<-hwq,<-lq];clear hwq lq;have H7:=I (N8.o.mono Oe.o.sub);have GB:=I (xM.o.trans Oe.o);obtain⟨a0,a1,a2,a3,a4,a5⟩:=bF R7.o;have za:B7<w5.heap.size:=(γ R7.o);clear N8;have hnn:((y.aI.length:Int) !=(n:Int))=false:=by rw [Am.o];simp
 go_wp2_with fail
 refine(NU.o w5 _ H7.o).mono ?_;rintro e w6 ⟨rfl,nS⟩;have tK:=I nS;clear nS a0 a1 a2 a3 a4 a5 za;obtain⟨a0,a1,a2,a3,a4,a5⟩:=bF (aF R7.o tK.o);have za:B7<w6.heap.size:=(Array.getElem?_eq_some_iff.1 (aF R7.o tK.o)).1;obtain⟨-,q2,-⟩:=H7.o.ji;obtain⟨aq,cq,heq,hh1,hh2,-,hel⟩:=q2;simp only [Value.slice.injEq] at heq;obtain⟨rfl,-,rfl⟩:=heq;unfold maxLen at hh2;have nH:=I hel;clear hel;go_wp2;clear a0 a1 a2 a3 a4 a5 za hnn t30;go_loopw [47] (fun i wr=>∃k:Nat,k<=y.aI.length/\i=J k/\aK w6 wr) (fun i _=>y.aI.length - (intOf i).toNat)
 case atStart=>exact⟨0,V,rfl,aG _⟩
 case round=>
  obtain⟨k,hk',rfl,hgr⟩:=hrel;have HG:=I hgr;have GR:=I (tK.o.trans hgr);clear hgr;by_cases hlt:k<y.aI.length
  ·obtain⟨bh,oh,vl,vr,vd,rfl,e0,e1,e2,e3,e4,e5,e6,yu,-,-,-,-,Ar,xk⟩:=VW.at_ nH.o k hlt
   obtain⟨il,jl,rfl,-⟩:=id yu;obtain⟨ir,jr,rfl,-⟩:=id Ar;obtain⟨yX,jd,rfl,-⟩:=id xk;have F9:=Jj.o _ (List.getElem_mem hlt);have hS:=GR.o.sub;replace e0:=hS _ _ e0;replace e1:=hS _ _ e1;replace e2:=hS _ _ e2;replace e3:=hS _ _ e3;replace e4:=hS _ _ e4;replace e5:=hS _ _ e5;replace e6:=hS _ _ e6;clear yu Ar xk hS;generalize y.aI[k]=h at*;have u1:decide (0<h.ready.length)=false:=by rw [F9];rfl
   have u2:decide ((0:Int)<(h.ready.length:Int))=false:=by rw [F9];rfl
   clear F9;go_upto_region 12 with fail
   obtain⟨wo,hwq⟩:=χ (wr.alloc (.cells #[U il h.bg.length jl,J h.aP.a,J h.aP.b,J h.aP.c,J h.aP.d,U ir h.ready.length jr,U yX h.done.length jd] 50));obtain⟨BO,lq⟩:=χ wr.heap.size;have GO:Hid (aK wr wo):=I (by rw [hwq];exact(aG _).alloc _);have RO:Hid (wo.heap[BO]? =some (.cells #[U il h.bg.length jl,J h.aP.a,J h.aP.b,J h.aP.c,J h.aP.d,U ir h.ready.length jr,U yX h.done.length jd] 50 (0,0))):=I (by rw [hwq,lq];exact bn _ _);rw [<-hwq,<-lq];clear hwq lq e0 e1 e2 e3 e4 e5 e6;obtain⟨f0,f1,f2,f3,f4,f5,f6⟩:=bZ RO.o;have zO:BO<wo.heap.size:=(γ RO.o);go_wp2;go_roundw
   case rel=>exact⟨k+1,V,by go_num,HG.o.trans GO.o⟩
   case measure=>simp [intOf];omega
  ·obtain⟨a0,a1,a2,a3,a4,a5⟩:=bF (aF R7.o GR.o)
   have za:B7<wr.heap.size:=(Array.getElem?_eq_some_iff.1 (aF R7.o GR.o)).1;go_wp2_with fail
   refine(Ux.o wr _ (H7.o.mono GR.o.sub)).mono ?_;rintro e w8 ⟨v8,rfl,nT,lD⟩;obtain⟨a8,c8,rfl⟩:=nT.form;have G8:=I (GB.o.trans (GR.o.trans lD));clear nT lD a0 a1 a2 a3 a4 a5 za;go_wp2;go_ret;exact⟨rfl,G8.o⟩
end Go.Proofs.YtocnmkefmgmkbaaGreat
namespace Go.Proofs.YtocnmkefmgmkbaaGreat
open Go.RowKit Go.ChangeShapes Go.WideShapes Go.ChangeAt
def Reads {α:Type} (P:Program) (t:TypeId) (T:Ty α):Prop:=∀(H:Type) (enc:TypeId×Value->H) (W:World) (fuel:Nat) (cs:List Value) (x:DataW H×List MemPlace),
 DataW.trod enc P W 0 (fun _=>true) true fuel t cs=some x->∃y,T.R W.cell? cs y
theorem gY {P:Program} {t:TypeId} (ht:P.underlying t=some (.int .i64)):Reads P t Ty.int:=by
 intro H enc W fuel cs x h;obtain⟨n,rfl,_,hw⟩:=DataW.trod_int ht h;exact⟨n,rfl,hw⟩
theorem oL {α:Type} {P:Program} {t e:TypeId} {T:Ty α} (hR:Reads P e T) (ht:P.underlying t=some (.slice e)) (hc:P.cellsOf e=T.size) (h0:0<T.size):Reads P t T.sl:=by
 intro H enc W fuel cs x h;rcases Deep.open_slice ht h with⟨rfl,_⟩|⟨a,len,cap,m,n,D,Pl,rfl,_,hl,hm,hmm,hxe,Z⟩
 ·exact⟨[],_,rfl,none,0,rfl,Nat.le_refl _,Nat.zero_le _,fun _=>rfl,fun i x e=>by simp at e⟩
 ·simp only [if_true] at hmm
  subst m;have Y:∀i,i<len->∃(p:List Value×α),T.R W.cell? p.1 p.2/\W.cells? 0 (a.add (i*T.size)) T.size=some p.1:=by
   intro i hi;obtain⟨cs',N,Y⟩:=Z i V;obtain⟨y,hy⟩:=hR H enc W n cs' _ Y;rw [hc] at N;exact⟨(cs',y),hy,N⟩
  have h3:∃l:List α,l.length=len/\∀i y,l[i]? =some y->∃cs',T.R W.cell? cs' y/\W.cells? 0 (a.add (i*T.size)) T.size=some cs':=by
   clear Z hl h hxe;induction len with
   |zero=>exact⟨[],rfl,σ⟩
   |succ len ih=>
    obtain⟨l,hl,hi⟩:=ih (by intro i hi;exact Y i V);obtain⟨⟨cs',y⟩,hy,N⟩:=Y len V;refine⟨l++ [y],by simp [hl],fun i z hz=>?_⟩;rcases Nat.lt_or_ge i l.length with hlt|hge
    ·rw [List.getElem?_append_left hlt] at hz;exact hi i z hz
    ·have hb:=(List.getElem?_eq_some_iff.1 hz).1
     simp at hb;obtain rfl:i=len:=by omega
     rw [List.getElem?_append_right hge,hl] at hz;simp at hz;subst hz;exact⟨cs',hy,N⟩
  obtain⟨l,hlen,hl2⟩:=h3;refine⟨l,_,rfl,some a,cap,by rw [hlen],V,hm,σ,fun i y hy=>?_⟩;obtain⟨cs',hR',hcs⟩:=hl2 i y hy;obtain⟨_,hlen',hat⟩:=World.cells?_some hcs;have hpos:0<l.length:=by have:=(List.getElem?_eq_some_iff.1 hy).1;omega
  obtain⟨cs0,_,hcs0⟩:=hl2 0 l[0] (dM hpos);obtain⟨_,hlen0,XW⟩:=World.cells?_some hcs0;have hfirst:=XW 0 h0;rw [dM V] at hfirst;have hsp:=World.cell?_spot hfirst;obtain⟨b,o,s⟩:=a;have hs:s=none:=by simpa [Addr.add] using hsp
  subst hs;refine⟨b,o,cs',rfl,hR',fun j u hu=>?_⟩;have hj:j<T.size:=by rw [<-hlen'];exact(List.getElem?_eq_some_iff.1 hu).1
  have:=hat j hj;rw [Addr.add_lit,Addr.add_lit,hu] at this;exact this
def structOf (P:Program) (t:TypeId):Option (List (TypeId×Nat×Nat)):=
 match P.underlying t with
 |some (.struct fs)=>some (fs.toList.map fun f=>(f.type,f.offset,P.cellsOf f.type))
 |_=>none
theorem jk {P:Program} {t:TypeId} {fs':List (TypeId×Nat×Nat)} (hs:structOf P t=some fs') {H:Type} {enc:TypeId×Value->H} {W:World} {fuel:Nat} {cs:List Value} {x:DataW H×List MemPlace}
  (h:DataW.trod enc P W 0 (fun _=>true) true fuel t cs=some x):cs.length=P.cellsOf t/\∀(i:Nat) (f:TypeId×Nat×Nat),fs'[i]? =some f->∃n y,DataW.trod enc P W 0 (fun _=>true) true n f.1 ((cs.drop f.2.1).take f.2.2)=some y:=by
 unfold structOf at hs;split at hs
 ·rename_i fs hu
  obtain rfl:=bI hs;obtain⟨xs,n,_,_,hl,hlen,hf⟩:=DataW.trod_struct hu h;refine⟨hl,fun i f hi=>?_⟩;rw [List.getElem?_map] at hi;cases hfi:fs.toList[i]? with
  |none=>rw [hfi] at hi;cases hi
  |some fd=>
   rw [hfi] at hi;obtain rfl:=bI hi;have NP:fs[i]? =some fd:=by simpa using hfi
   have hlt:i<xs.length:=by rw [hlen];exact(Array.getElem?_eq_some_iff.1 NP).1
   have:=hf i fd NP;rw [dM hlt] at this;exact⟨n,_,this⟩
 ·cases hs
theorem wJ:Reads Tryz.prog 111 Ty.pt:=by
 intro H enc W fuel cs x h;obtain⟨hl,hf⟩:=jk (fs':=[(3,0,1),(3,1,1),(3,2,1)]) κ h;rw [show(Tryz.prog).cellsOf 111=3 by kernel_rfl] at hl;match cs,hl with
 | [a,b,c],_=>
  obtain⟨_,_,h0⟩:=hf 0 _ rfl;obtain⟨_,_,N⟩:=hf 1 _ rfl;obtain⟨_,_,Y⟩:=hf 2 _ rfl;obtain⟨x0,e0,w0⟩:=gY κ _ _ _ _ _ _ h0;obtain⟨x1,e1,w1⟩:=gY κ _ _ _ _ _ _ N;obtain⟨x2,e2,w2⟩:=gY κ _ _ _ _ _ _ Y;refine⟨⟨x0,x1,x2⟩,?_,w0,w1,w2⟩;simp at e0 e1 e2;subst e0 e1 e2;rfl
theorem sJ:Reads Tryz.prog 23 Ty.pts:=oL wJ κ κ ε
theorem EF {α:Type} {P:Program} {t e:TypeId} {T:Ty α} (hR:Reads P t T.sl) (ht:P.underlying t=some (.slice e)) {H:Type} {enc:TypeId×Value->H} {W:World} {r:Reach} {b:Nat} {v:Value} {d:DataW H} {p:List MemPlace}
  (hval:Value.okWide P W r b t v) (h:DataW.Trod enc P W 0 (fun _=>true) true t v d p):∃l,Sl T W.cell? v l:=by
 obtain⟨a,len,cap,rfl⟩:=okWide_slice ht hval;obtain⟨fuel,hf⟩:=h;obtain⟨l,v,e,hv⟩:=hR _ _ _ _ _ _ hf;simp [Value.cells] at e;subst e;exact⟨l,hv⟩
theorem own:ownKnob (Tryz.prog).godebug=none:=by kernel_rfl
theorem laidOut:laidOutB Tryz.prog=true:=by kernel_rfl
end Go.Proofs.YtocnmkefmgmkbaaGreat
namespace Go.Proofs.YtocnmkefmgmkbaaGreat
open Go.RowKit Go.ChangeShapes Go.WideShapes Go.ChangeAt
theorem EG {α:Type} {T:Ty α} {c:CM} {a:Option Addr} {n cap:Nat} {l:List α} (h:Sl T c (U a n cap) l):l.length=n:=by
 obtain⟨a',cap',he,_⟩:=h;simp only [Value.slice.injEq] at he;exact he.2.1.symm
theorem wK {α:Type} {P:Program} {t e:TypeId} {T:Ty α} {k:Nat} (ht:P.underlying t=some (.slice e)) (hb:P.bytesOf e=k) {H:Type} {enc:TypeId×Value->H} {W:World} {r:Reach} {b:Nat} {v:Value} {d:DataW H} {p:List MemPlace} {ts:List TypeId} {ds:List (DataW H)} {j:Nat}
  (hsz:(DataW.weightsEach P ts ds).all (· <=reachBytes)=true) (hj:ts[j]? =some t) (hd:ds[j]? =some d)
  (hval:Value.okWide P W r b t v) (h:DataW.Trod enc P W 0 (fun _=>true) true t v d p) {l:List α} (hl:Sl T W.cell? v l):l.length*k<=140737488351232:=by
 obtain⟨a,len,cap,rfl⟩:=okWide_slice ht hval;obtain⟨fuel,hf⟩:=h;have hll:=EG hl;rcases Deep.open_slice ht hf with⟨he,_⟩|⟨a',len',cap',m,n,D,Pl,he,_,hlc,_,hmm,hxe,_⟩
 ·simp [Value.cells] at he
  rw [hll,he.2.1];simp
 ·simp [Value.cells] at he
  obtain⟨_,rfl,rfl⟩:=he;obtain rfl:d=.slice ((List.range len).map D) ((List.range (m - len)).map fun j=>D (len+j)):=by simpa using congrArg Prod.fst hxe
  have:=sized_slice hsz hj hd ht;rw [hb,List.length_map,List.length_range] at this;rw [hll];have Y:len*k<=(len+((List.range (m - len)).map fun j=>D (len+j)).length)*k:=Nat.mul_le_mul_right _ (Nat.le_add_right _ _);have h3:reachBytes=140737488351232:=rfl;omega
theorem wL:Reads Tryz.prog 25 Ty.st:=by
 intro H enc W fuel cs x h;obtain⟨hl,hf⟩:=jk (fs':=[(3,0,1),(3,1,1),(23,2,1)]) κ h;rw [show(Tryz.prog).cellsOf 25=3 by kernel_rfl] at hl;match cs,hl with
 | [a,b,c],_=>
  obtain⟨_,_,h0⟩:=hf 0 _ rfl;obtain⟨_,_,N⟩:=hf 1 _ rfl;obtain⟨_,_,Y⟩:=hf 2 _ rfl;obtain⟨x0,e0,w0⟩:=gY κ _ _ _ _ _ _ h0;obtain⟨x1,e1,w1⟩:=gY κ _ _ _ _ _ _ N;obtain⟨x2,v2,e2,w2⟩:=sJ _ _ _ _ _ _ Y;refine⟨⟨x0,x1,x2⟩,v2,?_,w0,w1,w2⟩;simp at e0 e1 e2;subst e0 e1 e2;rfl
theorem sK:Reads Tryz.prog 22 (Ty.sl Ty.st):=oL wL κ κ ε
end Go.Proofs.YtocnmkefmgmkbaaGreat
