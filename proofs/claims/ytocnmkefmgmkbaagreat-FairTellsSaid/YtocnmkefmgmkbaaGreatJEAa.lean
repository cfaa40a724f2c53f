/- Parts of proofs, joined: G21, G22, G23, U30, G24, G25. No condition beside those that each theorem names. -/
import Derived.Test.YtocnmkefmgmkbaaGreatJE1b
import Derived.Test.YtocnmkefmgmkbaaGreatJE6a
import Derived.Test.YtocnmkefmgmkbaaGreatJE4b
import Derived.Test.YtocnmkefmgmkbaaGreatJEUa
import Derived.Test.YtocnmkefmgmkbaaGreatJE3a
import Derived.Test.YtocnmkefmgmkbaaGreatJE2a
import Derived.Test.YtocnmkefmgmkbaaGreatJEGa
import Derived.Test.YtocnmkefmgmkbaaGreatJE5a
set_option maxRecDepth 100000
set_option maxHeartbeats 40000000
namespace Go.Proofs.YtocnmkefmgmkbaaGreat
open Go.RowKit
theorem yP {v:Value} {l:List St} {n:Nat} (w:World) (hn:1<=n/\n<=3) (hv:Sl Ty.st w.cell? v l) (Vm:l.length<=150):
  Calls Tryz.prog 26 #[J n,v] w fun e w'=>∃v1 v2,e=.returned (.tuple #[v1,v2,J 0])/\Of Ty.wd (ov (fun _=>none) w w') v1 (d_ (gK n) l)/\Sl Ty.int (ov (fun _=>none) w w') v2 (jK (gK n) l)/\aK w w':=by
 obtain⟨a,cap,rfl,N,Y,-,hel⟩:=hv;unfold maxLen at Y;have HN:=I hn;have t9:decide ((150:Int)<(l.length:Int))=false:=by simp;omega
 clear hn;obtain⟨wb,hwb⟩:=χ (w.alloc (.cells #[(),J 0,J 0,(),(),()] 33));have RB:Hid (wb.heap[w.heap.size]? =some (.cells #[(),J 0,J 0,(),(),()] 33 (0,0))):=I (by rw [hwb];exact bn _ _);have IM:Hid (aK w wb):=I (by rw [hwb];exact(aG w).alloc _);have HSB:Hid (wb.heap.size=w.heap.size+1):=I (by rw [hwb];simp);go_enter Tryz.func26,Tryz.ntmps26;go_upto_region 1 with fail
 rw [<-hwb];clear hwb;go_wp2_with fail
 refine(Qh wb HN.o).mono ?_;rintro e w2 ⟨v2,rfl,pV,gB⟩;obtain⟨al,cl,ao,co,ah,ch,an,cn,rfl⟩:=pV.dJ;have AX:=I pV;have G2:=I gB;clear pV gB;obtain⟨x0,J6⟩:=χ (gK n);rw [<-J6] at AX ⊢;have Y9:=I J6;clear J6;obtain⟨wz,hwz⟩:=χ (w2.alloc (.cells #[U al x0.aN.bg.length cl,J x0.aN.aW,J x0.aN.next,U ao x0.aN.bG.length co,U ah x0.aI.length ch,U an x0.bM.length cn] 33));obtain⟨B6,J7⟩:=χ w2.heap.size;have GZ:Hid (aK wb wz):=I (by rw [hwz];exact G2.o.alloc _);have GZ2:Hid (aK w2 wz):=I (by rw [hwz];exact(aG _).alloc _);have R6:Hid (wz.heap[B6]? =some (.cells #[U al x0.aN.bg.length cl,J x0.aN.aW,J x0.aN.next,U ao x0.aN.bG.length co,U ah x0.aI.length ch,U an x0.bM.length cn] 33 (0,0))):=I (by rw [hwz,J7];exact bn _ _);have ON:Hid (wz.heap.size=B6+1/\wb.heap.size<=B6):=I (by rw [hwz,J7];have:=G2.o.size;simp;omega);have HXZ:Hid (Of Ty.wd (fr wb wz [some B6,none]) (.agg #[U al x0.aN.bg.length cl,J x0.aN.aW,J x0.aN.next,U ao x0.aN.bG.length co,U ah x0.aI.length ch,U an x0.bM.length cn]) x0):=I (AX.o.mono fun a9 v9 e9=>by
  unfold ov at e9;split at e9
  ·cases e9
  ·have hl:=eH w2 a9 e9
   rw [jh V (fun hm=>by simp at hm;omega)];exact GZ2.o.sub _ _ e9)
 go_upto_region 2 with fail
 rw [<-hwz,<-J7];clear hwz J7;go_wp2;go_loopw [9,29] (fun s8 i wr=>∃(k:Nat) (row:Array Value),k<=l.length/\i=J k/\wr.heap[B6]? =some (.cells row 33 (0,0))/\Of Ty.wd (fr wb wr [some B6,s8.ownBlock]) (.agg row) (d_ x0 (l.take k))/\bK Ty.int (fun _=>none) wr (B6+1) 34 s8 (jK x0 (l.take k))/\aK wb wr) (fun _ i _=>l.length - (intOf i).toNat)
 case atStart=>exact⟨0,_,V,rfl,R6.o,HXZ.o,bK.nil _ _ _ _ _,GZ.o⟩
 case round=>
  obtain⟨k,row,hk',rfl,hrow,Z,how,hb⟩:=hrel;obtain⟨a8,c8,rfl⟩:=how.form;obtain⟨iC,iD,lY,lZ,Nq,IY,OL,OM,hrw⟩:=Z.dJ;simp only [Value.agg.injEq] at hrw;subst hrw;have pU:Hid ((jK x0 (l.take k)).length<=150):=I (by rw [Iq,List.length_take];omega);have yw:Hid (WK k (d_ x0 (l.take k))):=I (by rw [Y9.o];have h9:=WK.play HN.o (l.take k) (by rw [List.length_take];omega);rw [List.length_take,Nat.min_eq_left hk'] at h9;exact h9);have jw:=I hrow;have HX:=I Z;have HOW:=I how;have HB:=I hb;have RZR:=I (aF RB.o hb);have hBr:B6<wr.heap.size:=(γ hrow);have A0f:Hid (∀q,(Value.slice a8 (jK x0 (l.take k)).length c8).ownBlock=some q->B6+1<=q/\q<wr.heap.size):=I how.lt;clear hrow Z how hb;by_cases hlt:k<l.length
  ·obtain⟨b,o,vp,rfl,c0,c1,c2,i0,i1,hP⟩:=Sts.at_ hel k hlt
   obtain⟨ap,cp,rfl,-⟩:=id hP;have HST:Hid (Of Ty.st w.cell? (.agg #[J l[k].aX,J l[k].n,.slice ap l[k].aH.length cp]) l[k]):=I ⟨_,rfl,_,rfl,i0,i1,hP⟩;have HNA:Hid (d_ x0 (l.take (k+1))=jZ (d_ x0 (l.take k)) l[k]):=I (MQ hlt x0);have rE:Hid (jK x0 (l.take (k+1))=jK x0 (l.take k)++ [eU (d_ x0 (l.take k)) l[k]]):=I (MR hlt x0);have gs:=IM.o.trans HB.o;replace c0:=gs.sub _ _ c0;replace c1:=gs.sub _ _ c1;replace c2:=gs.sub _ _ c2;clear hel hP i0 i1 gs;generalize l[k]=st at*;generalize d_ x0 (l.take k)=x at*;generalize jK x0 (l.take k)=es at*;go_upto_region 10 with fail
   obtain⟨ws,hws⟩:=χ (wr.alloc (.cells #[J st.aX,J st.n,U ap st.aH.length cp] 25));obtain⟨BS,hBS⟩:=χ wr.heap.size;have GS:Hid (aK wr ws):=I (by rw [hws];exact(aG _).alloc _);have RS:Hid (ws.heap[BS]? =some (.cells #[J st.aX,J st.n,U ap st.aH.length cp] 25 (0,0))):=I (by rw [hws,hBS];exact bn _ _);rw [<-hws,<-hBS];clear hws hBS c0 c1 c2;have RWS:=I (aF jw.o GS.o);have A0:=I (HB.o.trans GS.o);have A1:=I (HOW.o.grow GS.o);obtain⟨x1,x2,x3,x4,x5,x6⟩:=bF RWS.o;obtain⟨s0,s1,s2⟩:=iI RS.o;have zX:B6<ws.heap.size:=(γ RWS.o);have zS:BS<ws.heap.size:=(γ RS.o);have Ol:=I (NJ (s:=st) ws ((HX.o.mono (fH GS.o)).mono (iO _ _ _)) (HST.o.mono (IM.o.trans A0.o).sub) yw.o);clear yw;go_wp2_with fail
   refine Ol.o.mono ?_;rintro e w3 ⟨v3,rfl,FY,fB⟩;obtain⟨Dh,Di,Kr,co3,Vo,ch3,JU,cn3,rfl⟩:=FY.dJ;have Dj:Hid (Of Ty.wd (fr wb w3 [some B6,(Value.slice a8 es.length c8).ownBlock]) (.agg #[U Dh (jZ x st).aN.bg.length Di,J (jZ x st).aN.aW,J (jZ x st).aN.next,U Kr (jZ x st).aN.bG.length co3,U Vo (jZ x st).aI.length ch3,U JU (jZ x st).bM.length cn3]) (jZ x st)):=I (FY.mono (I4 A0.o (fun q O=>by
    simp only [List.mem_cons,List.not_mem_nil,or_false] at O;rcases O with e9|e9
    ·have:=bI e9;have:=GS.o.size;omega
    ·have:=(A0f.o _ e9.symm).2;have:=GS.o.size;omega)))
   have RW3:=I (aF RWS.o fB);have GB3:=I (A0.o.trans fB);have n_:=I (A1.o.grow fB);have HEI:=I (UU x st);clear FY fB Ol x1 x2 x3 x4 x5 x6 s0 s1 s2 zX zS;generalize jZ x st=y at*;generalize eU x st=er at*;obtain⟨w4,NZ⟩:=χ (w3.alloc (.cells #[U Dh y.aN.bg.length Di,J y.aN.aW,J y.aN.next,U Kr y.aN.bG.length co3,U Vo y.aI.length ch3,U JU y.bM.length cn3] 33));obtain⟨BX,hBX⟩:=χ w3.heap.size;have xM:Hid (aK w3 w4):=I (by rw [NZ];exact(aG _).alloc _);have RX4:Hid (w4.heap[BX]? =some (.cells #[U Dh y.aN.bg.length Di,J y.aN.aW,J y.aN.next,U Kr y.aN.bG.length co3,U Vo y.aI.length ch3,U JU y.bM.length cn3] 33 (0,0))):=I (by rw [NZ,hBX];exact bn _ _);go_upto_region 11 with fail
   rw [<-NZ,<-hBX];clear NZ hBX;have RW4:=I (aF RW3.o xM.o);obtain⟨x1,x2,x3,x4,x5,x6⟩:=bF RX4.o;have zX:BX<w4.heap.size:=(γ RX4.o);go_wp2_with (first|(refine aQ rfl (.tmp 7) (.tmp 39) rfl rfl rfl RW4.o dN rfl rfl ?_))
   intro w5 r5 g5;have R65:=I r5;have YX:=I ((GB3.o.trans xM.o).grown g5 (fun q O=>by have:=bI O;have:=ON.o;omega));have F5:=I ((Dj.o.mono (fH xM.o)).mono (Nz g5 σ));have oQ:=I ((n_.o.grow xM.o).kept g5 (eF n_.o V));have Y_:Hid (B6+1<=w5.heap.size):=I (τ (γ r5));clear r5 g5 x1 x2 x3 x4 x5 x6 zX;go_wp2_with (first|(at_builtin;refine cO (c:=fun _=>none) (base:=B6+1) (l:=es) (m:=[er]) Kz rfl jX ε rfl (.tmp 40) (.tmp 42) rfl rfl (oQ.o.grow ((aG _).alloc _)) rfl (Src.dU (T:=Ty.int) (x:=er) (cs:=#[J er]) ⟨rfl,HEI.o⟩ _ _ ?d1) ?d2 ?d3 ?_))
   case d1=>first|rfl|simp
   case d2=>have:=pU.o;simp;omega
   case d3=>have:=Y_.o;simp;omega
   intro a9 c9 w9 gX fV iE;have JV:=oQ.o.lt;have OE:=I ((F5.o.mono (fH ((aG w5).alloc (.cells #[J er] 34)))).mono (JT fV (iE.imp_right fun⟨g,e,hge⟩=>⟨g,e,by simpa using hge⟩)));have R69:=I (bJ (aF R65.o ((aG w5).alloc (.cells #[J er] 34))) fV (by intro e;have:=(JV _ e.symm).1;omega));have SH:=I ((YX.o.alloc (.cells #[J er] 34)).grown fV (fun q O=>by have:=(JV q O).1;have:=ON.o;omega));have jE:=I gX;clear gX fV iE JV;go_wp2;go_roundw
   case rel=>exact⟨k+1,_,V,by go_num,R69.o,by rw [HNA.o];exact OE.o,by rw [rE.o];exact jE.o,SH.o⟩
   case measure=>simp [intOf];omega
  ·have OK:Hid (d_ x0 l=d_ x0 (l.take k)):=I (by rw [eG V])
   have HEE:Hid (jK x0 l=jK x0 (l.take k)):=I (by rw [eG V]);clear hel;generalize d_ x0 (l.take k)=x at*;generalize jK x0 (l.take k)=es at*;obtain⟨x1,x2,x3,x4,x5,x6⟩:=bF jw.o;go_wp2_with (first|(refine aQ rfl (.tmp 4) (.tmp 45) rfl rfl rfl RZR.o dN rfl rfl ?_))
   intro w7 r7 g7;obtain⟨p0,p1,p2,p3,p4,p5⟩:=bF r7;clear x1 x2 x3 x4 x5 x6;go_wp2;refine dw (v:=.tuple #[.agg #[U iC x.aN.bg.length iD,J x.aN.aW,J x.aN.next,U lY x.aN.bG.length lZ,U Nq x.aI.length IY,U OL x.bM.length OM],U a8 es.length c8,J 0]) (by simp [results,Tryz.results26,go_sem,p0,p1,p2,p3,p4,p5]) rfl ?_;have hs1:=HSB.o;have hs2:=ON.o;have G7:aK w w7:=(IM.o.trans HB.o).grown g7 (fun q O=>by have:=bI O;omega);rw [<-Y9.o,OK.o,HEE.o];exact⟨_,_,rfl,HX.o.mono (Kv V g7 V),(HOW.o.kept g7 (eF HOW.o V)).slc ε (fun _ _ e9=>by cases e9) fun a9 h9=>dY V,G7⟩
theorem NK {y:AW} (h:y.bM≠ []):iT y=iT (jZ y ⟨2,0,[]⟩)/\o_ (jZ y ⟨2,0,[]⟩).bM<o_ y.bM:=by
 cases hn:y.bM with
 |nil=>exact absurd hn h
 |cons m l=>
  have hd:jZ y ⟨2,0,[]⟩=iZ { y with bM:=l } m:=by
   unfold jZ there;simp [hn]
  rw [hd,<-hn];exact⟨MB hn,vX hn⟩
theorem Sr {k:Nat} {x:AW} (i:WK k x):o_ x.bM<=192:=by
 obtain⟨n,G,hw⟩:=i.wi;have N:=hw.len;have Y:o_ x.bM<=x.bM.length*8:=J9 fun m _=>by
  unfold wt;repeat' split
  all_goals omega
 omega
theorem WK.drain {k:Nat} {x:AW} (i:WK k x) (h9:k+192<=99000):WK (k+192) (iT x)/\(iT x).bM=[]:=by
 have N:=Sr i;have h:=qC (p:=fun y=>∃k',WK k' y/\k'+o_ y.bM<=k+o_ x.bM) (fun y m l ⟨k',Y,h3⟩ e=>by
  have h4:=vX e;have hd:jZ y ⟨2,0,[]⟩=iZ { y with bM:=l } m:=by
   unfold jZ there;simp [e]
  rw [<-hd] at h4 ⊢;exact⟨k'+1,Y.step ⟨2,0,[]⟩ V,V⟩) _ x (Nat.le_refl _) ⟨k,i,Nat.le_refl _⟩
 obtain⟨⟨k',Y,h3⟩,h5⟩:=h;exact⟨Y.up V h9,h5⟩
noncomputable def lst (P:Nat->Prop):Nat:=Classical.epsilon fun m=>P m/\∀j,P j->m<=j
theorem uB {P:Nat->Prop}:∀(f m:Nat),m<=f->P m->∃q,P q/\∀j,P j->q<=j
 |0,m,hm,hp=>⟨m,hp,fun j _=>V⟩
 |f+1,m,hm,hp=>by
  by_cases h:∃j,P j/\j<m
  ·obtain⟨j,N,Y⟩:=h
   exact uB f j V N
  ·exact⟨m,hp,fun j hj=>by
    by_cases hl:j<m
    ·exact absurd ⟨j,hj,hl⟩ h
    ·omega⟩
theorem Gg {P:Nat->Prop} (h:∃m,P m):P (lst P)/\∀j,P j->lst P<=j:=by
 obtain⟨m,hm⟩:=h;exact Classical.epsilon_spec (uB m m (Nat.le_refl _) hm)
def dr (c:CM) (w W:World):CM:=fun a=>if a.block<w.heap.size then c a else if a.block<=w.heap.size+1 then none else W.cell? a
theorem uC {c:CM} {w W:World} (h:Sub c w.cell?):Sub c (dr c w W):=fun a v e=>by
 have hl:=eH w a (h a v e);unfold dr;rw [bC hl];exact e
theorem Gh {c:CM} {w W:World} (h:Sub c w.cell?) (hg:aK w W):Sub (dr c w W) W.cell?:=fun a v e=>by
 unfold dr at e;split at e
 ·exact hg.sub _ _ (h _ _ e)
 ·split at e
  ·cases e
  ·exact e
theorem A0F {c:CM} {w wr w3 w5:World} {q:Nat} (h:w.heap.size+2<=wr.heap.size) (g:w3.grownBy w5 (some q)) (O:q<=w.heap.size+1):Sub (ov (fun _=>none) wr w3) (dr c w w5):=fun a v e=>by
 unfold ov at e;split at e
 ·cases e
 ·unfold dr
  rw [aV V,aV V];exact bV e g V
theorem XO {c:CM} {w wr w7:World} {q:Nat} (g:wr.grownBy w7 (some q)) (O:q<=w.heap.size+1):Sub (dr c w wr) (ov c w w7):=fun a v e=>by
 unfold dr at e;unfold ov;split at e
 ·rw [bC ‹_›];exact e
 ·rw [aV ‹_›]
  split at e
  ·cases e
  ·exact bV e g V
def DR (c:CM) (w:World) (x:AW) (k:Nat) (wr:World) (m:Nat):Prop:=
 ∃row y j,wr.heap[w.heap.size]? =some (.cells row 33 (0,0))/\Of Ty.wd (dr c w wr) (.agg row) y/\WK j y/\iT x=iT y/\j+o_ y.bM<=k+o_ x.bM/\aK w wr/\w.heap.size+2<=wr.heap.size/\wr.heap[w.heap.size+1]? =some (.cells #[(),J 0,J 0,(),(),()] 33 (0,0))/\o_ y.bM=m
theorem NM {c:CM} {v:Value} {x:AW} {k:Nat} (w:World) (hc:Sub c w.cell?) (hv:Of Ty.wd c v x) (hk:WK k x) (h9:k+192<=99000):
  Calls Tryz.prog 65 #[v] w fun e w'=>∃v',e=.returned v'/\Of Ty.wd (ov c w w') v' (iT x)/\aK w w':=by
 have HC:=I hc;have HV:=I hv;have M:=I hk;have HN:=I (Sr hk);have H9:=I h9;obtain⟨al,cl,ao,co,ah,ch,an,cn,rfl⟩:=hv.dJ;clear hc hv hk h9;obtain⟨wa,fZ⟩:=χ (w.alloc (.cells #[U al x.aN.bg.length cl,J x.aN.aW,J x.aN.next,U ao x.aN.bG.length co,U ah x.aI.length ch,U an x.bM.length cn] 33));obtain⟨wz,hwz⟩:=χ (wa.alloc (.cells #[(),J 0,J 0,(),(),()] 33));have hsz:wa.heap.size=w.heap.size+1:=by rw [fZ];simp
 have R1:Hid (wz.heap[w.heap.size]? =some (.cells #[U al x.aN.bg.length cl,J x.aN.aW,J x.aN.next,U ao x.aN.bG.length co,U ah x.aI.length ch,U an x.bM.length cn] 33 (0,0))):=I (by rw [hwz,fZ];exact bQ (bn _ _) _);have R2:Hid (wz.heap[w.heap.size+1]? =some (.cells #[(),J 0,J 0,(),(),()] 33 (0,0))):=I (by rw [hwz,<-hsz];exact bn _ _);have G1:Hid (aK w wz):=I (by rw [hwz,fZ];exact((aG w).alloc _).alloc _);have HZ:Hid (wz.heap.size=w.heap.size+2):=I (by rw [hwz,fZ];simp);go_enter Tryz.func65,Tryz.ntmps65;go_wp2;rw [<-fZ];try rw [hsz]
 rw [<-hwz];clear fZ hwz hsz;go_loopw [] (fun wr=>∃m,DR c w x k wr m) (fun wr=>lst (DR c w x k wr))
 case atStart=>exact⟨_,_,x,k,R1.o,HV.o.mono (uC HC.o),M.o,rfl,Nat.le_refl _,G1.o,by have:=HZ.o;omega,R2.o,rfl⟩
 case round=>
  obtain⟨hsp,-⟩:=Gg hrel;generalize lst (DR c w x k wr)=m at*;clear hrel;obtain⟨row,y,j,hrow,Z,hj,hdr,hle,hg,hsz,hrz,hm⟩:=hsp;obtain⟨iC,iD,lY,lZ,Nq,IY,OL,OM,hrw⟩:=Z.dJ;simp only [Value.agg.injEq] at hrw;subst hrw;have jw:=I hrow;have HX:=I Z;have HJ:=I hj;have HDR:=I hdr;have SL:=I hle;have HG:=I hg;have J3:=I hsz;have cW:=I hrz;have HM:=I hm;obtain⟨x1,x2,x3,x4,x5,x6⟩:=bF hrow;have zX:w.heap.size<wr:=(γ hrow);clear hrow Z hj hdr hle hg hsz hrz hm;by_cases hn:y.bM=[]
  ·have t:decide (0<y.bM.length)=false:=by rw [hn];rfl
   have HE:Hid (iT x=y):=I (by rw [HDR.o,qB hn]);clear hn;have zr:w.heap.size+1<wr:=(γ cW.o);go_wp2_with (first|(refine aQ rfl (.tmp 2) (.tmp 13) rfl rfl rfl cW.o dN rfl rfl ?_))
   intro w7 r7 g7;obtain⟨p0,p1,p2,p3,p4,p5⟩:=bF r7;go_wp2;refine dw (v:=.agg #[U iC y.aN.bg.length iD,J y.aN.aW,J y.aN.next,U lY y.aN.bG.length lZ,U Nq y.aI.length IY,U OL y.bM.length OM]) (by simp [results,Tryz.results65,go_sem,p0,p1,p2,p3,p4,p5]) rfl ?_;rw [HE.o];exact⟨_,rfl,HX.o.mono (XO g7 V),HG.o.grown g7 (fun q O=>by have:=bI O;omega)⟩
  ·have t:decide (0<y.bM.length)=true:=decide_eq_true (List.length_pos_iff.2 hn)
   obtain⟨hc1,hc2⟩:=NK hn;have HC1:=I hc1;have HC2:=I hc2;clear hn hc1 hc2;have Ol:=I (NJ (s:=⟨2,0,[]⟩) (vs:=.agg #[J 2,J 0,()]) wr (HX.o.mono (Gh HC.o HG.o)) ⟨_,rfl,_,rfl,(show I64 2 by unfold I64;decide),gZ,Sl.nil _ _⟩ HJ.o);go_wp2_with fail
   refine Ol.o.mono ?_;rintro e w3 ⟨v3,rfl,FY,fB⟩;have HJ3:=I (HJ.o.step ⟨2,0,[]⟩ (by have:=SL.o;have:=HN.o;have:=H9.o;have:=HC2.o;omega));generalize jZ y ⟨2,0,[]⟩=y3 at*;generalize eU y ⟨2,0,[]⟩=er at*;obtain⟨Dh,Di,Kr,co3,Vo,ch3,JU,cn3,rfl⟩:=FY.dJ;have Dj:=I FY;have RW3:=I (aF jw.o fB);have RZ3:=I (aF cW.o fB);have G3:=I (HG.o.trans fB);clear FY fB Ol x1 x2 x3 x4 x5 x6 zX;go_wp2_with (first|(refine aQ rfl (.tmp 1) (.tmp 11) rfl rfl rfl RW3.o dN rfl rfl ?_))
   intro w5 r5 g5;have XP:Hid (DR c w x k w5 (o_ y3.bM)):=I ⟨_,y3,j+1,r5,Dj.o.mono (A0F J3.o g5 V),HJ3.o,HDR.o.trans HC1.o,by have:=SL.o;have:=HC2.o;omega,G3.o.grown g5 (fun q O=>by have:=bI O;omega),by have:=g5.size;have:=(γ RZ3.o);omega,bJ RZ3.o g5 iP,rfl⟩;clear r5 g5;go_wp2;go_roundw
   case rel=>exact⟨_,XP.o⟩
   case measure=>
    have N:=(Gg ⟨_,XP.o⟩).2 _ XP.o;have Y:=HC2.o;have h3:=HM.o;omega
theorem Sv (y:AW) (k:Nat):jZ y ⟨6,(k:Int),[]⟩=jy y k:=by
 unfold jZ uJ;simp only [show¬(6:Int)=1 by decide,show¬(6:Int)=2 by decide,show¬(6:Int)=3 by decide,show¬(6:Int)=4 by decide,show¬(6:Int)=5 by decide,if_false,if_true,Int.toNat_natCast];by_cases h:(k:Int)=3∨decide (0<=(k:Int)/\(k:Int)<(y.aI.length:Int))=true
 ·rw [bC h]
 ·rw [aV h]
  have h3:¬k=3:=fun e=>h (.inl V);have h4:¬k<y.aI.length:=fun e=>h (.inr (by simp;omega));unfold jy;rw [aV h3,List.getElem?_eq_none V]
def rd (x:AW):Nat->AW
 |0=>iT x
 |r+1=>oJ (rd x r) (3 - r)
theorem J0 (x:AW):rd x 4=fQ x:=rfl
theorem WK.rd {k:Nat} {x:AW} (i:WK k x) (h9:k+1100<=99000):∀r,r<=4->WK (k+192+r*193) (rd x r)
 |0,_=>(i.drain V).1.up V V
 |r+1,h=>by
  have N:=(i.rd h9 r V).step ⟨6,((3 - r:Nat):Int),[]⟩ V;rw [Sv] at N;exact(N.drain V).1.up V V
theorem WK.round {k:Nat} {x:AW} (i:WK k x) (h9:k+1100<=99000):WK (k+1100) (fQ x):=by
 rw [<-J0];exact(i.rd h9 4 (Nat.le_refl _)).up V h9
theorem A0G {wz w1 w2 w3:World} {X:List (Option Nat)} (g1:aK wz w1) (g2:aK w1 w2) (hX:∀q,some q∈X->w2.heap.size<=q) (h3:∀(a:Addr) (v:Value),a.block<w2.heap.size->w2.cell? a=some v->w3.cell? a=some v):Sub (ov (ov (fun _=>none) wz w1) w1 w2) (fr wz w3 X):=fun a v e=>by
 have hs:=g1.size;have key:wz.heap.size<=a.block/\w2.cell? a=some v:=by
  unfold ov at e;split at e
  ·split at e
   ·cases e
   ·exact⟨V,g2.sub _ _ e⟩
  ·exact⟨V,e⟩
 have hl:=eH w2 a key.2;rw [jh key.1 (fun hm=>by have:=hX _ hm;omega)];exact h3 a v hl key.2
theorem J1 {w W W':World} {X:List (Option Nat)} (hg:aK W W') (hs:w.heap.size<=W.heap.size) (hX:∀k,some k∈X->k<W.heap.size):Sub (ov (fr w W X) W W') (fr w W' X):=fun a v e=>by
 unfold ov at e;split at e
 ·exact fH hg a v e
 ·rw [jh V (fun hm=>by have:=hX _ hm;omega)];exact e
theorem ql {v:Value} {x:AW} {k:Nat} (w:World) (hv:Of Ty.wd w.cell? v x) (hk:WK k x) (h9:k+1100<=99000):
  Calls Tryz.prog 27 #[v] w fun e w'=>∃v',e=.returned v'/\Of Ty.wd (ov (fun _=>none) w w') v' (fQ x)/\aK w w':=by
 have HV:=I hv;have M:=I hk;have H9:=I h9;obtain⟨al,cl,ao,co,ah,ch,an,cn,rfl⟩:=hv.dJ;clear hv hk h9;obtain⟨wa,fZ⟩:=χ (w.alloc (.cells #[U al x.aN.bg.length cl,J x.aN.aW,J x.aN.next,U ao x.aN.bG.length co,U ah x.aI.length ch,U an x.bM.length cn] 33));obtain⟨wz,hwz⟩:=χ (wa.alloc (.cells #[(),J 0,J 0,(),(),()] 33));have hsz:wa.heap.size=w.heap.size+1:=by rw [fZ];simp
 have R1:Hid (wz.heap[w.heap.size]? =some (.cells #[U al x.aN.bg.length cl,J x.aN.aW,J x.aN.next,U ao x.aN.bG.length co,U ah x.aI.length ch,U an x.bM.length cn] 33 (0,0))):=I (by rw [hwz,fZ];exact bQ (bn _ _) _);have R2:Hid (wz.heap[w.heap.size+1]? =some (.cells #[(),J 0,J 0,(),(),()] 33 (0,0))):=I (by rw [hwz,<-hsz];exact bn _ _);have G1:Hid (aK w wz):=I (by rw [hwz,fZ];exact((aG w).alloc _).alloc _);have HZ:Hid (wz.heap.size=w.heap.size+2):=I (by rw [hwz,fZ];simp);go_enter Tryz.func27,Tryz.ntmps27;go_upto_region 1 with fail
 rw [<-fZ];try rw [hsz]
 rw [<-hwz];clear fZ hwz hsz;obtain⟨x1,x2,x3,x4,x5,x6⟩:=bF R1.o;have zX:w.heap.size<wz:=(γ R1.o);go_wp2_with fail
 refine(I7 wz (HV.o.mono G1.o.sub) M.o).mono ?_;rintro e w1 ⟨vl,vo,vh,vn,B0,rfl,hbx⟩;have xA:=I hbx.of;have GO:=I hbx.grow;clear hbx x1 x2 x3 x4 x5 x6 zX;go_wp2_with fail
 refine(NM (c:=ov (fun _=>none) wz w1) w1 (fG _ _) xA.o M.o (τ H9.o)).mono ?_;rintro e w2 ⟨v2,rfl,pV,gB⟩;obtain⟨x0,J6⟩:=χ (iT x);rw [<-J6] at pV;have Y9:=I J6;clear J6;obtain⟨al0,cl0,ao0,co0,ah0,ch0,an0,cn0,rfl⟩:=pV.dJ;have AX:=I pV;have GD:=I gB;clear pV gB;obtain⟨w3,Pn⟩:=χ (w2.alloc (.cells #[(),J 0,J 0,(),(),()] 33));obtain⟨B,hB⟩:=χ w2.heap.size;have RB:Hid (w3.heap[B]? =some (.cells #[(),J 0,J 0,(),(),()] 33 (0,0))):=I (by rw [Pn,hB];exact bn _ _);have G3:Hid (aK w2 w3):=I (by rw [Pn];exact(aG _).alloc _);have uA:Hid (B=w2.heap.size):=I hB;go_wp2_with (first|(rw [<-Pn,<-hB];clear Pn hB;refine aQ rfl (.tmp 3) (.tmp 7) rfl rfl rfl RB.o dN rfl rfl ?_))
 intro w4 r4 g4;have N8:Hid (Of Ty.wd (fr wz w4 [some B]) (.agg #[U al0 x0.aN.bg.length cl0,J x0.aN.aW,J x0.aN.next,U ao0 x0.aN.bG.length co0,U ah0 x0.aI.length ch0,U an0 x0.bM.length cn0]) x0):=I (AX.o.mono (A0G GO.o GD.o (fun q O=>by have:=bI (List.mem_singleton.1 O);have:=uA.o;omega) (fun a9 v9 hl e9=>bV (G3.o.sub _ _ e9) g4 (τ uA.o))));have R4:=I r4;have Tm:Hid (wz.heap.size<=B):=I (by have:=GO.o.size;have:=GD.o.size;have:=uA.o;omega);have G4:Hid (aK wz w4):=I (((GO.o.trans GD.o).trans G3.o).grown g4 (fun q O=>by have:=bI O;have:=Tm.o;omega));have NV:Hid (rd x 0=x0):=I Y9.o.symm;clear r4 g4 RB G3 uA xA;go_wp2;go_loopw [4] (fun i wr=>∃(r:Nat) (j:Int) (row:Array Value),i=J j/\r<=4/\j=3 - (r:Int)/\wr.heap[B]? =some (.cells row 33 (0,0))/\Of Ty.wd (fr wz wr [some B]) (.agg row) (rd x r)/\aK wz wr) (fun i _=>(intOf i+1).toNat)
 case atStart=>exact⟨0,3,_,rfl,V,V,R4.o,by rw [NV.o];exact N8.o,G4.o⟩
 case round=>
  obtain⟨r,j,row,rfl,Wi,hjr,hrow,Z,hg⟩:=hrel;have hj1:-1<=j:=by omega
  have hj2:j<=3:=by omega
  have HJR:=I hjr;clear hjr;have HJ:=I (M.o.rd H9.o r Wi);have og:Hid (r<4->rd x (r+1)=iT (jy (rd x r) (3 - r))):=I (fun _=>rfl);have HEN:Hid (r=4->rd x r=fQ x):=I (fun e=>by rw [e];rfl);obtain⟨y,hy⟩:=χ (rd x r);rw [<-hy] at Z HJ og HEN;clear hy;obtain⟨iC,iD,lY,lZ,Nq,IY,OL,OM,hrw⟩:=Z.dJ;simp only [Value.agg.injEq] at hrw;subst hrw;have jw:=I hrow;have HX:=I Z;have HG:=I hg;have Eb:=I Wi;obtain⟨x1,x2,x3,x4,x5,x6⟩:=bF hrow;have zX:B<wr.heap.size:=(γ hrow);clear hrow Z hg Wi;by_cases hn:0<=j
  ·have t:decide (0<=j)=true:=decide_eq_true hn
   have HN:=I hn;clear hn;have L5:Hid (jZ y ⟨6,j,[]⟩=jy y (3 - r)):=I (by
    have e:j=((3 - r:Nat):Int):=by have:=HJR.o;have:=HN.o;omega
    rw [e];exact Sv y (3 - r))
   have Ol:=I (NJ (s:=⟨6,j,[]⟩) (vs:=.agg #[J 6,J j,()]) wr (HX.o.mono (iO _ _ _)) ⟨_,rfl,_,rfl,(show I64 6 by unfold I64;decide),(show I64 j from ku V V),Sl.nil _ _⟩ HJ.o);go_wp2_with fail
   refine Ol.o.mono ?_;rintro e w5 ⟨v5,rfl,Nj,iY⟩;have HJ5:=I (HJ.o.step ⟨6,j,[]⟩ (by have:=H9.o;have:=Eb.o;omega));rw [L5.o] at Nj HJ5;generalize eU y ⟨6,j,[]⟩=er at*;obtain⟨y5,hy5⟩:=χ (jy y (3 - r));rw [<-hy5] at Nj HJ5 og;clear hy5;obtain⟨al5,cl5,ao5,co5,ah5,ch5,an5,cn5,rfl⟩:=Nj.dJ;have F5:Hid (Of Ty.wd (fr wz w5 [some B]) (.agg #[U al5 y5.aN.bg.length cl5,J y5.aN.aW,J y5.aN.next,U ao5 y5.aN.bG.length co5,U ah5 y5.aI.length ch5,U an5 y5.bM.length cn5]) y5):=I (Nj.mono (I4 HG.o (fun q O=>by have:=bI (List.mem_singleton.1 O);omega)));have J2:=I (aF jw.o iY);have G5:=I (HG.o.trans iY);clear Nj iY Ol x1 x2 x3 x4 x5 x6 zX;go_wp2_with (first|(refine aQ rfl (.tmp 3) (.tmp 17) rfl rfl rfl J2.o dN rfl rfl ?_))
   intro w6 r6 g6;have R6:=I r6;have KB:=I (F5.o.mono (Nz g6 σ));have G6:=I (G5.o.grown g6 (fun q O=>by have:=bI O;have:=Tm.o;omega));clear r6 g6;obtain⟨x1,x2,x3,x4,x5,x6⟩:=bF R6.o;have zX:B<w6.heap.size:=(γ R6.o);go_wp2_with fail
   refine(NM (c:=fr wz w6 [some B]) w6 (iO _ _ _) KB.o HJ5.o (by have:=H9.o;have:=Eb.o;have:=HJR.o;have:=HN.o;omega)).mono ?_;rintro e w7 ⟨v7,rfl,Dc,jQ⟩;rw [<-og.o (by have:=HJR.o;have:=HN.o;omega)] at Dc;have JR:Hid (Of Ty.wd (fr wz w7 [some B]) v7 (rd x (r+1))):=I (Dc.mono (J1 jQ (τ G6.o.size) (fun q O=>by have:=bI (List.mem_singleton.1 O);omega)));obtain⟨y7,Ir⟩:=χ (rd x (r+1));rw [<-Ir] at Dc JR;have gA:=I Ir;clear Ir;obtain⟨al7,cl7,ao7,co7,ah7,ch7,an7,cn7,rfl⟩:=Dc.dJ;have RW7:=I (aF R6.o jQ);have G7:=I (G6.o.trans jQ);clear Dc jQ x1 x2 x3 x4 x5 x6 zX;go_wp2_with (first|(refine aQ rfl (.tmp 3) (.tmp 20) rfl rfl rfl RW7.o dN rfl rfl ?_))
   intro w8 r8 g8;have R8:=I r8;have OJ:=I (JR.o.mono (Nz g8 σ));have G8:=I (G7.o.grown g8 (fun q O=>by have:=bI O;have:=Tm.o;omega));clear r8 g8;go_wp2;go_roundw
   case rel=>exact⟨r+1,j - 1,_,by go_num,by have:=HJR.o;have:=HN.o;omega,by have:=HJR.o;omega,R8.o,by rw [<-gA.o];exact OJ.o,G8.o⟩
   case measure=>have:=HN.o;simp [intOf];omega
  ·have t:decide (0<=j)=false:=decide_eq_false hn
   have HE:Hid (y=fQ x):=I (HEN.o (by have:=HJR.o;have:=Eb.o;omega));clear hn;have RZ:=I (aF R2.o HG.o);have zr:w.heap.size+1<wr:=(γ RZ.o);go_wp2_with (first|(refine aQ rfl (.tmp 2) (.tmp 21) rfl rfl rfl RZ.o dN rfl rfl ?_))
   intro w7 r7 g7;obtain⟨p0,p1,p2,p3,p4,p5⟩:=bF r7;go_wp2;refine dw (v:=.agg #[U iC y.aN.bg.length iD,J y.aN.aW,J y.aN.next,U lY y.aN.bG.length lZ,U Nq y.aI.length IY,U OL y.bM.length OM]) (by simp [results,Tryz.results27,go_sem,p0,p1,p2,p3,p4,p5]) rfl ?_;rw [<-HE.o];exact⟨_,rfl,HX.o.mono (Kv (τ HZ.o) g7 (τ HZ.o)),(G1.o.trans HG.o).grown g7 (fun q O=>by have:=bI O;omega)⟩
theorem JF {α β:Type} {f:α->List β} {b:Nat}:∀(l:List α),(∀x∈l,(f x).length<=b)->(l.flatMap f).length<=l.length*b
 | [],_=>by simp
 |x::l,h=>by
  rw [List.flatMap_cons,List.length_append,List.length_cons,Nat.add_mul,Nat.one_mul];have:=h x List.mem_cons_self;have:=JF l fun y hy=>h y (List.mem_cons_of_mem _ hy);omega
structure PB (x:AW) (aA:List Int):Prop where
 len:x.aI.length<=3
 bg:x.aN.bg.length<=100000
 logp:∀r∈x.aN.bg,r.aH.length<=4
 ready:∀h∈x.aI,h.ready.length<=4
 dec:∀r∈bH x.aN.bg,r.aH.length<=4/\r.aH≠ []/\(∀p∈r.aH,0<=p.h/\p.h<3)/\∀q∈dB r.aH,0<=q/\q<(x.aI.length:Int)
 eq:Lib.compact ((kT x.aI++nD x.aI (bH x.aN.bg)).mergeSort fun x y=>decide (x<=y))=aA
 small:∀d∈aA,I64 d
theorem WI.A2f {n:Nat} {G:Reg} {x:AW} (hi:WI n G x) (hg:x.aN.bg.length<=100000) (hlp:u_ x.aN.bg):PB x (opensE x) where
 len:=by rw [hi.core.len];exact hi.core.n3.2
 bg:=hg
 logp:=VI hi hlp
 ready:=fun h hh=>by obtain⟨j,hj⟩:=List.mem_iff_getElem?.1 hh;exact CU hi.core hj
 dec:=fun r hr=>by
  have hw:dO r.aH n=0:=(hi.core.reg.ok _ (hi.core.dec.reg r hr)).2;have h9:=g_ hw;have hn:=hi.core.n3;refine⟨h9.2.1,fun e=>by rw [e] at hw;simp [dO] at hw,fun p hp=>by have:=h9.2.2.1 p hp;omega,fun q O=>?_⟩;have Dx:=rX hw O;have AM:=kW.1 O;rw [hi.core.len];omega
 eq:=oS hi
 small:=fun y hy=>by
  unfold opensE at hy;obtain⟨d,hd,rfl⟩:=List.mem_map.1 (List.mem_filter.1 hy).1;have:=List.mem_range.1 hd;exact ku V V
theorem XQ {v:Value} {x:AW} {aA:List Int} (w:World) (hv:Of Ty.wd w.cell? v x) (hi:PB x aA):
  Calls Tryz.prog 67 #[v] w fun e w'=>∃v',e=.returned v'/\bK Ty.int (fun _=>none) w' w.heap.size 3 v' aA/\aK w w':=by
 obtain⟨al,cl,ao,co,ah,ch,an,cn,rfl⟩:=hv.dJ;obtain⟨q1,q2,-⟩:=hv.ji;have G_:=I (Of.lM q1).1;obtain⟨AN,ch',wG,N,Y,-,hel⟩:=q2;simp only [Value.slice.injEq,true_and] at wG;obtain⟨rfl,rfl⟩:=wG;unfold maxLen at Y;have nH:=I hel;have HOQ:=I hi.eq;have YE:=I hi.small;have gC:=I hi.bg;have Et:=I hi.logp;have hl:x.aI.length<=3:=hi.len;have Lh:=I hi.ready;have OA:Hid (∀k,(kT (x.aI.take k)).length<=12):=I (fun k=>by
  have h9:=JF (f:=fun h:Hs=>h.ready.map (·.aJ)) (b:=4) (x.aI.take k) (fun h hh=>by rw [List.length_map];exact Lh.o h (List.mem_of_mem_take hh));rw [List.length_take] at h9;unfold kT;omega)
 have BW:=I hi.dec;clear hv q1 hel hi;obtain⟨wa,fZ⟩:=χ (w.alloc (.cells #[U al x.aN.bg.length cl,J x.aN.aW,J x.aN.next,U ao x.aN.bG.length co,U ah x.aI.length ch,U an x.bM.length cn] 33));have R1:Hid (wa.heap[w.heap.size]? =some (.cells #[U al x.aN.bg.length cl,J x.aN.aW,J x.aN.next,U ao x.aN.bG.length co,U ah x.aI.length ch,U an x.bM.length cn] 33 (0,0))):=I (by rw [fZ];exact bn _ _);have G1:Hid (aK w wa):=I (by rw [fZ];exact(aG w).alloc _);have HZ:Hid (wa.heap.size=w.heap.size+1):=I (by rw [fZ];simp);have uE:=I fZ;clear fZ;go_enter Tryz.func67,Tryz.ntmps67;go_upto_region 1 with fail
 rw [<-uE.o];clear uE;obtain⟨c0,c1,c2,c3,c4,c5⟩:=bF R1.o;have z1:w.heap.size<wa:=(γ R1.o);go_wp2;clear c0 c1 c2 c3 c4 c5 z1;go_loopw [3,15] (fun s3 i wr=>∃k:Nat,k<=x.aI.length/\i=J k/\aK w wr/\wr.heap[w.heap.size]? =some (.cells #[U al x.aN.bg.length cl,J x.aN.aW,J x.aN.next,U ao x.aN.bG.length co,U ah x.aI.length ch,U an x.bM.length cn] 33 (0,0))/\bK Ty.int (fun _=>none) wr (w.heap.size+1) 3 s3 (kT (x.aI.take k))/\w.heap.size+1<=wr.heap.size) (fun _ i _=>x.aI.length - (intOf i).toNat)
 case atStart=>exact⟨0,V,rfl,G1.o,R1.o,bK.nil _ _ _ _ _,by have:=HZ.o;omega⟩
 case round=>
  obtain⟨k,hk',rfl,hb,hrow,how,hsz⟩:=hrel;by_cases hlt:k<x.aI.length
  ·obtain⟨bh,oh,vl,vr,vd,rfl,e0,e1,e2,e3,e4,e5,e6,yu,-,-,-,-,Ar,xk⟩:=VW.at_ nH.o k hlt
   obtain⟨il,jl,rfl,-⟩:=id yu;obtain⟨yX,jd,rfl,-⟩:=id xk;obtain⟨ir,jr,rfl,hr1,VY,-,JG⟩:=Ar;unfold maxLen at VY;have og:Hid (kT (x.aI.take (k+1))=kT (x.aI.take k)++x.aI[k].ready.map (·.aJ)):=I (CX _ hlt);have CB:=I (OA.o k);have HRK:=I (Lh.o _ (List.getElem_mem hlt));have HRE:=I JG;have HO:=I how;have jw:=I hrow;have HB:=I hb;have J3:=I hsz;obtain⟨a3,p3,rfl⟩:=how.form;replace e0:=hb.sub _ _ e0;replace e1:=hb.sub _ _ e1;replace e2:=hb.sub _ _ e2;replace e3:=hb.sub _ _ e3;replace e4:=hb.sub _ _ e4;replace e5:=hb.sub _ _ e5;replace e6:=hb.sub _ _ e6;clear yu xk JG how hrow hb hsz;generalize x.aI[k]=h at*;generalize kT (x.aI.take k)=ls at*;go_upto_region 5 with fail
   obtain⟨wo,hwo⟩:=χ (wr.alloc (.cells #[U il h.bg.length jl,J h.aP.a,J h.aP.b,J h.aP.c,J h.aP.d,U ir h.ready.length jr,U yX h.done.length jd] 50));obtain⟨BO,Aq⟩:=χ wr.heap.size;have GO:Hid (aK wr wo):=I (by rw [hwo];exact(aG _).alloc _);have RO:Hid (wo.heap[BO]? =some (.cells #[U il h.bg.length jl,J h.aP.a,J h.aP.b,J h.aP.c,J h.aP.d,U ir h.ready.length jr,U yX h.done.length jd] 50 (0,0))):=I (by rw [hwo,Aq];exact bn _ _);rw [<-hwo,<-Aq];clear hwo Aq e0 e1 e2 e3 e4 e5 e6;obtain⟨f0,f1,f2,f3,f4,f5,f6⟩:=bZ RO.o;have zO:BO<wo.heap.size:=(γ RO.o);go_wp2;clear f0 f1 f2 f3 f4 f5 f6 zO;obtain⟨wx,hwx⟩:=χ wr;rw [<-hwx] at GO jw HB HO J3;clear hwx;go_loopw [3,22] (fun s3 i2 wr=>∃j:Nat,j<=h.ready.length/\i2=J j/\aK w wr/\wr.heap[w.heap.size]? =some (.cells #[U al x.aN.bg.length cl,J x.aN.aW,J x.aN.next,U ao x.aN.bG.length co,U (some ⟨bh,oh,none⟩) x.aI.length ch,U an x.bM.length cn] 33 (0,0))/\bK Ty.int (fun _=>none) wr (w.heap.size+1) 3 s3 (ls++(h.ready.take j).map (·.aJ))/\w.heap.size+1<=wr.heap.size) (fun _ i2 _=>h.ready.length - (intOf i2).toNat)
   case atStart=>exact⟨0,V,rfl,HB.o.trans GO.o,aF jw.o GO.o,by simpa using HO.o.grow GO.o,Nat.le_trans J3.o GO.o.size⟩
   case round=>
    obtain⟨j,hj',rfl,gB,iJ,A0H,hsz2⟩:=hrel;obtain⟨a4,p4,rfl⟩:=A0H.form;have zu:=I iJ;have jq:=I gB;have pI:=I A0H;have Gl:=I hsz2;clear iJ A0H hsz2;by_cases hjl:j<h.ready.length
    ·obtain⟨br,orr,vp,rfl,t0,t1,ti,hP⟩:=VU.at_ HRE.o j hjl
     obtain⟨ap,cp,rfl,-⟩:=id hP;have YI:=I (FI (fun r:Rd=>r.aJ) hjl);have HL2:Hid ((ls++(h.ready.take j).map (·.aJ)).length<=16):=I (by rw [List.length_append,List.length_map,List.length_take];have:=CB.o;have:=HRK.o;omega);have HTI:=I ti;replace t0:=gB.sub _ _ t0;replace t1:=gB.sub _ _ t1;clear hP gB ti;generalize h.ready[j]=r at*;generalize (h.ready.take j).map (·.aJ)=ms at*;generalize hlm:ls++ms=lm at*;have rA:=I hlm;clear hlm;go_wp2_with (first|(at_builtin;refine cO (c:=fun _=>none) (base:=w.heap.size+1) (l:=lm) (m:=[r.aJ]) jL rfl jX ε rfl (.tmp 26) (.tmp 29) rfl rfl (pI.o.grow (((aG _).alloc _).alloc _)) rfl (Src.dU (T:=Ty.int) (x:=r.aJ) (cs:=#[J r.aJ]) ⟨rfl,HTI.o⟩ _ _ ?d1) ?d2 ?d3 ?_))
     case d1=>first|rfl|simp
     case d2=>have:=HL2.o;simp;omega
     case d3=>have:=Gl.o;simp;omega
     intro a9 c9 w9 gX fV iE;have yj:=pI.o.lt;have kR:Hid (aK w w9):=I (((jq.o.alloc _).alloc _).grown fV (fun q O=>by have:=(yj q O).1;omega));have ZM:=I (bJ (aF zu.o (((aG wr).alloc (.cells #[J r.aJ,U ap r.aH.length cp] 53)).alloc (.cells #[J r.aJ] 3))) fV (by intro e;have:=(yj _ e.symm).1;omega));have jE:=I gX;have QW:Hid (w.heap.size+1<=w9.heap.size):=I (by have h8:=fV.size;simp at h8;have:=Gl.o;omega);clear gX fV iE yj;go_wp2;go_roundw
     case rel=>exact⟨j+1,V,by go_num,kR.o,ZM.o,by rw [YI.o,<-List.append_assoc,rA.o];exact jE.o,QW.o⟩
     case measure=>simp [intOf];omega
    ·have hTL:h.ready.take j=h.ready:=eG V
     rw [hTL] at pI ⊢;clear hTL gB;generalize hlm:ls++h.ready.map (·.aJ)=lm at*;have rA:=I hlm;clear hlm;go_wp2;go_roundw
     case rel=>exact⟨k+1,V,by go_num,jq.o,zu.o,by rw [og.o];exact pI.o,Gl.o⟩
     case measure=>simp [intOf];omega
  ·have hTL:x.aI.take k=x.aI:=eG V
   obtain⟨a3,p3,rfl⟩:=how.form;have HO:=I how;have jw:=I hrow;have HB:=I hb;have J3:=I hsz;have CB:Hid ((kT x.aI).length<=12):=I (by have:=OA.o x.aI.length;rw [List.take_length] at this;exact this);have aD:=I HOQ.o;clear how hrow hb hsz;rw [hTL] at HO ⊢;clear hTL;generalize kT x.aI=ls at*;obtain⟨D,hD⟩:=χ (bH x.aN.bg);rw [<-hD] at aD BW;have cI:=I hD;have hdl:D.length<=100000:=by rw [hD];unfold bH;rw [List.length_map];exact Nat.le_trans (List.length_filter_le _ _) gC.o
   clear hD;obtain⟨c0,c1,c2,c3,c4,c5⟩:=bF jw.o;have z1:w.heap.size<wr:=(γ jw.o);go_wp2_with fail
   refine(QG (l:=x.aN.bg) _ (G_.o.mono HB.o.sub) (τ gC.o) (fun r hr=>by have:=Et.o r hr;omega)).mono ?_;rintro e w5 ⟨v5,rfl,mW,iY⟩;rw [<-cI.o] at mW;have A3k:=mW.YJ ε;obtain⟨a5,p5,rfl,hd1,nZ,-,held⟩:=A3k;have HLD:=I held;have AV:=I (HB.o.trans iY);have Gp:=I (aF jw.o iY);have oQ:=I (HO.o.grow iY);have F5:=I (fG wr w5);have HQ5:=I HO.o.lt;have Y_:=I iY.size;clear mW iY held c0 c1 c2 c3 c4 c5 z1;obtain⟨wB,hwB⟩:=χ wr;rw [<-hwB] at HLD F5 HQ5 Y_ J3;clear hwB;go_wp2;go_loopw [3,38] (fun s3 i wr=>∃k:Nat,k<=D.length/\i=J k/\aK w wr/\wr.heap[w.heap.size]? =some (.cells #[U al x.aN.bg.length cl,J x.aN.aW,J x.aN.next,U ao x.aN.bG.length co,U ah x.aI.length ch,U an x.bM.length cn] 33 (0,0))/\bK Ty.int (fun _=>none) wr (w.heap.size+1) 3 s3 (ls++nD x.aI (D.take k))/\Sub (ov (fun _=>none) wB w5) wr.cell?/\(∀q,s3.ownBlock=some q->q<wB.heap.size∨w5.heap.size<=q)/\w5.heap.size<=wr.heap.size) (fun _ i _=>D.length - (intOf i).toNat)
   case atStart=>exact⟨0,V,rfl,AV.o,Gp.o,by simpa [nD] using oQ.o,F5.o,fun q O=>.inl (HQ5.o q O).2,Nat.le_refl _⟩
   case round=>
    obtain⟨k3,L9,rfl,fB,DY,A0I,FY,AM,hs3⟩:=hrel;obtain⟨a6,p6,rfl⟩:=A0I.form;have n_:=I A0I;have qF:=I DY;have lU:=I fB;have Dj:=I FY;have PS:=I AM;have tP:=I hs3;clear A0I DY fB FY AM hs3;by_cases hlt3:k3<D.length
    ·have T5:=I (BW.o _ (List.getElem_mem hlt3))
     have KK:Hid (nD x.aI (D.take (k3+1))=nD x.aI (D.take k3)++Bz x.aI D[k3]):=I (CX _ hlt3);have HLA:Hid ((ls++nD x.aI (D.take k3)).length<=300012):=I (by
      rw [List.length_append];have h9:=qg (f:=Bz x.aI) (b:=3) (fun r=>by unfold Bz;rw [List.length_map];exact Nat.le_trans (List.length_filter_le _ _) (jJ _)) (D.take k3);rw [List.length_take] at h9;unfold nD;have:=CB.o;omega)
     obtain⟨bd,od,vp,rfl,t0,t1,ti,hP⟩:=VU.at_ HLD.o k3 hlt3;obtain⟨ap,cp,rfl,-⟩:=id hP;have HTI:=I ti;have Dk:=I hP;replace t0:=Dj.o _ _ t0;replace t1:=Dj.o _ _ t1;clear hP ti;generalize D[k3]=r at*;generalize hlm:ls++nD x.aI (D.take k3)=lm at*;have rA:=I hlm;clear hlm;go_upto_region 14 with fail
     obtain⟨wq,hwq⟩:=χ (wr.alloc (.cells #[J r.aJ,U ap r.aH.length cp] 53));obtain⟨BR,eI⟩:=χ wr.heap.size;have GQ:Hid (aK wr wq):=I (by rw [hwq];exact(aG _).alloc _);have RQ:Hid (wq.heap[BR]? =some (.cells #[J r.aJ,U ap r.aH.length cp] 53 (0,0))):=I (by rw [hwq,eI];exact bn _ _);have PV:Hid (BR=wr.heap.size):=I eI;have HQL:Hid (wq.heap.size=BR+1):=I (by rw [hwq,eI];simp);rw [<-hwq,<-eI];clear hwq eI t0 t1;obtain⟨s0,s1⟩:=jP RQ.o;have zR:BR<wq.heap.size:=(γ RQ.o);go_wp2_with fail
     refine(lG _ (Dk.o.mono (Dj.o.trans GQ.o.sub)) (τ T5.o.1) T5.o.2.1 T5.o.2.2.1).mono ?_;rintro e w6 ⟨v6,rfl,tZ,nS⟩;obtain⟨a7,c7,rfl⟩:=dG tZ;have hn6:=(bK.ints (c:=fun _=>none) tZ (mJ r.aH)).slc (d:=ov (fun _=>none) wq w6) ε (fun _ _ e9=>by cases e9) fun a ha=>dY ha;obtain⟨a7',c7',he7,-,-,-,A2g⟩:=hn6;simp only [Value.slice.injEq,true_and] at he7;obtain⟨rfl,rfl⟩:=he7;have HNS:=I A2g;have HRQ:=I T5.o.2.2.2;have HAT:Hid (Bz x.aI r=((dB r.aH).filter (fun n9:Int=>!decide (r.aJ∈(x.aI.getD n9.toNat hs0).done))).map fun _=>r.aJ):=I rfl;have hns:=jJ r.aH;have Gw:=I (lU.o.trans (GQ.o.trans nS));have V4:=I (aF qF.o (GQ.o.trans nS));have Gm:=I (n_.o.grow (GQ.o.trans nS));have KB:=I (Dj.o.trans (GQ.o.trans nS).sub);have HY6:=I (fG wq w6);have uL:=I (aF RQ.o nS);have HQ6:=I (fun q (O:(Value.slice a6 lm.length p6).ownBlock=some q)=>And.intro (PS.o q O) ((n_.o.lt q O).2));have HLW:Hid (BR<w6.heap.size):=I (by have:=nS.size;have:=HQL.o;omega);have gD:Hid (w5.heap.size<=w6.heap.size/\w5.heap.size<=BR):=I (by have:=tP.o;have:=PV.o;have:=nS.size;have:=HQL.o;omega);clear tZ nS A2g s0 s1 zR Dj qF lU n_;generalize dB r.aH=ns at*;have DX:=I PV.o;clear PV;rw [<-DX.o] at HQ6;clear DX tP PS;clear GQ;go_wp2;go_loopw [3,46] (fun s3 i2 wr=>∃j:Nat,j<=ns.length/\i2=J j/\aK w wr/\wr.heap[w.heap.size]? =some (.cells #[U al x.aN.bg.length cl,J x.aN.aW,J x.aN.next,U ao x.aN.bG.length co,U ah x.aI.length ch,U an x.bM.length cn] 33 (0,0))/\bK Ty.int (fun _=>none) wr (w.heap.size+1) 3 s3 (lm++((ns.take j).filter (fun n9:Int=>!decide (r.aJ∈(x.aI.getD n9.toNat hs0).done))).map fun _=>r.aJ)/\Sub (ov (fun _=>none) wB w5) wr.cell?/\Sub (ov (fun _=>none) wq w6) wr.cell?/\wr.heap[BR]? =some (.cells #[J r.aJ,U ap r.aH.length cp] 53 (0,0))/\(∀q,s3.ownBlock=some q->(q<wB.heap.size∨w5.heap.size<=q)/\(q<BR∨w6.heap.size<=q))/\w6.heap.size<=wr.heap.size) (fun _ i2 _=>ns.length - (intOf i2).toNat)
     case atStart=>exact⟨0,V,rfl,Gw.o,V4.o,by simpa using Gm.o,KB.o,HY6.o,uL.o,fun q O=>⟨(HQ6.o q O).1,.inl (HQ6.o q O).2⟩,Nat.le_refl _⟩
     case round=>
      obtain⟨j,hj',rfl,jQ,PC,A0J,Dc,Ir,A2h,hq7,hs7⟩:=hrel;obtain⟨a8,p8,rfl⟩:=A0J.form;have zN:=I A0J;have Xd:=I PC;have Ai:=I jQ;have JR:=I Dc;have gA:=I Ir;have HW7:=I A2h;have HQ7:=I hq7;have Ko:=I hs7;clear A0J PC jQ Dc Ir A2h hq7 hs7;by_cases hjl:j<ns.length
      ·obtain⟨hn0,SE⟩:=HRQ.o _ (List.getElem_mem hjl)
       obtain⟨m,hm⟩:∃m:Nat,ns[j]=(m:Int):=⟨ns[j].toNat,V⟩;have hml:m<x.aI.length:=by omega
       have FG:Hid ((fun n9:Int=>!decide (r.aJ∈(x.aI.getD n9.toNat hs0).done)) ns[j]=!decide (r.aJ∈x.aI[m].done)):=I (by
        show(!decide (r.aJ∈(x.aI.getD (ns[j]).toNat hs0).done))=_;rw [hm,Int.toNat_natCast,List.getD_eq_getElem?_getD,dM hml];rfl)
       have HFN:Hid (((ns.take (j+1)).filter (fun n9:Int=>!decide (r.aJ∈(x.aI.getD n9.toNat hs0).done))).map (fun _=>r.aJ)=if(!decide (r.aJ∈x.aI[m].done))=true then((ns.take j).filter (fun n9:Int=>!decide (r.aJ∈(x.aI.getD n9.toNat hs0).done))).map (fun _=>r.aJ)++ [r.aJ] else((ns.take j).filter (fun n9:Int=>!decide (r.aJ∈(x.aI.getD n9.toNat hs0).done))).map (fun _=>r.aJ)):=I (by
        have h9:=Ij (fun n9:Int=>!decide (r.aJ∈(x.aI.getD n9.toNat hs0).done)) (fun _=>r.aJ) hjl;rw [<-FG.o];exact h9)
       obtain⟨bx,ox,rfl,x0,hni⟩:=xu HNS.o j hjl;replace x0:=gA.o _ _ x0;rw [hm] at x0;have HL8:Hid ((lm++((ns.take j).filter (fun n9:Int=>!decide (r.aJ∈(x.aI.getD n9.toNat hs0).done))).map fun _=>r.aJ).length<=300015):=I (by
        rw [List.length_append,List.length_map];have h9:=List.length_filter_le (fun n9:Int=>!decide (r.aJ∈(x.aI.getD n9.toNat hs0).done)) (ns.take j);rw [List.length_take] at h9;have:=HLA.o;omega)
       obtain⟨bh,oh,vl,vr,vd,rfl,e0,e1,e2,e3,e4,e5,e6,yu,-,-,-,-,Ar,xk⟩:=VW.at_ nH.o m hml;obtain⟨yX,jd,rfl,-⟩:=id xk;have UN:=I xk;have HE6:=I e6;have hm0:(0:Int)<=(m:Int):=by omega
       have eV:(m:Int)<(x.aI.length:Int):=by omega
       clear e0 e1 e2 e3 e4 e5 e6 yu Ar xk hni hn0 SE hm;generalize x.aI[m]=h at*;generalize ns[j]=nj at*;generalize ((ns.take j).filter (fun n9:Int=>!decide (r.aJ∈(x.aI.getD n9.toNat hs0).done))).map (fun _=>r.aJ)=ms at*;generalize hlr:lm++ms=lr at*;have HLR:=I hlr;clear hlr;go_upto_region 17 with fail
       clear x0;have HS:Hid (∀W,aK wr W->W.cell? ⟨w,4,none⟩=some (U (some ⟨bh,oh,none⟩) x.aI.length ch)/\W.cell? ⟨bh,oh+m*7+6,none⟩=some (U yX h.done.length jd)/\W.cell? ⟨BR,0,none⟩=some (J r.aJ)):=fun W hW=>by
        obtain⟨-,-,-,-,j4,-⟩:=bF (aF Xd.o hW);obtain⟨k0,-⟩:=jP (aF HW7.o hW);exact⟨j4,(Ai.o.trans hW).sub _ _ HE6.o,k0⟩
       refine dH (fun w'=>w'.cell? ⟨w,4,none⟩=some (U (some ⟨bh,oh,none⟩) x.aI.length ch)/\w'.cell? ⟨bh,oh+m*7+6,none⟩=some (U yX h.done.length jd)/\w'.cell? ⟨BR,0,none⟩=some (J r.aJ)) 9 κ ?_;obtain⟨wd,hWd⟩:=χ wr.drew;rw [<-hWd];have GD:aK wr wd:=by rw [hWd];exact(aG _).drew
       have zD:wr.heap.size=wd.heap.size:=by rw [hWd];rfl
       clear hWd zD;refine qJ [0,1,2,3,4,5,6,7] 12 κ (fun _ _ _ _ _ h=>h) (HS.o _ GD) ?_;repeat (refine jY ?_;try simp only [bT])
       refine qK ?_;refine bO 8 κ rfl ?_;intro K M;try simp only [dD]
       go_simp;go_at_call 104
       refine(iV (n:=r.aJ) _ (UN.o.mono (Ai.o.trans GD).sub)).mono ?_;rintro e8 w8 ⟨rfl,lD⟩;have G8:=I (aK.trans GD lD);clear lD;obtain⟨tn,htn⟩:=χ (decide (r.aJ∈h.done));rw [<-htn];have Rk:=I htn;clear htn;refine ψ M (fun _=>HS.o _ G8.o) ?_;try simp only [bT]
       refine bO 9 κ rfl ?_;intro K M;try simp only [dD]
       go_simp;refine ψ M (fun h=>absurd rfl h) ?_;try simp only [bT]
       refine bW κ ?_;have t_:=I (zN.o.grow G8.o);have SI:=I (aF Xd.o G8.o);have sL:=I (Ai.o.trans G8.o);have OJ:=I (JR.o.trans G8.o.sub);have IA:=I (gA.o.trans G8.o.sub);have pZ:=I (aF HW7.o G8.o);have OS:=I (Nat.le_trans Ko.o G8.o.size);cases tn with
       |true=>
        rw [<-Rk.o,aV σ] at HFN;go_wp2;go_roundw
        case rel=>exact⟨j+1,V,by go_num,sL.o,SI.o,by rw [HFN.o,HLR.o];exact t_.o,OJ.o,IA.o,pZ.o,HQ7.o,OS.o⟩
        case measure=>simp [intOf];omega
       |false=>
        rw [<-Rk.o,bC σ] at HFN;obtain⟨s0,s1⟩:=jP pZ.o;have zR:BR<w8.heap.size:=(γ pZ.o);go_wp2_with (first|(at_builtin;refine cO (c:=fun _=>none) (base:=w.heap.size+1) (l:=lr) (m:=[r.aJ]) jL rfl jX ε rfl (.tmp 60) (.tmp 63) rfl rfl (t_.o.grow ((aG _).alloc _)) rfl (Src.dU (T:=Ty.int) (x:=r.aJ) (cs:=#[J r.aJ]) ⟨rfl,HTI.o⟩ _ _ ?d1) ?d2 ?d3 ?_))
        case d1=>first|rfl|simp
        case d2=>have:=HL8.o;simp;omega
        case d3=>have:=t_.o;have h8:=OS.o;have h9:=gD.o;have:=J3.o;have:=Y_.o;simp;omega
        intro a9 c9 w9 gX fV iE;have yj:=t_.o.lt;have kR:Hid (aK w w9):=I ((sL.o.alloc _).grown fV (fun q O=>by have:=(yj q O).1;omega));have ha8:aK w8 (w8.alloc (.cells #[J r.aJ] 3)):=(aG _).alloc _;have ZM:=I (bJ (aF SI.o ha8) fV (by intro e;have:=(yj _ e.symm).1;omega));have HW9:=I (bJ (aF pZ.o ha8) fV (by intro e;have h5:=(HQ7.o _ e.symm).2;have h6:=HLW.o;omega));have OE:=I (Ze (OJ.o.trans ha8.sub) fV (fun q O=>(HQ7.o q O).1));have HY9:=I (Ze (IA.o.trans ha8.sub) fV (fun q O=>by have h5:=(HQ7.o q O).2;have:=HQL.o;omega));have jE:=I gX;have HQ9:Hid (∀q,(Value.slice a9 (lr.length+ [r.aJ].length) c9).ownBlock=some q->(q<wB.heap.size∨w5.heap.size<=q)/\(q<BR∨w6.heap.size<=q)):=I (fun q O=>by
         rcases iE with iE|⟨g,iE,hge⟩
         ·exact HQ7.o q (iE.symm.trans O)
         ·obtain rfl:=bI (iE.symm.trans O)
          have N:=OS.o;have Y:=gD.o;(try simp at hge);exact⟨.inr V,.inr V⟩)
        have QW:Hid (w6.heap.size<=w9.heap.size):=I (by have h8:=fV.size;simp at h8;have:=OS.o;omega);clear gX fV iE yj s0 s1 zR ha8;go_wp2;go_roundw
        case rel=>exact⟨j+1,V,by go_num,kR.o,ZM.o,by rw [HFN.o,<-List.append_assoc,HLR.o];exact jE.o,OE.o,HY9.o,HW9.o,HQ9.o,QW.o⟩
        case measure=>simp [intOf];omega
      ·have hTL:ns.take j=ns:=eG V
       rw [hTL,<-HAT.o] at zN HQ7 ⊢;clear hTL;generalize YZ:lm++Bz x.aI r=l9 at*;have HL9:=I YZ;clear YZ;go_wp2;go_roundw
       case rel=>exact⟨k3+1,V,by go_num,Ai.o,Xd.o,by rw [KK.o,<-List.append_assoc,rA.o,HL9.o];exact zN.o,JR.o,fun q O=>(HQ7.o q O).1,Nat.le_trans gD.o.1 Ko.o⟩
       case measure=>simp [intOf];omega
    ·have hTL:D.take k3=D:=eG V
     have HLZ:Hid ((ls++nD x.aI D).length<=300012):=I (by
      rw [List.length_append];have h9:=qg (f:=Bz x.aI) (b:=3) (fun r=>by unfold Bz;rw [List.length_map];exact Nat.le_trans (List.length_filter_le _ _) (jJ _)) D;unfold nD;have:=CB.o;omega)
     rw [hTL] at n_ ⊢;clear hTL;generalize ls++nD x.aI D=lm at*;have yj:=I n_.o.lt;go_wp2_with fail
     refine(dE n_.o.A0s (τ HLZ.o)).mono ?_;rintro e w8 ⟨rfl,nT,yK⟩;have t_:=I nT;have vZ:=I (lU.o.grown yK (fun q O=>by have:=(yj.o q O).1;omega));have hml:(lm.mergeSort fun x y=>decide (x<=y)).length=lm.length:=List.length_mergeSort _;have HML:=I hml;clear nT yK hml;go_wp2_with fail
     refine(VG t_.o (by rw [HML.o];have:=HLZ.o;omega)).mono ?_;rintro e w9 ⟨v9,rfl,gX,fV⟩;rw [aD.o] at gX;have jE:=I gX;have kR:=I (vZ.o.grown fV (fun q O=>by have:=(yj.o q O).1;omega));clear gX fV;go_wp2;go_ret;exact⟨_,rfl,(bK.ints jE.o YE.o).base (Nat.le_succ _),kR.o⟩
theorem eJ {v:Value} {x:AW} {n:Nat} {G:Reg} (w:World) (hv:Of Ty.wd w.cell? v x) (hi:WI n G x) (hg:x.aN.bg.length<=100000) (hlp:u_ x.aN.bg):
  Calls Tryz.prog 67 #[v] w fun e w'=>∃v',e=.returned v'/\bK Ty.int (fun _=>none) w' w.heap.size 3 v' (opensE x)/\aK w w':=XQ w hv (hi.A2f hg hlp)
theorem VO (x:AW):idleA x=(((x.bM.length:Int)==0)&&((x.aN.bG.length:Int)==0)&&(((opensE x).length:Int)==0)):=by
 unfold idleA;cases x.bM<;>cases x.aN.bG<;>cases opensE x<;>simp<;>omega
theorem mQ {v:Value} {x:AW} {k:Nat} (w:World) (hv:Of Ty.wd w.cell? v x) (hk:WK k x):
  Calls Tryz.prog 29 #[v] w fun e w'=>e=.returned (.bool (idleA x))/\aK w w':=by
 obtain⟨n,G,hwi⟩:=hk.wi;have Ux:=I (fun(W:World) (hW:aK w W)=>eJ W (hv.mono hW.sub) hwi (by have:=hk.few.bg;have:=hk.le;omega) hk.logp);have HLEN:=I (VO x);obtain⟨al,cl,ao,co,ah,ch,an,cn,rfl⟩:=hv.dJ;clear hv hk hwi;obtain⟨wz,hwz⟩:=χ (w.alloc (.cells #[U al x.aN.bg.length cl,J x.aN.aW,J x.aN.next,U ao x.aN.bG.length co,U ah x.aI.length ch,U an x.bM.length cn] 33));have R1:Hid (wz.heap[w.heap.size]? =some (.cells #[U al x.aN.bg.length cl,J x.aN.aW,J x.aN.next,U ao x.aN.bG.length co,U ah x.aI.length ch,U an x.bM.length cn] 33 (0,0))):=I (by rw [hwz];exact bn _ _);have G1:Hid (aK w wz):=I (by rw [hwz];exact(aG w).alloc _);obtain⟨b1,N⟩:∃b,b=((x.bM.length:Int)==0):=⟨_,rfl⟩;obtain⟨b2,Y⟩:∃b,b=((x.aN.bG.length:Int)==0):=⟨_,rfl⟩;rw [<-N,<-Y] at HLEN;go_enter Tryz.func29,Tryz.ntmps29;go_upto_region 1 with fail
 rw [<-hwz];clear hwz;obtain⟨x1,x2,x3,x4,x5,x6⟩:=bF R1.o;have zX:w.heap.size<wz:=(γ R1.o);cases b1 with
 |false=>
  have t1:((x.bM.length:Int)==0)=false:=N.symm;clear N Y;go_wp2;go_ret;exact⟨by rw [HLEN.o];rfl,G1.o⟩
 |true=>
  have t1:((x.bM.length:Int)==0)=true:=N.symm;clear N;cases b2 with
  |false=>
   have t2:((x.aN.bG.length:Int)==0)=false:=Y.symm;clear Y;go_wp2;go_ret;exact⟨by rw [HLEN.o];rfl,G1.o⟩
  |true=>
   have t2:((x.aN.bG.length:Int)==0)=true:=Y.symm;clear Y;go_wp2_with fail
   refine(Ux.o _ G1.o).mono ?_;rintro e w1 ⟨v1,rfl,ho,hg⟩;obtain⟨a1,c1,rfl⟩:=ho.form;obtain⟨b3,h3⟩:∃b,b=(((opensE x).length:Int)==0):=⟨_,rfl⟩;rw [<-h3] at HLEN;generalize opensE x=os at*;have t3:((os.length:Int)==0)=b3:=h3.symm;have G2:=I (G1.o.trans hg);clear ho hg h3;go_wp2;go_ret;exact⟨by rw [HLEN.o];rfl,G2.o⟩
theorem A0K {wz w1 w3:World} {X:List (Option Nat)} (hX:∀q,some q∈X->w1.heap.size<=q) (h3:∀(a:Addr) (v:Value),a.block<w1.heap.size->w1.cell? a=some v->w3.cell? a=some v):Sub (ov (fun _=>none) wz w1) (fr wz w3 X):=fun a v e=>by
 unfold ov at e;split at e
 ·cases e
 ·have hl:=eH w1 a e
  rw [jh V (fun hm=>by have:=hX _ hm;omega)];exact h3 a v hl e
theorem WK.gq:∀(f:Nat) {k:Nat} {x:AW},WK k x->k+f*1100<=99000->WK (k+f*1100) (gq f x).1
 |0,k,x,i,h=>i.up V h
 |f+1,k,x,i,h=>by
  unfold Go.Proofs.YtocnmkefmgmkbaaGreat.gq;split
  ·exact i.up V h
  ·have Y:=(i.round V).gq f V
   rw [show k+(f+1)*1100=k+1100+f*1100 by omega];exact Y
theorem WK.settle {k:Nat} {x:AW} (i:WK k x) (h:k+33000<=99000):WK (k+33000) (fD x).1:=i.gq 30 h
theorem kP {v:Value} {x:AW} {k:Nat} (w:World) (hv:Of Ty.wd w.cell? v x) (hk:WK k x) (h9:k+33000<=99000):
  Calls Tryz.prog 31 #[v] w fun e w'=>∃v',e=.returned (.tuple #[v',J (fD x).2])/\Of Ty.wd (ov (fun _=>none) w w') v' (fD x).1/\aK w w':=by
 have HV:=I hv;have M:=I hk;have H9:=I h9;obtain⟨al,cl,ao,co,ah,ch,an,cn,rfl⟩:=hv.dJ;clear hv hk h9;obtain⟨wa,fZ⟩:=χ (w.alloc (.cells #[U al x.aN.bg.length cl,J x.aN.aW,J x.aN.next,U ao x.aN.bG.length co,U ah x.aI.length ch,U an x.bM.length cn] 33));obtain⟨wz,hwz⟩:=χ (wa.alloc (.cells #[(),J 0,J 0,(),(),()] 33));have hsz:wa.heap.size=w.heap.size+1:=by rw [fZ];simp
 have R1:Hid (wz.heap[w.heap.size]? =some (.cells #[U al x.aN.bg.length cl,J x.aN.aW,J x.aN.next,U ao x.aN.bG.length co,U ah x.aI.length ch,U an x.bM.length cn] 33 (0,0))):=I (by rw [hwz,fZ];exact bQ (bn _ _) _);have R2:Hid (wz.heap[w.heap.size+1]? =some (.cells #[(),J 0,J 0,(),(),()] 33 (0,0))):=I (by rw [hwz,<-hsz];exact bn _ _);have G1:Hid (aK w wz):=I (by rw [hwz,fZ];exact((aG w).alloc _).alloc _);have HZ:Hid (wz.heap.size=w.heap.size+2):=I (by rw [hwz,fZ];simp);go_enter Tryz.func31,Tryz.ntmps31;go_upto_region 1 with fail
 rw [<-fZ];try rw [hsz]
 rw [<-hwz];clear fZ hwz hsz;obtain⟨x1,x2,x3,x4,x5,x6⟩:=bF R1.o;have zX:w.heap.size<wz:=(γ R1.o);go_wp2_with fail
 refine(I7 wz (HV.o.mono G1.o.sub) M.o).mono ?_;rintro e w1 ⟨vl,vo,vh,vn,B0,rfl,hbx⟩;have xA:=I hbx.of;have GO:=I hbx.grow;clear hbx x1 x2 x3 x4 x5 x6 zX;obtain⟨al0,cl0,ao0,co0,ah0,ch0,an0,cn0,he0⟩:=xA.o.dJ;simp only [Value.agg.injEq,Array.mk.injEq,List.cons.injEq,and_true,true_and] at he0;obtain⟨rfl,rfl,rfl,rfl⟩:=he0;obtain⟨w3,Pn⟩:=χ (w1.alloc (.cells #[(),J 0,J 0,(),(),()] 33));obtain⟨B,hB⟩:=χ w1.heap.size;have RB:Hid (w3.heap[B]? =some (.cells #[(),J 0,J 0,(),(),()] 33 (0,0))):=I (by rw [Pn,hB];exact bn _ _);have G3:Hid (aK w1 w3):=I (by rw [Pn];exact(aG _).alloc _);have uA:Hid (B=w1.heap.size):=I hB;go_wp2_with (first|(rw [<-Pn,<-hB];clear Pn hB;refine aQ rfl (.tmp 4) (.tmp 7) rfl rfl rfl RB.o dN rfl rfl ?_))
 intro w4 r4 g4;have N8:Hid (Of Ty.wd (fr wz w4 [some B]) (.agg #[U al0 x.aN.bg.length cl0,J x.aN.aW,J x.aN.next,U ao0 x.aN.bG.length co0,U ah0 x.aI.length ch0,U an0 x.bM.length cn0]) x):=I (xA.o.mono (A0K (fun q O=>by have:=bI (List.mem_singleton.1 O);have:=uA.o;omega) (fun a9 v9 hl e9=>bV (G3.o.sub _ _ e9) g4 (τ uA.o))));have R4:=I r4;have Tm:Hid (wz.heap.size<=B):=I (by have:=GO.o.size;have:=uA.o;omega);have G4:Hid (aK wz w4):=I ((GO.o.trans G3.o).grown g4 (fun q O=>by have:=bI O;have:=Tm.o;omega));clear r4 g4 RB G3 uA xA;go_wp2;go_loopw [5] (fun i wr=>∃(r:Nat) (y:AW) (row:Array Value),i=J (r:Int)/\r<=30/\wr.heap[B]? =some (.cells row 33 (0,0))/\Of Ty.wd (fr wz wr [some B]) (.agg row) y/\aK wz wr/\WK (k+r*1100) y/\fD x=((gq (30 - r) y).1,(gq (30 - r) y).2+r)) (fun i _=>30 - (intOf i).toNat)
 case atStart=>exact⟨0,x,_,rfl,V,R4.o,N8.o,G4.o,M.o.up V (τ H9.o),rfl⟩
 case round=>
  obtain⟨r,y,row,rfl,hr,hrow,Z,hg,hj,hs⟩:=hrel;obtain⟨iC,iD,lY,lZ,Nq,IY,OL,OM,hrw⟩:=Z.dJ;simp only [Value.agg.injEq] at hrw;subst hrw;have jw:=I hrow;have HX:=I Z;have HG:=I hg;have HJ:=I hj;have HS:=I hs;clear hrow Z hg hj hs;by_cases hi:r<30
  ·have ti:decide ((r:Int)<30)=true:=decide_eq_true V
   obtain⟨x1,x2,x3,x4,x5,x6⟩:=bF jw.o;have zX:B<wr.heap.size:=(γ jw.o);go_wp2_with fail
   refine(mQ wr (HX.o.mono (iO _ _ _)) HJ.o).mono ?_;rintro e w5 ⟨rfl,uG⟩;have F5:=I (HX.o.mono (fH uG));have J2:=I (aF jw.o uG);have G5:=I (HG.o.trans uG);clear uG x1 x2 x3 x4 x5 x6 zX;obtain⟨b,hb⟩:=χ (idleA y);rw [<-hb];have HBI:=I hb;clear hb;cases b with
   |true=>
    have HE:Hid (fD x=(y,r)):=I (by
     obtain⟨f,hf⟩:∃f,30 - r=f+1:=⟨29 - r,V⟩;have e2:Go.Proofs.YtocnmkefmgmkbaaGreat.gq (f+1) y=(y,0):=by
      show(if idleA y=true then(y,0) else _)=_;rw [bC HBI.o.symm]
     rw [HS.o,hf,e2];simp)
    obtain⟨x1,x2,x3,x4,x5,x6⟩:=bF J2.o;have zX:B<w5.heap.size:=(γ J2.o);have RZ:=I (aF R2.o G5.o);have zr:w.heap.size+1<w5:=(γ RZ.o);go_wp2_with (first|(refine aQ rfl (.tmp 2) (.tmp 19) rfl rfl rfl RZ.o dN rfl rfl ?_))
    intro w7 r7 g7;obtain⟨p0,p1,p2,p3,p4,p5⟩:=bF r7;go_wp2;refine dw (v:=.tuple #[.agg #[U iC y.aN.bg.length iD,J y.aN.aW,J y.aN.next,U lY y.aN.bG.length lZ,U Nq y.aI.length IY,U OL y.bM.length OM],J r]) (by simp [results,Tryz.results31,go_sem,p0,p1,p2,p3,p4,p5]) rfl ?_;rw [HE.o];exact⟨_,rfl,F5.o.mono (Kv (τ HZ.o) g7 (τ HZ.o)),(G1.o.trans G5.o).grown g7 (fun q O=>by have:=bI O;omega)⟩
   |false=>
    have KM:Hid (fD x=((gq (30 - (r+1)) (fQ y)).1,(gq (30 - (r+1)) (fQ y)).2+(r+1))):=I (by
     obtain⟨f,hf⟩:∃f,30 - r=f+1:=⟨29 - r,V⟩;have hf2:30 - (r+1)=f:=by omega
     rw [HS.o,hf,oK f HBI.o.symm,hf2];simp only [Prod.mk.injEq,true_and];omega)
    have HJ2:Hid (WK (k+(r+1)*1100) (fQ y)):=I ((HJ.o.round (τ H9.o)).up V (τ H9.o));obtain⟨x1,x2,x3,x4,x5,x6⟩:=bF J2.o;have zX:B<w5.heap.size:=(γ J2.o);go_wp2_with fail
    refine(ql w5 (F5.o.mono (iO _ _ _)) HJ.o (τ H9.o)).mono ?_;rintro e w6 ⟨v6,rfl,hx6,JI⟩;generalize fQ y=y6 at*;obtain⟨tQ,tR,tS,tT,XM,ch6,tU,tW,rfl⟩:=hx6.dJ;have KB:Hid (Of Ty.wd (fr wz w6 [some B]) _ y6):=I (hx6.mono (I4 G5.o (fun q O=>by have:=bI (List.mem_singleton.1 O);omega)));have RW6:=I (aF J2.o JI);have G6:=I (G5.o.trans JI);clear hx6 JI x1 x2 x3 x4 x5 x6 zX;go_wp2_with (first|(refine aQ rfl (.tmp 4) (.tmp 16) rfl rfl rfl RW6.o dN rfl rfl ?_))
    intro w8 r8 g8;have R8:=I r8;have OJ:=I (KB.o.mono (Nz g8 σ));have G8:=I (G6.o.grown g8 (fun q O=>by have:=bI O;have:=Tm.o;omega));clear r8 g8;go_wp2;go_roundw
    case rel=>exact⟨r+1,y6,_,by go_num,V,R8.o,OJ.o,G8.o,HJ2.o,KM.o⟩
    case measure=>simp [intOf];omega
  ·have ti:decide ((r:Int)<30)=false:=decide_eq_false V
   have HE:Hid (fD x=(y,r)):=I (by
    have e:30 - r=0:=by omega
    rw [HS.o,e];show(y,0+r)=(y,r);rw [Nat.zero_add])
   obtain⟨x1,x2,x3,x4,x5,x6⟩:=bF jw.o;have zX:B<wr.heap.size:=(γ jw.o);have RZ:=I (aF R2.o HG.o);have zr:w.heap.size+1<wr:=(γ RZ.o);go_wp2_with (first|(refine aQ rfl (.tmp 2) (.tmp 19) rfl rfl rfl RZ.o dN rfl rfl ?_))
   intro w7 r7 g7;obtain⟨p0,p1,p2,p3,p4,p5⟩:=bF r7;go_wp2;refine dw (v:=.tuple #[.agg #[U iC y.aN.bg.length iD,J y.aN.aW,J y.aN.next,U lY y.aN.bG.length lZ,U Nq y.aI.length IY,U OL y.bM.length OM],J r]) (by simp [results,Tryz.results31,go_sem,p0,p1,p2,p3,p4,p5]) rfl ?_;rw [HE.o];exact⟨_,rfl,HX.o.mono (Kv (τ HZ.o) g7 (τ HZ.o)),(G1.o.trans HG.o).grown g7 (fun q O=>by have:=bI O;omega)⟩
end Go.Proofs.YtocnmkefmgmkbaaGreat
