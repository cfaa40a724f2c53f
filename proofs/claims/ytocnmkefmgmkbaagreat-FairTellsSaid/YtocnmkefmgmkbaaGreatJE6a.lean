/- Parts of proofs, joined: E1, V1, E2, E4, M8, M9, N7. No condition beside those that each theorem names. -/
import Derived.Deep.DeepCutAuto
import Derived.Test.YtocnmkefmgmkbaaGreatJE1b
set_option maxRecDepth 100000
set_option maxHeartbeats 40000000
namespace Go.Proofs.YtocnmkefmgmkbaaGreat
open Go.RowKit
theorem WO {v:Value} {h:Hs} {me:Int} (w:World) (hv:Of Ty.hs w.cell? v h) (hme:I64 me) (hm:h.ready.length*48<=140737488355328):
  Calls Tryz.prog 85 #[v,J me] w fun e w'=>∃v',e=.returned v'/\bK Ty.ms (fun _=>none) w' w.heap.size 85 v' (mg h me)/\aK w w':=by
 obtain⟨al,cl,ar,cr,ad,cd,rfl⟩:=hv.ig;obtain⟨Oi,Oj,he,N,Y,-,hel⟩:=(Of.oC hv).2.1;obtain⟨rfl,rfl⟩:ar=Oi/\cr=Oj:=by simpa using he
 unfold maxLen at Y;have HM:=I hm;have WQ:=I hme;clear hm hme he hv;go_enter Tryz.func85,Tryz.ntmps85;go_wp2;go_loopw [5,11] (fun s5 i wr=>∃k:Nat,k<=h.ready.length/\i=J k/\aK w wr/\bK Ty.ms (fun _=>none) wr w.heap.size 85 s5 ((h.ready.take k).map fun r=>(⟨7,r.aJ,me,[]⟩:Ms))) (fun _ i _=>h.ready.length - (intOf i).toNat)
 case atStart=>exact⟨0,V,rfl,je,bK.nil _ _ _ _ _⟩
 case round=>
  obtain⟨k,hk',rfl,hb,bU⟩:=hrel;by_cases hlt:k<h.ready.length
  ·obtain⟨b,o,vp,rfl,c0,c1,i0,hP⟩:=VU.at_ hel k hlt
   obtain⟨ap,cp,rfl,-⟩:=id hP;replace c0:=hb.sub _ _ c0;replace c1:=hb.sub _ _ c1;have nK:=I (show(h.ready.take (k+1)).map (fun r=>(⟨7,r.aJ,me,[]⟩:Ms))=(h.ready.take k).map (fun r=>(⟨7,r.aJ,me,[]⟩:Ms))++ [⟨7,h.ready[k].aJ,me,[]⟩] by rw [List.take_succ_eq_append_getElem hlt,List.map_append];rfl);have CB:=I (show((h.ready.take k).map fun r=>(⟨7,r.aJ,me,[]⟩:Ms)).length<=k by simp;omega);have dX:=I bU;have HI:=I i0;obtain⟨av,cv,rfl⟩:=bU.form;clear hel hP bU i0;generalize h.ready[k]=r at*;generalize (h.ready.take k).map (fun r=>(⟨7,r.aJ,me,[]⟩:Ms))=ms at*;go_wp2_with (first|(at_builtin;refine cO (c:=fun _=>none) (base:=w.heap.size) (l:=ms) (m:=[⟨7,r.aJ,me,[]⟩]) Ah rfl pR ε rfl (.tmp 15) (.tmp 20) rfl rfl ?own rfl (Src.dU (T:=Ty.ms) (cs:=#[J 7,J r.aJ,J me,()]) ⟨_,rfl,(show I64 7 from by unfold I64;decide),HI.o,WQ.o,Sl.nil _ _⟩ _ _ ?d1) ?d2 ?d3 ?_))
   case own=>exact dX.o.grow (((aG _).alloc _).alloc _)
   case d1=>simp
   case d2=>have:=HM.o;have:=CB.o;simp;omega
   case d3=>have:=hb.size;simp;omega
   intro a9 c9 w9 gX fV iE;have kR:Hid (aK w w9):=I (dI (w0:=w) ((hb.alloc _).alloc _) fV (fun q O=>(dX.o.lt q O).1));have jE:=I gX;clear gX fV iE;go_wp2;go_roundw
   case rel=>exact⟨k+1,V,by go_num,kR.o,by rw [nK.o];exact jE.o⟩
   case measure=>simp [intOf];omega
  ·clear hel
   go_wp2;go_ret;have h9:=bU;rw [eG V] at h9;exact⟨_,rfl,h9,hb⟩
theorem Oy {v:Value} {h:Hs} {me:Int} (w:World) (hv:Of Ty.hs w.cell? v h) (hme:I64 me) (hm:h.ready.length*48<=140737488355328):
  Calls Tryz.prog 58 #[v,J me] w fun e w'=>∃v',e=.returned v'/\bK Ty.ms (fun _=>none) w' w.heap.size 85 v' (mg h me)/\aK w w':=by
 obtain⟨al,cl,ar,cr,ad,cd,rfl⟩:=hv.ig;obtain⟨Oi,Oj,he,N,Y,-,hel⟩:=(Of.oC hv).2.1;obtain⟨rfl,rfl⟩:ar=Oi/\cr=Oj:=by simpa using he
 unfold maxLen at Y;have HM:=I hm;have WQ:=I hme;clear hm hme he hv;go_enter Tryz.func58,Tryz.ntmps58;go_wp2;go_loopw [5,11] (fun s5 i wr=>∃k:Nat,k<=h.ready.length/\i=J k/\aK w wr/\bK Ty.ms (fun _=>none) wr w.heap.size 85 s5 ((h.ready.take k).map fun r=>(⟨7,r.aJ,me,[]⟩:Ms))) (fun _ i _=>h.ready.length - (intOf i).toNat)
 case atStart=>exact⟨0,V,rfl,je,bK.nil _ _ _ _ _⟩
 case round=>
  obtain⟨k,hk',rfl,hb,bU⟩:=hrel;by_cases hlt:k<h.ready.length
  ·obtain⟨b,o,vp,rfl,c0,c1,i0,hP⟩:=VU.at_ hel k hlt
   obtain⟨ap,cp,rfl,-⟩:=id hP;replace c0:=hb.sub _ _ c0;replace c1:=hb.sub _ _ c1;have nK:=I (show(h.ready.take (k+1)).map (fun r=>(⟨7,r.aJ,me,[]⟩:Ms))=(h.ready.take k).map (fun r=>(⟨7,r.aJ,me,[]⟩:Ms))++ [⟨7,h.ready[k].aJ,me,[]⟩] by rw [List.take_succ_eq_append_getElem hlt,List.map_append];rfl);have CB:=I (show((h.ready.take k).map fun r=>(⟨7,r.aJ,me,[]⟩:Ms)).length<=k by simp;omega);have dX:=I bU;have HI:=I i0;obtain⟨av,cv,rfl⟩:=bU.form;clear hel hP bU i0;generalize h.ready[k]=r at*;generalize (h.ready.take k).map (fun r=>(⟨7,r.aJ,me,[]⟩:Ms))=ms at*;go_wp2_with (first|(at_builtin;refine cO (c:=fun _=>none) (base:=w.heap.size) (l:=ms) (m:=[⟨7,r.aJ,me,[]⟩]) Ah rfl pR ε rfl (.tmp 15) (.tmp 20) rfl rfl ?own rfl (Src.dU (T:=Ty.ms) (cs:=#[J 7,J r.aJ,J me,()]) ⟨_,rfl,(show I64 7 from by unfold I64;decide),HI.o,WQ.o,Sl.nil _ _⟩ _ _ ?d1) ?d2 ?d3 ?_))
   case own=>exact dX.o.grow (((aG _).alloc _).alloc _)
   case d1=>simp
   case d2=>have:=HM.o;have:=CB.o;simp;omega
   case d3=>have:=hb.size;simp;omega
   intro a9 c9 w9 gX fV iE;have kR:Hid (aK w w9):=I (dI (w0:=w) ((hb.alloc _).alloc _) fV (fun q O=>(dX.o.lt q O).1));have jE:=I gX;clear gX fV iE;go_wp2;go_roundw
   case rel=>exact⟨k+1,V,by go_num,kR.o,by rw [nK.o];exact jE.o⟩
   case measure=>simp [intOf];omega
  ·clear hel
   go_wp2;go_ret;have h9:=bU;rw [eG V] at h9;exact⟨_,rfl,h9,hb⟩
theorem RK (w:World) (B:Nat) (d:Int) (wx:World) (cs:List Value) (x:Rd) (hc:w.cell? ⟨B,0,none⟩=some (J d)) (hg:aK w wx) (hR:Ty.rd.R wx.cell? cs x):
  Calls Tryz.prog 138 #[.agg cs.toArray,.pointer (some ⟨B,0,none⟩)] wx fun e w'=>e=.returned (.bool (nG d x))/\aK wx w':=by
 obtain⟨vp,rfl,-,hp⟩:=hR;obtain⟨ap,cp,rfl,-⟩:=hp;have hB:=eH w _ hc;simp only at hB;have hBx:B<wx.heap.size:=Nat.lt_of_lt_of_le hB hg.size;replace hc:=hg.sub _ _ hc;go_enter Tryz.func138,Tryz.ntmps138;go_wp2;go_ret;exact⟨rfl,je⟩
theorem kA (w:World) (B:Nat) (d:Int) (l:List Rd) (hc:w.cell? ⟨B,0,none⟩=some (J d)):xw Tryz.prog Ty.rd qH w 138 #[.pointer (some ⟨B,0,none⟩)] l (nG d) where
 ent:=fun args w=>by kernel_rfl
 say:=fun wx cs x hg _ hR=>RK w B d wx cs x hc hg hR
theorem T_ {B:Nat} {d:Int} {l:List Rd} {a:Option Addr} {cap:Nat} (w:World) (hb:B<w.heap.size) (hc:w.cell? ⟨B,5,none⟩=some (U a l.length cap)) (hv:Sl Ty.rd w.cell? (U a l.length cap) l):
  Calls Tryz.prog 116 #[.pointer (some ⟨B,0,none⟩),J d] w fun e w'=>e=.returned (.bool (dP l d))/\aK w w':=by
 have HX:=I (JH (w.alloc (.cells #[J d] 3)) (hv.mono ((aG w).alloc _).sub) (kA (w.alloc (.cells #[J d] 3)) w.heap.size d l (by rw [World.cell?_alloc_new];rfl)));clear hv;go_enter Tryz.func116,Tryz.ntmps116;go_wp2_with fail
 refine HX.o.mono ?_;rintro e w1 ⟨rfl,dZ⟩;have HB:=I dZ;clear dZ;go_wp2;go_ret;exact⟨rfl,((aG w).alloc _).trans HB.o⟩
theorem Of.iw {c:CM} {v:Value} {h:Hd} (hv:Of Ty.hd c v h):∃al cl ar cr,v=.agg #[U al h.bg.length cl,J h.aW,J h.next,U ar h.bG.length cr]:=by
 obtain⟨cs,rfl,vl,vo,rfl,hl,-,-,ho⟩:=hv;obtain⟨al,cl,rfl,-⟩:=id hl;obtain⟨ao,co,rfl,-⟩:=id ho;exact⟨_,_,_,_,rfl⟩
theorem Of.lM {c:CM} {al ar:Option Addr} {nl cl nr cr:Nat} {b n:Value} {h:Hd} (hv:Of Ty.hd c (.agg #[U al nl cl,b,n,U ar nr cr]) h):Sl Ty.rc c (U al nl cl) h.bg/\Sl Ty.bG c (U ar nr cr) h.bG:=by
 obtain⟨cs,he,vl,vo,rfl,hl,-,-,ho⟩:=hv;simp at he;obtain⟨rfl,-,-,rfl⟩:=he;exact⟨hl,ho⟩
structure KOk (h:Hd) (n:Nat):Prop where
 bG:h.bG.length<=n
 aW:I64 h.aW
 next:I64 h.next
theorem Ua {h:Hd} {n:Nat} (k:KOk h n) (r:Rc):KOk (fF h r) (n+1):=by
 have N:=k.bG;unfold fF;split
 ·exact⟨by show h.bG.length<=_;omega,Yd _,k.next⟩
 ·split
  ·exact⟨by simp;omega,k.aW,k.next⟩
  ·split
   ·exact⟨Nat.le_trans (List.length_filter_le _ _) V,k.aW,k.next⟩
   ·exact⟨V,k.aW,k.next⟩
theorem Ph {v:Value} {l:List Rc} (w:World) (hv:NT w.cell? v l) (hm:l.length*64<=140737488351232) (hp:∀r∈l,r.aH.length*24<=140737488355328):
  Calls Tryz.prog 70 #[v] w fun e w'=>∃v',e=.returned v'/\Of Ty.hd (ov (fun _=>none) w w') v' (fA l)/\aK w w':=by
 have dX:=I (E5 (w.alloc (.cells TV 29)) (hv.mono ((aG w).alloc _).sub) V hp);have HP:=I hp;obtain⟨al0,cl0,rfl,-⟩:=hv;have hlm:l.length<=2199023255489:=by omega
 clear hm hp;go_enter Tryz.func70,Tryz.ntmps70;go_wp2_with fail
 refine dX.o.mono ?_;rintro e w1 ⟨vl,rfl,bU,dZ⟩;obtain⟨al,cl,rfl⟩:=bU.form;have HOW:=I bU;have oW:=I dZ;have z1:w.heap.size+1<=w1.heap.size:=by have:=dZ.size;simpa using this
 clear bU dZ;go_wp2;go_loopw [12] (fun i wr=>∃(k:Nat) (h:Hd) (vo:Value),k<=l.length/\i=J k/\(l.take k).foldl fF ⟨l,0,0,[]⟩=h/\Dp w w1 wr (U al l.length cl) vo l h/\KOk h k) (fun i _=>l.length - (intOf i).toNat)
 case atStart=>
  refine⟨0,⟨l,0,0,[]⟩,(),V,rfl,rfl,?_,⟨σ,gZ,gZ⟩⟩;have hl:=HOW.o.lt;refine⟨aF (bn w _) (oW.o.alloc _),bn _ _,?_,bK.nil _ _ _ _ _,((aG w).alloc _).trans (oW.o.alloc _),σ,fun k hk=>(hl k hk).2,z1⟩;have hs0:(w.alloc (.cells TV 29)).heap.size=w.heap.size+1:=by simp
  have Y:=HOW.o;rw [hs0] at Y;refine(Y.mono fun a u e=>?_).grow ((aG _).alloc _);unfold fr at e;split at e
  ·cases e
  ·rename_i hn
   have hlt:=eH w1 a e;rw [hs0] at hn;unfold Hy;rw [jh V]
   ·exact((aG w1).alloc _).sub _ _ e
   ·simp only [List.mem_cons,List.not_mem_nil,or_false,not_or]
    refine⟨fun e=>hn (.inr (by simp [e])),by simp [Value.ownBlock],fun e=>?_,fun e=>?_⟩
    ·have:=bI e;exact hn (.inl V)
    ·have:=bI e;omega
 case round=>
  obtain⟨k,h,vo,hk',rfl,hfold,hbox,hok⟩:=hrel;obtain⟨ar,cr,rfl⟩:=hbox.bG.form;have ZL:=I hfold;have j_:=I hbox;have TR:=I hok;have z3:=hbox.size;have z4:w1.heap.size<wr:=by omega
  by_cases hlt:k<l.length
  ·obtain⟨gl,cs,rfl,⟨vp,rfl,i0,i1,hP⟩,hA⟩:=hbox.bg.get ε k hlt
   have hP':=hP.mono (iO _ _ _);obtain⟨ap,cp,rfl,-⟩:=id hP';have c0:=hA 0 _ rfl;have c1:=hA 1 _ rfl;have c2:=hA 2 _ rfl;simp only [Nat.add_zero,Ty.rc] at c0 c1 c2;have htk:(l.take (k+1)).foldl fF ⟨l,0,0,[]⟩=fF h l[k]:=by rw [List.take_succ_eq_append_getElem hlt,List.foldl_append,ZL.o];rfl
   have nK:=I htk;have hpl:=HP.o l[k] (List.getElem_mem _);have Je:=I (fun(W:World) (hW:aK wr W)=>sZ W (hP'.mono hW.sub) hpl);have HI:=I (And.intro i0 (And.intro i1 (pX.ok (c:=wr.cell?) hP')));have Fg:=I (Ua hok l[k]);have Lh:Hid (h.bG.length<2199023255489):=I (τ hok.bG);have yj:Hid (∀q,(Value.slice ar h.bG.length cr).ownBlock=some q->q<wr.heap.size):=fun q O=>(hbox.bG.lt q O).2;clear hfold hok htk hpl hP hP' hA i0 i1 hbox;generalize l[k]=r at*;obtain⟨s0,s1,s2,s3⟩:=aT j_.o.row;have sf:=gJ j_.o.row;by_cases k4:r.aX=4
   ·have b4:(r.aX==4)=true:=by simp [k4]
    have b5:(r.aX==5)=false:=by simp [k4]
    have b6:(r.aX==6)=false:=by simp [k4]
    have hst:fF h r={ h with aW:=wrap64 (h.aW+1) }:=by unfold fF;rw [bC k4]
    have EJ:=I (nK.o.trans hst);have uM:=I (hst▸Fg.o);clear hst k4;have HX:=(Dp.aW j_.o (aG wr) (wrap64 (h.aW+1))).dL ((aG _).alloc (.cells #[J r.aX,J r.aJ,U ap r.aH.length cp] 79));go_wp2;go_roundw
    case rel=>exact⟨k+1,_,_,V,by go_num,EJ.o,HX,uM.o⟩
    case measure=>simp [intOf];omega
   ·have b4:(r.aX==4)=false:=by simp [k4]
    by_cases k5:r.aX=5
    ·have b5:(r.aX==5)=true:=by simp [k5]
     have b6:(r.aX==6)=false:=by simp [k5]
     have hst:fF h r={ h with bG:=h.bG++ [⟨r.aJ,r.aH,true,[]⟩] }:=by unfold fF;rw [aV k4,bC k5]
     have EJ:=I (nK.o.trans hst);have uM:=I (hst▸Fg.o);clear hst k4 k5;go_wp2;obtain⟨w2,ZR⟩:=χ (wr.alloc (.cells #[J r.aX,J r.aJ,U ap r.aH.length cp] 79));rw [<-ZR];have yh:Hid (aK wr w2):=I (by rw [ZR];exact(aG wr).alloc _);have r5:w2.heap[wr.heap.size]? =some (.cells #[J r.aX,J r.aJ,U ap r.aH.length cp] 79 (0,0)):=by rw [ZR];exact bn _ _
     have Gp:=I r5;clear ZR r5 s0 s1 s2 s3;have jq:=I (j_.o.dL yh.o);obtain⟨s0,s1,s2,s3⟩:=aT jq.o.row;obtain⟨q0,q1,q2⟩:=iI Gp.o;have l3:w1.heap.size<w2:=by have:=jq.o.size;omega
     have l5:wr.heap.size<w2:=(γ Gp.o);have n3:(Value.slice ar h.bG.length cr).ownBlock≠some w1.heap.size:=fun e=>by have:=(jq.o.bG.lt _ e).1;omega
     have n5:(Value.slice ar h.bG.length cr).ownBlock≠some wr.heap.size:=fun e=>by have:=yj.o _ e;omega
     have HS:Hid (∀W,w2.grownBy W (Value.slice ar h.bG.length cr).ownBlock->W.cell? ⟨w1,3,none⟩=some (U ar h.bG.length cr)/\W.cell? ⟨wr,1,none⟩=some (J r.aJ)/\W.cell? ⟨wr,2,none⟩=some (U ap r.aH.length cp)):=fun W hW=>⟨by rw [World.cell?_of_block (hW.block w1.heap.size l3 (fun e=>n3 e.symm))];exact s3,by rw [World.cell?_of_block (hW.block wr.heap.size l5 (fun e=>n5 e.symm))];exact q1,by rw [World.cell?_of_block (hW.block wr.heap.size l5 (fun e=>n5 e.symm))];exact q2⟩;clear s0 s1 s2 s3 q0 q1 q2;refine dH (fun w'=>w'.cell? ⟨w1,3,none⟩=some (U ar h.bG.length cr)/\w'.cell? ⟨wr,1,none⟩=some (J r.aJ)/\w'.cell? ⟨wr,2,none⟩=some (U ap r.aH.length cp)) 11 κ ?_;obtain⟨wd,hWd⟩:=χ w2.drew;rw [<-hWd];have GD:aK w2 wd:=by rw [hWd];exact(aG _).drew
     have zD:w2.heap.size=wd.heap.size:=by rw [hWd];rfl
     clear hWd zD;refine qJ [0,1,2,3,4,5] 8 κ (fun _ _ _ _ _ h=>h) (HS.o _ (aO GD _)) ?_;repeat (refine jY ?_;try simp only [bT])
     refine qK ?_;refine bO 6 κ rfl ?_;intro K M;try simp only [dD]
     go_simp;go_at_call 73
     refine(Je.o _ (yh.o.trans GD)).mono ?_;rintro e w3 ⟨v3,rfl,mZ,fB⟩;obtain⟨a3,c3,rfl⟩:=dG mZ;have n_:=I mZ;have G3:=GD.trans fB;clear mZ fB;refine ψ M (fun _=>HS.o _ (aO G3 _)) ?_;try simp only [bT]
     refine bO 7 κ rfl ?_;intro K M;try simp only [dD]
     go_simp;refine ψ M (fun _=>HS.o _ (aO G3 _)) ?_;try simp only [bT]
     refine bO 8 κ rfl ?_;intro K M;try simp only [dD]
     go_simp;refine ψ M (fun _=>HS.o _ (aO (G3.alloc _) _)) ?_;try simp only [bT]
     refine bO 9 κ rfl ?_;intro K M;refine aY rfl ?_;try simp only [dD]
     have bA:=jq.o.dL (w':=(w3.alloc (.cells #[J r.aJ,U a3 r.aH.length c3,.bool true,()] 58))) (G3.alloc _);have fL:Ty.bG.R (Hy w w1 (w3.alloc (.cells #[J r.aJ,U a3 r.aH.length c3,.bool true,()] 58)) (U (some ⟨gl,0,none⟩) l.length cl) (Value.slice ar h.bG.length cr)) (#[J r.aJ,U a3 r.aH.length c3,.bool true,()]:Array Value).toList ⟨r.aJ,r.aH,true,[]⟩:=by
      refine⟨_,_,rfl,HI.o.2.1,KZ (w1:=wd) ((n_.o).kept (aO ((aG _).alloc _) none) (by cases (Value.slice a3 r.aH.length c3).ownBlock<;>simp)) HI.o.2.2 (by have:=jq.o.grow.size;have:=GD.size;omega) fun q O=>?_,Sl.nil _ _⟩;have z1:=jq.o.bG.lt;have z2:=jq.o.bg.lt;have z4:=jq.o.size;have z5:=jq.o.w1;have z6:=GD.size;simp only [List.mem_cons,List.not_mem_nil,or_false,not_or];exact⟨fun e=>by have:=(z2 q e.symm).2;omega,fun e=>by have:=(z1 q e.symm).2;omega,fun e=>by have:=bI e;omega,fun e=>by have:=bI e;omega⟩
     have ZM:=I fL;have P0:=I bA;clear fL bA;refine fP (c:=(Hy w w1 (w3.alloc (.cells #[J r.aJ,U a3 r.aH.length c3,.bool true,()] 58)) (U (some ⟨gl,0,none⟩) l.length cl) (Value.slice ar h.bG.length cr))) (base:=w1.heap.size+1) (l:=h.bG) (m:=[⟨r.aJ,r.aH,true,[]⟩]) kF rfl jG ε (.tmp 27) (.tmp 34) rfl rfl P0.o.bG rfl (Src.dU (T:=Ty.bG) (cs:=#[J r.aJ,U a3 r.aH.length c3,.bool true,()]) ZM.o _ _ rfl) (by have:=Lh.o;simp;omega) P0.o.size ?_;intro a9 c9 w9 gX fV iE;have jE:=I gX;have kR:=I fV;have Aj:=I iE;have SH:=I (bD (aO (G3.alloc _) _) fV);obtain⟨t5,-,-⟩:=HS.o _ SH.o;have tf:∀o,w9.frozen? ⟨w1,o,none⟩=false:=gJ (bJ P0.o.row fV (fun e=>n3 e.symm));have t9:w1.heap.size<w9:=eH w9 _ t5;clear gX fV iE;refine ψ M (fun _=>HS.o _ SH.o) ?_;try simp only [bT]
     refine bO 10 κ rfl ?_;intro K M;try simp only [dD]
     go_simp;refine ψ M (fun _=>HS.o _ SH.o) ?_;try simp only [bT]
     refine bO 11 κ rfl ?_;intro K M;try simp only [dD]
     go_simp;refine ψ M (fun h=>absurd rfl h) ?_;try simp only [bT]
     refine bW κ ?_;have HX:=Dp.TW jq.o (G3.alloc _) jE.o kR.o (Aj.o.imp_right fun⟨g,e,hge⟩=>⟨g,e,by simpa using hge⟩);go_wp2;go_roundw
     case rel=>exact⟨k+1,_,_,V,by go_num,EJ.o,HX,uM.o⟩
     case measure=>simp [intOf];omega
    ·have b5:(r.aX==5)=false:=by simp [k5]
     by_cases k6:r.aX=6
     ·have b6:(r.aX==6)=true:=by simp [k6]
      have hst:fF h r={ h with bG:=h.bG.filter fun o=>!(o.aJ==r.aJ) }:=by unfold fF;rw [aV k4,aV k5,bC k6]
      have EJ:=I (nK.o.trans hst);have uM:=I (hst▸Fg.o);clear hst k4 k5 k6;go_wp2_with fail
      have yh:Hid (aK wr (wr.alloc (.cells #[J r.aX,J r.aJ,U ap r.aH.length cp] 79))):=I ((aG wr).alloc _);have jq:=I (j_.o.dL yh.o);have n3:(Value.slice ar h.bG.length cr).ownBlock≠some w1.heap.size:=fun e=>by have:=(jq.o.bG.lt _ e).1;omega
      refine(yG (p:=fun o=>o.aJ==r.aJ) (c:=Hy w w1 (wr.alloc (.cells #[J r.aX,J r.aJ,U ap r.aH.length cp] 79)) (U (some ⟨gl,0,none⟩) l.length cl) (Value.slice ar h.bG.length cr)) ?_ jq.o.bG (TY _ _ wr.heap.size r.aJ _ (by rw [World.cell?_alloc_new];rfl) σ (fun e=>by have:=yj.o _ e;omega))).mono ?_
      ·intro a u e
       unfold Hy fr at e;split at e
       ·cases e
       ·rename_i hn
        unfold rQ;rw [aV (fun e=>hn (.inr (by simp [e])))];exact e
      rintro e w7 ⟨v7,rfl,yR,AB,jQ⟩;obtain⟨a7,c7,rfl⟩:=yR.form;have t7:=bJ jq.o.row AB (fun e=>n3 e.symm);have HX:=I (Dp.TW jq.o (aG _) yR AB (.inl jQ));clear s0 s1 s2 s3 sf yR AB jQ;obtain⟨u0,u1,u2,u3⟩:=aT t7;have uf:=gJ t7;have u9:w1.heap.size<w7:=(γ t7);clear t7;go_wp2;go_roundw
      case rel=>exact⟨k+1,_,_,V,by go_num,EJ.o,HX.o,uM.o⟩
      case measure=>simp [intOf];omega
     ·have b6:(r.aX==6)=false:=by simp [k6]
      have hst:fF h r=h:=by unfold fF;rw [aV k4,aV k5,aV k6]
      have EJ:=I (nK.o.trans hst);have uM:=I (hst▸Fg.o);clear hst k4 k5 k6;go_wp2;go_roundw
      case rel=>exact⟨k+1,_,_,V,by go_num,EJ.o,j_.o.dL ((aG wr).alloc _),uM.o⟩
      case measure=>simp [intOf];omega
  ·have HH:Hid (h=fA l):=by show h=_;rw [<-ZL.o,eG V];rfl
   obtain⟨s0,s1,s2,s3⟩:=aT hbox.row;clear hfold hok hbox;go_wp2_with (first|(refine aQ rfl (.tmp 2) (.tmp 45) rfl rfl rfl j_.o.res eY rfl rfl ?_))
   intro wf r2 g2;obtain⟨p0,p1,p2,p3⟩:=aT r2;have pf:=gJ r2;clear s0 s1 s2 s3;go_wp2;refine dw (v:=.agg #[U al l.length cl,J h.aW,J h.next,U ar h.bG.length cr]) (by simp [results,Tryz.results70,go_sem,p0,p1,p2,p3]) rfl ?_;have uq:h.bg=l:=by rw [HH.o];exact(Ec l).2
   have sub:Sub (Hy w w1 wr (U al l.length cl) (U ar h.bG.length cr)) (ov (fun _=>none) w wf):=fun a u e=>by
    unfold Hy fr at e;split at e
    ·cases e
    ·rename_i hn
     have hne:a.block≠w.heap.size:=fun e=>hn (.inr (by simp [e]));rw [dY V,fM g2 (eH wr a e) hne];exact e
   have hb:∀k,w.heap.size+1<=k->k<wr.heap.size->wf.heap[k]? =wr.heap[k]?:=fun k N Y=>g2.block k Y (by simp;omega);have WJ:=j_.o.w1;have e1:=((j_.o.bg.mono sub).block fun k hk=>hb k (j_.o.bg.lt k hk).1 (j_.o.bg.lt k hk).2).slc ε (Sub.refl _) fun a ha=>dY V;have e2:=((j_.o.bG.mono sub).block fun k hk=>hb k (τ ((j_.o.bG.lt k hk).1)) (j_.o.bG.lt k hk).2).slc ε (Sub.refl _) fun a ha=>dY V;rw [<-HH.o];refine⟨_,rfl,⟨_,rfl,_,_,rfl,?_,TR.o.aW,TR.o.next,e2⟩,j_.o.grow.grown g2 (fun k hk=>by simp at hk;omega)⟩;rw [uq];exact e1
def tq (r:Rc) (o:Opn):Bool:=!(r.aX==6&&o.aJ==r.aJ)
theorem Lp {r:Rc} (h:¬r.aX=6) (l:List Opn):l.filter (tq r)=l:=by
 rw [List.filter_eq_self];intro o _;simp [tq,h]
theorem kB {r:Rc} (h:r.aX=6) (l:List Opn):l.filter (tq r)=l.filter fun o=>!(o.aJ==r.aJ):=by
 refine List.filter_congr fun o _=>?_;simp [tq,h]
theorem yH (q:Opn->Bool) {l:List Opn} {j:Nat} (h:j<l.length):(l.take (j+1)).filter q=if q l[j]=true then(l.take j).filter q++ [l[j]] else(l.take j).filter q:=by
 rw [List.take_succ_eq_append_getElem h,List.filter_append];by_cases O:q l[j]=true<;>simp [O]
structure JL (c:CM) (w wr:World) (vl vo:Value) (h:Hd):Prop where
 res:wr.heap[w.heap.size]? =some (.cells TV 29 (0,0))
 row:wr.heap[w.heap.size+1]? =some (.cells #[vl,J h.aW,J h.next,vo] 29 (0,0))
 bG:bK Ty.bG c wr (w.heap.size+2) 58 vo h.bG
 grow:aK w wr
 size:w.heap.size+2<=wr.heap.size
theorem JL.dL {c:CM} {w wr w':World} {vl vo:Value} {h:Hd} (b:JL c w wr vl vo h) (hg:aK wr w'):JL c w w' vl vo h:=
 ⟨aF b.res hg,aF b.row hg,b.bG.grow hg,b.grow.trans hg,Nat.le_trans b.size hg.size⟩
theorem JL.TW {c:CM} {w wr w':World} {vl vo oH:Value} {h:Hd} {os:List Opn} {row:Option Nat} (b:JL c w wr vl vo h) (hg:wr.grownBy w' row) (hr:∀k,row=some k->w.heap.size+2<=k) (ho:bK Ty.bG c w' (w.heap.size+2) 58 oH os):
  JL c w (w'.setCell ⟨w+1,3,none⟩ oH) vl oH { h with bG:=os }:=by
 have hs:=b.size;have hB:∀k,k≠w.heap.size+1->(w'.setCell ⟨w+1,3,none⟩ oH).heap[k]? =w'.heap[k]?:=fun k hk=>Below.heap_setCell _ _ _ _ (fun e=>hk e);refine⟨?_,Ll (bJ b.row hg (fun e=>by have:=hr _ e.symm;omega)) _,ho.block fun k hk=>hB k (τ ((ho.lt k hk).1)),(b.grow.grown hg (fun k hk=>by have:=hr k hk;omega)).setCell σ _,?_⟩
 ·rw [hB _ V];exact bJ b.res hg (fun e=>by have:=hr _ e.symm;omega)
 ·have:=hg.size;simp;omega
theorem JL.aW {c:CM} {w wr:World} {vl vo:Value} {h:Hd} (b:JL c w wr vl vo h) (x:Int):JL c w (wr.setCell ⟨w+1,1,none⟩ (J x)) vl vo { h with aW:=x }:=by
 have hs:=b.size;have hB:∀k,k≠w.heap.size+1->(wr.setCell ⟨w+1,1,none⟩ (J x)).heap[k]? =wr.heap[k]?:=fun k hk=>Below.heap_setCell _ _ _ _ (fun e=>hk e);exact⟨by rw [hB _ V];exact b.res,Lm b.row _,b.bG.block fun k hk=>hB k (τ ((b.bG.lt k hk).1)),b.grow.setCell σ _,by simpa using b.size⟩
theorem Fp {c:CM} {v:Value} {l:List Rc} (w:World) (hc:Sub c w.cell?) (hv:NT c v l) (hm:l.length*64<=140737488351232):
  Calls Tryz.prog 39 #[v] w fun e w'=>∃v',e=.returned v'/\Of Ty.hd (ov c w w') v' (fA l)/\aK w w':=by
 have HC:=I hc;have HV:=I hv;obtain⟨al,cl,rfl,N,Y,-,hel⟩:=hv;have hlm:l.length<=2199023255489:=by omega
 clear hm;go_enter Tryz.func39,Tryz.ntmps39;go_wp2;go_loopw [13] (fun i wr=>∃(k:Nat) (h:Hd) (vo:Value),k<=l.length/\i=J k/\(l.take k).foldl fF ⟨l,0,0,[]⟩=h/\JL c w wr (U al l.length cl) vo h/\KOk h k) (fun i _=>l.length - (intOf i).toNat)
 case atStart=>
  exact⟨0,⟨l,0,0,[]⟩,(),V,rfl,rfl,⟨bQ (bn _ _) _,by simpa using bn (w.alloc (.cells TV 29)) (.cells #[U al l.length cl,J 0,J 0,()] 29),bK.nil _ _ _ _ _,((aG w).alloc _).alloc _,σ⟩,⟨σ,gZ,gZ⟩⟩
 case round=>
  obtain⟨wo,rfl⟩:=χ wr;obtain⟨k,h,vo,hk',rfl,hfold,hbox,hok⟩:=hrel;obtain⟨ar,cr,rfl⟩:=hbox.bG.form;have ZL:=I hfold;have j_:=I hbox;have TR:=I hok;have z3:=hbox.size;have z4:w.heap.size+1<wo:=by omega
  have z5:w.heap.size<wo:=by omega
  obtain⟨s0,s1,s2,s3⟩:=aT hbox.row;have sf:=gJ hbox.row;by_cases hlt:k<l.length
  ·obtain⟨b,o,vp,rfl,c0,c1,c2,i0,i1,hP⟩:=NT.at_ hel k hlt
   obtain⟨ap,cp,rfl,-⟩:=id hP;replace c0:=hbox.grow.sub _ _ (hc _ _ c0);replace c1:=hbox.grow.sub _ _ (hc _ _ c1);replace c2:=hbox.grow.sub _ _ (hc _ _ c2);have htk:(l.take (k+1)).foldl fF ⟨l,0,0,[]⟩=fF h l[k]:=by rw [List.take_succ_eq_append_getElem hlt,List.foldl_append,ZL.o];rfl
   have nK:=I htk;have Fg:=I (Ua hok l[k]);have HI:=I (And.intro i1 hP);have hrl:h.bG.length<=2199023255489:=by have:=hok.bG;omega
   clear hfold hok htk hP i0 i1 hbox hel;generalize l[k]=r at*;go_wp2;go_loopw [6,20] (fun s6 i wx=>∃m:Nat,m<=h.bG.length/\i=J m/\aK (wo.alloc (.cells #[J r.aX,J r.aJ,U ap r.aH.length cp] 79)) wx/\bK Ty.bG c wx (wo.heap.size+1) 58 s6 ((h.bG.take m).filter (tq r))) (fun _ i _=>h.bG.length - (intOf i).toNat)
   case atStart=>exact⟨0,V,rfl,aG _,bK.nil _ _ _ _ _⟩
   case round=>
    obtain⟨wx,rfl⟩:=χ wr;obtain⟨m,hm',rfl,hbx,bU⟩:=hrel;have HG:=I (((aG wo).alloc (.cells #[J r.aX,J r.aJ,U ap r.aH.length cp] 79)).trans hbx);obtain⟨q0,q1,q2⟩:=iI (aF (bn wo (.cells #[J r.aX,J r.aJ,U ap r.aH.length cp] 79)) hbx);have q9:wo.heap.size<wx:=by have:=hbx.size;simp at this;omega
    have dX:=I bU;obtain⟨av,cv,rfl⟩:=bU.form;have hfl:((h.bG.take m).filter (tq r)).length<=h.bG.length:=Nat.le_trans (List.length_filter_le _ _) (by simp;omega);have Qs:=I hfl;clear bU c0 c1 c2 s0 s1 s2 s3 sf hfl;by_cases hlm:m<h.bG.length
    ·obtain⟨gx,csx,rfl,⟨vx,vh,rfl,j0,j1,j2⟩,hAx⟩:=j_.o.bG.get ε m hlm
     obtain⟨ax,cx,rfl,-⟩:=id j1;obtain⟨ah,ch,rfl,-⟩:=id j2;have x0:=HG.o.sub _ _ (hAx 0 _ rfl);have x1:=HG.o.sub _ _ (hAx 1 _ rfl);have x2:=HG.o.sub _ _ (hAx 2 _ rfl);have x3:=HG.o.sub _ _ (hAx 3 _ rfl);simp only [Ty.bG,Nat.add_zero] at x0 x1 x2 x3;have og:=I (yH (tq r) hlm);have HJ:=I (And.intro j0 (And.intro j1 j2));clear hAx j0 j1 j2;generalize h.bG[m]=q at*;generalize (h.bG.take m).filter (tq r)=fs at*;by_cases O:tq r q=true
     ·have HQ:=I O
      have hcase:(r.aX !=6)=true∨((r.aX !=6)=false/\(q.aJ !=r.aJ)=true):=by
       by_cases h6:r.aX=6
       ·right
        simp [tq,h6] at O;exact⟨by simp [h6],by simpa using O⟩
       ·left;simp [h6]
      clear O;rcases hcase with b6|⟨b6,bd⟩
      all_goals
       go_wp2_with (first|(at_builtin;refine cO (c:=c) (base:=wo.heap.size+1) (l:=fs) (m:=[q]) kF rfl jG ε rfl (.tmp 34) (.tmp 36) rfl rfl ?own rfl (Src.dU (T:=Ty.bG) (cs:=#[J q.aJ,U ax q.aH.length cx,.bool q.dec,U ah q.aZ.length ch]) ⟨_,_,rfl,HJ.o.1,HJ.o.2.1,HJ.o.2.2⟩ _ _ ?d1) ?d2 ?d3 ?_))
       case own=>exact dX.o.grow (((aG _).alloc _).alloc _)
       case d1=>simp
       case d2=>have:=Qs.o;simp;omega
       case d3=>have:=HG.o.size;simp;omega
       intro a9 c9 w9 gX fV iE;have kR:=I (dI (w0:=wo.alloc (.cells #[J r.aX,J r.aJ,U ap r.aH.length cp] 79)) ((hbx.alloc _).alloc _) fV (fun q O=>by have:=(dX.o.lt q O).1;simpa using this));have jE:=I gX;clear gX fV iE;go_wp2;go_roundw
       case rel=>exact⟨m+1,V,by go_num,kR.o,by rw [og.o,bC HQ.o];exact jE.o⟩
       case measure=>simp [intOf];omega
     ·have HQ:=I O
      have h6:r.aX=6/\q.aJ=r.aJ:=by
       simp [tq] at O;exact O
      have b6:(r.aX !=6)=false:=by simp [h6.1]
      have bd:(q.aJ !=r.aJ)=false:=by simp [h6.2]
      clear O h6;go_wp2;go_roundw
      case rel=>exact⟨m+1,V,by go_num,hbx.alloc _,by rw [og.o,aV HQ.o];exact dX.o.grow ((aG _).alloc _)⟩
      case measure=>simp [intOf];omega
    ·have hfin:(h.bG.take m).filter (tq r)=h.bG.filter (tq r):=by rw [eG V]
     have A2u:Hid (bK Ty.bG c wx (wo.heap.size+1) 58 (U av (h.bG.filter (tq r)).length cv) (h.bG.filter (tq r))):=by
      have:=dX.o;rw [hfin] at this;exact I this
     rw [hfin];have hf2:(h.bG.filter (tq r)).length<=2199023255489:=Nat.le_trans (List.length_filter_le _ _) hrl;clear hfin;have b2:=j_.o.dL HG.o;obtain⟨s0,s1,s2,s3⟩:=aT b2.row;have sf:=gJ b2.row;have zz:w.heap.size+1<wx:=by have:=b2.size;omega
     have HR:=I (JL.TW (row:=none) b2 (aO (aG wx) none) σ (A2u.o.base V));clear b2;generalize hfs:h.bG.filter (tq r)=fs at*;have HFS:=I hfs;clear hfs;have q9':w.heap.size+1≠wo.heap.size:=by omega
     by_cases k4:r.aX=4
     ·have b4:(r.aX==4)=true:=by simp [k4]
      have b5:(r.aX==5)=false:=by simp [k4]
      have hst:fF h r={ h with bG:=fs,aW:=wrap64 (h.aW+1) }:=by unfold fF;rw [bC k4,<-HFS.o,Lp V]
      have EJ:=I (nK.o.trans hst);have uM:=I (hst▸Fg.o);clear hst k4;go_wp2;go_roundw
      case rel=>exact⟨k+1,_,_,V,by go_num,EJ.o,HR.o.aW _,uM.o⟩
      case measure=>simp [intOf];omega
     ·have b4:(r.aX==4)=false:=by simp [k4]
      by_cases k5:r.aX=5
      ·have b5:(r.aX==5)=true:=by simp [k5]
       have hst:fF h r={ h with bG:=fs++ [⟨r.aJ,r.aH,true,[]⟩] }:=by unfold fF;rw [aV k4,bC k5,<-HFS.o,Lp V]
       have EJ:=I (nK.o.trans hst);have uM:=I (hst▸Fg.o);clear hst k4 k5;go_wp2_with (first|(at_builtin;refine cO (c:=c) (base:=w.heap.size+2) (l:=fs) (m:=[⟨r.aJ,r.aH,true,[]⟩]) kF rfl jG ε rfl (.tmp 52) (.tmp 58) rfl rfl ?own rfl (Src.dU (T:=Ty.bG) (cs:=#[J r.aJ,U ap r.aH.length cp,.bool true,()]) ⟨_,_,rfl,HI.o.1,HI.o.2,Sl.nil _ _⟩ _ _ ?d1) ?d2 ?d3 ?_))
       case own=>exact HR.o.bG.grow ((aG _).alloc _)
       case d1=>simp
       case d2=>simp;omega
       case d3=>have:=HR.o.size;simp at this ⊢;omega
       intro a9 c9 w9 gX fV iE;have RT:∀q,(Value.slice av fs.length cv).ownBlock=some q->w.heap.size+2<=q:=fun q O=>(HR.o.bG.lt q O).1;have t9:=bJ (aF HR.o.row ((aG _).alloc (.cells #[J r.aJ,U ap r.aH.length cp,.bool true,()] 58))) fV (fun e=>by have:=RT _ e.symm;omega);have HX:=I (JL.TW HR.o (bD (aO ((aG _).alloc _) _) fV) RT gX);clear s0 s1 s2 s3 sf fV gX iE RT;obtain⟨s0,s1,s2,s3⟩:=aT t9;have sf:=gJ t9;have s9:w.heap.size+1<w9:=(γ t9);clear t9;go_wp2;go_roundw
       case rel=>exact⟨k+1,_,_,V,by go_num,EJ.o,HX.o,uM.o⟩
       case measure=>simp [intOf];omega
      ·have b5:(r.aX==5)=false:=by simp [k5]
       have hst:fF h r={ h with bG:=fs }:=by
        unfold fF;rw [aV k4,aV k5,<-HFS.o];by_cases k6:r.aX=6
        ·rw [bC k6,kB k6]
        ·rw [aV k6,Lp k6]
       have EJ:=I (nK.o.trans hst);have uM:=I (hst▸Fg.o);clear hst k4 k5;go_wp2;go_roundw
       case rel=>exact⟨k+1,_,_,V,by go_num,EJ.o,HR.o,uM.o⟩
       case measure=>simp [intOf];omega
  ·have HH:Hid (h=fA l):=by show h=_;rw [<-ZL.o,eG V];rfl
   clear hfold hok hbox hel;go_wp2_with (first|(refine aQ rfl (.tmp 2) (.tmp 62) rfl rfl rfl j_.o.res eY rfl rfl ?_))
   intro wf r2 g2;obtain⟨p0,p1,p2,p3⟩:=aT r2;have pf:=gJ r2;clear s0 s1 s2 s3 sf;go_wp2;refine dw (v:=.agg #[U al l.length cl,J h.aW,J h.next,U ar h.bG.length cr]) (by simp [results,Tryz.results39,go_sem,p0,p1,p2,p3]) rfl ?_;have uq:h.bg=l:=by rw [HH.o];exact(Ec l).2
   have e2:=((j_.o.bG.mono (gG HC.o)).block fun k hk=>g2.block k (j_.o.bG.lt k hk).2 (by have:=(j_.o.bG.lt k hk).1;simp;omega)).slc ε (Sub.refl _) fun a ha=>dY V;rw [<-HH.o];refine⟨_,rfl,⟨_,rfl,_,_,rfl,?_,TR.o.aW,TR.o.next,e2⟩,j_.o.grow.grown g2 (fun k hk=>by simp at hk;omega)⟩;rw [uq];exact HV.o.mono (gG HC.o)
theorem Ub {c:CM} {v vm:Value} {h:Hs} {m:Ms} {me:Int} (w:World) (hc:Sub c w.cell?) (hv:Of Ty.hs c v h) (hm:Of Ty.ms c vm m) (hk:∀x∈h.bg,jg x.aH) (hkm:jg m.aH) (hn:(h.bg.length+1)*40<=140737488355328) (hme:I64 me) (hmd:Made h):
  Calls Tryz.prog 53 #[v,J me,vm] w fun e w'=>∃v1 v2,e=.returned (.tuple #[v1,v2])/\Of Ty.hs (ov c w w') v1 (dK h m)/\Sl Ty.ms (ov c w w') v2 (dV h me m)/\aK w w':=by
 obtain⟨kd,dd,hh,ps⟩:=m;dsimp only at hkm;obtain⟨al,cl,ar,cr,ad,cd,rfl⟩:=hv.ig;obtain⟨ap,cp,rfl⟩:∃ap cp,vm=.agg #[J kd,J dd,J hh,U ap ps.length cp]:=hm.ny;have hms:Sl Ty.pt c (U ap ps.length cp) ps/\I64 kd/\I64 dd/\I64 hh:=Of.yE hm;have vC:=I hms;have y_:=I hv;have HC:=I hc;have PR:=I hk;have HKM:=I hkm;have HN:=I hn;have WQ:=I hme;have CN:=I (fun(W:World) (hW:aK w W)=>iS (d:=dd) W (hv.mono (hc.trans hW.sub)) (hms.1.mono (hc.trans hW.sub)) hkm);have Jj:=I (fun(W:World) (hW:aK w W)=>O1 (d:=dd) W (hv.mono (hc.trans hW.sub)));have yF:=I (fun(W:World) (hW:aK w W)=>zC (n:=dd) W ((Of.oC hv).2.2.mono (hc.trans hW.sub)));obtain⟨wz,hwz⟩:∃y:World,y=(((w.alloc (.cells #[U al h.bg.length cl,J h.aP.a,J h.aP.b,J h.aP.c,J h.aP.d,U ar h.ready.length cr,U ad h.done.length cd] 50)).alloc (.cells #[J kd,J dd,J hh,U ap ps.length cp] 85)).alloc (.cells #[(),J 0,J 0,J 0,J 0,(),()] 50)):=⟨_,rfl⟩;have kH:Hid (aK w wz):=I (by rw [hwz];exact((((aG w).alloc _).alloc _).alloc _));have qF:Hid (wz.heap[w.heap.size]? =some (.cells #[U al h.bg.length cl,J h.aP.a,J h.aP.b,J h.aP.c,J h.aP.d,U ar h.ready.length cr,U ad h.done.length cd] 50 (0,0))):=I (by rw [hwz];exact(bQ (bQ (bn _ _) _) _));have Gp:Hid (wz.heap[w.heap.size+1]? =some (.cells #[J kd,J dd,J hh,U ap ps.length cp] 85 (0,0))):=I (by rw [hwz];exact(bQ (by simpa using bn (w.alloc (.cells #[U al h.bg.length cl,J h.aP.a,J h.aP.b,J h.aP.c,J h.aP.d,U ar h.ready.length cr,U ad h.done.length cd] 50)) _) _));have V4:Hid (wz.heap[w.heap.size+1+1]? =some (.cells #[(),J 0,J 0,J 0,J 0,(),()] 50 (0,0))):=I (by rw [hwz];simpa using bn ((w.alloc (.cells #[U al h.bg.length cl,J h.aP.a,J h.aP.b,J h.aP.c,J h.aP.d,U ar h.ready.length cr,U ad h.done.length cd] 50)).alloc (.cells #[J kd,J dd,J hh,U ap ps.length cp] 85)) _);have HMD:=I hmd;clear hv hm hc hk hkm hn hme hms hmd;go_enter Tryz.func53,Tryz.ntmps53;go_upto_region 1 with fail
 rw [<-hwz];clear hwz;obtain⟨k0,k1,k2,k3,k4,k5,k6⟩:=bZ qF.o;obtain⟨m0,m1,m2,m3⟩:=aT Gp.o;have z6:w.heap.size+1+1<wz:=(γ V4.o);have z5:w.heap.size+1<wz:=by omega
 have z3:w.heap.size<wz:=by omega
 by_cases n1:kd=1
 ·subst n1
  by_cases e10:iy h dd ps=10
  ·as_aux_lemma=>
    have wX:Hid (dK h ⟨1,dd,hh,ps⟩=h):=by
     show dK h ⟨1,dd,hh,ps⟩=h;unfold dK;rw [bC rfl,aV (by show¬(iy h dd ps=0/\_);rw [e10];simp)]
    have wY:Hid (dV h me ⟨1,dd,hh,ps⟩=[]):=by
     show dV h me ⟨1,dd,hh,ps⟩=[];unfold dV;rw [bC rfl,bC e10]
    have E10:=I e10;clear e10;go_wp2_with fail
    refine(CN.o _ kH.o).mono ?_;rw [E10.o];rintro e v1 ⟨rfl,jB⟩;(obtain⟨LS,fv1⟩:=gu jB;have Uc:w.heap.size<v1:=(ω jB.size);have Ud:w.heap.size+1<v1:=(ω jB.size);have Ue:w.heap.size+1+1<v1:=(ω jB.size);have Hz:=I jB;clear jB)
    obtain⟨s0,s1,s2,s3,s4,s5,s6,s7⟩:v1.cell? ⟨w,0,none⟩=some (U al h.bg.length cl)/\v1.cell? ⟨w,1,none⟩=some (J h.aP.a)/\v1.cell? ⟨w,2,none⟩=some (J h.aP.b)/\v1.cell? ⟨w,3,none⟩=some (J h.aP.c)/\v1.cell? ⟨w,4,none⟩=some (J h.aP.d)/\v1.cell? ⟨w,5,none⟩=some (U ar h.ready.length cr)/\v1.cell? ⟨w,6,none⟩=some (U ad h.done.length cd)/\v1.cell? ⟨w+1,1,none⟩=some (J dd):=by refine⟨?_,?_,?_,?_,?_,?_,?_,?_⟩<;>go_simp
    go_wp2_with (first|(refine aQ rfl (.tmp 6) (.tmp 23) rfl rfl rfl (aF V4.o Hz.o) fO rfl rfl ?_))
    intro w9 r9 g9;obtain⟨p0,p1,p2,p3,p4,p5,p6⟩:=bZ r9;go_wp2;refine dw (v:=.tuple #[.agg #[U al h.bg.length cl,J h.aP.a,J h.aP.b,J h.aP.c,J h.aP.d,U ar h.ready.length cr,U ad h.done.length cd],()]) (by simp [results,Tryz.results53,go_sem,p0,p1,p2,p3,p4,p5,p6]) rfl ?_;rw [wX.o,wY.o];refine⟨_,_,rfl,?_,Sl.nil _ _,(kH.o.trans Hz.o).grown g9 (fun q O=>by have:=bI O;omega)⟩
    ·exact y_.o.mono (gG HC.o)
  by_cases e0:iy h dd ps=0
  ·clear e10
   cases rd:dP h.ready dd with
   |true=>
    as_aux_lemma=>
     have wX:Hid (dK h ⟨1,dd,hh,ps⟩=h):=by
      show dK h ⟨1,dd,hh,ps⟩=h;unfold dK;rw [bC rfl,aV (by show¬(_/\dP h.ready dd=false);rw [rd];simp)]
     have wY:Hid (dV h me ⟨1,dd,hh,ps⟩=o7 2 dd me):=by
      show dV h me ⟨1,dd,hh,ps⟩=o7 2 dd me;unfold dV;rw [bC rfl,aV (by show¬iy h dd ps=10;omega),bC e0]
     have E0:=I e0;have RD:=I rd;clear e0 rd;go_wp2_with fail
     refine(CN.o _ kH.o).mono ?_;rw [E0.o];rintro e v1 ⟨rfl,jB⟩;(obtain⟨LS,fv1⟩:=gu jB;have Uc:w.heap.size<v1:=(ω jB.size);have Ud:w.heap.size+1<v1:=(ω jB.size);have Ue:w.heap.size+1+1<v1:=(ω jB.size);have Hz:=I jB;clear jB)
     go_wp2_with fail
     refine(Jj.o _ (kH.o.trans Hz.o)).mono ?_;rw [RD.o];rintro e v2 ⟨rfl,fE⟩;(obtain⟨cv2,fv2⟩:=gu fE;have RW:w.heap.size<v2:=(ω fE.size);have R0:w.heap.size+1<v2:=(ω fE.size);have SD:w.heap.size+1+1<v2:=(ω fE.size);have zE:=I fE;clear fE)
     go_wp2_with fail
     have hS:v2.cell? ⟨w,0,none⟩=some (U al h.bg.length cl)/\v2.cell? ⟨w,1,none⟩=some (J h.aP.a)/\v2.cell? ⟨w,2,none⟩=some (J h.aP.b)/\v2.cell? ⟨w,3,none⟩=some (J h.aP.c)/\v2.cell? ⟨w,4,none⟩=some (J h.aP.d)/\v2.cell? ⟨w,5,none⟩=some (U ar h.ready.length cr)/\v2.cell? ⟨w,6,none⟩=some (U ad h.done.length cd)/\v2.cell? ⟨w+1,1,none⟩=some (J dd):=by refine⟨?_,?_,?_,?_,?_,?_,?_,?_⟩<;>go_simp
     have Dl:Hid (aK w v2):=I ((kH.o.trans Hz.o).trans zE.o);have R6:Hid (v2.heap[w.heap.size+1+1]? =some (.cells #[(),J 0,J 0,J 0,J 0,(),()] 50 (0,0))):=I (aF V4.o (Hz.o.trans zE.o));have hz0:w.heap.size+1+1<v2:=(γ R6.o);obtain⟨s0,s1,s2,s3,s4,s5,s6,s7⟩:=hS;have HS:Hid (∀W,v2.grownBy W (some (w.heap.size+1+1))->W.cell? ⟨w,0,none⟩=some (U al h.bg.length cl)/\W.cell? ⟨w,1,none⟩=some (J h.aP.a)/\W.cell? ⟨w,2,none⟩=some (J h.aP.b)/\W.cell? ⟨w,3,none⟩=some (J h.aP.c)/\W.cell? ⟨w,4,none⟩=some (J h.aP.d)/\W.cell? ⟨w,5,none⟩=some (U ar h.ready.length cr)/\W.cell? ⟨w,6,none⟩=some (U ad h.done.length cd)/\W.cell? ⟨w+1,1,none⟩=some (J dd)):=fun W hW=>by
      have k:∀(b o:Nat) (u:Value),b<w.heap.size+1+1->v2.cell? ⟨b,o,none⟩=some u->W.cell? ⟨b,o,none⟩=some u:=fun b o u hb e=>by
       rw [fM hW (eH v2 _ e) (by simp;omega)];exact e
      exact⟨k _ _ _ V s0,k _ _ _ V s1,k _ _ _ V s2,k _ _ _ V s3,k _ _ _ V s4,k _ _ _ V s5,k _ _ _ V s6,k _ _ _ V s7⟩
     clear s0 s1 s2 s3 s4 s5 s6 s7;refine dH (fun w'=>w'.cell? ⟨w,0,none⟩=some (U al h.bg.length cl)/\w'.cell? ⟨w,1,none⟩=some (J h.aP.a)/\w'.cell? ⟨w,2,none⟩=some (J h.aP.b)/\w'.cell? ⟨w,3,none⟩=some (J h.aP.c)/\w'.cell? ⟨w,4,none⟩=some (J h.aP.d)/\w'.cell? ⟨w,5,none⟩=some (U ar h.ready.length cr)/\w'.cell? ⟨w,6,none⟩=some (U ad h.done.length cd)/\w'.cell? ⟨w+1,1,none⟩=some (J dd)) 8 κ ?_;obtain⟨wd,hWd⟩:=χ v2.drew;rw [<-hWd];have GD:aK v2 wd:=by rw [hWd];exact(aG _).drew
     have zD:v2.heap.size=wd.heap.size:=by rw [hWd];rfl
     have ZD:=I zD;clear hWd zD;have hzd:w.heap.size+1+1<wd:=by have:=ZD.o;omega
     have hzw:w.heap.size<=wd.heap.size:=by have:=hzd;omega
     have FIN:Hid (∀(Wf:World) (q:Nat),w.heap.size<=q->(∀a:Addr,a.block<wd.heap.size->a.block≠w.heap.size+1+1->Wf.cell? a=wd.cell? a)->At Wf.cell? q 0 (#[J 2,J dd,J me,()]:Array Value).toList->aK w Wf->∃v1 v2,Ending.returned (.tuple #[.agg #[U al h.bg.length cl,J h.aP.a,J h.aP.b,J h.aP.c,J h.aP.d,U ar h.ready.length cr,U ad h.done.length cd],U (some ⟨q,0,none⟩) 1 1])=.returned (.tuple #[v1,v2])/\Of Ty.hs (ov c w Wf) v1 (dK h ⟨1,dd,hh,ps⟩)/\Sl Ty.ms (ov c w Wf) v2 (dV h me ⟨1,dd,hh,ps⟩)/\aK w Wf):=by
      intro Wf q O hA hAt CR;refine⟨_,_,rfl,?_,?_,CR⟩
      ·rw [wX.o]
       exact y_.o.mono (gG HC.o)
      ·rw [wY.o]
       exact Hf (T:=Ty.ms) ⟨_,rfl,(show I64 2 from by unfold I64;decide),vC.o.2.2.1,WQ.o,Sl.nil _ _⟩ (O4 hAt O) ε ε
     refine qJ [0,1,2,3,4,5] 8 κ (fun _ _ _ _ _ h=>h) (HS.o _ (aO GD _)) ?_;repeat (refine jY ?_;try simp only [bT])
     refine qK ?_;refine bP 6 7 κ rfl rfl ?_ ?_
     ·intro K M
      try simp only [dD]
      go_simp;refine ψ M (fun _=>HS.o _ (bD (aO GD _) (aO ((aG _).alloc _) _))) ?_;try simp only [bT]
      refine bO 7 κ rfl ?_;intro K M;refine aY rfl ?_;try simp only [dD]
      refine b_ (.tmp 6) (.tmp 67) rfl rfl rfl (aF R6.o (GD.alloc _)) fO rfl rfl ?_;intro w7 r7 g7;refine ψ M (fun _=>HS.o _ (bD (bD (aO GD _) (aO ((aG _).alloc _) _)) g7)) ?_;try simp only [bT]
      refine bO 8 κ rfl ?_;intro K M;try simp only [dD]
      go_simp;refine ψ M (fun h=>absurd rfl h) ?_;try simp only [bT]
      refine bW κ ?_;obtain⟨p0,p1,p2,p3,p4,p5,p6⟩:=bZ r7;go_wp2;refine dw (v:=.tuple #[.agg #[U al h.bg.length cl,J h.aP.a,J h.aP.b,J h.aP.c,J h.aP.d,U ar h.ready.length cr,U ad h.done.length cd],U (some ⟨wd,0,none⟩) 1 1]) (by simp [results,Tryz.results53,go_sem,p0,p1,p2,p3,p4,p5,p6]) rfl ?_;refine FIN.o _ wd.heap.size hzw (fun a N Y=>(fM g7 (by simp;omega) Y).trans (((aG wd).alloc _).cell N)) (fun j u e=>(fM g7 σ (by simp;omega)).trans (at_new wd _ _ j u e)) ?_;exact(Dl.o.trans (GD.alloc _)).grown g7 (fun k hk=>by simp at hk;omega)
     ·intro K M
      refine aY rfl ?_;try simp only [dD]
      refine b_ (.tmp 6) (.tmp 67) rfl rfl rfl (aF R6.o GD) fO rfl rfl ?_;intro w7 r7 g7;refine ψ M (fun _=>HS.o _ (bD (aO GD _) g7)) ?_;try simp only [bT]
      refine bO 6 κ rfl ?_;intro K M;try simp only [dD]
      go_simp;refine ψ M (fun _=>HS.o _ (bD (bD (aO GD _) g7) (aO ((aG _).alloc _) _))) ?_;try simp only [bT]
      refine bO 8 κ rfl ?_;intro K M;try simp only [dD]
      go_simp;refine ψ M (fun h=>absurd rfl h) ?_;try simp only [bT]
      refine bW κ ?_;obtain⟨p0,p1,p2,p3,p4,p5,p6⟩:=bZ (bQ r7 (.cells #[J 2,J dd,J me,()] 85));go_wp2;refine dw (v:=.tuple #[.agg #[U al h.bg.length cl,J h.aP.a,J h.aP.b,J h.aP.c,J h.aP.d,U ar h.ready.length cr,U ad h.done.length cd],U (some ⟨w7,0,none⟩) 1 1]) (by simp [results,Tryz.results53,go_sem,p0,p1,p2,p3,p4,p5,p6]) rfl ?_;refine FIN.o _ w7.heap.size (Nat.le_trans hzw g7.size) (fun a N Y=>(((aG w7).alloc _).cell (Nat.lt_of_lt_of_le N g7.size)).trans (fM g7 N Y)) (at_new w7 _ _) ?_;exact((Dl.o.trans GD).grown g7 (fun k hk=>by simp at hk;omega)).alloc _
   |false=>
    as_aux_lemma=>
     have wX:Hid (dK h ⟨1,dd,hh,ps⟩=gW h ⟨1,dd,ps⟩):=by
      show dK h ⟨1,dd,hh,ps⟩=gW h ⟨1,dd,ps⟩;unfold dK;rw [bC rfl,bC ⟨e0,rd⟩]
     have wY:Hid (dV h me ⟨1,dd,hh,ps⟩=o7 2 dd me):=by
      show dV h me ⟨1,dd,hh,ps⟩=o7 2 dd me;unfold dV;rw [bC rfl,aV (by show¬iy h dd ps=10;omega),bC e0]
     have E0:=I e0;have RD:=I rd;clear e0 rd;go_wp2_with fail
     refine(CN.o _ kH.o).mono ?_;rw [E0.o];rintro e v1 ⟨rfl,jB⟩;(obtain⟨LS,fv1⟩:=gu jB;have Uc:w.heap.size<v1:=(ω jB.size);have Ud:w.heap.size+1<v1:=(ω jB.size);have Ue:w.heap.size+1+1<v1:=(ω jB.size);have Hz:=I jB;clear jB)
     go_wp2_with fail
     refine(Jj.o _ (kH.o.trans Hz.o)).mono ?_;rw [RD.o];rintro e v2 ⟨rfl,fE⟩;(obtain⟨cv2,fv2⟩:=gu fE;have RW:w.heap.size<v2:=(ω fE.size);have R0:w.heap.size+1<v2:=(ω fE.size);have SD:w.heap.size+1+1<v2:=(ω fE.size);have zE:=I fE;clear fE)
     go_wp2_with fail
     have GW:Hid (aK _ v2):=I (Hz.o.trans zE.o);have GV:Hid (aK w v2):=I (kH.o.trans GW.o);have ZV:Hid (w.heap.size+1+1<v2):=I (Array.getElem?_eq_some_iff.1 (aF V4.o GW.o)).1;have hrr:Ty.rc.R (wk w.heap.size 3 (ov c w v2)) [J (⟨1,dd,ps⟩:Rc).aX,J dd,U ap ps.length cp] ⟨1,dd,ps⟩:=Ty.rc.mono (KW HC.o 3) (show Ty.rc.R c [J 1,J dd,U ap ps.length cp] ⟨1,dd,ps⟩ from⟨_,rfl,vC.o.2.1,vC.o.2.2.1,vC.o.1⟩);refine(KU (c:=wk w.heap.size 3 (ov c w v2)) (r:=⟨1,dd,ps⟩) v2 (Yo HC.o GV.o 3) (y_.o.mono (KW HC.o 3)) ⟨_,rfl,hrr⟩ PR.o HKM.o HN.o).mono ?_;clear hrr;generalize gW h ⟨1,dd,ps⟩=x at*;rintro e v3 ⟨vx,rfl,hX,jv⟩;obtain⟨iC,iD,oD,oG,uS,uT,rfl⟩:=hX.ig;have HX:=I hX;have uF:=I jv;clear hX;have H8:Hid (aK _ v3):=I (GW.o.trans jv);obtain⟨k0,k1,k2,k3,k4,k5,k6⟩:=bZ (aF qF.o H8.o);have kf:=gJ (aF qF.o H8.o);obtain⟨m0,m1,m2,m3⟩:=aT (aF Gp.o H8.o);clear jv;go_wp2_with (first|(refine aQ rfl (.tmp 3) (.tmp 37) rfl rfl rfl (aF qF.o H8.o) fO rfl rfl ?_))
     intro v4 r4 g4;have R3:=I r4;have QH:=I g4;clear r4 g4;have R5:Hid (v4.heap[w.heap.size+1]? =_):=I (bJ (aF Gp.o H8.o) QH.o σ);have R6:Hid (v4.heap[w.heap.size+1+1]? =_):=I (bJ (aF V4.o H8.o) QH.o (by simp;omega));clear k0 k1 k2 k3 k4 k5 k6 kf m0 m1 m2 m3;have Ed:Hid (aK w v4):=I ((GV.o.trans uF.o).grown QH.o (fun k hk=>by simp at hk;omega));obtain⟨k0,k1,k2,k3,k4,k5,k6⟩:=bZ R3.o;obtain⟨m0,m1,m2,m3⟩:=aT R5.o;go_wp2_with fail
     have hS:v4.cell? ⟨w,0,none⟩=some (U iC x.bg.length iD)/\v4.cell? ⟨w,1,none⟩=some (J x.aP.a)/\v4.cell? ⟨w,2,none⟩=some (J x.aP.b)/\v4.cell? ⟨w,3,none⟩=some (J x.aP.c)/\v4.cell? ⟨w,4,none⟩=some (J x.aP.d)/\v4.cell? ⟨w,5,none⟩=some (U oD x.ready.length oG)/\v4.cell? ⟨w,6,none⟩=some (U uS x.done.length uT)/\v4.cell? ⟨w+1,1,none⟩=some (J dd):=by refine⟨?_,?_,?_,?_,?_,?_,?_,?_⟩<;>go_simp
     have Dl:Hid (aK w v4):=I Ed.o;have R6:Hid (v4.heap[w.heap.size+1+1]? =some (.cells #[(),J 0,J 0,J 0,J 0,(),()] 50 (0,0))):=I R6.o;have hz0:w.heap.size+1+1<v4:=(γ R6.o);obtain⟨s0,s1,s2,s3,s4,s5,s6,s7⟩:=hS;have HS:Hid (∀W,v4.grownBy W (some (w.heap.size+1+1))->W.cell? ⟨w,0,none⟩=some (U iC x.bg.length iD)/\W.cell? ⟨w,1,none⟩=some (J x.aP.a)/\W.cell? ⟨w,2,none⟩=some (J x.aP.b)/\W.cell? ⟨w,3,none⟩=some (J x.aP.c)/\W.cell? ⟨w,4,none⟩=some (J x.aP.d)/\W.cell? ⟨w,5,none⟩=some (U oD x.ready.length oG)/\W.cell? ⟨w,6,none⟩=some (U uS x.done.length uT)/\W.cell? ⟨w+1,1,none⟩=some (J dd)):=fun W hW=>by
      have k:∀(b o:Nat) (u:Value),b<w.heap.size+1+1->v4.cell? ⟨b,o,none⟩=some u->W.cell? ⟨b,o,none⟩=some u:=fun b o u hb e=>by
       rw [fM hW (eH v4 _ e) (by simp;omega)];exact e
      exact⟨k _ _ _ V s0,k _ _ _ V s1,k _ _ _ V s2,k _ _ _ V s3,k _ _ _ V s4,k _ _ _ V s5,k _ _ _ V s6,k _ _ _ V s7⟩
     clear s0 s1 s2 s3 s4 s5 s6 s7;refine dH (fun w'=>w'.cell? ⟨w,0,none⟩=some (U iC x.bg.length iD)/\w'.cell? ⟨w,1,none⟩=some (J x.aP.a)/\w'.cell? ⟨w,2,none⟩=some (J x.aP.b)/\w'.cell? ⟨w,3,none⟩=some (J x.aP.c)/\w'.cell? ⟨w,4,none⟩=some (J x.aP.d)/\w'.cell? ⟨w,5,none⟩=some (U oD x.ready.length oG)/\w'.cell? ⟨w,6,none⟩=some (U uS x.done.length uT)/\w'.cell? ⟨w+1,1,none⟩=some (J dd)) 8 κ ?_;obtain⟨wd,hWd⟩:=χ v4.drew;rw [<-hWd];have GD:aK v4 wd:=by rw [hWd];exact(aG _).drew
     have zD:v4.heap.size=wd.heap.size:=by rw [hWd];rfl
     have ZD:=I zD;clear hWd zD;have hzd:w.heap.size+1+1<wd:=by have:=ZD.o;omega
     have hzw:w.heap.size<=wd.heap.size:=by have:=hzd;omega
     have FIN:Hid (∀(Wf:World) (q:Nat),w.heap.size<=q->(∀a:Addr,a.block<wd.heap.size->a.block≠w.heap.size+1+1->Wf.cell? a=wd.cell? a)->At Wf.cell? q 0 (#[J 2,J dd,J me,()]:Array Value).toList->aK w Wf->∃v1 v2,Ending.returned (.tuple #[.agg #[U iC x.bg.length iD,J x.aP.a,J x.aP.b,J x.aP.c,J x.aP.d,U oD x.ready.length oG,U uS x.done.length uT],U (some ⟨q,0,none⟩) 1 1])=.returned (.tuple #[v1,v2])/\Of Ty.hs (ov c w Wf) v1 (dK h ⟨1,dd,hh,ps⟩)/\Sl Ty.ms (ov c w Wf) v2 (dV h me ⟨1,dd,hh,ps⟩)/\aK w Wf):=by
      intro Wf q O hA hAt CR;refine⟨_,_,rfl,?_,?_,CR⟩
      ·rw [wX.o]
       exact HX.o.mono (EZ (k:=3) GV.o uF.o (τ ZV.o) fun a u ha e=>by
        rw [hA a (by have N:=eH v3 a e;have Y:=QH.o.size;have h3:=ZD.o;omega) V,(World.cell?_of_block (show wd.heap[a.block]? =v4.heap[a.block]? from(GD.block _ (by have N:=eH v3 a e;have Y:=QH.o.size;omega)))),fM QH.o (eH v3 a e) V];exact e)
      ·rw [wY.o]
       exact Hf (T:=Ty.ms) ⟨_,rfl,(show I64 2 from by unfold I64;decide),vC.o.2.2.1,WQ.o,Sl.nil _ _⟩ (O4 hAt O) ε ε
     refine qJ [0,1,2,3,4,5] 8 κ (fun _ _ _ _ _ h=>h) (HS.o _ (aO GD _)) ?_;repeat (refine jY ?_;try simp only [bT])
     refine qK ?_;refine bP 6 7 κ rfl rfl ?_ ?_
     ·intro K M
      try simp only [dD]
      go_simp;refine ψ M (fun _=>HS.o _ (bD (aO GD _) (aO ((aG _).alloc _) _))) ?_;try simp only [bT]
      refine bO 7 κ rfl ?_;intro K M;refine aY rfl ?_;try simp only [dD]
      refine b_ (.tmp 6) (.tmp 67) rfl rfl rfl (aF R6.o (GD.alloc _)) fO rfl rfl ?_;intro w7 r7 g7;refine ψ M (fun _=>HS.o _ (bD (bD (aO GD _) (aO ((aG _).alloc _) _)) g7)) ?_;try simp only [bT]
      refine bO 8 κ rfl ?_;intro K M;try simp only [dD]
      go_simp;refine ψ M (fun h=>absurd rfl h) ?_;try simp only [bT]
      refine bW κ ?_;obtain⟨p0,p1,p2,p3,p4,p5,p6⟩:=bZ r7;go_wp2;refine dw (v:=.tuple #[.agg #[U iC x.bg.length iD,J x.aP.a,J x.aP.b,J x.aP.c,J x.aP.d,U oD x.ready.length oG,U uS x.done.length uT],U (some ⟨wd,0,none⟩) 1 1]) (by simp [results,Tryz.results53,go_sem,p0,p1,p2,p3,p4,p5,p6]) rfl ?_;refine FIN.o _ wd.heap.size hzw (fun a N Y=>(fM g7 (by simp;omega) Y).trans (((aG wd).alloc _).cell N)) (fun j u e=>(fM g7 σ (by simp;omega)).trans (at_new wd _ _ j u e)) ?_;exact(Dl.o.trans (GD.alloc _)).grown g7 (fun k hk=>by simp at hk;omega)
     ·intro K M
      refine aY rfl ?_;try simp only [dD]
      refine b_ (.tmp 6) (.tmp 67) rfl rfl rfl (aF R6.o GD) fO rfl rfl ?_;intro w7 r7 g7;refine ψ M (fun _=>HS.o _ (bD (aO GD _) g7)) ?_;try simp only [bT]
      refine bO 6 κ rfl ?_;intro K M;try simp only [dD]
      go_simp;refine ψ M (fun _=>HS.o _ (bD (bD (aO GD _) g7) (aO ((aG _).alloc _) _))) ?_;try simp only [bT]
      refine bO 8 κ rfl ?_;intro K M;try simp only [dD]
      go_simp;refine ψ M (fun h=>absurd rfl h) ?_;try simp only [bT]
      refine bW κ ?_;obtain⟨p0,p1,p2,p3,p4,p5,p6⟩:=bZ (bQ r7 (.cells #[J 2,J dd,J me,()] 85));go_wp2;refine dw (v:=.tuple #[.agg #[U iC x.bg.length iD,J x.aP.a,J x.aP.b,J x.aP.c,J x.aP.d,U oD x.ready.length oG,U uS x.done.length uT],U (some ⟨w7,0,none⟩) 1 1]) (by simp [results,Tryz.results53,go_sem,p0,p1,p2,p3,p4,p5,p6]) rfl ?_;refine FIN.o _ w7.heap.size (Nat.le_trans hzw g7.size) (fun a N Y=>(((aG w7).alloc _).cell (Nat.lt_of_lt_of_le N g7.size)).trans (fM g7 N Y)) (at_new w7 _ _) ?_;exact((Dl.o.trans GD).grown g7 (fun k hk=>by simp at hk;omega)).alloc _
  ·as_aux_lemma=>
    have wX:Hid (dK h ⟨1,dd,hh,ps⟩=h):=by
     show dK h ⟨1,dd,hh,ps⟩=h;unfold dK;rw [bC rfl,aV (fun Y=>e0 Y.1)]
    have wY:Hid (dV h me ⟨1,dd,hh,ps⟩=o7 3 dd me):=by
     show dV h me ⟨1,dd,hh,ps⟩=o7 3 dd me;unfold dV;rw [bC rfl,aV e10,aV e0]
    have lQ:(iy h dd ps==10)=false:=by simpa using e10
    have zi:(iy h dd ps==0)=false:=by simpa using e0
    clear e0 e10;generalize iy h dd ps=ve at*;go_wp2_with fail
    refine(CN.o _ kH.o).mono ?_;rintro e v1 ⟨rfl,jB⟩;(obtain⟨LS,fv1⟩:=gu jB;have Uc:w.heap.size<v1:=(ω jB.size);have Ud:w.heap.size+1<v1:=(ω jB.size);have Ue:w.heap.size+1+1<v1:=(ω jB.size);have Hz:=I jB;clear jB)
    go_wp2_with fail
    have hS:v1.cell? ⟨w,0,none⟩=some (U al h.bg.length cl)/\v1.cell? ⟨w,1,none⟩=some (J h.aP.a)/\v1.cell? ⟨w,2,none⟩=some (J h.aP.b)/\v1.cell? ⟨w,3,none⟩=some (J h.aP.c)/\v1.cell? ⟨w,4,none⟩=some (J h.aP.d)/\v1.cell? ⟨w,5,none⟩=some (U ar h.ready.length cr)/\v1.cell? ⟨w,6,none⟩=some (U ad h.done.length cd)/\v1.cell? ⟨w+1,1,none⟩=some (J dd):=by refine⟨?_,?_,?_,?_,?_,?_,?_,?_⟩<;>go_simp
    have Dl:Hid (aK w v1):=I (kH.o.trans Hz.o);have R6:Hid (v1.heap[w.heap.size+1+1]? =some (.cells #[(),J 0,J 0,J 0,J 0,(),()] 50 (0,0))):=I (aF V4.o Hz.o);have hz0:w.heap.size+1+1<v1:=(γ R6.o);obtain⟨s0,s1,s2,s3,s4,s5,s6,s7⟩:=hS;have HS:Hid (∀W,v1.grownBy W (some (w.heap.size+1+1))->W.cell? ⟨w,0,none⟩=some (U al h.bg.length cl)/\W.cell? ⟨w,1,none⟩=some (J h.aP.a)/\W.cell? ⟨w,2,none⟩=some (J h.aP.b)/\W.cell? ⟨w,3,none⟩=some (J h.aP.c)/\W.cell? ⟨w,4,none⟩=some (J h.aP.d)/\W.cell? ⟨w,5,none⟩=some (U ar h.ready.length cr)/\W.cell? ⟨w,6,none⟩=some (U ad h.done.length cd)/\W.cell? ⟨w+1,1,none⟩=some (J dd)):=fun W hW=>by
     have k:∀(b o:Nat) (u:Value),b<w.heap.size+1+1->v1.cell? ⟨b,o,none⟩=some u->W.cell? ⟨b,o,none⟩=some u:=fun b o u hb e=>by
      rw [fM hW (eH v1 _ e) (by simp;omega)];exact e
     exact⟨k _ _ _ V s0,k _ _ _ V s1,k _ _ _ V s2,k _ _ _ V s3,k _ _ _ V s4,k _ _ _ V s5,k _ _ _ V s6,k _ _ _ V s7⟩
    clear s0 s1 s2 s3 s4 s5 s6 s7;refine dH (fun w'=>w'.cell? ⟨w,0,none⟩=some (U al h.bg.length cl)/\w'.cell? ⟨w,1,none⟩=some (J h.aP.a)/\w'.cell? ⟨w,2,none⟩=some (J h.aP.b)/\w'.cell? ⟨w,3,none⟩=some (J h.aP.c)/\w'.cell? ⟨w,4,none⟩=some (J h.aP.d)/\w'.cell? ⟨w,5,none⟩=some (U ar h.ready.length cr)/\w'.cell? ⟨w,6,none⟩=some (U ad h.done.length cd)/\w'.cell? ⟨w+1,1,none⟩=some (J dd)) 8 κ ?_;obtain⟨wd,hWd⟩:=χ v1.drew;rw [<-hWd];have GD:aK v1 wd:=by rw [hWd];exact(aG _).drew
    have zD:v1.heap.size=wd.heap.size:=by rw [hWd];rfl
    have ZD:=I zD;clear hWd zD;have hzd:w.heap.size+1+1<wd:=by have:=ZD.o;omega
    have hzw:w.heap.size<=wd.heap.size:=by have:=hzd;omega
    have FIN:Hid (∀(Wf:World) (q:Nat),w.heap.size<=q->(∀a:Addr,a.block<wd.heap.size->a.block≠w.heap.size+1+1->Wf.cell? a=wd.cell? a)->At Wf.cell? q 0 (#[J 3,J dd,J me,()]:Array Value).toList->aK w Wf->∃v1 v2,Ending.returned (.tuple #[.agg #[U al h.bg.length cl,J h.aP.a,J h.aP.b,J h.aP.c,J h.aP.d,U ar h.ready.length cr,U ad h.done.length cd],U (some ⟨q,0,none⟩) 1 1])=.returned (.tuple #[v1,v2])/\Of Ty.hs (ov c w Wf) v1 (dK h ⟨1,dd,hh,ps⟩)/\Sl Ty.ms (ov c w Wf) v2 (dV h me ⟨1,dd,hh,ps⟩)/\aK w Wf):=by
     intro Wf q O hA hAt CR;refine⟨_,_,rfl,?_,?_,CR⟩
     ·rw [wX.o]
      exact y_.o.mono (gG HC.o)
     ·rw [wY.o]
      exact Hf (T:=Ty.ms) ⟨_,rfl,(show I64 3 from by unfold I64;decide),vC.o.2.2.1,WQ.o,Sl.nil _ _⟩ (O4 hAt O) ε ε
    refine qJ [0,1,2,3,4,5] 8 κ (fun _ _ _ _ _ h=>h) (HS.o _ (aO GD _)) ?_;repeat (refine jY ?_;try simp only [bT])
    refine qK ?_;refine bP 6 7 κ rfl rfl ?_ ?_
    ·intro K M
     try simp only [dD]
     go_simp;refine ψ M (fun _=>HS.o _ (bD (aO GD _) (aO ((aG _).alloc _) _))) ?_;try simp only [bT]
     refine bO 7 κ rfl ?_;intro K M;refine aY rfl ?_;try simp only [dD]
     refine b_ (.tmp 6) (.tmp 67) rfl rfl rfl (aF R6.o (GD.alloc _)) fO rfl rfl ?_;intro w7 r7 g7;refine ψ M (fun _=>HS.o _ (bD (bD (aO GD _) (aO ((aG _).alloc _) _)) g7)) ?_;try simp only [bT]
     refine bO 8 κ rfl ?_;intro K M;try simp only [dD]
     go_simp;refine ψ M (fun h=>absurd rfl h) ?_;try simp only [bT]
     refine bW κ ?_;obtain⟨p0,p1,p2,p3,p4,p5,p6⟩:=bZ r7;go_wp2;refine dw (v:=.tuple #[.agg #[U al h.bg.length cl,J h.aP.a,J h.aP.b,J h.aP.c,J h.aP.d,U ar h.ready.length cr,U ad h.done.length cd],U (some ⟨wd,0,none⟩) 1 1]) (by simp [results,Tryz.results53,go_sem,p0,p1,p2,p3,p4,p5,p6]) rfl ?_;refine FIN.o _ wd.heap.size hzw (fun a N Y=>(fM g7 (by simp;omega) Y).trans (((aG wd).alloc _).cell N)) (fun j u e=>(fM g7 σ (by simp;omega)).trans (at_new wd _ _ j u e)) ?_;exact(Dl.o.trans (GD.alloc _)).grown g7 (fun k hk=>by simp at hk;omega)
    ·intro K M
     refine aY rfl ?_;try simp only [dD]
     refine b_ (.tmp 6) (.tmp 67) rfl rfl rfl (aF R6.o GD) fO rfl rfl ?_;intro w7 r7 g7;refine ψ M (fun _=>HS.o _ (bD (aO GD _) g7)) ?_;try simp only [bT]
     refine bO 6 κ rfl ?_;intro K M;try simp only [dD]
     go_simp;refine ψ M (fun _=>HS.o _ (bD (bD (aO GD _) g7) (aO ((aG _).alloc _) _))) ?_;try simp only [bT]
     refine bO 8 κ rfl ?_;intro K M;try simp only [dD]
     go_simp;refine ψ M (fun h=>absurd rfl h) ?_;try simp only [bT]
     refine bW κ ?_;obtain⟨p0,p1,p2,p3,p4,p5,p6⟩:=bZ (bQ r7 (.cells #[J 3,J dd,J me,()] 85));go_wp2;refine dw (v:=.tuple #[.agg #[U al h.bg.length cl,J h.aP.a,J h.aP.b,J h.aP.c,J h.aP.d,U ar h.ready.length cr,U ad h.done.length cd],U (some ⟨w7,0,none⟩) 1 1]) (by simp [results,Tryz.results53,go_sem,p0,p1,p2,p3,p4,p5,p6]) rfl ?_;refine FIN.o _ w7.heap.size (Nat.le_trans hzw g7.size) (fun a N Y=>(((aG w7).alloc _).cell (Nat.lt_of_lt_of_le N g7.size)).trans (fM g7 N Y)) (at_new w7 _ _) ?_;exact((Dl.o.trans GD).grown g7 (fun k hk=>by simp at hk;omega)).alloc _
 by_cases n4:kd=4
 ·subst n4
  clear n1;cases rd:dP h.ready dd with
  |true=>
   as_aux_lemma=>
    have hin:dd∈(gW h ⟨2,dd,[]⟩).done:=by rw [(K_ HMD.o rd).2];simp
    have wX:Hid (dK h ⟨4,dd,hh,ps⟩=gW h ⟨2,dd,[]⟩):=by
     show dK h ⟨4,dd,hh,ps⟩=gW h ⟨2,dd,[]⟩;unfold dK;rw [aV (fun e=>by cases e),bC rfl,bC rd]
    have wY:Hid (dV h me ⟨4,dd,hh,ps⟩=o7 6 dd me):=by
     show dV h me ⟨4,dd,hh,ps⟩=o7 6 dd me;unfold dV;rw [aV (fun e=>by cases e),bC rfl,wX.o,bC hin]
    have Lr:=I hin;clear hin;have RD:=I rd;clear rd;go_wp2_with fail
    refine(Jj.o _ kH.o).mono ?_;rw [RD.o];rintro e v1 ⟨rfl,jB⟩;(obtain⟨LS,fv1⟩:=gu jB;have Uc:w.heap.size<v1:=(ω jB.size);have Ud:w.heap.size+1<v1:=(ω jB.size);have Ue:w.heap.size+1+1<v1:=(ω jB.size);have Hz:=I jB;clear jB)
    have GV0:Hid (aK _ v1):=I Hz.o;have hz:∀u,(zeroValue 3).run Tryz.prog u=.ok (J 0) u:=fun u=>by kernel_rfl
    have hmm:=@run_makeMap Tryz.prog;go_wp2_with (first|(refine Cm qN Tryz.underlying139 rfl _ _ _ rfl (kD.new (enc:=l7) _) 4 (J 2) rfl rfl rfl ?_))
    clear hmm;intro m1 hM1 eV;have gm1:aK v1 m1:=((aG _).alloc (.map #[] 0)).grown eV (fun k hk=>by simp at hk;omega);have Uf:=I hM1;clear hM1 eV;go_wp2_with (first|(refine Cm qN Tryz.underlying139 rfl _ _ _ rfl Uf.o 5 (J 3) rfl rfl rfl ?_))
    intro m2 hM2 Ye;have gm2:aK v1 m2:=gm1.grown Ye (fun k hk=>by simp at hk;omega);have yI:=I hM2;clear hM2 Ye gm1;have EK:Hid (aK _ m2):=I (GV0.o.trans gm2);obtain⟨k0,k1,k2,k3,k4,k5,k6⟩:=bZ (aF qF.o EK.o);obtain⟨n0,n1,n2,n3⟩:=aT (aF Gp.o EK.o);clear gm2;go_wp2_with (first|(at_lookup;refine KX qN Tryz.underlying139 hz rfl _ _ rfl yI.o 4 (J 2) ρ rfl rfl ?_))
    clear k0 k1 k2 k3 k4 k5 k6;obtain⟨k0,k1,k2,k3,k4,k5,k6⟩:=bZ (aF qF.o EK.o);go_wp2_with fail
    have GW:Hid (aK _ m2):=I EK.o;have GV:Hid (aK w m2):=I (kH.o.trans GW.o);have ZV:Hid (w.heap.size+1+1<m2):=I (Array.getElem?_eq_some_iff.1 (aF V4.o GW.o)).1;have hrr:Ty.rc.R (wk w.heap.size 3 (ov c w m2)) [J (⟨2,dd,[]⟩:Rc).aX,J dd,()] ⟨2,dd,[]⟩:=Ty.rc.mono (KW HC.o 3) (show Ty.rc.R c [J 2,J dd,()] ⟨2,dd,[]⟩ from⟨_,rfl,(show I64 2 from by unfold I64;decide),vC.o.2.2.1,Sl.nil _ _⟩);refine(KU (c:=wk w.heap.size 3 (ov c w m2)) (r:=⟨2,dd,[]⟩) m2 (Yo HC.o GV.o 3) (y_.o.mono (KW HC.o 3)) ⟨_,rfl,hrr⟩ PR.o (by intro p hp;simp at hp) HN.o).mono ?_;clear hrr;generalize gW h ⟨2,dd,[]⟩=x at*;rintro e v3 ⟨vx,rfl,hX,jv⟩;obtain⟨iC,iD,oD,oG,uS,uT,rfl⟩:=hX.ig;have HX:=I hX;have uF:=I jv;clear hX;have H8:Hid (aK _ v3):=I (GW.o.trans jv);obtain⟨k0,k1,k2,k3,k4,k5,k6⟩:=bZ (aF qF.o H8.o);have kf:=gJ (aF qF.o H8.o);obtain⟨m0,m1,m2,m3⟩:=aT (aF Gp.o H8.o);clear jv;go_wp2_with (first|(refine aQ rfl (.tmp 3) (.tmp 54) rfl rfl rfl (aF qF.o H8.o) fO rfl rfl ?_))
    intro v4 r4 g4;have R3:=I r4;have QH:=I g4;clear r4 g4;have R5:Hid (v4.heap[w.heap.size+1]? =_):=I (bJ (aF Gp.o H8.o) QH.o σ);have R6:Hid (v4.heap[w.heap.size+1+1]? =_):=I (bJ (aF V4.o H8.o) QH.o (by simp;omega));clear k0 k1 k2 k3 k4 k5 k6 kf m0 m1 m2 m3;have Ed:Hid (aK w v4):=I ((GV.o.trans uF.o).grown QH.o (fun k hk=>by simp at hk;omega));obtain⟨k0,k1,k2,k3,k4,k5,k6⟩:=bZ R3.o;obtain⟨m0,m1,m2,m3⟩:=aT R5.o;go_wp2_with fail
    have NU:=I (fun(W:World) (hW:aK v4 W)=>zC (n:=dd) W ((Of.oC ((HX.o.mono (EZ (w':=v4) (k:=3) GV.o uF.o (τ ZV.o) fun a u ha e=>by rw [fM QH.o (eH v3 a e) V];exact e)).mono (xR HC.o Ed.o))).2.2.mono hW.sub));go_wp2_with fail
    refine(NU.o _ (aG _)).mono ?_;rw [decide_eq_true Lr.o];rintro e v5 ⟨rfl,Ls⟩;have AV:=I Ls;clear k0 k1 k2 k3 k4 k5 k6 m0 m1 m2 m3;obtain⟨k0,k1,k2,k3,k4,k5,k6⟩:=bZ (aF R3.o AV.o);obtain⟨m0,m1,m2,m3⟩:=aT (aF R5.o AV.o);clear Ls;go_wp2_with fail
    have hS:v5.cell? ⟨w,0,none⟩=some (U iC x.bg.length iD)/\v5.cell? ⟨w,1,none⟩=some (J x.aP.a)/\v5.cell? ⟨w,2,none⟩=some (J x.aP.b)/\v5.cell? ⟨w,3,none⟩=some (J x.aP.c)/\v5.cell? ⟨w,4,none⟩=some (J x.aP.d)/\v5.cell? ⟨w,5,none⟩=some (U oD x.ready.length oG)/\v5.cell? ⟨w,6,none⟩=some (U uS x.done.length uT)/\v5.cell? ⟨w+1,1,none⟩=some (J dd):=by refine⟨?_,?_,?_,?_,?_,?_,?_,?_⟩<;>go_simp
    have Dl:Hid (aK w v5):=I (Ed.o.trans AV.o);have R6:Hid (v5.heap[w.heap.size+1+1]? =some (.cells #[(),J 0,J 0,J 0,J 0,(),()] 50 (0,0))):=I (aF R6.o AV.o);have hz0:w.heap.size+1+1<v5:=(γ R6.o);obtain⟨s0,s1,s2,s3,s4,s5,s6,s7⟩:=hS;have HS:Hid (∀W,v5.grownBy W (some (w.heap.size+1+1))->W.cell? ⟨w,0,none⟩=some (U iC x.bg.length iD)/\W.cell? ⟨w,1,none⟩=some (J x.aP.a)/\W.cell? ⟨w,2,none⟩=some (J x.aP.b)/\W.cell? ⟨w,3,none⟩=some (J x.aP.c)/\W.cell? ⟨w,4,none⟩=some (J x.aP.d)/\W.cell? ⟨w,5,none⟩=some (U oD x.ready.length oG)/\W.cell? ⟨w,6,none⟩=some (U uS x.done.length uT)/\W.cell? ⟨w+1,1,none⟩=some (J dd)):=fun W hW=>by
     have k:∀(b o:Nat) (u:Value),b<w.heap.size+1+1->v5.cell? ⟨b,o,none⟩=some u->W.cell? ⟨b,o,none⟩=some u:=fun b o u hb e=>by
      rw [fM hW (eH v5 _ e) (by simp;omega)];exact e
     exact⟨k _ _ _ V s0,k _ _ _ V s1,k _ _ _ V s2,k _ _ _ V s3,k _ _ _ V s4,k _ _ _ V s5,k _ _ _ V s6,k _ _ _ V s7⟩
    clear s0 s1 s2 s3 s4 s5 s6 s7;refine dH (fun w'=>w'.cell? ⟨w,0,none⟩=some (U iC x.bg.length iD)/\w'.cell? ⟨w,1,none⟩=some (J x.aP.a)/\w'.cell? ⟨w,2,none⟩=some (J x.aP.b)/\w'.cell? ⟨w,3,none⟩=some (J x.aP.c)/\w'.cell? ⟨w,4,none⟩=some (J x.aP.d)/\w'.cell? ⟨w,5,none⟩=some (U oD x.ready.length oG)/\w'.cell? ⟨w,6,none⟩=some (U uS x.done.length uT)/\w'.cell? ⟨w+1,1,none⟩=some (J dd)) 8 κ ?_;obtain⟨wd,hWd⟩:=χ v5.drew;rw [<-hWd];have GD:aK v5 wd:=by rw [hWd];exact(aG _).drew
    have zD:v5.heap.size=wd.heap.size:=by rw [hWd];rfl
    have ZD:=I zD;clear hWd zD;have hzd:w.heap.size+1+1<wd:=by have:=ZD.o;omega
    have hzw:w.heap.size<=wd.heap.size:=by have:=hzd;omega
    have FIN:Hid (∀(Wf:World) (q:Nat),w.heap.size<=q->(∀a:Addr,a.block<wd.heap.size->a.block≠w.heap.size+1+1->Wf.cell? a=wd.cell? a)->At Wf.cell? q 0 (#[J 6,J dd,J me,()]:Array Value).toList->aK w Wf->∃v1 v2,Ending.returned (.tuple #[.agg #[U iC x.bg.length iD,J x.aP.a,J x.aP.b,J x.aP.c,J x.aP.d,U oD x.ready.length oG,U uS x.done.length uT],U (some ⟨q,0,none⟩) 1 1])=.returned (.tuple #[v1,v2])/\Of Ty.hs (ov c w Wf) v1 (dK h ⟨4,dd,hh,ps⟩)/\Sl Ty.ms (ov c w Wf) v2 (dV h me ⟨4,dd,hh,ps⟩)/\aK w Wf):=by
     intro Wf q O hA hAt CR;refine⟨_,_,rfl,?_,?_,CR⟩
     ·rw [wX.o]
      exact HX.o.mono (EZ (k:=3) GV.o uF.o (τ ZV.o) fun a u ha e=>by
       have l1:=eH v3 a e;have l2:=QH.o.size;have l3:=AV.o.size;have l4:=GD.size;rw [hA a V V,GD.cell V,AV.o.cell V,fM QH.o l1 V];exact e)
     ·rw [wY.o]
      exact Hf (T:=Ty.ms) ⟨_,rfl,(show I64 6 from by unfold I64;decide),vC.o.2.2.1,WQ.o,Sl.nil _ _⟩ (O4 hAt O) ε ε
    refine qJ [0,1,2,3,4,5] 8 κ (fun _ _ _ _ _ h=>h) (HS.o _ (aO GD _)) ?_;repeat (refine jY ?_;try simp only [bT])
    refine qK ?_;refine bP 6 7 κ rfl rfl ?_ ?_
    ·intro K M
     try simp only [dD]
     go_simp;refine ψ M (fun _=>HS.o _ (bD (aO GD _) (aO ((aG _).alloc _) _))) ?_;try simp only [bT]
     refine bO 7 κ rfl ?_;intro K M;refine aY rfl ?_;try simp only [dD]
     refine b_ (.tmp 6) (.tmp 67) rfl rfl rfl (aF R6.o (GD.alloc _)) fO rfl rfl ?_;intro w7 r7 g7;refine ψ M (fun _=>HS.o _ (bD (bD (aO GD _) (aO ((aG _).alloc _) _)) g7)) ?_;try simp only [bT]
     refine bO 8 κ rfl ?_;intro K M;try simp only [dD]
     go_simp;refine ψ M (fun h=>absurd rfl h) ?_;try simp only [bT]
     refine bW κ ?_;obtain⟨p0,p1,p2,p3,p4,p5,p6⟩:=bZ r7;go_wp2;refine dw (v:=.tuple #[.agg #[U iC x.bg.length iD,J x.aP.a,J x.aP.b,J x.aP.c,J x.aP.d,U oD x.ready.length oG,U uS x.done.length uT],U (some ⟨wd,0,none⟩) 1 1]) (by simp [results,Tryz.results53,go_sem,p0,p1,p2,p3,p4,p5,p6]) rfl ?_;refine FIN.o _ wd.heap.size hzw (fun a N Y=>(fM g7 (by simp;omega) Y).trans (((aG wd).alloc _).cell N)) (fun j u e=>(fM g7 σ (by simp;omega)).trans (at_new wd _ _ j u e)) ?_;exact(Dl.o.trans (GD.alloc _)).grown g7 (fun k hk=>by simp at hk;omega)
    ·intro K M
     refine aY rfl ?_;try simp only [dD]
     refine b_ (.tmp 6) (.tmp 67) rfl rfl rfl (aF R6.o GD) fO rfl rfl ?_;intro w7 r7 g7;refine ψ M (fun _=>HS.o _ (bD (aO GD _) g7)) ?_;try simp only [bT]
     refine bO 6 κ rfl ?_;intro K M;try simp only [dD]
     go_simp;refine ψ M (fun _=>HS.o _ (bD (bD (aO GD _) g7) (aO ((aG _).alloc _) _))) ?_;try simp only [bT]
     refine bO 8 κ rfl ?_;intro K M;try simp only [dD]
     go_simp;refine ψ M (fun h=>absurd rfl h) ?_;try simp only [bT]
     refine bW κ ?_;obtain⟨p0,p1,p2,p3,p4,p5,p6⟩:=bZ (bQ r7 (.cells #[J 6,J dd,J me,()] 85));go_wp2;refine dw (v:=.tuple #[.agg #[U iC x.bg.length iD,J x.aP.a,J x.aP.b,J x.aP.c,J x.aP.d,U oD x.ready.length oG,U uS x.done.length uT],U (some ⟨w7,0,none⟩) 1 1]) (by simp [results,Tryz.results53,go_sem,p0,p1,p2,p3,p4,p5,p6]) rfl ?_;refine FIN.o _ w7.heap.size (Nat.le_trans hzw g7.size) (fun a N Y=>(((aG w7).alloc _).cell (Nat.lt_of_lt_of_le N g7.size)).trans (fM g7 N Y)) (at_new w7 _ _) ?_;exact((Dl.o.trans GD).grown g7 (fun k hk=>by simp at hk;omega)).alloc _
  |false=>
   by_cases hin:dd∈h.done
   ·as_aux_lemma=>
     have wX:Hid (dK h ⟨4,dd,hh,ps⟩=h):=by
      show dK h ⟨4,dd,hh,ps⟩=h;unfold dK;rw [aV (fun e=>by cases e),bC rfl,aV (by rw [show dP h.ready (Ms.aJ ⟨4,dd,hh,ps⟩)=false from rd];simp)]
     have wY:Hid (dV h me ⟨4,dd,hh,ps⟩=o7 6 dd me):=by
      show dV h me ⟨4,dd,hh,ps⟩=o7 6 dd me;unfold dV;rw [aV (fun e=>by cases e),bC rfl,wX.o,bC hin]
     have Lr:=I hin;clear hin;have RD:=I rd;clear rd;go_wp2_with fail
     refine(Jj.o _ kH.o).mono ?_;rw [RD.o];rintro e v1 ⟨rfl,jB⟩;(obtain⟨LS,fv1⟩:=gu jB;have Uc:w.heap.size<v1:=(ω jB.size);have Ud:w.heap.size+1<v1:=(ω jB.size);have Ue:w.heap.size+1+1<v1:=(ω jB.size);have Hz:=I jB;clear jB)
     go_wp2_with fail
     refine(yF.o _ (kH.o.trans Hz.o)).mono ?_;rw [decide_eq_true Lr.o];rintro e v2 ⟨rfl,fE⟩;(obtain⟨cv2,fv2⟩:=gu fE;have RW:w.heap.size<v2:=(ω fE.size);have R0:w.heap.size+1<v2:=(ω fE.size);have SD:w.heap.size+1+1<v2:=(ω fE.size);have zE:=I fE;clear fE)
     go_wp2_with fail
     have hS:v2.cell? ⟨w,0,none⟩=some (U al h.bg.length cl)/\v2.cell? ⟨w,1,none⟩=some (J h.aP.a)/\v2.cell? ⟨w,2,none⟩=some (J h.aP.b)/\v2.cell? ⟨w,3,none⟩=some (J h.aP.c)/\v2.cell? ⟨w,4,none⟩=some (J h.aP.d)/\v2.cell? ⟨w,5,none⟩=some (U ar h.ready.length cr)/\v2.cell? ⟨w,6,none⟩=some (U ad h.done.length cd)/\v2.cell? ⟨w+1,1,none⟩=some (J dd):=by refine⟨?_,?_,?_,?_,?_,?_,?_,?_⟩<;>go_simp
     have Dl:Hid (aK w v2):=I ((kH.o.trans Hz.o).trans zE.o);have R6:Hid (v2.heap[w.heap.size+1+1]? =some (.cells #[(),J 0,J 0,J 0,J 0,(),()] 50 (0,0))):=I (aF V4.o (Hz.o.trans zE.o));have hz0:w.heap.size+1+1<v2:=(γ R6.o);obtain⟨s0,s1,s2,s3,s4,s5,s6,s7⟩:=hS;have HS:Hid (∀W,v2.grownBy W (some (w.heap.size+1+1))->W.cell? ⟨w,0,none⟩=some (U al h.bg.length cl)/\W.cell? ⟨w,1,none⟩=some (J h.aP.a)/\W.cell? ⟨w,2,none⟩=some (J h.aP.b)/\W.cell? ⟨w,3,none⟩=some (J h.aP.c)/\W.cell? ⟨w,4,none⟩=some (J h.aP.d)/\W.cell? ⟨w,5,none⟩=some (U ar h.ready.length cr)/\W.cell? ⟨w,6,none⟩=some (U ad h.done.length cd)/\W.cell? ⟨w+1,1,none⟩=some (J dd)):=fun W hW=>by
      have k:∀(b o:Nat) (u:Value),b<w.heap.size+1+1->v2.cell? ⟨b,o,none⟩=some u->W.cell? ⟨b,o,none⟩=some u:=fun b o u hb e=>by
       rw [fM hW (eH v2 _ e) (by simp;omega)];exact e
      exact⟨k _ _ _ V s0,k _ _ _ V s1,k _ _ _ V s2,k _ _ _ V s3,k _ _ _ V s4,k _ _ _ V s5,k _ _ _ V s6,k _ _ _ V s7⟩
     clear s0 s1 s2 s3 s4 s5 s6 s7;refine dH (fun w'=>w'.cell? ⟨w,0,none⟩=some (U al h.bg.length cl)/\w'.cell? ⟨w,1,none⟩=some (J h.aP.a)/\w'.cell? ⟨w,2,none⟩=some (J h.aP.b)/\w'.cell? ⟨w,3,none⟩=some (J h.aP.c)/\w'.cell? ⟨w,4,none⟩=some (J h.aP.d)/\w'.cell? ⟨w,5,none⟩=some (U ar h.ready.length cr)/\w'.cell? ⟨w,6,none⟩=some (U ad h.done.length cd)/\w'.cell? ⟨w+1,1,none⟩=some (J dd)) 8 κ ?_;obtain⟨wd,hWd⟩:=χ v2.drew;rw [<-hWd];have GD:aK v2 wd:=by rw [hWd];exact(aG _).drew
     have zD:v2.heap.size=wd.heap.size:=by rw [hWd];rfl
     have ZD:=I zD;clear hWd zD;have hzd:w.heap.size+1+1<wd:=by have:=ZD.o;omega
     have hzw:w.heap.size<=wd.heap.size:=by have:=hzd;omega
     have FIN:Hid (∀(Wf:World) (q:Nat),w.heap.size<=q->(∀a:Addr,a.block<wd.heap.size->a.block≠w.heap.size+1+1->Wf.cell? a=wd.cell? a)->At Wf.cell? q 0 (#[J 6,J dd,J me,()]:Array Value).toList->aK w Wf->∃v1 v2,Ending.returned (.tuple #[.agg #[U al h.bg.length cl,J h.aP.a,J h.aP.b,J h.aP.c,J h.aP.d,U ar h.ready.length cr,U ad h.done.length cd],U (some ⟨q,0,none⟩) 1 1])=.returned (.tuple #[v1,v2])/\Of Ty.hs (ov c w Wf) v1 (dK h ⟨4,dd,hh,ps⟩)/\Sl Ty.ms (ov c w Wf) v2 (dV h me ⟨4,dd,hh,ps⟩)/\aK w Wf):=by
      intro Wf q O hA hAt CR;refine⟨_,_,rfl,?_,?_,CR⟩
      ·rw [wX.o]
       exact y_.o.mono (gG HC.o)
      ·rw [wY.o]
       exact Hf (T:=Ty.ms) ⟨_,rfl,(show I64 6 from by unfold I64;decide),vC.o.2.2.1,WQ.o,Sl.nil _ _⟩ (O4 hAt O) ε ε
     refine qJ [0,1,2,3,4,5] 8 κ (fun _ _ _ _ _ h=>h) (HS.o _ (aO GD _)) ?_;repeat (refine jY ?_;try simp only [bT])
     refine qK ?_;refine bP 6 7 κ rfl rfl ?_ ?_
     ·intro K M
      try simp only [dD]
      go_simp;refine ψ M (fun _=>HS.o _ (bD (aO GD _) (aO ((aG _).alloc _) _))) ?_;try simp only [bT]
      refine bO 7 κ rfl ?_;intro K M;refine aY rfl ?_;try simp only [dD]
      refine b_ (.tmp 6) (.tmp 67) rfl rfl rfl (aF R6.o (GD.alloc _)) fO rfl rfl ?_;intro w7 r7 g7;refine ψ M (fun _=>HS.o _ (bD (bD (aO GD _) (aO ((aG _).alloc _) _)) g7)) ?_;try simp only [bT]
      refine bO 8 κ rfl ?_;intro K M;try simp only [dD]
      go_simp;refine ψ M (fun h=>absurd rfl h) ?_;try simp only [bT]
      refine bW κ ?_;obtain⟨p0,p1,p2,p3,p4,p5,p6⟩:=bZ r7;go_wp2;refine dw (v:=.tuple #[.agg #[U al h.bg.length cl,J h.aP.a,J h.aP.b,J h.aP.c,J h.aP.d,U ar h.ready.length cr,U ad h.done.length cd],U (some ⟨wd,0,none⟩) 1 1]) (by simp [results,Tryz.results53,go_sem,p0,p1,p2,p3,p4,p5,p6]) rfl ?_;refine FIN.o _ wd.heap.size hzw (fun a N Y=>(fM g7 (by simp;omega) Y).trans (((aG wd).alloc _).cell N)) (fun j u e=>(fM g7 σ (by simp;omega)).trans (at_new wd _ _ j u e)) ?_;exact(Dl.o.trans (GD.alloc _)).grown g7 (fun k hk=>by simp at hk;omega)
     ·intro K M
      refine aY rfl ?_;try simp only [dD]
      refine b_ (.tmp 6) (.tmp 67) rfl rfl rfl (aF R6.o GD) fO rfl rfl ?_;intro w7 r7 g7;refine ψ M (fun _=>HS.o _ (bD (aO GD _) g7)) ?_;try simp only [bT]
      refine bO 6 κ rfl ?_;intro K M;try simp only [dD]
      go_simp;refine ψ M (fun _=>HS.o _ (bD (bD (aO GD _) g7) (aO ((aG _).alloc _) _))) ?_;try simp only [bT]
      refine bO 8 κ rfl ?_;intro K M;try simp only [dD]
      go_simp;refine ψ M (fun h=>absurd rfl h) ?_;try simp only [bT]
      refine bW κ ?_;obtain⟨p0,p1,p2,p3,p4,p5,p6⟩:=bZ (bQ r7 (.cells #[J 6,J dd,J me,()] 85));go_wp2;refine dw (v:=.tuple #[.agg #[U al h.bg.length cl,J h.aP.a,J h.aP.b,J h.aP.c,J h.aP.d,U ar h.ready.length cr,U ad h.done.length cd],U (some ⟨w7,0,none⟩) 1 1]) (by simp [results,Tryz.results53,go_sem,p0,p1,p2,p3,p4,p5,p6]) rfl ?_;refine FIN.o _ w7.heap.size (Nat.le_trans hzw g7.size) (fun a N Y=>(((aG w7).alloc _).cell (Nat.lt_of_lt_of_le N g7.size)).trans (fM g7 N Y)) (at_new w7 _ _) ?_;exact((Dl.o.trans GD).grown g7 (fun k hk=>by simp at hk;omega)).alloc _
   ·as_aux_lemma=>
     have wX:Hid (dK h ⟨4,dd,hh,ps⟩=h):=by
      show dK h ⟨4,dd,hh,ps⟩=h;unfold dK;rw [aV (fun e=>by cases e),bC rfl,aV (by rw [show dP h.ready (Ms.aJ ⟨4,dd,hh,ps⟩)=false from rd];simp)]
     have wY:Hid (dV h me ⟨4,dd,hh,ps⟩=[]):=by
      show dV h me ⟨4,dd,hh,ps⟩=[];unfold dV;rw [aV (fun e=>by cases e),bC rfl,wX.o,aV hin]
     have Lr:=I hin;clear hin;have RD:=I rd;clear rd;go_wp2_with fail
     refine(Jj.o _ kH.o).mono ?_;rw [RD.o];rintro e v1 ⟨rfl,jB⟩;(obtain⟨LS,fv1⟩:=gu jB;have Uc:w.heap.size<v1:=(ω jB.size);have Ud:w.heap.size+1<v1:=(ω jB.size);have Ue:w.heap.size+1+1<v1:=(ω jB.size);have Hz:=I jB;clear jB)
     go_wp2_with fail
     refine(yF.o _ (kH.o.trans Hz.o)).mono ?_;rw [decide_eq_false Lr.o];rintro e v2 ⟨rfl,fE⟩;(obtain⟨cv2,fv2⟩:=gu fE;have RW:w.heap.size<v2:=(ω fE.size);have R0:w.heap.size+1<v2:=(ω fE.size);have SD:w.heap.size+1+1<v2:=(ω fE.size);have zE:=I fE;clear fE)
     obtain⟨s0,s1,s2,s3,s4,s5,s6,s7⟩:v2.cell? ⟨w,0,none⟩=some (U al h.bg.length cl)/\v2.cell? ⟨w,1,none⟩=some (J h.aP.a)/\v2.cell? ⟨w,2,none⟩=some (J h.aP.b)/\v2.cell? ⟨w,3,none⟩=some (J h.aP.c)/\v2.cell? ⟨w,4,none⟩=some (J h.aP.d)/\v2.cell? ⟨w,5,none⟩=some (U ar h.ready.length cr)/\v2.cell? ⟨w,6,none⟩=some (U ad h.done.length cd)/\v2.cell? ⟨w+1,1,none⟩=some (J dd):=by refine⟨?_,?_,?_,?_,?_,?_,?_,?_⟩<;>go_simp
     go_wp2_with (first|(refine aQ rfl (.tmp 6) (.tmp 66) rfl rfl rfl (aF V4.o (Hz.o.trans zE.o)) fO rfl rfl ?_))
     intro w9 r9 g9;obtain⟨p0,p1,p2,p3,p4,p5,p6⟩:=bZ r9;go_wp2;refine dw (v:=.tuple #[.agg #[U al h.bg.length cl,J h.aP.a,J h.aP.b,J h.aP.c,J h.aP.d,U ar h.ready.length cr,U ad h.done.length cd],()]) (by simp [results,Tryz.results53,go_sem,p0,p1,p2,p3,p4,p5,p6]) rfl ?_;rw [wX.o,wY.o];refine⟨_,_,rfl,?_,Sl.nil _ _,((kH.o.trans Hz.o).trans zE.o).grown g9 (fun q O=>by have:=bI O;omega)⟩
     ·exact y_.o.mono (gG HC.o)
 by_cases n5:kd=5
 ·subst n5
  clear n1 n4;cases rd:dP h.ready dd with
  |true=>
   as_aux_lemma=>
    have wX:Hid (dK h ⟨5,dd,hh,ps⟩=gW h ⟨3,dd,[]⟩):=by
     show dK h ⟨5,dd,hh,ps⟩=gW h ⟨3,dd,[]⟩;unfold dK;rw [aV (fun e=>by cases e),aV (fun e=>by cases e),bC rfl,bC rd]
    have wY:Hid (dV h me ⟨5,dd,hh,ps⟩=[]):=by
     show dV h me ⟨5,dd,hh,ps⟩=[];unfold dV;rw [aV (fun e=>by cases e),aV (fun e=>by cases e)]
    have RD:=I rd;clear rd;go_wp2_with fail
    refine(Jj.o _ kH.o).mono ?_;rw [RD.o];rintro e v1 ⟨rfl,jB⟩;(obtain⟨LS,fv1⟩:=gu jB;have Uc:w.heap.size<v1:=(ω jB.size);have Ud:w.heap.size+1<v1:=(ω jB.size);have Ue:w.heap.size+1+1<v1:=(ω jB.size);have Hz:=I jB;clear jB)
    have GV0:Hid (aK _ v1):=I Hz.o;have hz:∀u,(zeroValue 3).run Tryz.prog u=.ok (J 0) u:=fun u=>by kernel_rfl
    have hmm:=@run_makeMap Tryz.prog;go_wp2_with (first|(refine Cm qN Tryz.underlying139 rfl _ _ _ rfl (kD.new (enc:=l7) _) 4 (J 2) rfl rfl rfl ?_))
    clear hmm;intro m1 hM1 eV;have gm1:aK v1 m1:=((aG _).alloc (.map #[] 0)).grown eV (fun k hk=>by simp at hk;omega);have Uf:=I hM1;clear hM1 eV;go_wp2_with (first|(refine Cm qN Tryz.underlying139 rfl _ _ _ rfl Uf.o 5 (J 3) rfl rfl rfl ?_))
    intro m2 hM2 Ye;have gm2:aK v1 m2:=gm1.grown Ye (fun k hk=>by simp at hk;omega);have yI:=I hM2;clear hM2 Ye gm1;have EK:Hid (aK _ m2):=I (GV0.o.trans gm2);obtain⟨k0,k1,k2,k3,k4,k5,k6⟩:=bZ (aF qF.o EK.o);obtain⟨n0,n1,n2,n3⟩:=aT (aF Gp.o EK.o);clear gm2;go_wp2_with (first|(at_lookup;refine KX qN Tryz.underlying139 hz rfl _ _ rfl yI.o 5 (J 3) ρ rfl rfl ?_))
    clear k0 k1 k2 k3 k4 k5 k6;obtain⟨k0,k1,k2,k3,k4,k5,k6⟩:=bZ (aF qF.o EK.o);go_wp2_with fail
    have GW:Hid (aK _ m2):=I EK.o;have GV:Hid (aK w m2):=I (kH.o.trans GW.o);have ZV:Hid (w.heap.size+1+1<m2):=I (Array.getElem?_eq_some_iff.1 (aF V4.o GW.o)).1;have hrr:Ty.rc.R (wk w.heap.size 3 (ov c w m2)) [J (⟨3,dd,[]⟩:Rc).aX,J dd,()] ⟨3,dd,[]⟩:=Ty.rc.mono (KW HC.o 3) (show Ty.rc.R c [J 3,J dd,()] ⟨3,dd,[]⟩ from⟨_,rfl,(show I64 3 from by unfold I64;decide),vC.o.2.2.1,Sl.nil _ _⟩);refine(KU (c:=wk w.heap.size 3 (ov c w m2)) (r:=⟨3,dd,[]⟩) m2 (Yo HC.o GV.o 3) (y_.o.mono (KW HC.o 3)) ⟨_,rfl,hrr⟩ PR.o (by intro p hp;simp at hp) HN.o).mono ?_;clear hrr;generalize gW h ⟨3,dd,[]⟩=x at*;rintro e v3 ⟨vx,rfl,hX,jv⟩;obtain⟨iC,iD,oD,oG,uS,uT,rfl⟩:=hX.ig;have HX:=I hX;have uF:=I jv;clear hX;have H8:Hid (aK _ v3):=I (GW.o.trans jv);obtain⟨k0,k1,k2,k3,k4,k5,k6⟩:=bZ (aF qF.o H8.o);have kf:=gJ (aF qF.o H8.o);obtain⟨m0,m1,m2,m3⟩:=aT (aF Gp.o H8.o);clear jv;go_wp2_with (first|(refine aQ rfl (.tmp 3) (.tmp 54) rfl rfl rfl (aF qF.o H8.o) fO rfl rfl ?_))
    intro v4 r4 g4;have R3:=I r4;have QH:=I g4;clear r4 g4;have R5:Hid (v4.heap[w.heap.size+1]? =_):=I (bJ (aF Gp.o H8.o) QH.o σ);have R6:Hid (v4.heap[w.heap.size+1+1]? =_):=I (bJ (aF V4.o H8.o) QH.o (by simp;omega));clear k0 k1 k2 k3 k4 k5 k6 kf m0 m1 m2 m3;have Ed:Hid (aK w v4):=I ((GV.o.trans uF.o).grown QH.o (fun k hk=>by simp at hk;omega));obtain⟨k0,k1,k2,k3,k4,k5,k6⟩:=bZ R3.o;obtain⟨m0,m1,m2,m3⟩:=aT R5.o;have R6b:=R6.o;obtain⟨s0,s1,s2,s3,s4,s5,s6,s7⟩:v4.cell? ⟨w,0,none⟩=some (U iC x.bg.length iD)/\v4.cell? ⟨w,1,none⟩=some (J x.aP.a)/\v4.cell? ⟨w,2,none⟩=some (J x.aP.b)/\v4.cell? ⟨w,3,none⟩=some (J x.aP.c)/\v4.cell? ⟨w,4,none⟩=some (J x.aP.d)/\v4.cell? ⟨w,5,none⟩=some (U oD x.ready.length oG)/\v4.cell? ⟨w,6,none⟩=some (U uS x.done.length uT)/\v4.cell? ⟨w+1,1,none⟩=some (J dd):=by refine⟨?_,?_,?_,?_,?_,?_,?_,?_⟩<;>go_simp
    go_wp2_with (first|(refine aQ rfl (.tmp 6) (.tmp 66) rfl rfl rfl (R6.o) fO rfl rfl ?_))
    intro w9 r9 g9;obtain⟨p0,p1,p2,p3,p4,p5,p6⟩:=bZ r9;go_wp2;refine dw (v:=.tuple #[.agg #[U iC x.bg.length iD,J x.aP.a,J x.aP.b,J x.aP.c,J x.aP.d,U oD x.ready.length oG,U uS x.done.length uT],()]) (by simp [results,Tryz.results53,go_sem,p0,p1,p2,p3,p4,p5,p6]) rfl ?_;rw [wX.o,wY.o];refine⟨_,_,rfl,?_,Sl.nil _ _,(Ed.o).grown g9 (fun q O=>by have:=bI O;omega)⟩
    ·refine HX.o.mono (EZ (k:=3) GV.o uF.o (τ ZV.o) fun a u ha e=>?_)
     have l1:=eH v3 a e;have l2:=QH.o.size;have e4:v4.cell? a=some u:=by rw [fM QH.o l1 V];exact e
     exact(fM g9 (show a.block<v4.heap.size by omega) (show a.block≠w.heap.size+1+1 by omega)).trans e4
  |false=>
   as_aux_lemma=>
    have wX:Hid (dK h ⟨5,dd,hh,ps⟩=h):=by
     show dK h ⟨5,dd,hh,ps⟩=h;unfold dK;rw [aV (fun e=>by cases e),aV (fun e=>by cases e),bC rfl,aV (by rw [show dP h.ready (Ms.aJ ⟨5,dd,hh,ps⟩)=false from rd];simp)]
    have wY:Hid (dV h me ⟨5,dd,hh,ps⟩=[]):=by
     show dV h me ⟨5,dd,hh,ps⟩=[];unfold dV;rw [aV (fun e=>by cases e),aV (fun e=>by cases e)]
    have RD:=I rd;clear rd;go_wp2_with fail
    refine(Jj.o _ kH.o).mono ?_;rw [RD.o];rintro e v1 ⟨rfl,jB⟩;(obtain⟨LS,fv1⟩:=gu jB;have Uc:w.heap.size<v1:=(ω jB.size);have Ud:w.heap.size+1<v1:=(ω jB.size);have Ue:w.heap.size+1+1<v1:=(ω jB.size);have Hz:=I jB;clear jB)
    obtain⟨s0,s1,s2,s3,s4,s5,s6,s7⟩:v1.cell? ⟨w,0,none⟩=some (U al h.bg.length cl)/\v1.cell? ⟨w,1,none⟩=some (J h.aP.a)/\v1.cell? ⟨w,2,none⟩=some (J h.aP.b)/\v1.cell? ⟨w,3,none⟩=some (J h.aP.c)/\v1.cell? ⟨w,4,none⟩=some (J h.aP.d)/\v1.cell? ⟨w,5,none⟩=some (U ar h.ready.length cr)/\v1.cell? ⟨w,6,none⟩=some (U ad h.done.length cd)/\v1.cell? ⟨w+1,1,none⟩=some (J dd):=by refine⟨?_,?_,?_,?_,?_,?_,?_,?_⟩<;>go_simp
    go_wp2_with (first|(refine aQ rfl (.tmp 6) (.tmp 66) rfl rfl rfl (aF V4.o Hz.o) fO rfl rfl ?_))
    intro w9 r9 g9;obtain⟨p0,p1,p2,p3,p4,p5,p6⟩:=bZ r9;go_wp2;refine dw (v:=.tuple #[.agg #[U al h.bg.length cl,J h.aP.a,J h.aP.b,J h.aP.c,J h.aP.d,U ar h.ready.length cr,U ad h.done.length cd],()]) (by simp [results,Tryz.results53,go_sem,p0,p1,p2,p3,p4,p5,p6]) rfl ?_;rw [wX.o,wY.o];refine⟨_,_,rfl,?_,Sl.nil _ _,(kH.o.trans Hz.o).grown g9 (fun q O=>by have:=bI O;omega)⟩
    ·exact y_.o.mono (gG HC.o)
 ·as_aux_lemma=>
   have wX:Hid (dK h ⟨kd,dd,hh,ps⟩=h):=by
    show dK h ⟨kd,dd,hh,ps⟩=h;unfold dK;rw [aV n1,aV n4,aV n5]
   have wY:Hid (dV h me ⟨kd,dd,hh,ps⟩=[]):=by
    show dV h me ⟨kd,dd,hh,ps⟩=[];unfold dV;rw [aV n1,aV n4]
   have b1:(kd==1)=false:=by simpa using n1
   have b4:(kd==4)=false:=by simpa using n4
   have b5:(kd==5)=false:=by simpa using n5
   clear n1 n4 n5;obtain⟨s0,s1,s2,s3,s4,s5,s6,s7⟩:wz.cell? ⟨w,0,none⟩=some (U al h.bg.length cl)/\wz.cell? ⟨w,1,none⟩=some (J h.aP.a)/\wz.cell? ⟨w,2,none⟩=some (J h.aP.b)/\wz.cell? ⟨w,3,none⟩=some (J h.aP.c)/\wz.cell? ⟨w,4,none⟩=some (J h.aP.d)/\wz.cell? ⟨w,5,none⟩=some (U ar h.ready.length cr)/\wz.cell? ⟨w,6,none⟩=some (U ad h.done.length cd)/\wz.cell? ⟨w+1,1,none⟩=some (J dd):=by refine⟨?_,?_,?_,?_,?_,?_,?_,?_⟩<;>go_simp
   go_wp2_with (first|(refine aQ rfl (.tmp 6) (.tmp 12) rfl rfl rfl (V4.o) fO rfl rfl ?_))
   intro w9 r9 g9;obtain⟨p0,p1,p2,p3,p4,p5,p6⟩:=bZ r9;go_wp2;refine dw (v:=.tuple #[.agg #[U al h.bg.length cl,J h.aP.a,J h.aP.b,J h.aP.c,J h.aP.d,U ar h.ready.length cr,U ad h.done.length cd],()]) (by simp [results,Tryz.results53,go_sem,p0,p1,p2,p3,p4,p5,p6]) rfl ?_;rw [wX.o,wY.o];refine⟨_,_,rfl,?_,Sl.nil _ _,(kH.o).grown g9 (fun q O=>by have:=bI O;omega)⟩
   ·exact y_.o.mono (gG HC.o)
end Go.Proofs.YtocnmkefmgmkbaaGreat
