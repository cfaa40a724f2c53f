/- Parts of proofs, joined: V3, V5. No condition beside those that each theorem names. -/
import Derived.Test.YtocnmkefmgmkbaaGreatJW1b
import Derived.Test.YtocnmkefmgmkbaaGreatJW6a
import Derived.Test.YtocnmkefmgmkbaaGreatJW4b
set_option maxRecDepth 100000
set_option maxHeartbeats 40000000
namespace Go.Proofs.YtocnmkefmgmkbaaGreat
open Go.RowKit
theorem rP {B5 B4:Nat} {kind d me:Int} (w:World) (h5:w.cell? ⟨B5,1,none⟩=some (ι d)) (h4:w.cell? ⟨B4,0,none⟩=some (ι me)) (_:B5<w.heap.size) (_:B4<w.heap.size) (ik:I64 kind) (id':I64 d) (im:I64 me):
  Calls Tryz.prog 114 #[ι kind,.pointer (some ⟨B5,0,none⟩),.pointer (some ⟨B4,0,none⟩)] w fun e w'=>∃v',e=.returned v'/\Sl Ty.ms (ov (fun _=>none) w w') v' (kR kind d me)/\Grow w w':=by
 have HI:=η (And.intro ik (And.intro id' im));clear ik id' im;go_enter Tryz.func114,Tryz.ntmps114;go_wp2;go_ret;refine⟨_,rfl,?_,gY⟩;exact zT (T:=Ty.ms) ⟨_,rfl,HI.o.1,HI.o.2.1,HI.o.2.2,Sl.nil _ _⟩ (Gv (at_new w #[ι kind,ι d,ι me,()] 85) (Nat.le_refl _)) ε ε
theorem OO {v vm:Value} {h:Hs} {m:Ms} {me:Int} (w:World) (hv:Of Ty.hs w.cell? v h) (hm:Of Ty.ms w.cell? vm m) (hk:∀x∈h.log,dw x.parts) (hkm:dw m.parts) (hn:(h.log.length+1)*40<=140737488351232)
  (hp:∀x∈h.log,x.parts.length*24<=140737488355328) (hpp:m.parts.length*24<=140737488355328) (hme:I64 me) (hmd:Made h):
  Calls Tryz.prog 78 #[v,ι me,vm] w fun e w'=>∃v1 v2,e=.returned (.tuple #[v1,v2])/\Of Ty.hs (ov (fun _=>none) w w') v1 (bg h m)/\Sl Ty.ms (ov (fun _=>none) w w') v2 (bG h me m)/\Grow w w':=by
 obtain⟨kd,dd,hh,ps⟩:=m;dsimp only at hkm hpp;obtain⟨al,cl,ar,cr,ad,cd,rfl⟩:=hv.dF;obtain⟨ap,cp,rfl⟩:∃ap cp,vm=.agg #[ι kd,ι dd,ι hh,ς ap ps.length cp]:=hm.fQ;have hms:Sl Ty.pt w.cell? (ς ap ps.length cp) ps/\I64 kd/\I64 dd/\I64 hh:=Of.iG hm;have UG:=(Of.iw hv).1;have lM:=η hms;have Hq:=η hv;have CW:=η hme;have J9:=η (fun(W:World) (hW:Grow w W)=>OH (d:=dd) W (hv.mono hW.sub) (hms.1.mono hW.sub) hkm);have HIS:=η (fun(W:World) (hW:Grow w W) hb hc=>LH (B:=w.heap.size) (d:=dd) W hb hc ((Of.iw hv).2.1.mono hW.sub));have YI:Hid (∀(W:World),Grow w W->Calls Tryz.prog 38 #[ς al h.log.length cl] W fun e w'=>∃v',e=.returned v'/\Of Ty.hs (ov (fun _=>none) W w') v' h/\Grow W w'):=η (fun(W:World) (hW:Grow w W)=>by
  have hx:=pK W (UG.mono hW.sub) hk δ hp;rw [<-(show h=gu h.log from hmd)] at hx;exact hx)
 have f7:=η (fun(r:Rc) (vr:Value) (W:World) (hW:Grow w W) (hr:Of Ty.rc W.cell? vr r) (hkr:dw r.parts) (hpr:r.parts.length*24<=140737488355328)=>TB W (hv.mono hW.sub) hr hk hkr δ hp hpr);have HKP:=η (And.intro hkm hpp);obtain⟨wz,hwz⟩:∃y:World,y=((((w.alloc (.cells #[ς al h.log.length cl,ι h.sums.a,ι h.sums.b,ι h.sums.c,ι h.sums.d,ς ar h.ready.length cr,ς ad h.done.length cd] 50)).alloc (.cells #[ι me] 3)).alloc (.cells #[ι kd,ι dd,ι hh,ς ap ps.length cp] 85)).alloc (.cells #[(),ι 0,ι 0,ι 0,ι 0,(),()] 50)):=⟨_,rfl⟩;have xJ:Hid (Grow w wz):=η (by rw [hwz];exact((((Grow.refl w).alloc _).alloc _).alloc _).alloc _);have KS:Hid (wz.heap[w.heap.size]? =some (.cells #[ς al h.log.length cl,ι h.sums.a,ι h.sums.b,ι h.sums.c,ι h.sums.d,ς ar h.ready.length cr,ς ad h.done.length cd] 50 (0,0))):=η (by rw [hwz];exact aB (aB (aB (aF _ _) _) _) _);have KV:Hid (wz.heap[w.heap.size+1]? =some (.cells #[ι me] 3 (0,0))):=η (by rw [hwz];exact aB (aB (by simpa using aF (w.alloc (.cells #[ς al h.log.length cl,ι h.sums.a,ι h.sums.b,ι h.sums.c,ι h.sums.d,ς ar h.ready.length cr,ς ad h.done.length cd] 50)) (.cells #[ι me] 3)) _) _);have K0:Hid (wz.heap[w.heap.size+1+1]? =some (.cells #[ι kd,ι dd,ι hh,ς ap ps.length cp] 85 (0,0))):=η (by rw [hwz];exact aB (by simpa using aF ((w.alloc (.cells #[ς al h.log.length cl,ι h.sums.a,ι h.sums.b,ι h.sums.c,ι h.sums.d,ς ar h.ready.length cr,ς ad h.done.length cd] 50)).alloc (.cells #[ι me] 3)) (.cells #[ι kd,ι dd,ι hh,ς ap ps.length cp] 85)) _);have K4:Hid (wz.heap[w.heap.size+1+1+1]? =some (.cells #[(),ι 0,ι 0,ι 0,ι 0,(),()] 50 (0,0))):=η (by rw [hwz];exact by simpa using aF (((w.alloc (.cells #[ς al h.log.length cl,ι h.sums.a,ι h.sums.b,ι h.sums.c,ι h.sums.d,ς ar h.ready.length cr,ς ad h.done.length cd] 50)).alloc (.cells #[ι me] 3)).alloc (.cells #[ι kd,ι dd,ι hh,ς ap ps.length cp] 85)) (.cells #[(),ι 0,ι 0,ι 0,ι 0,(),()] 50));have K5:Hid (w.heap.size+1+1+1<wz/\w.heap.size<=wz.heap.size):=η (by rw [hwz];simp;omega);have EB:=η hmd;clear hv hm hk hkm hn hp hpp hme hmd hms UG;go_enter Tryz.func78,Tryz.ntmps78;go_wp2_with fail
 rw [<-hwz];clear hwz;refine(YI.o _ xJ.o).mono ?_;rintro e v0 ⟨vx,rfl,hX,hb0⟩;obtain⟨eU,eX,kG,kH,o_,pq,rfl⟩:=hX.dF;have HX0:Hid (Of Ty.hs (win (wz).heap.size v0.heap.size v0) _ h):=η (hX.mono (sV _ _));have V7:=η (aj KS.o hb0);have bN:=η (aj KV.o hb0);have V8:=η (aj K0.o hb0);have V9:=η (aj K4.o hb0);have uA:=η (xJ.o.trans hb0);clear hX hb0;(try clear a0 a1 a2 a3 a4 a5 a6)
 (try clear b0)
 (try clear c0 c1 c2 c3)
 (try clear d0 d1 d2 d3 d4 d5 d6)
 obtain⟨a0,a1,a2,a3,a4,a5,a6⟩:=aT V7.o;obtain⟨c0,c1,c2,c3⟩:=cells4 V8.o;have R9n:=aF v0 (.cells #[(),ι 0,ι 0,ι 0,ι 0,(),()] 50);go_wp2_with (first|(refine wpList_store_row rfl (.tmp 9) (.tmp 13) rfl rfl rfl R9n dL rfl rfl ?_))
 clear R9n;intro v1 r1 g1;have wQ:=η r1;have lK:Hid (v1.heap[w.heap.size]? =_):=η (aH (aB V7.o _) g1 (by have:=(γ V7.o);simp;omega));have yN:Hid (v1.heap[w.heap.size+1]? =_):=η (aH (aB bN.o _) g1 (by have:=(γ bN.o);simp;omega));have wR:Hid (v1.heap[w.heap.size+1+1]? =_):=η (aH (aB V8.o _) g1 (by have:=(γ V8.o);simp;omega));have uZ:Hid (v1.heap[w.heap.size+1+1+1]? =_):=η (aH (aB V9.o _) g1 (by have:=(γ V9.o);simp;omega));have rQ:=η ((uA.o.alloc (.cells #[(),ι 0,ι 0,ι 0,ι 0,(),()] 50)).grown g1 (fun k hk=>by have:=uA.o.size;simp at hk;omega));have wS:=η ((HX0.o.mono (fK ((Grow.refl v0).alloc _) _ _)).mono (iy g1 (.inr (Nat.le_refl _))));have BN:Hid (w.heap.size+1+1+1<v0):=η (γ V9.o);have CG:Hid (w.heap.size+1+1+1<(wz).heap.size/\w.heap.size<=(wz).heap.size):=K5;have HNB:Hid (w.heap.size+1+1+1<=v1.heap.size):=η (by have:=rQ.o.size;exact Nat.le_of_lt (γ uZ.o));clear r1 g1 HX0;(try clear a0 a1 a2 a3 a4 a5 a6)
 (try clear b0)
 (try clear c0 c1 c2 c3)
 (try clear d0 d1 d2 d3 d4 d5 d6)
 obtain⟨a0,a1,a2,a3,a4,a5,a6⟩:=aT lK.o;obtain⟨c0,c1,c2,c3⟩:=cells4 wR.o;obtain⟨d0,d1,d2,d3,d4,d5,d6⟩:=aT wQ.o;by_cases n1:kd=1
 ·subst n1
  by_cases e10:dU h dd ps=10
  ·as_aux_lemma=>
    have qx:Hid (bg h ⟨1,dd,hh,ps⟩=h):=by
     show bg h ⟨1,dd,hh,ps⟩=h;unfold bg;rw [if_pos rfl,if_neg (by show¬(dU h dd ps=0/\_);rw [e10];simp)]
    have qy:Hid (bG h me ⟨1,dd,hh,ps⟩=[]):=by
     show bG h me ⟨1,dd,hh,ps⟩=[];unfold bG;rw [if_pos rfl,if_pos e10]
    have K6:=η e10;clear e10;go_wp2_with fail
    refine(J9.o _ rQ.o).mono ?_;rw [K6.o];rintro e v2 ⟨rfl,bZ⟩;have jk:=η (aj lK.o bZ);have oD:=η (aj yN.o bZ);have jH:=η (aj wR.o bZ);have mg:=η (aj uZ.o bZ);have jC:=η (aj wQ.o bZ);have qA:=η (rQ.o.trans bZ);have nM:=η (wS.o.mono (fK bZ _ _));clear bZ;(try clear a0 a1 a2 a3 a4 a5 a6)
    (try clear b0)
    (try clear c0 c1 c2 c3)
    (try clear d0 d1 d2 d3 d4 d5 d6)
    obtain⟨a0,a1,a2,a3,a4,a5,a6⟩:=aT jk.o;obtain⟨c0,c1,c2,c3⟩:=cells4 jH.o;obtain⟨d0,d1,d2,d3,d4,d5,d6⟩:=aT jC.o;go_wp2_with (first|(refine wpList_store_row rfl (.tmp 6) (.tmp 42) rfl rfl rfl mg.o dL rfl rfl ?_))
    intro w7 r7 g7;obtain⟨p0,p1,p2,p3,p4,p5,p6⟩:=aT r7;(try clear a0 a1 a2 a3 a4 a5 a6)
    (try clear c0 c1 c2 c3)
    (try clear d0 d1 d2 d3 d4 d5 d6)
    go_wp2;refine bodyPost_ret (v:=.tuple #[.agg #[ς eU h.log.length eX,ι h.sums.a,ι h.sums.b,ι h.sums.c,ι h.sums.d,ς kG h.ready.length kH,ς o_ h.done.length pq],()]) (by simp [results,Tryz.results78,go_sem,p0,p1,p2,p3,p4,p5,p6]) rfl ?_;rw [qx.o,qy.o];refine⟨_,_,rfl,(nM.o.mono (iy g7 (.inl CG.o.1))).mono (jE CG.o.2),Sl.nil _ _,qA.o.grown g7 (fun k hk=>by simp at hk;omega)⟩
  by_cases e0:dU h dd ps=0
  ·cases rd:bM h.ready dd with
   |true=>
    as_aux_lemma=>
     have qx:Hid (bg h ⟨1,dd,hh,ps⟩=h):=by
      show bg h ⟨1,dd,hh,ps⟩=h;unfold bg;rw [if_pos rfl,if_neg (by show¬(_/\bM h.ready dd=false);rw [rd];simp)]
     have qy:Hid (bG h me ⟨1,dd,hh,ps⟩=kR 2 dd me):=by
      show bG h me ⟨1,dd,hh,ps⟩=kR 2 dd me;unfold bG;rw [if_pos rfl,if_neg (by show¬dU h dd ps=10;omega),if_pos e0]
     have E0:=η e0;have RD:=η rd;clear e0 rd e10;go_wp2_with fail
     refine(J9.o _ rQ.o).mono ?_;rw [E0.o];rintro e v2 ⟨rfl,bZ⟩;have jk:=η (aj lK.o bZ);have oD:=η (aj yN.o bZ);have jH:=η (aj wR.o bZ);have mg:=η (aj uZ.o bZ);have jC:=η (aj wQ.o bZ);have qA:=η (rQ.o.trans bZ);have nM:=η (wS.o.mono (fK bZ _ _));clear bZ;(try clear a0 a1 a2 a3 a4 a5 a6)
     (try clear b0)
     (try clear c0 c1 c2 c3)
     (try clear d0 d1 d2 d3 d4 d5 d6)
     obtain⟨a0,a1,a2,a3,a4,a5,a6⟩:=aT jk.o;obtain⟨c0,c1,c2,c3⟩:=cells4 jH.o;obtain⟨d0,d1,d2,d3,d4,d5,d6⟩:=aT jC.o;go_wp2_with fail
     refine(HIS.o _ qA.o (γ jk.o) (aT jk.o).2.2.2.2.2.1).mono ?_;rw [RD.o];rintro e v3 ⟨rfl,fH⟩;have qJ:=η (aj jk.o fH);have ug:=η (aj oD.o fH);have mD:=η (aj jH.o fH);have rU:=η (aj mg.o fH);have nN:=η (aj jC.o fH);have xK:=η (qA.o.trans fH);have Hr:=η (nM.o.mono (fK fH _ _));clear fH;(try clear a0 a1 a2 a3 a4 a5 a6)
     (try clear b0)
     (try clear c0 c1 c2 c3)
     (try clear d0 d1 d2 d3 d4 d5 d6)
     obtain⟨a0,a1,a2,a3,a4,a5,a6⟩:=aT qJ.o;obtain⟨c0,c1,c2,c3⟩:=cells4 mD.o;obtain⟨d0,d1,d2,d3,d4,d5,d6⟩:=aT nN.o;go_wp2_with fail
     have HS:Hid (∀W,v3.grownBy W (some (w.heap.size+1+1+1))->W.cell? ⟨v0.heap.size,0,none⟩=some (ς eU h.log.length eX)/\W.cell? ⟨v0.heap.size,1,none⟩=some (ι h.sums.a)/\W.cell? ⟨v0.heap.size,2,none⟩=some (ι h.sums.b)/\W.cell? ⟨v0.heap.size,3,none⟩=some (ι h.sums.c)/\W.cell? ⟨v0.heap.size,4,none⟩=some (ι h.sums.d)/\W.cell? ⟨v0.heap.size,5,none⟩=some (ς kG h.ready.length kH)/\W.cell? ⟨v0.heap.size,6,none⟩=some (ς o_ h.done.length pq)/\W.cell? ⟨w.heap.size+1+1,1,none⟩=some (ι dd)/\W.cell? ⟨w.heap.size+1,0,none⟩=some (ι me)):=fun W hW=>by
      have k:∀(b o:Nat) (u:Value),b≠w.heap.size+1+1+1->v3.cell? ⟨b,o,none⟩=some u->W.cell? ⟨b,o,none⟩=some u:=fun b o u hb e=>by
       rw [dh hW (World.block_lt_of_cell? v3 _ e) hb];exact e
      obtain⟨d0,d1,d2,d3,d4,d5,d6⟩:=aT nN.o;obtain⟨-,c1,-,-⟩:=cells4 mD.o;have hz:=BN.o;exact⟨k _ _ _ δ d0,k _ _ _ δ d1,k _ _ _ δ d2,k _ _ _ δ d3,k _ _ _ δ d4,k _ _ _ δ d5,k _ _ _ δ d6,k _ _ _ δ c1,k _ _ _ δ (cell1 ug.o)⟩
     (try clear a0 a1 a2 a3 a4 a5 a6)
     (try clear c0 c1 c2 c3)
     (try clear d0 d1 d2 d3 d4 d5 d6)
     refine bf (fun w'=>w'.cell? ⟨v0.heap.size,0,none⟩=some (ς eU h.log.length eX)/\w'.cell? ⟨v0.heap.size,1,none⟩=some (ι h.sums.a)/\w'.cell? ⟨v0.heap.size,2,none⟩=some (ι h.sums.b)/\w'.cell? ⟨v0.heap.size,3,none⟩=some (ι h.sums.c)/\w'.cell? ⟨v0.heap.size,4,none⟩=some (ι h.sums.d)/\w'.cell? ⟨v0.heap.size,5,none⟩=some (ς kG h.ready.length kH)/\w'.cell? ⟨v0.heap.size,6,none⟩=some (ς o_ h.done.length pq)/\w'.cell? ⟨w.heap.size+1+1,1,none⟩=some (ι dd)/\w'.cell? ⟨w.heap.size+1,0,none⟩=some (ι me)) 4 κ ?_;obtain⟨wd,hWd⟩:∃x:World,x=v3.drew:=⟨_,rfl⟩;rw [<-hWd];have GD:Grow v3 wd:=by rw [hWd];exact(Grow.refl _).drew
     have zD:v3.heap.size=wd.heap.size:=by rw [hWd];rfl
     have ZD:=η zD;clear hWd zD;refine ni [0,1] 6 κ (fun _ _ _ _ _ h=>h) (HS.o _ (ak GD _)) ?_;repeat (refine gQ ?_;try simp only [aK])
     refine ny ?_;refine bO 2 κ rfl ?_;intro K HK;try simp only [aV]
     go_simp;go_at_call 114
     refine(rP (B5:=w.heap.size+1+1) (B4:=w.heap.size+1) wd (HS.o _ (ak GD _)).2.2.2.2.2.2.2.1 (HS.o _ (ak GD _)).2.2.2.2.2.2.2.2 (Nat.lt_of_lt_of_le (γ mD.o) GD.size) (Nat.lt_of_lt_of_le (γ ug.o) GD.size) (show I64 2 from by unfold I64;decide) lM.o.2.2.1 CW.o).mono ?_;rintro e wq ⟨vq,rfl,hq,hbq⟩;have HQ:Hid (Sl Ty.ms (win wd.heap.size wq.heap.size wq) vq (kR 2 dd me)):=η (hq.mono (sV _ _));have yO:=η hbq;clear hq hbq;refine HK.o _ _ ⟨fun _=>HS.o _ (ak (GD.trans yO.o) _),?_⟩;clear HK K;try simp only [aK]
     refine bO 3 κ rfl ?_;intro K HK;refine aC rfl ?_;try simp only [aV]
     refine wp_store_row (.tmp 6) (.tmp 37) rfl rfl rfl (aj rU.o (GD.trans yO.o)) dL rfl rfl ?_;intro w7 r7 g7;refine HK.o _ _ ⟨fun _=>HS.o _ (grownBy_trans (ak (GD.trans yO.o) _) g7),?_⟩;clear HK K;try simp only [aK]
     refine bO 4 κ rfl ?_;intro K HK;try simp only [aV]
     go_simp;refine HK.o _ _ ⟨fun h=>absurd rfl h,?_⟩;clear HK K;try simp only [aK]
     refine aO κ ?_;obtain⟨p0,p1,p2,p3,p4,p5,p6⟩:=aT r7;go_wp2;refine bodyPost_ret (v:=.tuple #[.agg #[ς eU h.log.length eX,ι h.sums.a,ι h.sums.b,ι h.sums.c,ι h.sums.d,ς kG h.ready.length kH,ς o_ h.done.length pq],vq]) (by simp [results,Tryz.results78,go_sem,p0,p1,p2,p3,p4,p5,p6]) rfl ?_;rw [qx.o,qy.o];have hzd:w.heap.size<=wd.heap.size:=(xK.o.trans GD).size;have h6:w.heap.size+1+1+1<wd:=Nat.lt_of_lt_of_le (γ rU.o) GD.size;refine⟨_,_,rfl,(((Hr.o.mono (fK (GD.trans yO.o) _ _)).mono (iy g7 (.inl CG.o.1))).mono (jE CG.o.2)),((HQ.o.mono (iy g7 (.inl h6))).mono (jE hzd)),((xK.o.trans GD).trans yO.o).grown g7 (fun k hk=>by simp at hk;omega)⟩
   |false=>
    as_aux_lemma=>
     have qx:Hid (bg h ⟨1,dd,hh,ps⟩=dV h ⟨1,dd,ps⟩):=by
      show bg h ⟨1,dd,hh,ps⟩=dV h ⟨1,dd,ps⟩;unfold bg;rw [if_pos rfl,if_pos ⟨e0,rd⟩]
     have qy:Hid (bG h me ⟨1,dd,hh,ps⟩=kR 2 dd me):=by
      show bG h me ⟨1,dd,hh,ps⟩=kR 2 dd me;unfold bG;rw [if_pos rfl,if_neg (by show¬dU h dd ps=10;omega),if_pos e0]
     have E0:=η e0;have RD:=η rd;clear e0 rd e10;go_wp2_with fail
     refine(J9.o _ rQ.o).mono ?_;rw [E0.o];rintro e v2 ⟨rfl,bZ⟩;have jk:=η (aj lK.o bZ);have oD:=η (aj yN.o bZ);have jH:=η (aj wR.o bZ);have mg:=η (aj uZ.o bZ);have jC:=η (aj wQ.o bZ);have qA:=η (rQ.o.trans bZ);have nM:=η (wS.o.mono (fK bZ _ _));clear bZ;(try clear a0 a1 a2 a3 a4 a5 a6)
     (try clear b0)
     (try clear c0 c1 c2 c3)
     (try clear d0 d1 d2 d3 d4 d5 d6)
     obtain⟨a0,a1,a2,a3,a4,a5,a6⟩:=aT jk.o;obtain⟨c0,c1,c2,c3⟩:=cells4 jH.o;obtain⟨d0,d1,d2,d3,d4,d5,d6⟩:=aT jC.o;go_wp2_with fail
     refine(HIS.o _ qA.o (γ jk.o) (aT jk.o).2.2.2.2.2.1).mono ?_;rw [RD.o];rintro e v3 ⟨rfl,fH⟩;have qJ:=η (aj jk.o fH);have ug:=η (aj oD.o fH);have mD:=η (aj jH.o fH);have rU:=η (aj mg.o fH);have nN:=η (aj jC.o fH);have xK:=η (qA.o.trans fH);have Hr:=η (nM.o.mono (fK fH _ _));clear fH;(try clear a0 a1 a2 a3 a4 a5 a6)
     (try clear b0)
     (try clear c0 c1 c2 c3)
     (try clear d0 d1 d2 d3 d4 d5 d6)
     obtain⟨a0,a1,a2,a3,a4,a5,a6⟩:=aT qJ.o;obtain⟨c0,c1,c2,c3⟩:=cells4 mD.o;obtain⟨d0,d1,d2,d3,d4,d5,d6⟩:=aT nN.o;go_wp2_with fail
     refine(f7.o ⟨1,dd,ps⟩ _ _ xK.o ⟨_,rfl,_,rfl,lM.o.2.1,lM.o.2.2.1,lM.o.1.mono xK.o.sub⟩ HKP.o.1 HKP.o.2).mono ?_;rintro e v4 ⟨vx,rfl,hX,OQ⟩;generalize dV h ⟨1,dd,ps⟩=x at*;obtain⟨CX,CY,ar3,cr3,Zd,Ze,rfl⟩:=hX.dF;have Jg:Hid (Of Ty.hs (win v3.heap.size v4.heap.size v4) _ x):=η (hX.mono (sV _ _));have bR:Hid (v0.heap.size<v3):=η (γ nN.o);have Eo:=η (aj qJ.o OQ);have Q_:=η (aj ug.o OQ);have Ep:=η (aj mD.o OQ);have LX:=η (aj rU.o OQ);have Es:=η (aj nN.o OQ);have V_:=η (xK.o.trans OQ);clear hX OQ;(try clear a0 a1 a2 a3 a4 a5 a6)
     (try clear b0)
     (try clear c0 c1 c2 c3)
     (try clear d0 d1 d2 d3 d4 d5 d6)
     obtain⟨a0,a1,a2,a3,a4,a5,a6⟩:=aT Eo.o;obtain⟨c0,c1,c2,c3⟩:=cells4 Ep.o;obtain⟨d0,d1,d2,d3,d4,d5,d6⟩:=aT Es.o;go_wp2_with (first|(refine wpList_store_row rfl (.tmp 9) (.tmp 36) rfl rfl rfl Es.o dL rfl rfl ?_))
     intro v5 r2 g2;have LY:=η r2;have Wh:Hid (v5.heap[w.heap.size]? =_):=η (aH Eo.o g2 (by have:=BN.o;simp;omega));have LZ:Hid (v5.heap[w.heap.size+1]? =_):=η (aH Q_.o g2 (by have:=BN.o;simp;omega));have Et:Hid (v5.heap[w.heap.size+1+1]? =_):=η (aH Ep.o g2 (by have:=BN.o;simp;omega));have L6:Hid (v5.heap[w.heap.size+1+1+1]? =_):=η (aH LX.o g2 (by have:=BN.o;simp;omega));have Wi:=η (V_.o.grown g2 (fun k hk=>by have:=BN.o;simp at hk;omega));have Wj:=η (Jg.o.mono (iy g2 (.inl bR.o)));have wP:Hid (w.heap.size+1+1+1<v3/\w.heap.size<=v3.heap.size):=η (by have:=BN.o;have:=bR.o;omega);clear r2 g2 Jg;(try clear a0 a1 a2 a3 a4 a5 a6)
     (try clear b0)
     (try clear c0 c1 c2 c3)
     (try clear d0 d1 d2 d3 d4 d5 d6)
     obtain⟨a0,a1,a2,a3,a4,a5,a6⟩:=aT Wh.o;obtain⟨c0,c1,c2,c3⟩:=cells4 Et.o;obtain⟨d0,d1,d2,d3,d4,d5,d6⟩:=aT LY.o;go_wp2_with fail
     have HS:Hid (∀W,v5.grownBy W (some (w.heap.size+1+1+1))->W.cell? ⟨v0.heap.size,0,none⟩=some (ς CX x.log.length CY)/\W.cell? ⟨v0.heap.size,1,none⟩=some (ι x.sums.a)/\W.cell? ⟨v0.heap.size,2,none⟩=some (ι x.sums.b)/\W.cell? ⟨v0.heap.size,3,none⟩=some (ι x.sums.c)/\W.cell? ⟨v0.heap.size,4,none⟩=some (ι x.sums.d)/\W.cell? ⟨v0.heap.size,5,none⟩=some (ς ar3 x.ready.length cr3)/\W.cell? ⟨v0.heap.size,6,none⟩=some (ς Zd x.done.length Ze)/\W.cell? ⟨w.heap.size+1+1,1,none⟩=some (ι dd)/\W.cell? ⟨w.heap.size+1,0,none⟩=some (ι me)):=fun W hW=>by
      have k:∀(b o:Nat) (u:Value),b≠w.heap.size+1+1+1->v5.cell? ⟨b,o,none⟩=some u->W.cell? ⟨b,o,none⟩=some u:=fun b o u hb e=>by
       rw [dh hW (World.block_lt_of_cell? v5 _ e) hb];exact e
      obtain⟨d0,d1,d2,d3,d4,d5,d6⟩:=aT LY.o;obtain⟨-,c1,-,-⟩:=cells4 Et.o;have hz:=BN.o;exact⟨k _ _ _ δ d0,k _ _ _ δ d1,k _ _ _ δ d2,k _ _ _ δ d3,k _ _ _ δ d4,k _ _ _ δ d5,k _ _ _ δ d6,k _ _ _ δ c1,k _ _ _ δ (cell1 LZ.o)⟩
     (try clear a0 a1 a2 a3 a4 a5 a6)
     (try clear c0 c1 c2 c3)
     (try clear d0 d1 d2 d3 d4 d5 d6)
     refine bf (fun w'=>w'.cell? ⟨v0.heap.size,0,none⟩=some (ς CX x.log.length CY)/\w'.cell? ⟨v0.heap.size,1,none⟩=some (ι x.sums.a)/\w'.cell? ⟨v0.heap.size,2,none⟩=some (ι x.sums.b)/\w'.cell? ⟨v0.heap.size,3,none⟩=some (ι x.sums.c)/\w'.cell? ⟨v0.heap.size,4,none⟩=some (ι x.sums.d)/\w'.cell? ⟨v0.heap.size,5,none⟩=some (ς ar3 x.ready.length cr3)/\w'.cell? ⟨v0.heap.size,6,none⟩=some (ς Zd x.done.length Ze)/\w'.cell? ⟨w.heap.size+1+1,1,none⟩=some (ι dd)/\w'.cell? ⟨w.heap.size+1,0,none⟩=some (ι me)) 4 κ ?_;obtain⟨wd,hWd⟩:∃x:World,x=v5.drew:=⟨_,rfl⟩;rw [<-hWd];have GD:Grow v5 wd:=by rw [hWd];exact(Grow.refl _).drew
     have zD:v5.heap.size=wd.heap.size:=by rw [hWd];rfl
     have ZD:=η zD;clear hWd zD;refine ni [0,1] 6 κ (fun _ _ _ _ _ h=>h) (HS.o _ (ak GD _)) ?_;repeat (refine gQ ?_;try simp only [aK])
     refine ny ?_;refine bO 2 κ rfl ?_;intro K HK;try simp only [aV]
     go_simp;go_at_call 114
     refine(rP (B5:=w.heap.size+1+1) (B4:=w.heap.size+1) wd (HS.o _ (ak GD _)).2.2.2.2.2.2.2.1 (HS.o _ (ak GD _)).2.2.2.2.2.2.2.2 (Nat.lt_of_lt_of_le (γ Et.o) GD.size) (Nat.lt_of_lt_of_le (γ LZ.o) GD.size) (show I64 2 from by unfold I64;decide) lM.o.2.2.1 CW.o).mono ?_;rintro e wq ⟨vq,rfl,hq,hbq⟩;have HQ:Hid (Sl Ty.ms (win wd.heap.size wq.heap.size wq) vq (kR 2 dd me)):=η (hq.mono (sV _ _));have yO:=η hbq;clear hq hbq;refine HK.o _ _ ⟨fun _=>HS.o _ (ak (GD.trans yO.o) _),?_⟩;clear HK K;try simp only [aK]
     refine bO 3 κ rfl ?_;intro K HK;refine aC rfl ?_;try simp only [aV]
     refine wp_store_row (.tmp 6) (.tmp 37) rfl rfl rfl (aj L6.o (GD.trans yO.o)) dL rfl rfl ?_;intro w7 r7 g7;refine HK.o _ _ ⟨fun _=>HS.o _ (grownBy_trans (ak (GD.trans yO.o) _) g7),?_⟩;clear HK K;try simp only [aK]
     refine bO 4 κ rfl ?_;intro K HK;try simp only [aV]
     go_simp;refine HK.o _ _ ⟨fun h=>absurd rfl h,?_⟩;clear HK K;try simp only [aK]
     refine aO κ ?_;obtain⟨p0,p1,p2,p3,p4,p5,p6⟩:=aT r7;go_wp2;refine bodyPost_ret (v:=.tuple #[.agg #[ς CX x.log.length CY,ι x.sums.a,ι x.sums.b,ι x.sums.c,ι x.sums.d,ς ar3 x.ready.length cr3,ς Zd x.done.length Ze],vq]) (by simp [results,Tryz.results78,go_sem,p0,p1,p2,p3,p4,p5,p6]) rfl ?_;rw [qx.o,qy.o];have hzd:w.heap.size<=wd.heap.size:=(Wi.o.trans GD).size;have h6:w.heap.size+1+1+1<wd:=Nat.lt_of_lt_of_le (γ L6.o) GD.size;refine⟨_,_,rfl,(((Wj.o.mono (fK (GD.trans yO.o) _ _)).mono (iy g7 (.inl wP.o.1))).mono (jE wP.o.2)),((HQ.o.mono (iy g7 (.inl h6))).mono (jE hzd)),((Wi.o.trans GD).trans yO.o).grown g7 (fun k hk=>by simp at hk;omega)⟩
  ·as_aux_lemma=>
    have qx:Hid (bg h ⟨1,dd,hh,ps⟩=h):=by
     show bg h ⟨1,dd,hh,ps⟩=h;unfold bg;rw [if_pos rfl,if_neg (fun h2=>e0 h2.1)]
    have qy:Hid (bG h me ⟨1,dd,hh,ps⟩=kR 3 dd me):=by
     show bG h me ⟨1,dd,hh,ps⟩=kR 3 dd me;unfold bG;rw [if_pos rfl,if_neg e10,if_neg e0]
    have iL:(dU h dd ps==10)=false:=by simpa using e10
    have hb0:(dU h dd ps==0)=false:=by simpa using e0
    clear e0 e10;generalize dU h dd ps=ve at*;go_wp2_with fail
    refine(J9.o _ rQ.o).mono ?_;rintro e v2 ⟨rfl,bZ⟩;have jk:=η (aj lK.o bZ);have oD:=η (aj yN.o bZ);have jH:=η (aj wR.o bZ);have mg:=η (aj uZ.o bZ);have jC:=η (aj wQ.o bZ);have qA:=η (rQ.o.trans bZ);have nM:=η (wS.o.mono (fK bZ _ _));clear bZ;(try clear a0 a1 a2 a3 a4 a5 a6)
    (try clear b0)
    (try clear c0 c1 c2 c3)
    (try clear d0 d1 d2 d3 d4 d5 d6)
    obtain⟨a0,a1,a2,a3,a4,a5,a6⟩:=aT jk.o;obtain⟨c0,c1,c2,c3⟩:=cells4 jH.o;obtain⟨d0,d1,d2,d3,d4,d5,d6⟩:=aT jC.o;go_wp2_with fail
    have HS:Hid (∀W,v2.grownBy W (some (w.heap.size+1+1+1))->W.cell? ⟨v0.heap.size,0,none⟩=some (ς eU h.log.length eX)/\W.cell? ⟨v0.heap.size,1,none⟩=some (ι h.sums.a)/\W.cell? ⟨v0.heap.size,2,none⟩=some (ι h.sums.b)/\W.cell? ⟨v0.heap.size,3,none⟩=some (ι h.sums.c)/\W.cell? ⟨v0.heap.size,4,none⟩=some (ι h.sums.d)/\W.cell? ⟨v0.heap.size,5,none⟩=some (ς kG h.ready.length kH)/\W.cell? ⟨v0.heap.size,6,none⟩=some (ς o_ h.done.length pq)/\W.cell? ⟨w.heap.size+1+1,1,none⟩=some (ι dd)/\W.cell? ⟨w.heap.size+1,0,none⟩=some (ι me)):=fun W hW=>by
     have k:∀(b o:Nat) (u:Value),b≠w.heap.size+1+1+1->v2.cell? ⟨b,o,none⟩=some u->W.cell? ⟨b,o,none⟩=some u:=fun b o u hb e=>by
      rw [dh hW (World.block_lt_of_cell? v2 _ e) hb];exact e
     obtain⟨d0,d1,d2,d3,d4,d5,d6⟩:=aT jC.o;obtain⟨-,c1,-,-⟩:=cells4 jH.o;have hz:=BN.o;exact⟨k _ _ _ δ d0,k _ _ _ δ d1,k _ _ _ δ d2,k _ _ _ δ d3,k _ _ _ δ d4,k _ _ _ δ d5,k _ _ _ δ d6,k _ _ _ δ c1,k _ _ _ δ (cell1 oD.o)⟩
    (try clear a0 a1 a2 a3 a4 a5 a6)
    (try clear c0 c1 c2 c3)
    (try clear d0 d1 d2 d3 d4 d5 d6)
    refine bf (fun w'=>w'.cell? ⟨v0.heap.size,0,none⟩=some (ς eU h.log.length eX)/\w'.cell? ⟨v0.heap.size,1,none⟩=some (ι h.sums.a)/\w'.cell? ⟨v0.heap.size,2,none⟩=some (ι h.sums.b)/\w'.cell? ⟨v0.heap.size,3,none⟩=some (ι h.sums.c)/\w'.cell? ⟨v0.heap.size,4,none⟩=some (ι h.sums.d)/\w'.cell? ⟨v0.heap.size,5,none⟩=some (ς kG h.ready.length kH)/\w'.cell? ⟨v0.heap.size,6,none⟩=some (ς o_ h.done.length pq)/\w'.cell? ⟨w.heap.size+1+1,1,none⟩=some (ι dd)/\w'.cell? ⟨w.heap.size+1,0,none⟩=some (ι me)) 4 κ ?_;obtain⟨wd,hWd⟩:∃x:World,x=v2.drew:=⟨_,rfl⟩;rw [<-hWd];have GD:Grow v2 wd:=by rw [hWd];exact(Grow.refl _).drew
    have zD:v2.heap.size=wd.heap.size:=by rw [hWd];rfl
    have ZD:=η zD;clear hWd zD;refine ni [0,1] 6 κ (fun _ _ _ _ _ h=>h) (HS.o _ (ak GD _)) ?_;repeat (refine gQ ?_;try simp only [aK])
    refine ny ?_;refine bO 2 κ rfl ?_;intro K HK;try simp only [aV]
    go_simp;go_at_call 114
    refine(rP (B5:=w.heap.size+1+1) (B4:=w.heap.size+1) wd (HS.o _ (ak GD _)).2.2.2.2.2.2.2.1 (HS.o _ (ak GD _)).2.2.2.2.2.2.2.2 (Nat.lt_of_lt_of_le (γ jH.o) GD.size) (Nat.lt_of_lt_of_le (γ oD.o) GD.size) (show I64 3 from by unfold I64;decide) lM.o.2.2.1 CW.o).mono ?_;rintro e wq ⟨vq,rfl,hq,hbq⟩;have HQ:Hid (Sl Ty.ms (win wd.heap.size wq.heap.size wq) vq (kR 3 dd me)):=η (hq.mono (sV _ _));have yO:=η hbq;clear hq hbq;refine HK.o _ _ ⟨fun _=>HS.o _ (ak (GD.trans yO.o) _),?_⟩;clear HK K;try simp only [aK]
    refine bO 3 κ rfl ?_;intro K HK;refine aC rfl ?_;try simp only [aV]
    refine wp_store_row (.tmp 6) (.tmp 43) rfl rfl rfl (aj mg.o (GD.trans yO.o)) dL rfl rfl ?_;intro w7 r7 g7;refine HK.o _ _ ⟨fun _=>HS.o _ (grownBy_trans (ak (GD.trans yO.o) _) g7),?_⟩;clear HK K;try simp only [aK]
    refine bO 4 κ rfl ?_;intro K HK;try simp only [aV]
    go_simp;refine HK.o _ _ ⟨fun h=>absurd rfl h,?_⟩;clear HK K;try simp only [aK]
    refine aO κ ?_;obtain⟨p0,p1,p2,p3,p4,p5,p6⟩:=aT r7;go_wp2;refine bodyPost_ret (v:=.tuple #[.agg #[ς eU h.log.length eX,ι h.sums.a,ι h.sums.b,ι h.sums.c,ι h.sums.d,ς kG h.ready.length kH,ς o_ h.done.length pq],vq]) (by simp [results,Tryz.results78,go_sem,p0,p1,p2,p3,p4,p5,p6]) rfl ?_;rw [qx.o,qy.o];have hzd:w.heap.size<=wd.heap.size:=(qA.o.trans GD).size;have h6:w.heap.size+1+1+1<wd:=Nat.lt_of_lt_of_le (γ mg.o) GD.size;refine⟨_,_,rfl,(((nM.o.mono (fK (GD.trans yO.o) _ _)).mono (iy g7 (.inl CG.o.1))).mono (jE CG.o.2)),((HQ.o.mono (iy g7 (.inl h6))).mono (jE hzd)),((qA.o.trans GD).trans yO.o).grown g7 (fun k hk=>by simp at hk;omega)⟩
 by_cases n4:kd=4
 ·subst n4
  clear n1;cases rd:bM h.ready dd with
  |true=>
   as_aux_lemma=>
    have hin:dd∈(dV h ⟨2,dd,[]⟩).done:=by rw [(Gw EB.o rd).2];simp
    have qx:Hid (bg h ⟨4,dd,hh,ps⟩=dV h ⟨2,dd,[]⟩):=by
     show bg h ⟨4,dd,hh,ps⟩=dV h ⟨2,dd,[]⟩;unfold bg;rw [if_neg (fun e=>by cases e),if_pos rfl,if_pos rd]
    have qy:Hid (bG h me ⟨4,dd,hh,ps⟩=kR 6 dd me):=by
     show bG h me ⟨4,dd,hh,ps⟩=kR 6 dd me;unfold bG;rw [if_neg (fun e=>by cases e),if_pos rfl,qx.o,if_pos hin]
    have Eu:=η hin;have RD:=η rd;clear hin rd;go_wp2_with fail
    refine(HIS.o _ rQ.o (γ lK.o) (aT lK.o).2.2.2.2.2.1).mono ?_;rw [RD.o];rintro e v2 ⟨rfl,bZ⟩;have jk:=η (aj lK.o bZ);have oD:=η (aj yN.o bZ);have jH:=η (aj wR.o bZ);have mg:=η (aj uZ.o bZ);have jC:=η (aj wQ.o bZ);have qA:=η (rQ.o.trans bZ);have nM:=η (wS.o.mono (fK bZ _ _));clear bZ;(try clear a0 a1 a2 a3 a4 a5 a6)
    (try clear b0)
    (try clear c0 c1 c2 c3)
    (try clear d0 d1 d2 d3 d4 d5 d6)
    obtain⟨a0,a1,a2,a3,a4,a5,a6⟩:=aT jk.o;obtain⟨c0,c1,c2,c3⟩:=cells4 jH.o;obtain⟨d0,d1,d2,d3,d4,d5,d6⟩:=aT jC.o;go_wp2_with fail
    refine(f7.o ⟨2,dd,[]⟩ _ _ qA.o ⟨_,rfl,_,rfl,(show I64 2 from by unfold I64;decide),lM.o.2.2.1,Sl.nil _ _⟩ (by intro p hp;simp at hp) σ).mono ?_;rintro e v3 ⟨vx,rfl,hX,fH⟩;generalize dV h ⟨2,dd,[]⟩=x at*;obtain⟨CX,CY,ar3,cr3,Zd,Ze,rfl⟩:=hX.dF;have Jg:Hid (Of Ty.hs (win v2.heap.size v3.heap.size v3) _ x):=η (hX.mono (sV _ _));have bR:Hid (v0.heap.size<v2):=η (γ jC.o);have qJ:=η (aj jk.o fH);have ug:=η (aj oD.o fH);have mD:=η (aj jH.o fH);have rU:=η (aj mg.o fH);have nN:=η (aj jC.o fH);have xK:=η (qA.o.trans fH);clear hX fH;(try clear a0 a1 a2 a3 a4 a5 a6)
    (try clear b0)
    (try clear c0 c1 c2 c3)
    (try clear d0 d1 d2 d3 d4 d5 d6)
    obtain⟨a0,a1,a2,a3,a4,a5,a6⟩:=aT qJ.o;obtain⟨c0,c1,c2,c3⟩:=cells4 mD.o;obtain⟨d0,d1,d2,d3,d4,d5,d6⟩:=aT nN.o;go_wp2_with (first|(refine wpList_store_row rfl (.tmp 9) (.tmp 55) rfl rfl rfl nN.o dL rfl rfl ?_))
    intro v4 r2 g2;have Es:=η r2;have Eo:Hid (v4.heap[w.heap.size]? =_):=η (aH qJ.o g2 (by have:=BN.o;simp;omega));have Q_:Hid (v4.heap[w.heap.size+1]? =_):=η (aH ug.o g2 (by have:=BN.o;simp;omega));have Ep:Hid (v4.heap[w.heap.size+1+1]? =_):=η (aH mD.o g2 (by have:=BN.o;simp;omega));have LX:Hid (v4.heap[w.heap.size+1+1+1]? =_):=η (aH rU.o g2 (by have:=BN.o;simp;omega));have V_:=η (xK.o.grown g2 (fun k hk=>by have:=BN.o;simp at hk;omega));have Rf:=η (Jg.o.mono (iy g2 (.inl bR.o)));have wP:Hid (w.heap.size+1+1+1<v2/\w.heap.size<=v2.heap.size):=η (by have:=BN.o;have:=bR.o;omega);clear r2 g2 Jg;(try clear a0 a1 a2 a3 a4 a5 a6)
    (try clear b0)
    (try clear c0 c1 c2 c3)
    (try clear d0 d1 d2 d3 d4 d5 d6)
    obtain⟨a0,a1,a2,a3,a4,a5,a6⟩:=aT Eo.o;obtain⟨c0,c1,c2,c3⟩:=cells4 Ep.o;obtain⟨d0,d1,d2,d3,d4,d5,d6⟩:=aT Es.o;go_wp2_with fail
    refine(fC (n:=dd) v4 ((Of.iw (Rf.o.mono (I9 _ _ _))).2.2)).mono ?_;rw [decide_eq_true Eu.o];rintro e v5 ⟨rfl,Ew⟩;have Wh:=η (aj Eo.o Ew);have LZ:=η (aj Q_.o Ew);have Et:=η (aj Ep.o Ew);have L6:=η (aj LX.o Ew);have LY:=η (aj Es.o Ew);have Wi:=η (V_.o.trans Ew);have Wj:=η (Rf.o.mono (fK Ew _ _));clear Ew;(try clear a0 a1 a2 a3 a4 a5 a6)
    (try clear b0)
    (try clear c0 c1 c2 c3)
    (try clear d0 d1 d2 d3 d4 d5 d6)
    obtain⟨a0,a1,a2,a3,a4,a5,a6⟩:=aT Wh.o;obtain⟨c0,c1,c2,c3⟩:=cells4 Et.o;obtain⟨d0,d1,d2,d3,d4,d5,d6⟩:=aT LY.o;go_wp2_with fail
    have HS:Hid (∀W,v5.grownBy W (some (w.heap.size+1+1+1))->W.cell? ⟨v0.heap.size,0,none⟩=some (ς CX x.log.length CY)/\W.cell? ⟨v0.heap.size,1,none⟩=some (ι x.sums.a)/\W.cell? ⟨v0.heap.size,2,none⟩=some (ι x.sums.b)/\W.cell? ⟨v0.heap.size,3,none⟩=some (ι x.sums.c)/\W.cell? ⟨v0.heap.size,4,none⟩=some (ι x.sums.d)/\W.cell? ⟨v0.heap.size,5,none⟩=some (ς ar3 x.ready.length cr3)/\W.cell? ⟨v0.heap.size,6,none⟩=some (ς Zd x.done.length Ze)/\W.cell? ⟨w.heap.size+1+1,1,none⟩=some (ι dd)/\W.cell? ⟨w.heap.size+1,0,none⟩=some (ι me)):=fun W hW=>by
     have k:∀(b o:Nat) (u:Value),b≠w.heap.size+1+1+1->v5.cell? ⟨b,o,none⟩=some u->W.cell? ⟨b,o,none⟩=some u:=fun b o u hb e=>by
      rw [dh hW (World.block_lt_of_cell? v5 _ e) hb];exact e
     obtain⟨d0,d1,d2,d3,d4,d5,d6⟩:=aT LY.o;obtain⟨-,c1,-,-⟩:=cells4 Et.o;have hz:=BN.o;exact⟨k _ _ _ δ d0,k _ _ _ δ d1,k _ _ _ δ d2,k _ _ _ δ d3,k _ _ _ δ d4,k _ _ _ δ d5,k _ _ _ δ d6,k _ _ _ δ c1,k _ _ _ δ (cell1 LZ.o)⟩
    (try clear a0 a1 a2 a3 a4 a5 a6)
    (try clear c0 c1 c2 c3)
    (try clear d0 d1 d2 d3 d4 d5 d6)
    refine bf (fun w'=>w'.cell? ⟨v0.heap.size,0,none⟩=some (ς CX x.log.length CY)/\w'.cell? ⟨v0.heap.size,1,none⟩=some (ι x.sums.a)/\w'.cell? ⟨v0.heap.size,2,none⟩=some (ι x.sums.b)/\w'.cell? ⟨v0.heap.size,3,none⟩=some (ι x.sums.c)/\w'.cell? ⟨v0.heap.size,4,none⟩=some (ι x.sums.d)/\w'.cell? ⟨v0.heap.size,5,none⟩=some (ς ar3 x.ready.length cr3)/\w'.cell? ⟨v0.heap.size,6,none⟩=some (ς Zd x.done.length Ze)/\w'.cell? ⟨w.heap.size+1+1,1,none⟩=some (ι dd)/\w'.cell? ⟨w.heap.size+1,0,none⟩=some (ι me)) 4 κ ?_;obtain⟨wd,hWd⟩:∃x:World,x=v5.drew:=⟨_,rfl⟩;rw [<-hWd];have GD:Grow v5 wd:=by rw [hWd];exact(Grow.refl _).drew
    have zD:v5.heap.size=wd.heap.size:=by rw [hWd];rfl
    have ZD:=η zD;clear hWd zD;refine ni [0,1] 6 κ (fun _ _ _ _ _ h=>h) (HS.o _ (ak GD _)) ?_;repeat (refine gQ ?_;try simp only [aK])
    refine ny ?_;refine bO 2 κ rfl ?_;intro K HK;try simp only [aV]
    go_simp;go_at_call 114
    refine(rP (B5:=w.heap.size+1+1) (B4:=w.heap.size+1) wd (HS.o _ (ak GD _)).2.2.2.2.2.2.2.1 (HS.o _ (ak GD _)).2.2.2.2.2.2.2.2 (Nat.lt_of_lt_of_le (γ Et.o) GD.size) (Nat.lt_of_lt_of_le (γ LZ.o) GD.size) (show I64 6 from by unfold I64;decide) lM.o.2.2.1 CW.o).mono ?_;rintro e wq ⟨vq,rfl,hq,hbq⟩;have HQ:Hid (Sl Ty.ms (win wd.heap.size wq.heap.size wq) vq (kR 6 dd me)):=η (hq.mono (sV _ _));have yO:=η hbq;clear hq hbq;refine HK.o _ _ ⟨fun _=>HS.o _ (ak (GD.trans yO.o) _),?_⟩;clear HK K;try simp only [aK]
    refine bO 3 κ rfl ?_;intro K HK;refine aC rfl ?_;try simp only [aV]
    refine wp_store_row (.tmp 6) (.tmp 61) rfl rfl rfl (aj L6.o (GD.trans yO.o)) dL rfl rfl ?_;intro w7 r7 g7;refine HK.o _ _ ⟨fun _=>HS.o _ (grownBy_trans (ak (GD.trans yO.o) _) g7),?_⟩;clear HK K;try simp only [aK]
    refine bO 4 κ rfl ?_;intro K HK;try simp only [aV]
    go_simp;refine HK.o _ _ ⟨fun h=>absurd rfl h,?_⟩;clear HK K;try simp only [aK]
    refine aO κ ?_;obtain⟨p0,p1,p2,p3,p4,p5,p6⟩:=aT r7;go_wp2;refine bodyPost_ret (v:=.tuple #[.agg #[ς CX x.log.length CY,ι x.sums.a,ι x.sums.b,ι x.sums.c,ι x.sums.d,ς ar3 x.ready.length cr3,ς Zd x.done.length Ze],vq]) (by simp [results,Tryz.results78,go_sem,p0,p1,p2,p3,p4,p5,p6]) rfl ?_;rw [qx.o,qy.o];have hzd:w.heap.size<=wd.heap.size:=(Wi.o.trans GD).size;have h6:w.heap.size+1+1+1<wd:=Nat.lt_of_lt_of_le (γ L6.o) GD.size;refine⟨_,_,rfl,(((Wj.o.mono (fK (GD.trans yO.o) _ _)).mono (iy g7 (.inl wP.o.1))).mono (jE wP.o.2)),((HQ.o.mono (iy g7 (.inl h6))).mono (jE hzd)),((Wi.o.trans GD).trans yO.o).grown g7 (fun k hk=>by simp at hk;omega)⟩
  |false=>
   by_cases hin:dd∈h.done
   ·as_aux_lemma=>
     have qx:Hid (bg h ⟨4,dd,hh,ps⟩=h):=by
      show bg h ⟨4,dd,hh,ps⟩=h;unfold bg;rw [if_neg (fun e=>by cases e),if_pos rfl,if_neg (by rw [show bM h.ready (Ms.deed ⟨4,dd,hh,ps⟩)=false from rd];simp)]
     have qy:Hid (bG h me ⟨4,dd,hh,ps⟩=kR 6 dd me):=by
      show bG h me ⟨4,dd,hh,ps⟩=kR 6 dd me;unfold bG;rw [if_neg (fun e=>by cases e),if_pos rfl,qx.o,if_pos hin]
     have Eu:=η hin;have RD:=η rd;clear hin rd;go_wp2_with fail
     refine(HIS.o _ rQ.o (γ lK.o) (aT lK.o).2.2.2.2.2.1).mono ?_;rw [RD.o];rintro e v2 ⟨rfl,bZ⟩;have jk:=η (aj lK.o bZ);have oD:=η (aj yN.o bZ);have jH:=η (aj wR.o bZ);have mg:=η (aj uZ.o bZ);have jC:=η (aj wQ.o bZ);have qA:=η (rQ.o.trans bZ);have nM:=η (wS.o.mono (fK bZ _ _));clear bZ;(try clear a0 a1 a2 a3 a4 a5 a6)
     (try clear b0)
     (try clear c0 c1 c2 c3)
     (try clear d0 d1 d2 d3 d4 d5 d6)
     obtain⟨a0,a1,a2,a3,a4,a5,a6⟩:=aT jk.o;obtain⟨c0,c1,c2,c3⟩:=cells4 jH.o;obtain⟨d0,d1,d2,d3,d4,d5,d6⟩:=aT jC.o;go_wp2_with fail
     refine(fC (n:=dd) v2 ((Of.iw (nM.o.mono (I9 _ _ _))).2.2)).mono ?_;rw [decide_eq_true Eu.o];rintro e v3 ⟨rfl,fH⟩;have qJ:=η (aj jk.o fH);have ug:=η (aj oD.o fH);have mD:=η (aj jH.o fH);have rU:=η (aj mg.o fH);have nN:=η (aj jC.o fH);have xK:=η (qA.o.trans fH);have Hr:=η (nM.o.mono (fK fH _ _));clear fH;(try clear a0 a1 a2 a3 a4 a5 a6)
     (try clear b0)
     (try clear c0 c1 c2 c3)
     (try clear d0 d1 d2 d3 d4 d5 d6)
     obtain⟨a0,a1,a2,a3,a4,a5,a6⟩:=aT qJ.o;obtain⟨c0,c1,c2,c3⟩:=cells4 mD.o;obtain⟨d0,d1,d2,d3,d4,d5,d6⟩:=aT nN.o;go_wp2_with fail
     have HS:Hid (∀W,v3.grownBy W (some (w.heap.size+1+1+1))->W.cell? ⟨v0.heap.size,0,none⟩=some (ς eU h.log.length eX)/\W.cell? ⟨v0.heap.size,1,none⟩=some (ι h.sums.a)/\W.cell? ⟨v0.heap.size,2,none⟩=some (ι h.sums.b)/\W.cell? ⟨v0.heap.size,3,none⟩=some (ι h.sums.c)/\W.cell? ⟨v0.heap.size,4,none⟩=some (ι h.sums.d)/\W.cell? ⟨v0.heap.size,5,none⟩=some (ς kG h.ready.length kH)/\W.cell? ⟨v0.heap.size,6,none⟩=some (ς o_ h.done.length pq)/\W.cell? ⟨w.heap.size+1+1,1,none⟩=some (ι dd)/\W.cell? ⟨w.heap.size+1,0,none⟩=some (ι me)):=fun W hW=>by
      have k:∀(b o:Nat) (u:Value),b≠w.heap.size+1+1+1->v3.cell? ⟨b,o,none⟩=some u->W.cell? ⟨b,o,none⟩=some u:=fun b o u hb e=>by
       rw [dh hW (World.block_lt_of_cell? v3 _ e) hb];exact e
      obtain⟨d0,d1,d2,d3,d4,d5,d6⟩:=aT nN.o;obtain⟨-,c1,-,-⟩:=cells4 mD.o;have hz:=BN.o;exact⟨k _ _ _ δ d0,k _ _ _ δ d1,k _ _ _ δ d2,k _ _ _ δ d3,k _ _ _ δ d4,k _ _ _ δ d5,k _ _ _ δ d6,k _ _ _ δ c1,k _ _ _ δ (cell1 ug.o)⟩
     (try clear a0 a1 a2 a3 a4 a5 a6)
     (try clear c0 c1 c2 c3)
     (try clear d0 d1 d2 d3 d4 d5 d6)
     refine bf (fun w'=>w'.cell? ⟨v0.heap.size,0,none⟩=some (ς eU h.log.length eX)/\w'.cell? ⟨v0.heap.size,1,none⟩=some (ι h.sums.a)/\w'.cell? ⟨v0.heap.size,2,none⟩=some (ι h.sums.b)/\w'.cell? ⟨v0.heap.size,3,none⟩=some (ι h.sums.c)/\w'.cell? ⟨v0.heap.size,4,none⟩=some (ι h.sums.d)/\w'.cell? ⟨v0.heap.size,5,none⟩=some (ς kG h.ready.length kH)/\w'.cell? ⟨v0.heap.size,6,none⟩=some (ς o_ h.done.length pq)/\w'.cell? ⟨w.heap.size+1+1,1,none⟩=some (ι dd)/\w'.cell? ⟨w.heap.size+1,0,none⟩=some (ι me)) 4 κ ?_;obtain⟨wd,hWd⟩:∃x:World,x=v3.drew:=⟨_,rfl⟩;rw [<-hWd];have GD:Grow v3 wd:=by rw [hWd];exact(Grow.refl _).drew
     have zD:v3.heap.size=wd.heap.size:=by rw [hWd];rfl
     have ZD:=η zD;clear hWd zD;refine ni [0,1] 6 κ (fun _ _ _ _ _ h=>h) (HS.o _ (ak GD _)) ?_;repeat (refine gQ ?_;try simp only [aK])
     refine ny ?_;refine bO 2 κ rfl ?_;intro K HK;try simp only [aV]
     go_simp;go_at_call 114
     refine(rP (B5:=w.heap.size+1+1) (B4:=w.heap.size+1) wd (HS.o _ (ak GD _)).2.2.2.2.2.2.2.1 (HS.o _ (ak GD _)).2.2.2.2.2.2.2.2 (Nat.lt_of_lt_of_le (γ mD.o) GD.size) (Nat.lt_of_lt_of_le (γ ug.o) GD.size) (show I64 6 from by unfold I64;decide) lM.o.2.2.1 CW.o).mono ?_;rintro e wq ⟨vq,rfl,hq,hbq⟩;have HQ:Hid (Sl Ty.ms (win wd.heap.size wq.heap.size wq) vq (kR 6 dd me)):=η (hq.mono (sV _ _));have yO:=η hbq;clear hq hbq;refine HK.o _ _ ⟨fun _=>HS.o _ (ak (GD.trans yO.o) _),?_⟩;clear HK K;try simp only [aK]
     refine bO 3 κ rfl ?_;intro K HK;refine aC rfl ?_;try simp only [aV]
     refine wp_store_row (.tmp 6) (.tmp 61) rfl rfl rfl (aj rU.o (GD.trans yO.o)) dL rfl rfl ?_;intro w7 r7 g7;refine HK.o _ _ ⟨fun _=>HS.o _ (grownBy_trans (ak (GD.trans yO.o) _) g7),?_⟩;clear HK K;try simp only [aK]
     refine bO 4 κ rfl ?_;intro K HK;try simp only [aV]
     go_simp;refine HK.o _ _ ⟨fun h=>absurd rfl h,?_⟩;clear HK K;try simp only [aK]
     refine aO κ ?_;obtain⟨p0,p1,p2,p3,p4,p5,p6⟩:=aT r7;go_wp2;refine bodyPost_ret (v:=.tuple #[.agg #[ς eU h.log.length eX,ι h.sums.a,ι h.sums.b,ι h.sums.c,ι h.sums.d,ς kG h.ready.length kH,ς o_ h.done.length pq],vq]) (by simp [results,Tryz.results78,go_sem,p0,p1,p2,p3,p4,p5,p6]) rfl ?_;rw [qx.o,qy.o];have hzd:w.heap.size<=wd.heap.size:=(xK.o.trans GD).size;have h6:w.heap.size+1+1+1<wd:=Nat.lt_of_lt_of_le (γ rU.o) GD.size;refine⟨_,_,rfl,(((Hr.o.mono (fK (GD.trans yO.o) _ _)).mono (iy g7 (.inl CG.o.1))).mono (jE CG.o.2)),((HQ.o.mono (iy g7 (.inl h6))).mono (jE hzd)),((xK.o.trans GD).trans yO.o).grown g7 (fun k hk=>by simp at hk;omega)⟩
   ·as_aux_lemma=>
     have qx:Hid (bg h ⟨4,dd,hh,ps⟩=h):=by
      show bg h ⟨4,dd,hh,ps⟩=h;unfold bg;rw [if_neg (fun e=>by cases e),if_pos rfl,if_neg (by rw [show bM h.ready (Ms.deed ⟨4,dd,hh,ps⟩)=false from rd];simp)]
     have qy:Hid (bG h me ⟨4,dd,hh,ps⟩=[]):=by
      show bG h me ⟨4,dd,hh,ps⟩=[];unfold bG;rw [if_neg (fun e=>by cases e),if_pos rfl,qx.o,if_neg hin]
     have Eu:=η hin;have RD:=η rd;clear hin rd;go_wp2_with fail
     refine(HIS.o _ rQ.o (γ lK.o) (aT lK.o).2.2.2.2.2.1).mono ?_;rw [RD.o];rintro e v2 ⟨rfl,bZ⟩;have jk:=η (aj lK.o bZ);have oD:=η (aj yN.o bZ);have jH:=η (aj wR.o bZ);have mg:=η (aj uZ.o bZ);have jC:=η (aj wQ.o bZ);have qA:=η (rQ.o.trans bZ);have nM:=η (wS.o.mono (fK bZ _ _));clear bZ;(try clear a0 a1 a2 a3 a4 a5 a6)
     (try clear b0)
     (try clear c0 c1 c2 c3)
     (try clear d0 d1 d2 d3 d4 d5 d6)
     obtain⟨a0,a1,a2,a3,a4,a5,a6⟩:=aT jk.o;obtain⟨c0,c1,c2,c3⟩:=cells4 jH.o;obtain⟨d0,d1,d2,d3,d4,d5,d6⟩:=aT jC.o;go_wp2_with fail
     refine(fC (n:=dd) v2 ((Of.iw (nM.o.mono (I9 _ _ _))).2.2)).mono ?_;rw [decide_eq_false Eu.o];rintro e v3 ⟨rfl,fH⟩;have qJ:=η (aj jk.o fH);have ug:=η (aj oD.o fH);have mD:=η (aj jH.o fH);have rU:=η (aj mg.o fH);have nN:=η (aj jC.o fH);have xK:=η (qA.o.trans fH);have Hr:=η (nM.o.mono (fK fH _ _));clear fH;(try clear a0 a1 a2 a3 a4 a5 a6)
     (try clear b0)
     (try clear c0 c1 c2 c3)
     (try clear d0 d1 d2 d3 d4 d5 d6)
     obtain⟨a0,a1,a2,a3,a4,a5,a6⟩:=aT qJ.o;obtain⟨c0,c1,c2,c3⟩:=cells4 mD.o;obtain⟨d0,d1,d2,d3,d4,d5,d6⟩:=aT nN.o;go_wp2_with (first|(refine wpList_store_row rfl (.tmp 6) (.tmp 74) rfl rfl rfl rU.o dL rfl rfl ?_))
     intro w7 r7 g7;obtain⟨p0,p1,p2,p3,p4,p5,p6⟩:=aT r7;(try clear a0 a1 a2 a3 a4 a5 a6)
     (try clear c0 c1 c2 c3)
     (try clear d0 d1 d2 d3 d4 d5 d6)
     go_wp2;refine bodyPost_ret (v:=.tuple #[.agg #[ς eU h.log.length eX,ι h.sums.a,ι h.sums.b,ι h.sums.c,ι h.sums.d,ς kG h.ready.length kH,ς o_ h.done.length pq],()]) (by simp [results,Tryz.results78,go_sem,p0,p1,p2,p3,p4,p5,p6]) rfl ?_;rw [qx.o,qy.o];refine⟨_,_,rfl,(Hr.o.mono (iy g7 (.inl CG.o.1))).mono (jE CG.o.2),Sl.nil _ _,xK.o.grown g7 (fun k hk=>by simp at hk;omega)⟩
 by_cases n5:kd=5
 ·subst n5
  clear n1 n4;cases rd:bM h.ready dd with
  |true=>
   as_aux_lemma=>
    have qx:Hid (bg h ⟨5,dd,hh,ps⟩=dV h ⟨3,dd,[]⟩):=by
     show bg h ⟨5,dd,hh,ps⟩=dV h ⟨3,dd,[]⟩;unfold bg;rw [if_neg (fun e=>by cases e),if_neg (fun e=>by cases e),if_pos rfl,if_pos rd]
    have qy:Hid (bG h me ⟨5,dd,hh,ps⟩=[]):=by
     show bG h me ⟨5,dd,hh,ps⟩=[];unfold bG;rw [if_neg (fun e=>by cases e),if_neg (fun e=>by cases e)]
    have RD:=η rd;clear rd;go_wp2_with fail
    refine(HIS.o _ rQ.o (γ lK.o) (aT lK.o).2.2.2.2.2.1).mono ?_;rw [RD.o];rintro e v2 ⟨rfl,bZ⟩;have jk:=η (aj lK.o bZ);have oD:=η (aj yN.o bZ);have jH:=η (aj wR.o bZ);have mg:=η (aj uZ.o bZ);have jC:=η (aj wQ.o bZ);have qA:=η (rQ.o.trans bZ);have nM:=η (wS.o.mono (fK bZ _ _));clear bZ;(try clear a0 a1 a2 a3 a4 a5 a6)
    (try clear b0)
    (try clear c0 c1 c2 c3)
    (try clear d0 d1 d2 d3 d4 d5 d6)
    obtain⟨a0,a1,a2,a3,a4,a5,a6⟩:=aT jk.o;obtain⟨c0,c1,c2,c3⟩:=cells4 jH.o;obtain⟨d0,d1,d2,d3,d4,d5,d6⟩:=aT jC.o;go_wp2_with fail
    refine(f7.o ⟨3,dd,[]⟩ _ _ qA.o ⟨_,rfl,_,rfl,(show I64 3 from by unfold I64;decide),lM.o.2.2.1,Sl.nil _ _⟩ (by intro p hp;simp at hp) σ).mono ?_;rintro e v3 ⟨vx,rfl,hX,fH⟩;generalize dV h ⟨3,dd,[]⟩=x at*;obtain⟨CX,CY,ar3,cr3,Zd,Ze,rfl⟩:=hX.dF;have Jg:Hid (Of Ty.hs (win v2.heap.size v3.heap.size v3) _ x):=η (hX.mono (sV _ _));have bR:Hid (v0.heap.size<v2):=η (γ jC.o);have qJ:=η (aj jk.o fH);have ug:=η (aj oD.o fH);have mD:=η (aj jH.o fH);have rU:=η (aj mg.o fH);have nN:=η (aj jC.o fH);have xK:=η (qA.o.trans fH);clear hX fH;(try clear a0 a1 a2 a3 a4 a5 a6)
    (try clear b0)
    (try clear c0 c1 c2 c3)
    (try clear d0 d1 d2 d3 d4 d5 d6)
    obtain⟨a0,a1,a2,a3,a4,a5,a6⟩:=aT qJ.o;obtain⟨c0,c1,c2,c3⟩:=cells4 mD.o;obtain⟨d0,d1,d2,d3,d4,d5,d6⟩:=aT nN.o;go_wp2_with (first|(refine wpList_store_row rfl (.tmp 9) (.tmp 73) rfl rfl rfl nN.o dL rfl rfl ?_))
    intro v4 r2 g2;have Es:=η r2;have Eo:Hid (v4.heap[w.heap.size]? =_):=η (aH qJ.o g2 (by have:=BN.o;simp;omega));have Q_:Hid (v4.heap[w.heap.size+1]? =_):=η (aH ug.o g2 (by have:=BN.o;simp;omega));have Ep:Hid (v4.heap[w.heap.size+1+1]? =_):=η (aH mD.o g2 (by have:=BN.o;simp;omega));have LX:Hid (v4.heap[w.heap.size+1+1+1]? =_):=η (aH rU.o g2 (by have:=BN.o;simp;omega));have V_:=η (xK.o.grown g2 (fun k hk=>by have:=BN.o;simp at hk;omega));have Rf:=η (Jg.o.mono (iy g2 (.inl bR.o)));have wP:Hid (w.heap.size+1+1+1<v2/\w.heap.size<=v2.heap.size):=η (by have:=BN.o;have:=bR.o;omega);clear r2 g2 Jg;(try clear a0 a1 a2 a3 a4 a5 a6)
    (try clear b0)
    (try clear c0 c1 c2 c3)
    (try clear d0 d1 d2 d3 d4 d5 d6)
    obtain⟨a0,a1,a2,a3,a4,a5,a6⟩:=aT Eo.o;obtain⟨c0,c1,c2,c3⟩:=cells4 Ep.o;obtain⟨d0,d1,d2,d3,d4,d5,d6⟩:=aT Es.o;go_wp2_with (first|(refine wpList_store_row rfl (.tmp 6) (.tmp 74) rfl rfl rfl LX.o dL rfl rfl ?_))
    intro w7 r7 g7;obtain⟨p0,p1,p2,p3,p4,p5,p6⟩:=aT r7;(try clear a0 a1 a2 a3 a4 a5 a6)
    (try clear c0 c1 c2 c3)
    (try clear d0 d1 d2 d3 d4 d5 d6)
    go_wp2;refine bodyPost_ret (v:=.tuple #[.agg #[ς CX x.log.length CY,ι x.sums.a,ι x.sums.b,ι x.sums.c,ι x.sums.d,ς ar3 x.ready.length cr3,ς Zd x.done.length Ze],()]) (by simp [results,Tryz.results78,go_sem,p0,p1,p2,p3,p4,p5,p6]) rfl ?_;rw [qx.o,qy.o];refine⟨_,_,rfl,(Rf.o.mono (iy g7 (.inl wP.o.1))).mono (jE wP.o.2),Sl.nil _ _,V_.o.grown g7 (fun k hk=>by simp at hk;omega)⟩
  |false=>
   as_aux_lemma=>
    have qx:Hid (bg h ⟨5,dd,hh,ps⟩=h):=by
     show bg h ⟨5,dd,hh,ps⟩=h;unfold bg;rw [if_neg (fun e=>by cases e),if_neg (fun e=>by cases e),if_pos rfl,if_neg (by rw [show bM h.ready (Ms.deed ⟨5,dd,hh,ps⟩)=false from rd];simp)]
    have qy:Hid (bG h me ⟨5,dd,hh,ps⟩=[]):=by
     show bG h me ⟨5,dd,hh,ps⟩=[];unfold bG;rw [if_neg (fun e=>by cases e),if_neg (fun e=>by cases e)]
    have RD:=η rd;clear rd;go_wp2_with fail
    refine(HIS.o _ rQ.o (γ lK.o) (aT lK.o).2.2.2.2.2.1).mono ?_;rw [RD.o];rintro e v2 ⟨rfl,bZ⟩;have jk:=η (aj lK.o bZ);have oD:=η (aj yN.o bZ);have jH:=η (aj wR.o bZ);have mg:=η (aj uZ.o bZ);have jC:=η (aj wQ.o bZ);have qA:=η (rQ.o.trans bZ);have nM:=η (wS.o.mono (fK bZ _ _));clear bZ;(try clear a0 a1 a2 a3 a4 a5 a6)
    (try clear b0)
    (try clear c0 c1 c2 c3)
    (try clear d0 d1 d2 d3 d4 d5 d6)
    obtain⟨a0,a1,a2,a3,a4,a5,a6⟩:=aT jk.o;obtain⟨c0,c1,c2,c3⟩:=cells4 jH.o;obtain⟨d0,d1,d2,d3,d4,d5,d6⟩:=aT jC.o;go_wp2_with (first|(refine wpList_store_row rfl (.tmp 6) (.tmp 74) rfl rfl rfl mg.o dL rfl rfl ?_))
    intro w7 r7 g7;obtain⟨p0,p1,p2,p3,p4,p5,p6⟩:=aT r7;(try clear a0 a1 a2 a3 a4 a5 a6)
    (try clear c0 c1 c2 c3)
    (try clear d0 d1 d2 d3 d4 d5 d6)
    go_wp2;refine bodyPost_ret (v:=.tuple #[.agg #[ς eU h.log.length eX,ι h.sums.a,ι h.sums.b,ι h.sums.c,ι h.sums.d,ς kG h.ready.length kH,ς o_ h.done.length pq],()]) (by simp [results,Tryz.results78,go_sem,p0,p1,p2,p3,p4,p5,p6]) rfl ?_;rw [qx.o,qy.o];refine⟨_,_,rfl,(nM.o.mono (iy g7 (.inl CG.o.1))).mono (jE CG.o.2),Sl.nil _ _,qA.o.grown g7 (fun k hk=>by simp at hk;omega)⟩
 ·as_aux_lemma=>
   have qx:Hid (bg h ⟨kd,dd,hh,ps⟩=h):=by
    show bg h ⟨kd,dd,hh,ps⟩=h;unfold bg;rw [if_neg n1,if_neg n4,if_neg n5]
   have qy:Hid (bG h me ⟨kd,dd,hh,ps⟩=[]):=by
    show bG h me ⟨kd,dd,hh,ps⟩=[];unfold bG;rw [if_neg n1,if_neg n4]
   have b1:(kd==1)=false:=by simpa using n1
   have b4:(kd==4)=false:=by simpa using n4
   have b5:(kd==5)=false:=by simpa using n5
   clear n1 n4 n5;go_wp2_with (first|(refine wpList_store_row rfl (.tmp 6) (.tmp 74) rfl rfl rfl uZ.o dL rfl rfl ?_))
   intro w7 r7 g7;obtain⟨p0,p1,p2,p3,p4,p5,p6⟩:=aT r7;(try clear a0 a1 a2 a3 a4 a5 a6)
   (try clear c0 c1 c2 c3)
   (try clear d0 d1 d2 d3 d4 d5 d6)
   go_wp2;refine bodyPost_ret (v:=.tuple #[.agg #[ς eU h.log.length eX,ι h.sums.a,ι h.sums.b,ι h.sums.c,ι h.sums.d,ς kG h.ready.length kH,ς o_ h.done.length pq],()]) (by simp [results,Tryz.results78,go_sem,p0,p1,p2,p3,p4,p5,p6]) rfl ?_;rw [qx.o,qy.o];refine⟨_,_,rfl,(wS.o.mono (iy g7 (.inl CG.o.1))).mono (jE CG.o.2),Sl.nil _ _,rQ.o.grown g7 (fun k hk=>by simp at hk;omega)⟩
end Go.Proofs.YtocnmkefmgmkbaaGreat
