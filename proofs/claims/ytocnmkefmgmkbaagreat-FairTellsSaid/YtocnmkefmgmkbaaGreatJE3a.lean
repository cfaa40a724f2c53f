/- Parts of proofs, joined: V3, V5. No condition beside those that each theorem names. -/
import Derived.Test.YtocnmkefmgmkbaaGreatJE1b
import Derived.Test.YtocnmkefmgmkbaaGreatJE6a
import Derived.Test.YtocnmkefmgmkbaaGreatJE4b
set_option maxRecDepth 100000
set_option maxHeartbeats 40000000
namespace Go.Proofs.YtocnmkefmgmkbaaGreat
open Go.RowKit
theorem yN {B5 B4:Nat} {aX d me:Int} (w:World) (h5:w.cell? ⟨B5,1,none⟩=some (J d)) (h4:w.cell? ⟨B4,0,none⟩=some (J me)) (_:B5<w.heap.size) (_:B4<w.heap.size) (ik:I64 aX) (id':I64 d) (im:I64 me):
  Calls Tryz.prog 114 #[J aX,.pointer (some ⟨B5,0,none⟩),.pointer (some ⟨B4,0,none⟩)] w fun e w'=>∃v',e=.returned v'/\Sl Ty.ms (ov (fun _=>none) w w') v' (o7 aX d me)/\aK w w':=by
 have HI:=I (And.intro ik (And.intro id' im));clear ik id' im;go_enter Tryz.func114,Tryz.ntmps114;go_wp2;go_ret;refine⟨_,rfl,?_,je⟩;exact Hf (T:=Ty.ms) ⟨_,rfl,HI.o.1,HI.o.2.1,HI.o.2.2,Sl.nil _ _⟩ (O4 (at_new w #[J aX,J d,J me,()] 85) (Nat.le_refl _)) ε ε
theorem Xv {v vm:Value} {h:Hs} {m:Ms} {me:Int} (w:World) (hv:Of Ty.hs w.cell? v h) (hm:Of Ty.ms w.cell? vm m) (hk:∀x∈h.bg,jg x.aH) (hkm:jg m.aH) (hn:(h.bg.length+1)*40<=140737488351232)
  (hp:∀x∈h.bg,x.aH.length*24<=140737488355328) (hpp:m.aH.length*24<=140737488355328) (hme:I64 me) (hmd:Made h):
  Calls Tryz.prog 78 #[v,J me,vm] w fun e w'=>∃v1 v2,e=.returned (.tuple #[v1,v2])/\Of Ty.hs (ov (fun _=>none) w w') v1 (dK h m)/\Sl Ty.ms (ov (fun _=>none) w w') v2 (dV h me m)/\aK w w':=by
 obtain⟨kd,dd,hh,ps⟩:=m;dsimp only at hkm hpp;obtain⟨al,cl,ar,cr,ad,cd,rfl⟩:=hv.ig;obtain⟨ap,cp,rfl⟩:∃ap cp,vm=.agg #[J kd,J dd,J hh,U ap ps.length cp]:=hm.ny;have hms:Sl Ty.pt w.cell? (U ap ps.length cp) ps/\I64 kd/\I64 dd/\I64 hh:=Of.yE hm;have e_:=(Of.oC hv).1;have vC:=I hms;have WQ:=I hme;have CN:=I (fun(W:World) (hW:aK w W)=>WV (d:=dd) W (hv.mono hW.sub) (hms.1.mono hW.sub) hkm);have HIS:=I (fun(W:World) (hW:aK w W) hb hc=>T_ (B:=w.heap.size) (d:=dd) W hb hc ((Of.oC hv).2.1.mono hW.sub));have CI:Hid (∀(W:World),aK w W->Calls Tryz.prog 38 #[U al h.bg.length cl] W fun e w'=>∃v',e=.returned v'/\Of Ty.hs (ov (fun _=>none) W w') v' h/\aK W w'):=I (fun(W:World) (hW:aK w W)=>by
  have Z:=vN W (e_.mono hW.sub) hk V hp;rw [<-(show h=jM h.bg from hmd)] at Z;exact Z)
 have HNT:=I (fun(r:Rc) (vr:Value) (W:World) (hW:aK w W) (hr:Of Ty.rc W.cell? vr r) (hkr:jg r.aH) (hpr:r.aH.length*24<=140737488355328)=>ZQ W (hv.mono hW.sub) hr hk hkr V hp hpr);have HKP:=I (And.intro hkm hpp);obtain⟨wz,hwz⟩:∃y:World,y=((((w.alloc (.cells #[U al h.bg.length cl,J h.aP.a,J h.aP.b,J h.aP.c,J h.aP.d,U ar h.ready.length cr,U ad h.done.length cd] 50)).alloc (.cells #[J me] 3)).alloc (.cells #[J kd,J dd,J hh,U ap ps.length cp] 85)).alloc (.cells #[(),J 0,J 0,J 0,J 0,(),()] 50)):=⟨_,rfl⟩;have Ed:Hid (aK w wz):=I (by rw [hwz];exact((((aG w).alloc _).alloc _).alloc _).alloc _);have A2W:Hid (wz.heap[w.heap.size]? =some (.cells #[U al h.bg.length cl,J h.aP.a,J h.aP.b,J h.aP.c,J h.aP.d,U ar h.ready.length cr,U ad h.done.length cd] 50 (0,0))):=I (by rw [hwz];exact bQ (bQ (bQ (bn _ _) _) _) _);have A2X:Hid (wz.heap[w.heap.size+1]? =some (.cells #[J me] 3 (0,0))):=I (by rw [hwz];exact bQ (bQ (by simpa using bn (w.alloc (.cells #[U al h.bg.length cl,J h.aP.a,J h.aP.b,J h.aP.c,J h.aP.d,U ar h.ready.length cr,U ad h.done.length cd] 50)) (.cells #[J me] 3)) _) _);have A2Y:Hid (wz.heap[w.heap.size+1+1]? =some (.cells #[J kd,J dd,J hh,U ap ps.length cp] 85 (0,0))):=I (by rw [hwz];exact bQ (by simpa using bn ((w.alloc (.cells #[U al h.bg.length cl,J h.aP.a,J h.aP.b,J h.aP.c,J h.aP.d,U ar h.ready.length cr,U ad h.done.length cd] 50)).alloc (.cells #[J me] 3)) (.cells #[J kd,J dd,J hh,U ap ps.length cp] 85)) _);have A2Z:Hid (wz.heap[w.heap.size+1+1+1]? =some (.cells #[(),J 0,J 0,J 0,J 0,(),()] 50 (0,0))):=I (by rw [hwz];exact by simpa using bn (((w.alloc (.cells #[U al h.bg.length cl,J h.aP.a,J h.aP.b,J h.aP.c,J h.aP.d,U ar h.ready.length cr,U ad h.done.length cd] 50)).alloc (.cells #[J me] 3)).alloc (.cells #[J kd,J dd,J hh,U ap ps.length cp] 85)) (.cells #[(),J 0,J 0,J 0,J 0,(),()] 50));have A20:Hid (w.heap.size+1+1+1<wz/\w.heap.size<=wz.heap.size):=I (by rw [hwz];simp;omega);have HMD:=I hmd;clear hv hm hk hkm hn hp hpp hme hmd hms e_;go_enter Tryz.func78,Tryz.ntmps78;go_wp2_with fail
 rw [<-hwz];clear hwz;refine(CI.o _ Ed.o).mono ?_;rintro e v0 ⟨vx,rfl,hX,zi⟩;obtain⟨iC,iD,oD,oG,uS,uT,rfl⟩:=hX.ig;have Y9:Hid (Of Ty.hs (win (wz).heap.size v0.heap.size v0) _ h):=I (hX.mono (zI _ _));have rL:=I (aF A2W.o zi);have OP:=I (aF A2X.o zi);have rN:=I (aF A2Y.o zi);have rR:=I (aF A2Z.o zi);have A1Z:=I (Ed.o.trans zi);clear hX zi;(try clear a0 a1 a2 a3 a4 a5 a6)
 (try clear b0)
 (try clear c0 c1 c2 c3)
 (try clear d0 d1 d2 d3 d4 d5 d6)
 obtain⟨a0,a1,a2,a3,a4,a5,a6⟩:=bZ rL.o;obtain⟨c0,c1,c2,c3⟩:=aT rN.o;have R9n:=bn v0 (.cells #[(),J 0,J 0,J 0,J 0,(),()] 50);go_wp2_with (first|(refine aQ rfl (.tmp 9) (.tmp 13) rfl rfl rfl R9n fO rfl rfl ?_))
 clear R9n;intro v1 r1 g1;have DT:=I r1;have qE:Hid (v1.heap[w.heap.size]? =_):=I (bJ (bQ rL.o _) g1 (by have:=(γ rL.o);simp;omega));have F6:Hid (v1.heap[w.heap.size+1]? =_):=I (bJ (bQ OP.o _) g1 (by have:=(γ OP.o);simp;omega));have DU:Hid (v1.heap[w.heap.size+1+1]? =_):=I (bJ (bQ rN.o _) g1 (by have:=(γ rN.o);simp;omega));have DV:Hid (v1.heap[w.heap.size+1+1+1]? =_):=I (bJ (bQ rR.o _) g1 (by have:=(γ rR.o);simp;omega));have zZ:=I ((A1Z.o.alloc (.cells #[(),J 0,J 0,J 0,J 0,(),()] 50)).grown g1 (fun k hk=>by have:=A1Z.o.size;simp at hk;omega));have DW:=I ((Y9.o.mono (jA ((aG v0).alloc _) _ _)).mono (kN g1 (.inr (Nat.le_refl _))));have JB:Hid (w.heap.size+1+1+1<v0):=I (γ rR.o);have Gt:Hid (w.heap.size+1+1+1<(wz).heap.size/\w.heap.size<=(wz).heap.size):=A20;clear r1 g1 Y9;(try clear a0 a1 a2 a3 a4 a5 a6)
 (try clear b0)
 (try clear c0 c1 c2 c3)
 (try clear d0 d1 d2 d3 d4 d5 d6)
 obtain⟨a0,a1,a2,a3,a4,a5,a6⟩:=bZ qE.o;obtain⟨c0,c1,c2,c3⟩:=aT DU.o;obtain⟨d0,d1,d2,d3,d4,d5,d6⟩:=bZ DT.o;by_cases n1:kd=1
 ·subst n1
  by_cases e10:iy h dd ps=10
  ·as_aux_lemma=>
    have wX:Hid (dK h ⟨1,dd,hh,ps⟩=h):=by
     show dK h ⟨1,dd,hh,ps⟩=h;unfold dK;rw [bC rfl,aV (by show¬(iy h dd ps=0/\_);rw [e10];simp)]
    have wY:Hid (dV h me ⟨1,dd,hh,ps⟩=[]):=by
     show dV h me ⟨1,dd,hh,ps⟩=[];unfold dV;rw [bC rfl,bC e10]
    have E10:=I e10;clear e10;go_wp2_with fail
    refine(CN.o _ zZ.o).mono ?_;rw [E10.o];rintro e v2 ⟨rfl,fE⟩;have mO:=I (aF qE.o fE);have uN:=I (aF F6.o fE);have nI:=I (aF DU.o fE);have rM:=I (aF DV.o fE);have m_:=I (aF DT.o fE);have xq:=I (zZ.o.trans fE);have tN:=I (DW.o.mono (jA fE _ _));clear fE;(try clear a0 a1 a2 a3 a4 a5 a6)
    (try clear b0)
    (try clear c0 c1 c2 c3)
    (try clear d0 d1 d2 d3 d4 d5 d6)
    obtain⟨a0,a1,a2,a3,a4,a5,a6⟩:=bZ mO.o;obtain⟨c0,c1,c2,c3⟩:=aT nI.o;obtain⟨d0,d1,d2,d3,d4,d5,d6⟩:=bZ m_.o;go_wp2_with (first|(refine aQ rfl (.tmp 6) (.tmp 42) rfl rfl rfl rM.o fO rfl rfl ?_))
    intro w7 r7 g7;obtain⟨p0,p1,p2,p3,p4,p5,p6⟩:=bZ r7;(try clear a0 a1 a2 a3 a4 a5 a6)
    (try clear c0 c1 c2 c3)
    (try clear d0 d1 d2 d3 d4 d5 d6)
    go_wp2;refine dw (v:=.tuple #[.agg #[U iC h.bg.length iD,J h.aP.a,J h.aP.b,J h.aP.c,J h.aP.d,U oD h.ready.length oG,U uS h.done.length uT],()]) (by simp [results,Tryz.results78,go_sem,p0,p1,p2,p3,p4,p5,p6]) rfl ?_;rw [wX.o,wY.o];refine⟨_,_,rfl,(tN.o.mono (kN g7 (.inl Gt.o.1))).mono (nC Gt.o.2),Sl.nil _ _,xq.o.grown g7 (fun k hk=>by simp at hk;omega)⟩
  by_cases e0:iy h dd ps=0
  ·cases rd:dP h.ready dd with
   |true=>
    as_aux_lemma=>
     have wX:Hid (dK h ⟨1,dd,hh,ps⟩=h):=by
      show dK h ⟨1,dd,hh,ps⟩=h;unfold dK;rw [bC rfl,aV (by show¬(_/\dP h.ready dd=false);rw [rd];simp)]
     have wY:Hid (dV h me ⟨1,dd,hh,ps⟩=o7 2 dd me):=by
      show dV h me ⟨1,dd,hh,ps⟩=o7 2 dd me;unfold dV;rw [bC rfl,aV (by show¬iy h dd ps=10;omega),bC e0]
     have E0:=I e0;have RD:=I rd;clear e0 rd e10;go_wp2_with fail
     refine(CN.o _ zZ.o).mono ?_;rw [E0.o];rintro e v2 ⟨rfl,fE⟩;have mO:=I (aF qE.o fE);have uN:=I (aF F6.o fE);have nI:=I (aF DU.o fE);have rM:=I (aF DV.o fE);have m_:=I (aF DT.o fE);have xq:=I (zZ.o.trans fE);have tN:=I (DW.o.mono (jA fE _ _));clear fE;(try clear a0 a1 a2 a3 a4 a5 a6)
     (try clear b0)
     (try clear c0 c1 c2 c3)
     (try clear d0 d1 d2 d3 d4 d5 d6)
     obtain⟨a0,a1,a2,a3,a4,a5,a6⟩:=bZ mO.o;obtain⟨c0,c1,c2,c3⟩:=aT nI.o;obtain⟨d0,d1,d2,d3,d4,d5,d6⟩:=bZ m_.o;go_wp2_with fail
     refine(HIS.o _ xq.o (γ mO.o) (bZ mO.o).2.2.2.2.2.1).mono ?_;rw [RD.o];rintro e v3 ⟨rfl,jv⟩;have xO:=I (aF mO.o jv);have Au:=I (aF uN.o jv);have rO:=I (aF nI.o jv);have yO:=I (aF rM.o jv);have tV:=I (aF m_.o jv);have Ey:=I (xq.o.trans jv);have P7:=I (tN.o.mono (jA jv _ _));clear jv;(try clear a0 a1 a2 a3 a4 a5 a6)
     (try clear b0)
     (try clear c0 c1 c2 c3)
     (try clear d0 d1 d2 d3 d4 d5 d6)
     obtain⟨a0,a1,a2,a3,a4,a5,a6⟩:=bZ xO.o;obtain⟨c0,c1,c2,c3⟩:=aT rO.o;obtain⟨d0,d1,d2,d3,d4,d5,d6⟩:=bZ tV.o;go_wp2_with fail
     have HS:Hid (∀W,v3.grownBy W (some (w.heap.size+1+1+1))->W.cell? ⟨v0,0,none⟩=some (U iC h.bg.length iD)/\W.cell? ⟨v0,1,none⟩=some (J h.aP.a)/\W.cell? ⟨v0,2,none⟩=some (J h.aP.b)/\W.cell? ⟨v0,3,none⟩=some (J h.aP.c)/\W.cell? ⟨v0,4,none⟩=some (J h.aP.d)/\W.cell? ⟨v0,5,none⟩=some (U oD h.ready.length oG)/\W.cell? ⟨v0,6,none⟩=some (U uS h.done.length uT)/\W.cell? ⟨w+1+1,1,none⟩=some (J dd)/\W.cell? ⟨w+1,0,none⟩=some (J me)):=fun W hW=>by
      have k:∀(b o:Nat) (u:Value),b≠w.heap.size+1+1+1->v3.cell? ⟨b,o,none⟩=some u->W.cell? ⟨b,o,none⟩=some u:=fun b o u hb e=>by
       rw [fM hW (eH v3 _ e) hb];exact e
      obtain⟨d0,d1,d2,d3,d4,d5,d6⟩:=bZ tV.o;obtain⟨-,c1,-,-⟩:=aT rO.o;have hz:=JB.o;exact⟨k _ _ _ V d0,k _ _ _ V d1,k _ _ _ V d2,k _ _ _ V d3,k _ _ _ V d4,k _ _ _ V d5,k _ _ _ V d6,k _ _ _ V c1,k _ _ _ V (cell1 Au.o)⟩
     (try clear a0 a1 a2 a3 a4 a5 a6)
     (try clear c0 c1 c2 c3)
     (try clear d0 d1 d2 d3 d4 d5 d6)
     refine dH (fun w'=>w'.cell? ⟨v0,0,none⟩=some (U iC h.bg.length iD)/\w'.cell? ⟨v0,1,none⟩=some (J h.aP.a)/\w'.cell? ⟨v0,2,none⟩=some (J h.aP.b)/\w'.cell? ⟨v0,3,none⟩=some (J h.aP.c)/\w'.cell? ⟨v0,4,none⟩=some (J h.aP.d)/\w'.cell? ⟨v0,5,none⟩=some (U oD h.ready.length oG)/\w'.cell? ⟨v0,6,none⟩=some (U uS h.done.length uT)/\w'.cell? ⟨w+1+1,1,none⟩=some (J dd)/\w'.cell? ⟨w+1,0,none⟩=some (J me)) 4 κ ?_;obtain⟨wd,hWd⟩:=χ v3.drew;rw [<-hWd];have GD:aK v3 wd:=by rw [hWd];exact(aG _).drew
     have zD:v3.heap.size=wd.heap.size:=by rw [hWd];rfl
     clear hWd zD;refine qJ [0,1] 6 κ (fun _ _ _ _ _ h=>h) (HS.o _ (aO GD _)) ?_;repeat (refine jY ?_;try simp only [bT])
     refine qK ?_;refine bO 2 κ rfl ?_;intro K M;try simp only [dD]
     go_simp;go_at_call 114
     refine(yN (B5:=w.heap.size+1+1) (B4:=w.heap.size+1) wd (HS.o _ (aO GD _)).2.2.2.2.2.2.2.1 (HS.o _ (aO GD _)).2.2.2.2.2.2.2.2 (Nat.lt_of_lt_of_le (γ rO.o) GD.size) (Nat.lt_of_lt_of_le (γ Au.o) GD.size) (show I64 2 from by unfold I64;decide) vC.o.2.2.1 WQ.o).mono ?_;rintro e wq ⟨vq,rfl,O,hbq⟩;have HQ:Hid (Sl Ty.ms (win wd.heap.size wq.heap.size wq) vq (o7 2 dd me)):=I (O.mono (zI _ _));have DX:=I hbq;clear O hbq;refine ψ M (fun _=>HS.o _ (aO (GD.trans DX.o) _)) ?_;try simp only [bT]
     refine bO 3 κ rfl ?_;intro K M;refine aY rfl ?_;try simp only [dD]
     refine b_ (.tmp 6) (.tmp 37) rfl rfl rfl (aF yO.o (GD.trans DX.o)) fO rfl rfl ?_;intro w7 r7 g7;refine ψ M (fun _=>HS.o _ (bD (aO (GD.trans DX.o) _) g7)) ?_;try simp only [bT]
     refine bO 4 κ rfl ?_;intro K M;try simp only [dD]
     go_simp;refine ψ M (fun h=>absurd rfl h) ?_;try simp only [bT]
     refine bW κ ?_;obtain⟨p0,p1,p2,p3,p4,p5,p6⟩:=bZ r7;go_wp2;refine dw (v:=.tuple #[.agg #[U iC h.bg.length iD,J h.aP.a,J h.aP.b,J h.aP.c,J h.aP.d,U oD h.ready.length oG,U uS h.done.length uT],vq]) (by simp [results,Tryz.results78,go_sem,p0,p1,p2,p3,p4,p5,p6]) rfl ?_;rw [wX.o,wY.o];have hzd:w.heap.size<=wd.heap.size:=(Ey.o.trans GD).size;have h6:w.heap.size+1+1+1<wd:=Nat.lt_of_lt_of_le (γ yO.o) GD.size;refine⟨_,_,rfl,(((P7.o.mono (jA (GD.trans DX.o) _ _)).mono (kN g7 (.inl Gt.o.1))).mono (nC Gt.o.2)),((HQ.o.mono (kN g7 (.inl h6))).mono (nC hzd)),((Ey.o.trans GD).trans DX.o).grown g7 (fun k hk=>by simp at hk;omega)⟩
   |false=>
    as_aux_lemma=>
     have wX:Hid (dK h ⟨1,dd,hh,ps⟩=gW h ⟨1,dd,ps⟩):=by
      show dK h ⟨1,dd,hh,ps⟩=gW h ⟨1,dd,ps⟩;unfold dK;rw [bC rfl,bC ⟨e0,rd⟩]
     have wY:Hid (dV h me ⟨1,dd,hh,ps⟩=o7 2 dd me):=by
      show dV h me ⟨1,dd,hh,ps⟩=o7 2 dd me;unfold dV;rw [bC rfl,aV (by show¬iy h dd ps=10;omega),bC e0]
     have E0:=I e0;have RD:=I rd;clear e0 rd e10;go_wp2_with fail
     refine(CN.o _ zZ.o).mono ?_;rw [E0.o];rintro e v2 ⟨rfl,fE⟩;have mO:=I (aF qE.o fE);have uN:=I (aF F6.o fE);have nI:=I (aF DU.o fE);have rM:=I (aF DV.o fE);have m_:=I (aF DT.o fE);have xq:=I (zZ.o.trans fE);have tN:=I (DW.o.mono (jA fE _ _));clear fE;(try clear a0 a1 a2 a3 a4 a5 a6)
     (try clear b0)
     (try clear c0 c1 c2 c3)
     (try clear d0 d1 d2 d3 d4 d5 d6)
     obtain⟨a0,a1,a2,a3,a4,a5,a6⟩:=bZ mO.o;obtain⟨c0,c1,c2,c3⟩:=aT nI.o;obtain⟨d0,d1,d2,d3,d4,d5,d6⟩:=bZ m_.o;go_wp2_with fail
     refine(HIS.o _ xq.o (γ mO.o) (bZ mO.o).2.2.2.2.2.1).mono ?_;rw [RD.o];rintro e v3 ⟨rfl,jv⟩;have xO:=I (aF mO.o jv);have Au:=I (aF uN.o jv);have rO:=I (aF nI.o jv);have yO:=I (aF rM.o jv);have tV:=I (aF m_.o jv);have Ey:=I (xq.o.trans jv);have P7:=I (tN.o.mono (jA jv _ _));clear jv;(try clear a0 a1 a2 a3 a4 a5 a6)
     (try clear b0)
     (try clear c0 c1 c2 c3)
     (try clear d0 d1 d2 d3 d4 d5 d6)
     obtain⟨a0,a1,a2,a3,a4,a5,a6⟩:=bZ xO.o;obtain⟨c0,c1,c2,c3⟩:=aT rO.o;obtain⟨d0,d1,d2,d3,d4,d5,d6⟩:=bZ tV.o;go_wp2_with fail
     refine(HNT.o ⟨1,dd,ps⟩ _ _ Ey.o ⟨_,rfl,_,rfl,vC.o.2.1,vC.o.2.2.1,vC.o.1.mono Ey.o.sub⟩ HKP.o.1 HKP.o.2).mono ?_;rintro e v4 ⟨vx,rfl,hX,Xw⟩;generalize gW h ⟨1,dd,ps⟩=x at*;obtain⟨Dh,Di,ar3,cr3,IN,Ch,rfl⟩:=hX.ig;have Kq:Hid (Of Ty.hs (win v3.heap.size v4.heap.size v4) _ x):=I (hX.mono (zI _ _));have OR:Hid (v0.heap.size<v3):=I (γ tV.o);have Nr:=I (aF xO.o Xw);have Za:=I (aF Au.o Xw);have Ns:=I (aF rO.o Xw);have Vp:=I (aF yO.o Xw);have Nu:=I (aF tV.o Xw);have rS:=I (Ey.o.trans Xw);clear hX Xw;(try clear a0 a1 a2 a3 a4 a5 a6)
     (try clear b0)
     (try clear c0 c1 c2 c3)
     (try clear d0 d1 d2 d3 d4 d5 d6)
     obtain⟨a0,a1,a2,a3,a4,a5,a6⟩:=bZ Nr.o;obtain⟨c0,c1,c2,c3⟩:=aT Ns.o;obtain⟨d0,d1,d2,d3,d4,d5,d6⟩:=bZ Nu.o;go_wp2_with (first|(refine aQ rfl (.tmp 9) (.tmp 36) rfl rfl rfl Nu.o fO rfl rfl ?_))
     intro v5 r2 g2;have Vr:=I r2;have rT:Hid (v5.heap[w.heap.size]? =_):=I (bJ Nr.o g2 (by have:=JB.o;simp;omega));have Vt:Hid (v5.heap[w.heap.size+1]? =_):=I (bJ Za.o g2 (by have:=JB.o;simp;omega));have Nv:Hid (v5.heap[w.heap.size+1+1]? =_):=I (bJ Ns.o g2 (by have:=JB.o;simp;omega));have Vu:Hid (v5.heap[w.heap.size+1+1+1]? =_):=I (bJ Vp.o g2 (by have:=JB.o;simp;omega));have sA:=I (rS.o.grown g2 (fun k hk=>by have:=JB.o;simp at hk;omega));have sB:=I (Kq.o.mono (kN g2 (.inl OR.o)));have Am:Hid (w.heap.size+1+1+1<v3/\w.heap.size<=v3.heap.size):=I (by have:=JB.o;have:=OR.o;omega);clear r2 g2 Kq;(try clear a0 a1 a2 a3 a4 a5 a6)
     (try clear b0)
     (try clear c0 c1 c2 c3)
     (try clear d0 d1 d2 d3 d4 d5 d6)
     obtain⟨a0,a1,a2,a3,a4,a5,a6⟩:=bZ rT.o;obtain⟨c0,c1,c2,c3⟩:=aT Nv.o;obtain⟨d0,d1,d2,d3,d4,d5,d6⟩:=bZ Vr.o;go_wp2_with fail
     have HS:Hid (∀W,v5.grownBy W (some (w.heap.size+1+1+1))->W.cell? ⟨v0,0,none⟩=some (U Dh x.bg.length Di)/\W.cell? ⟨v0,1,none⟩=some (J x.aP.a)/\W.cell? ⟨v0,2,none⟩=some (J x.aP.b)/\W.cell? ⟨v0,3,none⟩=some (J x.aP.c)/\W.cell? ⟨v0,4,none⟩=some (J x.aP.d)/\W.cell? ⟨v0,5,none⟩=some (U ar3 x.ready.length cr3)/\W.cell? ⟨v0,6,none⟩=some (U IN x.done.length Ch)/\W.cell? ⟨w+1+1,1,none⟩=some (J dd)/\W.cell? ⟨w+1,0,none⟩=some (J me)):=fun W hW=>by
      have k:∀(b o:Nat) (u:Value),b≠w.heap.size+1+1+1->v5.cell? ⟨b,o,none⟩=some u->W.cell? ⟨b,o,none⟩=some u:=fun b o u hb e=>by
       rw [fM hW (eH v5 _ e) hb];exact e
      obtain⟨d0,d1,d2,d3,d4,d5,d6⟩:=bZ Vr.o;obtain⟨-,c1,-,-⟩:=aT Nv.o;have hz:=JB.o;exact⟨k _ _ _ V d0,k _ _ _ V d1,k _ _ _ V d2,k _ _ _ V d3,k _ _ _ V d4,k _ _ _ V d5,k _ _ _ V d6,k _ _ _ V c1,k _ _ _ V (cell1 Vt.o)⟩
     (try clear a0 a1 a2 a3 a4 a5 a6)
     (try clear c0 c1 c2 c3)
     (try clear d0 d1 d2 d3 d4 d5 d6)
     refine dH (fun w'=>w'.cell? ⟨v0,0,none⟩=some (U Dh x.bg.length Di)/\w'.cell? ⟨v0,1,none⟩=some (J x.aP.a)/\w'.cell? ⟨v0,2,none⟩=some (J x.aP.b)/\w'.cell? ⟨v0,3,none⟩=some (J x.aP.c)/\w'.cell? ⟨v0,4,none⟩=some (J x.aP.d)/\w'.cell? ⟨v0,5,none⟩=some (U ar3 x.ready.length cr3)/\w'.cell? ⟨v0,6,none⟩=some (U IN x.done.length Ch)/\w'.cell? ⟨w+1+1,1,none⟩=some (J dd)/\w'.cell? ⟨w+1,0,none⟩=some (J me)) 4 κ ?_;obtain⟨wd,hWd⟩:=χ v5.drew;rw [<-hWd];have GD:aK v5 wd:=by rw [hWd];exact(aG _).drew
     have zD:v5.heap.size=wd.heap.size:=by rw [hWd];rfl
     clear hWd zD;refine qJ [0,1] 6 κ (fun _ _ _ _ _ h=>h) (HS.o _ (aO GD _)) ?_;repeat (refine jY ?_;try simp only [bT])
     refine qK ?_;refine bO 2 κ rfl ?_;intro K M;try simp only [dD]
     go_simp;go_at_call 114
     refine(yN (B5:=w.heap.size+1+1) (B4:=w.heap.size+1) wd (HS.o _ (aO GD _)).2.2.2.2.2.2.2.1 (HS.o _ (aO GD _)).2.2.2.2.2.2.2.2 (Nat.lt_of_lt_of_le (γ Nv.o) GD.size) (Nat.lt_of_lt_of_le (γ Vt.o) GD.size) (show I64 2 from by unfold I64;decide) vC.o.2.2.1 WQ.o).mono ?_;rintro e wq ⟨vq,rfl,O,hbq⟩;have HQ:Hid (Sl Ty.ms (win wd.heap.size wq.heap.size wq) vq (o7 2 dd me)):=I (O.mono (zI _ _));have DX:=I hbq;clear O hbq;refine ψ M (fun _=>HS.o _ (aO (GD.trans DX.o) _)) ?_;try simp only [bT]
     refine bO 3 κ rfl ?_;intro K M;refine aY rfl ?_;try simp only [dD]
     refine b_ (.tmp 6) (.tmp 37) rfl rfl rfl (aF Vu.o (GD.trans DX.o)) fO rfl rfl ?_;intro w7 r7 g7;refine ψ M (fun _=>HS.o _ (bD (aO (GD.trans DX.o) _) g7)) ?_;try simp only [bT]
     refine bO 4 κ rfl ?_;intro K M;try simp only [dD]
     go_simp;refine ψ M (fun h=>absurd rfl h) ?_;try simp only [bT]
     refine bW κ ?_;obtain⟨p0,p1,p2,p3,p4,p5,p6⟩:=bZ r7;go_wp2;refine dw (v:=.tuple #[.agg #[U Dh x.bg.length Di,J x.aP.a,J x.aP.b,J x.aP.c,J x.aP.d,U ar3 x.ready.length cr3,U IN x.done.length Ch],vq]) (by simp [results,Tryz.results78,go_sem,p0,p1,p2,p3,p4,p5,p6]) rfl ?_;rw [wX.o,wY.o];have hzd:w.heap.size<=wd.heap.size:=(sA.o.trans GD).size;have h6:w.heap.size+1+1+1<wd:=Nat.lt_of_lt_of_le (γ Vu.o) GD.size;refine⟨_,_,rfl,(((sB.o.mono (jA (GD.trans DX.o) _ _)).mono (kN g7 (.inl Am.o.1))).mono (nC Am.o.2)),((HQ.o.mono (kN g7 (.inl h6))).mono (nC hzd)),((sA.o.trans GD).trans DX.o).grown g7 (fun k hk=>by simp at hk;omega)⟩
  ·as_aux_lemma=>
    have wX:Hid (dK h ⟨1,dd,hh,ps⟩=h):=by
     show dK h ⟨1,dd,hh,ps⟩=h;unfold dK;rw [bC rfl,aV (fun Y=>e0 Y.1)]
    have wY:Hid (dV h me ⟨1,dd,hh,ps⟩=o7 3 dd me):=by
     show dV h me ⟨1,dd,hh,ps⟩=o7 3 dd me;unfold dV;rw [bC rfl,aV e10,aV e0]
    have lQ:(iy h dd ps==10)=false:=by simpa using e10
    have zi:(iy h dd ps==0)=false:=by simpa using e0
    clear e0 e10;generalize iy h dd ps=ve at*;go_wp2_with fail
    refine(CN.o _ zZ.o).mono ?_;rintro e v2 ⟨rfl,fE⟩;have mO:=I (aF qE.o fE);have uN:=I (aF F6.o fE);have nI:=I (aF DU.o fE);have rM:=I (aF DV.o fE);have m_:=I (aF DT.o fE);have xq:=I (zZ.o.trans fE);have tN:=I (DW.o.mono (jA fE _ _));clear fE;(try clear a0 a1 a2 a3 a4 a5 a6)
    (try clear b0)
    (try clear c0 c1 c2 c3)
    (try clear d0 d1 d2 d3 d4 d5 d6)
    obtain⟨a0,a1,a2,a3,a4,a5,a6⟩:=bZ mO.o;obtain⟨c0,c1,c2,c3⟩:=aT nI.o;obtain⟨d0,d1,d2,d3,d4,d5,d6⟩:=bZ m_.o;go_wp2_with fail
    have HS:Hid (∀W,v2.grownBy W (some (w.heap.size+1+1+1))->W.cell? ⟨v0,0,none⟩=some (U iC h.bg.length iD)/\W.cell? ⟨v0,1,none⟩=some (J h.aP.a)/\W.cell? ⟨v0,2,none⟩=some (J h.aP.b)/\W.cell? ⟨v0,3,none⟩=some (J h.aP.c)/\W.cell? ⟨v0,4,none⟩=some (J h.aP.d)/\W.cell? ⟨v0,5,none⟩=some (U oD h.ready.length oG)/\W.cell? ⟨v0,6,none⟩=some (U uS h.done.length uT)/\W.cell? ⟨w+1+1,1,none⟩=some (J dd)/\W.cell? ⟨w+1,0,none⟩=some (J me)):=fun W hW=>by
     have k:∀(b o:Nat) (u:Value),b≠w.heap.size+1+1+1->v2.cell? ⟨b,o,none⟩=some u->W.cell? ⟨b,o,none⟩=some u:=fun b o u hb e=>by
      rw [fM hW (eH v2 _ e) hb];exact e
     obtain⟨d0,d1,d2,d3,d4,d5,d6⟩:=bZ m_.o;obtain⟨-,c1,-,-⟩:=aT nI.o;have hz:=JB.o;exact⟨k _ _ _ V d0,k _ _ _ V d1,k _ _ _ V d2,k _ _ _ V d3,k _ _ _ V d4,k _ _ _ V d5,k _ _ _ V d6,k _ _ _ V c1,k _ _ _ V (cell1 uN.o)⟩
    (try clear a0 a1 a2 a3 a4 a5 a6)
    (try clear c0 c1 c2 c3)
    (try clear d0 d1 d2 d3 d4 d5 d6)
    refine dH (fun w'=>w'.cell? ⟨v0,0,none⟩=some (U iC h.bg.length iD)/\w'.cell? ⟨v0,1,none⟩=some (J h.aP.a)/\w'.cell? ⟨v0,2,none⟩=some (J h.aP.b)/\w'.cell? ⟨v0,3,none⟩=some (J h.aP.c)/\w'.cell? ⟨v0,4,none⟩=some (J h.aP.d)/\w'.cell? ⟨v0,5,none⟩=some (U oD h.ready.length oG)/\w'.cell? ⟨v0,6,none⟩=some (U uS h.done.length uT)/\w'.cell? ⟨w+1+1,1,none⟩=some (J dd)/\w'.cell? ⟨w+1,0,none⟩=some (J me)) 4 κ ?_;obtain⟨wd,hWd⟩:=χ v2.drew;rw [<-hWd];have GD:aK v2 wd:=by rw [hWd];exact(aG _).drew
    have zD:v2.heap.size=wd.heap.size:=by rw [hWd];rfl
    clear hWd zD;refine qJ [0,1] 6 κ (fun _ _ _ _ _ h=>h) (HS.o _ (aO GD _)) ?_;repeat (refine jY ?_;try simp only [bT])
    refine qK ?_;refine bO 2 κ rfl ?_;intro K M;try simp only [dD]
    go_simp;go_at_call 114
    refine(yN (B5:=w.heap.size+1+1) (B4:=w.heap.size+1) wd (HS.o _ (aO GD _)).2.2.2.2.2.2.2.1 (HS.o _ (aO GD _)).2.2.2.2.2.2.2.2 (Nat.lt_of_lt_of_le (γ nI.o) GD.size) (Nat.lt_of_lt_of_le (γ uN.o) GD.size) (show I64 3 from by unfold I64;decide) vC.o.2.2.1 WQ.o).mono ?_;rintro e wq ⟨vq,rfl,O,hbq⟩;have HQ:Hid (Sl Ty.ms (win wd.heap.size wq.heap.size wq) vq (o7 3 dd me)):=I (O.mono (zI _ _));have DX:=I hbq;clear O hbq;refine ψ M (fun _=>HS.o _ (aO (GD.trans DX.o) _)) ?_;try simp only [bT]
    refine bO 3 κ rfl ?_;intro K M;refine aY rfl ?_;try simp only [dD]
    refine b_ (.tmp 6) (.tmp 43) rfl rfl rfl (aF rM.o (GD.trans DX.o)) fO rfl rfl ?_;intro w7 r7 g7;refine ψ M (fun _=>HS.o _ (bD (aO (GD.trans DX.o) _) g7)) ?_;try simp only [bT]
    refine bO 4 κ rfl ?_;intro K M;try simp only [dD]
    go_simp;refine ψ M (fun h=>absurd rfl h) ?_;try simp only [bT]
    refine bW κ ?_;obtain⟨p0,p1,p2,p3,p4,p5,p6⟩:=bZ r7;go_wp2;refine dw (v:=.tuple #[.agg #[U iC h.bg.length iD,J h.aP.a,J h.aP.b,J h.aP.c,J h.aP.d,U oD h.ready.length oG,U uS h.done.length uT],vq]) (by simp [results,Tryz.results78,go_sem,p0,p1,p2,p3,p4,p5,p6]) rfl ?_;rw [wX.o,wY.o];have hzd:w.heap.size<=wd.heap.size:=(xq.o.trans GD).size;have h6:w.heap.size+1+1+1<wd:=Nat.lt_of_lt_of_le (γ rM.o) GD.size;refine⟨_,_,rfl,(((tN.o.mono (jA (GD.trans DX.o) _ _)).mono (kN g7 (.inl Gt.o.1))).mono (nC Gt.o.2)),((HQ.o.mono (kN g7 (.inl h6))).mono (nC hzd)),((xq.o.trans GD).trans DX.o).grown g7 (fun k hk=>by simp at hk;omega)⟩
 by_cases n4:kd=4
 ·subst n4
  clear n1;cases rd:dP h.ready dd with
  |true=>
   as_aux_lemma=>
    have hin:dd∈(gW h ⟨2,dd,[]⟩).done:=by rw [(K_ HMD.o rd).2];simp
    have wX:Hid (dK h ⟨4,dd,hh,ps⟩=gW h ⟨2,dd,[]⟩):=by
     show dK h ⟨4,dd,hh,ps⟩=gW h ⟨2,dd,[]⟩;unfold dK;rw [aV (fun e=>by cases e),bC rfl,bC rd]
    have wY:Hid (dV h me ⟨4,dd,hh,ps⟩=o7 6 dd me):=by
     show dV h me ⟨4,dd,hh,ps⟩=o7 6 dd me;unfold dV;rw [aV (fun e=>by cases e),bC rfl,wX.o,bC hin]
    have Lr:=I hin;have RD:=I rd;clear hin rd;go_wp2_with fail
    refine(HIS.o _ zZ.o (γ qE.o) (bZ qE.o).2.2.2.2.2.1).mono ?_;rw [RD.o];rintro e v2 ⟨rfl,fE⟩;have mO:=I (aF qE.o fE);have uN:=I (aF F6.o fE);have nI:=I (aF DU.o fE);have rM:=I (aF DV.o fE);have m_:=I (aF DT.o fE);have xq:=I (zZ.o.trans fE);have tN:=I (DW.o.mono (jA fE _ _));clear fE;(try clear a0 a1 a2 a3 a4 a5 a6)
    (try clear b0)
    (try clear c0 c1 c2 c3)
    (try clear d0 d1 d2 d3 d4 d5 d6)
    obtain⟨a0,a1,a2,a3,a4,a5,a6⟩:=bZ mO.o;obtain⟨c0,c1,c2,c3⟩:=aT nI.o;obtain⟨d0,d1,d2,d3,d4,d5,d6⟩:=bZ m_.o;go_wp2_with fail
    refine(HNT.o ⟨2,dd,[]⟩ _ _ xq.o ⟨_,rfl,_,rfl,(show I64 2 from by unfold I64;decide),vC.o.2.2.1,Sl.nil _ _⟩ (by intro p hp;simp at hp) σ).mono ?_;rintro e v3 ⟨vx,rfl,hX,jv⟩;generalize gW h ⟨2,dd,[]⟩=x at*;obtain⟨Dh,Di,ar3,cr3,IN,Ch,rfl⟩:=hX.ig;have Kq:Hid (Of Ty.hs (win v2.heap.size v3.heap.size v3) _ x):=I (hX.mono (zI _ _));have OR:Hid (v0.heap.size<v2):=I (γ m_.o);have xO:=I (aF mO.o jv);have Au:=I (aF uN.o jv);have rO:=I (aF nI.o jv);have yO:=I (aF rM.o jv);have tV:=I (aF m_.o jv);have Ey:=I (xq.o.trans jv);clear hX jv;(try clear a0 a1 a2 a3 a4 a5 a6)
    (try clear b0)
    (try clear c0 c1 c2 c3)
    (try clear d0 d1 d2 d3 d4 d5 d6)
    obtain⟨a0,a1,a2,a3,a4,a5,a6⟩:=bZ xO.o;obtain⟨c0,c1,c2,c3⟩:=aT rO.o;obtain⟨d0,d1,d2,d3,d4,d5,d6⟩:=bZ tV.o;go_wp2_with (first|(refine aQ rfl (.tmp 9) (.tmp 55) rfl rfl rfl tV.o fO rfl rfl ?_))
    intro v4 r2 g2;have Nu:=I r2;have Nr:Hid (v4.heap[w.heap.size]? =_):=I (bJ xO.o g2 (by have:=JB.o;simp;omega));have Za:Hid (v4.heap[w.heap.size+1]? =_):=I (bJ Au.o g2 (by have:=JB.o;simp;omega));have Ns:Hid (v4.heap[w.heap.size+1+1]? =_):=I (bJ rO.o g2 (by have:=JB.o;simp;omega));have Vp:Hid (v4.heap[w.heap.size+1+1+1]? =_):=I (bJ yO.o g2 (by have:=JB.o;simp;omega));have rS:=I (Ey.o.grown g2 (fun k hk=>by have:=JB.o;simp at hk;omega));have Zb:=I (Kq.o.mono (kN g2 (.inl OR.o)));have Am:Hid (w.heap.size+1+1+1<v2/\w.heap.size<=v2.heap.size):=I (by have:=JB.o;have:=OR.o;omega);clear r2 g2 Kq;(try clear a0 a1 a2 a3 a4 a5 a6)
    (try clear b0)
    (try clear c0 c1 c2 c3)
    (try clear d0 d1 d2 d3 d4 d5 d6)
    obtain⟨a0,a1,a2,a3,a4,a5,a6⟩:=bZ Nr.o;obtain⟨c0,c1,c2,c3⟩:=aT Ns.o;obtain⟨d0,d1,d2,d3,d4,d5,d6⟩:=bZ Nu.o;go_wp2_with fail
    refine(iV (n:=dd) v4 ((Of.oC (Zb.o.mono (QF _ _ _))).2.2)).mono ?_;rw [decide_eq_true Lr.o];rintro e v5 ⟨rfl,Ls⟩;have rT:=I (aF Nr.o Ls);have Vt:=I (aF Za.o Ls);have Nv:=I (aF Ns.o Ls);have Vu:=I (aF Vp.o Ls);have Vr:=I (aF Nu.o Ls);have sA:=I (rS.o.trans Ls);have sB:=I (Zb.o.mono (jA Ls _ _));clear Ls;(try clear a0 a1 a2 a3 a4 a5 a6)
    (try clear b0)
    (try clear c0 c1 c2 c3)
    (try clear d0 d1 d2 d3 d4 d5 d6)
    obtain⟨a0,a1,a2,a3,a4,a5,a6⟩:=bZ rT.o;obtain⟨c0,c1,c2,c3⟩:=aT Nv.o;obtain⟨d0,d1,d2,d3,d4,d5,d6⟩:=bZ Vr.o;go_wp2_with fail
    have HS:Hid (∀W,v5.grownBy W (some (w.heap.size+1+1+1))->W.cell? ⟨v0,0,none⟩=some (U Dh x.bg.length Di)/\W.cell? ⟨v0,1,none⟩=some (J x.aP.a)/\W.cell? ⟨v0,2,none⟩=some (J x.aP.b)/\W.cell? ⟨v0,3,none⟩=some (J x.aP.c)/\W.cell? ⟨v0,4,none⟩=some (J x.aP.d)/\W.cell? ⟨v0,5,none⟩=some (U ar3 x.ready.length cr3)/\W.cell? ⟨v0,6,none⟩=some (U IN x.done.length Ch)/\W.cell? ⟨w+1+1,1,none⟩=some (J dd)/\W.cell? ⟨w+1,0,none⟩=some (J me)):=fun W hW=>by
     have k:∀(b o:Nat) (u:Value),b≠w.heap.size+1+1+1->v5.cell? ⟨b,o,none⟩=some u->W.cell? ⟨b,o,none⟩=some u:=fun b o u hb e=>by
      rw [fM hW (eH v5 _ e) hb];exact e
     obtain⟨d0,d1,d2,d3,d4,d5,d6⟩:=bZ Vr.o;obtain⟨-,c1,-,-⟩:=aT Nv.o;have hz:=JB.o;exact⟨k _ _ _ V d0,k _ _ _ V d1,k _ _ _ V d2,k _ _ _ V d3,k _ _ _ V d4,k _ _ _ V d5,k _ _ _ V d6,k _ _ _ V c1,k _ _ _ V (cell1 Vt.o)⟩
    (try clear a0 a1 a2 a3 a4 a5 a6)
    (try clear c0 c1 c2 c3)
    (try clear d0 d1 d2 d3 d4 d5 d6)
    refine dH (fun w'=>w'.cell? ⟨v0,0,none⟩=some (U Dh x.bg.length Di)/\w'.cell? ⟨v0,1,none⟩=some (J x.aP.a)/\w'.cell? ⟨v0,2,none⟩=some (J x.aP.b)/\w'.cell? ⟨v0,3,none⟩=some (J x.aP.c)/\w'.cell? ⟨v0,4,none⟩=some (J x.aP.d)/\w'.cell? ⟨v0,5,none⟩=some (U ar3 x.ready.length cr3)/\w'.cell? ⟨v0,6,none⟩=some (U IN x.done.length Ch)/\w'.cell? ⟨w+1+1,1,none⟩=some (J dd)/\w'.cell? ⟨w+1,0,none⟩=some (J me)) 4 κ ?_;obtain⟨wd,hWd⟩:=χ v5.drew;rw [<-hWd];have GD:aK v5 wd:=by rw [hWd];exact(aG _).drew
    have zD:v5.heap.size=wd.heap.size:=by rw [hWd];rfl
    clear hWd zD;refine qJ [0,1] 6 κ (fun _ _ _ _ _ h=>h) (HS.o _ (aO GD _)) ?_;repeat (refine jY ?_;try simp only [bT])
    refine qK ?_;refine bO 2 κ rfl ?_;intro K M;try simp only [dD]
    go_simp;go_at_call 114
    refine(yN (B5:=w.heap.size+1+1) (B4:=w.heap.size+1) wd (HS.o _ (aO GD _)).2.2.2.2.2.2.2.1 (HS.o _ (aO GD _)).2.2.2.2.2.2.2.2 (Nat.lt_of_lt_of_le (γ Nv.o) GD.size) (Nat.lt_of_lt_of_le (γ Vt.o) GD.size) (show I64 6 from by unfold I64;decide) vC.o.2.2.1 WQ.o).mono ?_;rintro e wq ⟨vq,rfl,O,hbq⟩;have HQ:Hid (Sl Ty.ms (win wd.heap.size wq.heap.size wq) vq (o7 6 dd me)):=I (O.mono (zI _ _));have DX:=I hbq;clear O hbq;refine ψ M (fun _=>HS.o _ (aO (GD.trans DX.o) _)) ?_;try simp only [bT]
    refine bO 3 κ rfl ?_;intro K M;refine aY rfl ?_;try simp only [dD]
    refine b_ (.tmp 6) (.tmp 61) rfl rfl rfl (aF Vu.o (GD.trans DX.o)) fO rfl rfl ?_;intro w7 r7 g7;refine ψ M (fun _=>HS.o _ (bD (aO (GD.trans DX.o) _) g7)) ?_;try simp only [bT]
    refine bO 4 κ rfl ?_;intro K M;try simp only [dD]
    go_simp;refine ψ M (fun h=>absurd rfl h) ?_;try simp only [bT]
    refine bW κ ?_;obtain⟨p0,p1,p2,p3,p4,p5,p6⟩:=bZ r7;go_wp2;refine dw (v:=.tuple #[.agg #[U Dh x.bg.length Di,J x.aP.a,J x.aP.b,J x.aP.c,J x.aP.d,U ar3 x.ready.length cr3,U IN x.done.length Ch],vq]) (by simp [results,Tryz.results78,go_sem,p0,p1,p2,p3,p4,p5,p6]) rfl ?_;rw [wX.o,wY.o];have hzd:w.heap.size<=wd.heap.size:=(sA.o.trans GD).size;have h6:w.heap.size+1+1+1<wd:=Nat.lt_of_lt_of_le (γ Vu.o) GD.size;refine⟨_,_,rfl,(((sB.o.mono (jA (GD.trans DX.o) _ _)).mono (kN g7 (.inl Am.o.1))).mono (nC Am.o.2)),((HQ.o.mono (kN g7 (.inl h6))).mono (nC hzd)),((sA.o.trans GD).trans DX.o).grown g7 (fun k hk=>by simp at hk;omega)⟩
  |false=>
   by_cases hin:dd∈h.done
   ·as_aux_lemma=>
     have wX:Hid (dK h ⟨4,dd,hh,ps⟩=h):=by
      show dK h ⟨4,dd,hh,ps⟩=h;unfold dK;rw [aV (fun e=>by cases e),bC rfl,aV (by rw [show dP h.ready (Ms.aJ ⟨4,dd,hh,ps⟩)=false from rd];simp)]
     have wY:Hid (dV h me ⟨4,dd,hh,ps⟩=o7 6 dd me):=by
      show dV h me ⟨4,dd,hh,ps⟩=o7 6 dd me;unfold dV;rw [aV (fun e=>by cases e),bC rfl,wX.o,bC hin]
     have Lr:=I hin;have RD:=I rd;clear hin rd;go_wp2_with fail
     refine(HIS.o _ zZ.o (γ qE.o) (bZ qE.o).2.2.2.2.2.1).mono ?_;rw [RD.o];rintro e v2 ⟨rfl,fE⟩;have mO:=I (aF qE.o fE);have uN:=I (aF F6.o fE);have nI:=I (aF DU.o fE);have rM:=I (aF DV.o fE);have m_:=I (aF DT.o fE);have xq:=I (zZ.o.trans fE);have tN:=I (DW.o.mono (jA fE _ _));clear fE;(try clear a0 a1 a2 a3 a4 a5 a6)
     (try clear b0)
     (try clear c0 c1 c2 c3)
     (try clear d0 d1 d2 d3 d4 d5 d6)
     obtain⟨a0,a1,a2,a3,a4,a5,a6⟩:=bZ mO.o;obtain⟨c0,c1,c2,c3⟩:=aT nI.o;obtain⟨d0,d1,d2,d3,d4,d5,d6⟩:=bZ m_.o;go_wp2_with fail
     refine(iV (n:=dd) v2 ((Of.oC (tN.o.mono (QF _ _ _))).2.2)).mono ?_;rw [decide_eq_true Lr.o];rintro e v3 ⟨rfl,jv⟩;have xO:=I (aF mO.o jv);have Au:=I (aF uN.o jv);have rO:=I (aF nI.o jv);have yO:=I (aF rM.o jv);have tV:=I (aF m_.o jv);have Ey:=I (xq.o.trans jv);have P7:=I (tN.o.mono (jA jv _ _));clear jv;(try clear a0 a1 a2 a3 a4 a5 a6)
     (try clear b0)
     (try clear c0 c1 c2 c3)
     (try clear d0 d1 d2 d3 d4 d5 d6)
     obtain⟨a0,a1,a2,a3,a4,a5,a6⟩:=bZ xO.o;obtain⟨c0,c1,c2,c3⟩:=aT rO.o;obtain⟨d0,d1,d2,d3,d4,d5,d6⟩:=bZ tV.o;go_wp2_with fail
     have HS:Hid (∀W,v3.grownBy W (some (w.heap.size+1+1+1))->W.cell? ⟨v0,0,none⟩=some (U iC h.bg.length iD)/\W.cell? ⟨v0,1,none⟩=some (J h.aP.a)/\W.cell? ⟨v0,2,none⟩=some (J h.aP.b)/\W.cell? ⟨v0,3,none⟩=some (J h.aP.c)/\W.cell? ⟨v0,4,none⟩=some (J h.aP.d)/\W.cell? ⟨v0,5,none⟩=some (U oD h.ready.length oG)/\W.cell? ⟨v0,6,none⟩=some (U uS h.done.length uT)/\W.cell? ⟨w+1+1,1,none⟩=some (J dd)/\W.cell? ⟨w+1,0,none⟩=some (J me)):=fun W hW=>by
      have k:∀(b o:Nat) (u:Value),b≠w.heap.size+1+1+1->v3.cell? ⟨b,o,none⟩=some u->W.cell? ⟨b,o,none⟩=some u:=fun b o u hb e=>by
       rw [fM hW (eH v3 _ e) hb];exact e
      obtain⟨d0,d1,d2,d3,d4,d5,d6⟩:=bZ tV.o;obtain⟨-,c1,-,-⟩:=aT rO.o;have hz:=JB.o;exact⟨k _ _ _ V d0,k _ _ _ V d1,k _ _ _ V d2,k _ _ _ V d3,k _ _ _ V d4,k _ _ _ V d5,k _ _ _ V d6,k _ _ _ V c1,k _ _ _ V (cell1 Au.o)⟩
     (try clear a0 a1 a2 a3 a4 a5 a6)
     (try clear c0 c1 c2 c3)
     (try clear d0 d1 d2 d3 d4 d5 d6)
     refine dH (fun w'=>w'.cell? ⟨v0,0,none⟩=some (U iC h.bg.length iD)/\w'.cell? ⟨v0,1,none⟩=some (J h.aP.a)/\w'.cell? ⟨v0,2,none⟩=some (J h.aP.b)/\w'.cell? ⟨v0,3,none⟩=some (J h.aP.c)/\w'.cell? ⟨v0,4,none⟩=some (J h.aP.d)/\w'.cell? ⟨v0,5,none⟩=some (U oD h.ready.length oG)/\w'.cell? ⟨v0,6,none⟩=some (U uS h.done.length uT)/\w'.cell? ⟨w+1+1,1,none⟩=some (J dd)/\w'.cell? ⟨w+1,0,none⟩=some (J me)) 4 κ ?_;obtain⟨wd,hWd⟩:=χ v3.drew;rw [<-hWd];have GD:aK v3 wd:=by rw [hWd];exact(aG _).drew
     have zD:v3.heap.size=wd.heap.size:=by rw [hWd];rfl
     clear hWd zD;refine qJ [0,1] 6 κ (fun _ _ _ _ _ h=>h) (HS.o _ (aO GD _)) ?_;repeat (refine jY ?_;try simp only [bT])
     refine qK ?_;refine bO 2 κ rfl ?_;intro K M;try simp only [dD]
     go_simp;go_at_call 114
     refine(yN (B5:=w.heap.size+1+1) (B4:=w.heap.size+1) wd (HS.o _ (aO GD _)).2.2.2.2.2.2.2.1 (HS.o _ (aO GD _)).2.2.2.2.2.2.2.2 (Nat.lt_of_lt_of_le (γ rO.o) GD.size) (Nat.lt_of_lt_of_le (γ Au.o) GD.size) (show I64 6 from by unfold I64;decide) vC.o.2.2.1 WQ.o).mono ?_;rintro e wq ⟨vq,rfl,O,hbq⟩;have HQ:Hid (Sl Ty.ms (win wd.heap.size wq.heap.size wq) vq (o7 6 dd me)):=I (O.mono (zI _ _));have DX:=I hbq;clear O hbq;refine ψ M (fun _=>HS.o _ (aO (GD.trans DX.o) _)) ?_;try simp only [bT]
     refine bO 3 κ rfl ?_;intro K M;refine aY rfl ?_;try simp only [dD]
     refine b_ (.tmp 6) (.tmp 61) rfl rfl rfl (aF yO.o (GD.trans DX.o)) fO rfl rfl ?_;intro w7 r7 g7;refine ψ M (fun _=>HS.o _ (bD (aO (GD.trans DX.o) _) g7)) ?_;try simp only [bT]
     refine bO 4 κ rfl ?_;intro K M;try simp only [dD]
     go_simp;refine ψ M (fun h=>absurd rfl h) ?_;try simp only [bT]
     refine bW κ ?_;obtain⟨p0,p1,p2,p3,p4,p5,p6⟩:=bZ r7;go_wp2;refine dw (v:=.tuple #[.agg #[U iC h.bg.length iD,J h.aP.a,J h.aP.b,J h.aP.c,J h.aP.d,U oD h.ready.length oG,U uS h.done.length uT],vq]) (by simp [results,Tryz.results78,go_sem,p0,p1,p2,p3,p4,p5,p6]) rfl ?_;rw [wX.o,wY.o];have hzd:w.heap.size<=wd.heap.size:=(Ey.o.trans GD).size;have h6:w.heap.size+1+1+1<wd:=Nat.lt_of_lt_of_le (γ yO.o) GD.size;refine⟨_,_,rfl,(((P7.o.mono (jA (GD.trans DX.o) _ _)).mono (kN g7 (.inl Gt.o.1))).mono (nC Gt.o.2)),((HQ.o.mono (kN g7 (.inl h6))).mono (nC hzd)),((Ey.o.trans GD).trans DX.o).grown g7 (fun k hk=>by simp at hk;omega)⟩
   ·as_aux_lemma=>
     have wX:Hid (dK h ⟨4,dd,hh,ps⟩=h):=by
      show dK h ⟨4,dd,hh,ps⟩=h;unfold dK;rw [aV (fun e=>by cases e),bC rfl,aV (by rw [show dP h.ready (Ms.aJ ⟨4,dd,hh,ps⟩)=false from rd];simp)]
     have wY:Hid (dV h me ⟨4,dd,hh,ps⟩=[]):=by
      show dV h me ⟨4,dd,hh,ps⟩=[];unfold dV;rw [aV (fun e=>by cases e),bC rfl,wX.o,aV hin]
     have Lr:=I hin;have RD:=I rd;clear hin rd;go_wp2_with fail
     refine(HIS.o _ zZ.o (γ qE.o) (bZ qE.o).2.2.2.2.2.1).mono ?_;rw [RD.o];rintro e v2 ⟨rfl,fE⟩;have mO:=I (aF qE.o fE);have uN:=I (aF F6.o fE);have nI:=I (aF DU.o fE);have rM:=I (aF DV.o fE);have m_:=I (aF DT.o fE);have xq:=I (zZ.o.trans fE);have tN:=I (DW.o.mono (jA fE _ _));clear fE;(try clear a0 a1 a2 a3 a4 a5 a6)
     (try clear b0)
     (try clear c0 c1 c2 c3)
     (try clear d0 d1 d2 d3 d4 d5 d6)
     obtain⟨a0,a1,a2,a3,a4,a5,a6⟩:=bZ mO.o;obtain⟨c0,c1,c2,c3⟩:=aT nI.o;obtain⟨d0,d1,d2,d3,d4,d5,d6⟩:=bZ m_.o;go_wp2_with fail
     refine(iV (n:=dd) v2 ((Of.oC (tN.o.mono (QF _ _ _))).2.2)).mono ?_;rw [decide_eq_false Lr.o];rintro e v3 ⟨rfl,jv⟩;have xO:=I (aF mO.o jv);have Au:=I (aF uN.o jv);have rO:=I (aF nI.o jv);have yO:=I (aF rM.o jv);have tV:=I (aF m_.o jv);have Ey:=I (xq.o.trans jv);have P7:=I (tN.o.mono (jA jv _ _));clear jv;(try clear a0 a1 a2 a3 a4 a5 a6)
     (try clear b0)
     (try clear c0 c1 c2 c3)
     (try clear d0 d1 d2 d3 d4 d5 d6)
     obtain⟨a0,a1,a2,a3,a4,a5,a6⟩:=bZ xO.o;obtain⟨c0,c1,c2,c3⟩:=aT rO.o;obtain⟨d0,d1,d2,d3,d4,d5,d6⟩:=bZ tV.o;go_wp2_with (first|(refine aQ rfl (.tmp 6) (.tmp 74) rfl rfl rfl yO.o fO rfl rfl ?_))
     intro w7 r7 g7;obtain⟨p0,p1,p2,p3,p4,p5,p6⟩:=bZ r7;(try clear a0 a1 a2 a3 a4 a5 a6)
     (try clear c0 c1 c2 c3)
     (try clear d0 d1 d2 d3 d4 d5 d6)
     go_wp2;refine dw (v:=.tuple #[.agg #[U iC h.bg.length iD,J h.aP.a,J h.aP.b,J h.aP.c,J h.aP.d,U oD h.ready.length oG,U uS h.done.length uT],()]) (by simp [results,Tryz.results78,go_sem,p0,p1,p2,p3,p4,p5,p6]) rfl ?_;rw [wX.o,wY.o];refine⟨_,_,rfl,(P7.o.mono (kN g7 (.inl Gt.o.1))).mono (nC Gt.o.2),Sl.nil _ _,Ey.o.grown g7 (fun k hk=>by simp at hk;omega)⟩
 by_cases n5:kd=5
 ·subst n5
  clear n1 n4;cases rd:dP h.ready dd with
  |true=>
   as_aux_lemma=>
    have wX:Hid (dK h ⟨5,dd,hh,ps⟩=gW h ⟨3,dd,[]⟩):=by
     show dK h ⟨5,dd,hh,ps⟩=gW h ⟨3,dd,[]⟩;unfold dK;rw [aV (fun e=>by cases e),aV (fun e=>by cases e),bC rfl,bC rd]
    have wY:Hid (dV h me ⟨5,dd,hh,ps⟩=[]):=by
     show dV h me ⟨5,dd,hh,ps⟩=[];unfold dV;rw [aV (fun e=>by cases e),aV (fun e=>by cases e)]
    have RD:=I rd;clear rd;go_wp2_with fail
    refine(HIS.o _ zZ.o (γ qE.o) (bZ qE.o).2.2.2.2.2.1).mono ?_;rw [RD.o];rintro e v2 ⟨rfl,fE⟩;have mO:=I (aF qE.o fE);have uN:=I (aF F6.o fE);have nI:=I (aF DU.o fE);have rM:=I (aF DV.o fE);have m_:=I (aF DT.o fE);have xq:=I (zZ.o.trans fE);have tN:=I (DW.o.mono (jA fE _ _));clear fE;(try clear a0 a1 a2 a3 a4 a5 a6)
    (try clear b0)
    (try clear c0 c1 c2 c3)
    (try clear d0 d1 d2 d3 d4 d5 d6)
    obtain⟨a0,a1,a2,a3,a4,a5,a6⟩:=bZ mO.o;obtain⟨c0,c1,c2,c3⟩:=aT nI.o;obtain⟨d0,d1,d2,d3,d4,d5,d6⟩:=bZ m_.o;go_wp2_with fail
    refine(HNT.o ⟨3,dd,[]⟩ _ _ xq.o ⟨_,rfl,_,rfl,(show I64 3 from by unfold I64;decide),vC.o.2.2.1,Sl.nil _ _⟩ (by intro p hp;simp at hp) σ).mono ?_;rintro e v3 ⟨vx,rfl,hX,jv⟩;generalize gW h ⟨3,dd,[]⟩=x at*;obtain⟨Dh,Di,ar3,cr3,IN,Ch,rfl⟩:=hX.ig;have Kq:Hid (Of Ty.hs (win v2.heap.size v3.heap.size v3) _ x):=I (hX.mono (zI _ _));have OR:Hid (v0.heap.size<v2):=I (γ m_.o);have xO:=I (aF mO.o jv);have Au:=I (aF uN.o jv);have rO:=I (aF nI.o jv);have yO:=I (aF rM.o jv);have tV:=I (aF m_.o jv);have Ey:=I (xq.o.trans jv);clear hX jv;(try clear a0 a1 a2 a3 a4 a5 a6)
    (try clear b0)
    (try clear c0 c1 c2 c3)
    (try clear d0 d1 d2 d3 d4 d5 d6)
    obtain⟨a0,a1,a2,a3,a4,a5,a6⟩:=bZ xO.o;obtain⟨c0,c1,c2,c3⟩:=aT rO.o;obtain⟨d0,d1,d2,d3,d4,d5,d6⟩:=bZ tV.o;go_wp2_with (first|(refine aQ rfl (.tmp 9) (.tmp 73) rfl rfl rfl tV.o fO rfl rfl ?_))
    intro v4 r2 g2;have Nu:=I r2;have Nr:Hid (v4.heap[w.heap.size]? =_):=I (bJ xO.o g2 (by have:=JB.o;simp;omega));have Za:Hid (v4.heap[w.heap.size+1]? =_):=I (bJ Au.o g2 (by have:=JB.o;simp;omega));have Ns:Hid (v4.heap[w.heap.size+1+1]? =_):=I (bJ rO.o g2 (by have:=JB.o;simp;omega));have Vp:Hid (v4.heap[w.heap.size+1+1+1]? =_):=I (bJ yO.o g2 (by have:=JB.o;simp;omega));have rS:=I (Ey.o.grown g2 (fun k hk=>by have:=JB.o;simp at hk;omega));have Zb:=I (Kq.o.mono (kN g2 (.inl OR.o)));have Am:Hid (w.heap.size+1+1+1<v2/\w.heap.size<=v2.heap.size):=I (by have:=JB.o;have:=OR.o;omega);clear r2 g2 Kq;(try clear a0 a1 a2 a3 a4 a5 a6)
    (try clear b0)
    (try clear c0 c1 c2 c3)
    (try clear d0 d1 d2 d3 d4 d5 d6)
    obtain⟨a0,a1,a2,a3,a4,a5,a6⟩:=bZ Nr.o;obtain⟨c0,c1,c2,c3⟩:=aT Ns.o;obtain⟨d0,d1,d2,d3,d4,d5,d6⟩:=bZ Nu.o;go_wp2_with (first|(refine aQ rfl (.tmp 6) (.tmp 74) rfl rfl rfl Vp.o fO rfl rfl ?_))
    intro w7 r7 g7;obtain⟨p0,p1,p2,p3,p4,p5,p6⟩:=bZ r7;(try clear a0 a1 a2 a3 a4 a5 a6)
    (try clear c0 c1 c2 c3)
    (try clear d0 d1 d2 d3 d4 d5 d6)
    go_wp2;refine dw (v:=.tuple #[.agg #[U Dh x.bg.length Di,J x.aP.a,J x.aP.b,J x.aP.c,J x.aP.d,U ar3 x.ready.length cr3,U IN x.done.length Ch],()]) (by simp [results,Tryz.results78,go_sem,p0,p1,p2,p3,p4,p5,p6]) rfl ?_;rw [wX.o,wY.o];refine⟨_,_,rfl,(Zb.o.mono (kN g7 (.inl Am.o.1))).mono (nC Am.o.2),Sl.nil _ _,rS.o.grown g7 (fun k hk=>by simp at hk;omega)⟩
  |false=>
   as_aux_lemma=>
    have wX:Hid (dK h ⟨5,dd,hh,ps⟩=h):=by
     show dK h ⟨5,dd,hh,ps⟩=h;unfold dK;rw [aV (fun e=>by cases e),aV (fun e=>by cases e),bC rfl,aV (by rw [show dP h.ready (Ms.aJ ⟨5,dd,hh,ps⟩)=false from rd];simp)]
    have wY:Hid (dV h me ⟨5,dd,hh,ps⟩=[]):=by
     show dV h me ⟨5,dd,hh,ps⟩=[];unfold dV;rw [aV (fun e=>by cases e),aV (fun e=>by cases e)]
    have RD:=I rd;clear rd;go_wp2_with fail
    refine(HIS.o _ zZ.o (γ qE.o) (bZ qE.o).2.2.2.2.2.1).mono ?_;rw [RD.o];rintro e v2 ⟨rfl,fE⟩;have mO:=I (aF qE.o fE);have uN:=I (aF F6.o fE);have nI:=I (aF DU.o fE);have rM:=I (aF DV.o fE);have m_:=I (aF DT.o fE);have xq:=I (zZ.o.trans fE);have tN:=I (DW.o.mono (jA fE _ _));clear fE;(try clear a0 a1 a2 a3 a4 a5 a6)
    (try clear b0)
    (try clear c0 c1 c2 c3)
    (try clear d0 d1 d2 d3 d4 d5 d6)
    obtain⟨a0,a1,a2,a3,a4,a5,a6⟩:=bZ mO.o;obtain⟨c0,c1,c2,c3⟩:=aT nI.o;obtain⟨d0,d1,d2,d3,d4,d5,d6⟩:=bZ m_.o;go_wp2_with (first|(refine aQ rfl (.tmp 6) (.tmp 74) rfl rfl rfl rM.o fO rfl rfl ?_))
    intro w7 r7 g7;obtain⟨p0,p1,p2,p3,p4,p5,p6⟩:=bZ r7;(try clear a0 a1 a2 a3 a4 a5 a6)
    (try clear c0 c1 c2 c3)
    (try clear d0 d1 d2 d3 d4 d5 d6)
    go_wp2;refine dw (v:=.tuple #[.agg #[U iC h.bg.length iD,J h.aP.a,J h.aP.b,J h.aP.c,J h.aP.d,U oD h.ready.length oG,U uS h.done.length uT],()]) (by simp [results,Tryz.results78,go_sem,p0,p1,p2,p3,p4,p5,p6]) rfl ?_;rw [wX.o,wY.o];refine⟨_,_,rfl,(tN.o.mono (kN g7 (.inl Gt.o.1))).mono (nC Gt.o.2),Sl.nil _ _,xq.o.grown g7 (fun k hk=>by simp at hk;omega)⟩
 ·as_aux_lemma=>
   have wX:Hid (dK h ⟨kd,dd,hh,ps⟩=h):=by
    show dK h ⟨kd,dd,hh,ps⟩=h;unfold dK;rw [aV n1,aV n4,aV n5]
   have wY:Hid (dV h me ⟨kd,dd,hh,ps⟩=[]):=by
    show dV h me ⟨kd,dd,hh,ps⟩=[];unfold dV;rw [aV n1,aV n4]
   have b1:(kd==1)=false:=by simpa using n1
   have b4:(kd==4)=false:=by simpa using n4
   have b5:(kd==5)=false:=by simpa using n5
   clear n1 n4 n5;go_wp2_with (first|(refine aQ rfl (.tmp 6) (.tmp 74) rfl rfl rfl DV.o fO rfl rfl ?_))
   intro w7 r7 g7;obtain⟨p0,p1,p2,p3,p4,p5,p6⟩:=bZ r7;(try clear a0 a1 a2 a3 a4 a5 a6)
   (try clear c0 c1 c2 c3)
   (try clear d0 d1 d2 d3 d4 d5 d6)
   go_wp2;refine dw (v:=.tuple #[.agg #[U iC h.bg.length iD,J h.aP.a,J h.aP.b,J h.aP.c,J h.aP.d,U oD h.ready.length oG,U uS h.done.length uT],()]) (by simp [results,Tryz.results78,go_sem,p0,p1,p2,p3,p4,p5,p6]) rfl ?_;rw [wX.o,wY.o];refine⟨_,_,rfl,(DW.o.mono (kN g7 (.inl Gt.o.1))).mono (nC Gt.o.2),Sl.nil _ _,zZ.o.grown g7 (fun k hk=>by simp at hk;omega)⟩
end Go.Proofs.YtocnmkefmgmkbaaGreat
