/- Parts of proofs, joined: G13, A9, G15, G16, G17, G18, G19, G20. No condition beside those that each theorem names. -/
import Derived.Deep.CutBlock
import Derived.Test.YtocnmkefmgmkbaaGreatJE1b
import Derived.Test.YtocnmkefmgmkbaaGreatJE6a
import Derived.Test.YtocnmkefmgmkbaaGreatJE4b
import Derived.Test.YtocnmkefmgmkbaaGreatJEUa
import Derived.Test.YtocnmkefmgmkbaaGreatJE3a
import Derived.Test.YtocnmkefmgmkbaaGreatJE2a
import Derived.Test.YtocnmkefmgmkbaaGreatJEGa
set_option maxRecDepth 100000
set_option maxHeartbeats 40000000
namespace Go.Proofs.YtocnmkefmgmkbaaGreat
open Go.RowKit
def BP (B:Nat) (vh:Value):List (Option Nat):=[some B,vh.ownBlock]
structure iL (w W:World) (B:Nat) (vl vo vh vn:Value) (x:AW):Prop where
 row:W.heap[B]? =some (.cells #[vl,J x.aN.aW,J x.aN.next,vo,vh,vn] 33 (0,0))
 ge:w.heap.size<=B
 aN:Of Ty.hd (fr w W (BP B vh)) (.agg #[vl,J x.aN.aW,J x.aN.next,vo]) x.aN
 hs:bK Ty.hs (fr w W (BP B vh)) W w.heap.size 50 vh x.aI
 ne:vh.ownBlock≠some B
 bM:yS (fr w W (BP B vh)) vn (x.bM.map dh)
 grow:aK w W
section
variable {w W W1 W2:World} {B:Nat} {vl vo vh vn:Value} {x:AW}
theorem iL.lt (b:iL w W B vl vo vh vn x):B<W.heap.size:=(γ b.row)
theorem iL.form (b:iL w W B vl vo vh vn x):∃al cl ao co ah ch an cn,vl=U al x.aN.bg.length cl/\vo=U ao x.aN.bG.length co/\vh=U ah x.aI.length ch/\vn=U an x.bM.length cn:=by
 obtain⟨al,cl,ao,co,e⟩:=b.aN.iw;obtain⟨ah,ch,rfl⟩:=b.hs.form;obtain⟨an,cn,rfl,-⟩:=b.bM;simp at e;obtain⟨rfl,rfl⟩:=e;rw [List.length_map];exact⟨_,_,_,_,_,_,_,_,rfl,rfl,rfl,rfl⟩
theorem iL.dL (b:iL w W B vl vo vh vn x) (hg:aK W W2):iL w W2 B vl vo vh vn x where
 row:=aF b.row hg
 ge:=b.ge
 aN:=b.aN.mono (fH hg)
 hs:=(b.hs.mono (fH hg)).grow hg
 ne:=b.ne
 bM:=b.bM.mono (fH hg)
 grow:=b.grow.trans hg
theorem iL.new (b:iL w W B vl vo vh vn x):Sub (ov (fun _=>none) W W1) (fr w W1 (BP B vh)):=fun a v e=>by
 have hs:=b.grow.size;have hl:=b.lt;unfold ov at e;split at e
 ·cases e
 ·rw [jh V (by
   unfold BP;simp only [List.mem_cons,List.not_mem_nil,or_false,not_or];refine⟨fun e=>?_,fun e=>?_⟩
   ·have:=bI e;omega
   ·have:=(b.hs.lt _ e.symm).2;omega)]
  exact e
theorem iL.sub (_:iL w W B vl vo vh vn x):Sub (fr w W (BP B vh)) (ov (fun _=>none) w W):=Yp _ _ _ _
theorem iL.fA (b:iL w W B vl vo vh vn x):Of Ty.hd W.cell? (.agg #[vl,J x.aN.aW,J x.aN.next,vo]) x.aN:=b.aN.mono (iO _ _ _)
theorem iL.JN (b:iL w W B vl vo vh vn x):yS W.cell? vn (x.bM.map dh):=b.bM.mono (iO _ _ _)
theorem iL.of (b:iL w W B vl vo vh vn x):Of Ty.wd (ov (fun _=>none) w W) (.agg #[vl,J x.aN.aW,J x.aN.next,vo,vh,vn]) x:=
 Of.qA (b.aN.mono b.sub) (b.hs.slc ε b.sub fun a ha=>dY ha) (b.bM.mono b.sub)
theorem iL.keeps (_:iL w W B vl vo vh vn x) (hg:W.grownBy W2 (some B)):Sub (fr w W (BP B vh)) (fr w W2 (BP B vh)):=
 jV fun k hk _ Z=>⟨hg.block k hk fun e=>Z (by rw [e];simp [BP]),Z⟩
theorem iL.put {Md oH ME:Value} {hd':Hd} {tE:List Ms} (b:iL w W B vl vo vh vn x) (hg:W.grownBy W2 (some B))
  (hr:W2.heap[B]? =some (.cells #[Md,J hd'.aW,J hd'.next,oH,vh,ME] 33 (0,0)))
  (N:Of Ty.hd (fr w W (BP B vh)) (.agg #[Md,J hd'.aW,J hd'.next,oH]) hd') (Y:yS (fr w W (BP B vh)) ME (tE.map dh)):iL w W2 B Md oH vh ME ⟨hd',x.aI,tE⟩ where
 row:=hr
 ge:=b.ge
 aN:=N.mono (b.keeps hg)
 hs:=(b.hs.mono (b.keeps hg)).kept hg (.inr b.ne)
 ne:=b.ne
 bM:=Y.mono (b.keeps hg)
 grow:=b.grow.grown hg fun q O=>by have:=bI O;have:=b.ge;omega
theorem iL.JP {Md oH:Value} {hd':Hd} (b:iL w W B vl vo vh vn x) (hg:W.grownBy W2 (some B))
  (hr:W2.heap[B]? =some (.cells #[Md,J hd'.aW,J hd'.next,oH,vh,vn] 33 (0,0)))
  (N:Of Ty.hd (fr w W (BP B vh)) (.agg #[Md,J hd'.aW,J hd'.next,oH]) hd'):iL w W2 B Md oH vh vn { x with aN:=hd' }:=b.put hg hr N b.bM
theorem iL.XH {ME:Value} {tE:List Ms} (b:iL w W B vl vo vh vn x) (hg:W.grownBy W2 (some B))
  (hr:W2.heap[B]? =some (.cells #[vl,J x.aN.aW,J x.aN.next,vo,vh,ME] 33 (0,0)))
  (Y:yS (fr w W (BP B vh)) ME (tE.map dh)):iL w W2 B vl vo vh ME { x with bM:=tE }:=b.put hg hr b.aN Y
theorem iL.A17 {g n c:Nat} {hs':List Hs} (b:iL w W B vl vo (U (some ⟨g,0,none⟩) n c) vn x) (hg:W.grownBy W2 (some g))
  (ho:bK Ty.hs (fr w W (BP B (U (some ⟨g,0,none⟩) n c))) W2 w.heap.size 50 (U (some ⟨g,0,none⟩) n c) hs'):iL w W2 B vl vo (U (some ⟨g,0,none⟩) n c) vn { x with aI:=hs' }:=by
 have hne:B≠g:=fun e=>b.ne (by rw [e];rfl);have hge:=(b.hs.lt g rfl).1;have sub:Sub (fr w W (BP B (U (some ⟨g,0,none⟩) n c))) (fr w W2 (BP B (U (some ⟨g,0,none⟩) n c))):=jV fun k hk _ Z=>⟨hg.block k hk fun e=>Z (by rw [e];simp [BP,Value.ownBlock]),Z⟩;exact⟨bJ b.row hg (fun e=>hne (bI e)),b.ge,b.aN.mono sub,ho.mono sub,b.ne,b.bM.mono sub,b.grow.grown hg fun q O=>by have:=bI O;omega⟩
theorem iL.Vx {B':Nat} (b:iL w W B vl vo vh vn x) (hg:aK W W2) (hB:W.heap.size<=B') (hr:W2.heap[B']? =some (.cells #[vl,J x.aN.aW,J x.aN.next,vo,vh,vn] 33 (0,0))):iL w W2 B' vl vo vh vn x:=by
 have hs:=b.grow.size;have sub:Sub (fr w W (BP B vh)) (fr w W2 (BP B' vh)):=jV fun k hk _ Z=>⟨hg.block k hk,fun hm=>by
  unfold BP at Z hm;simp only [List.mem_cons,List.not_mem_nil,or_false,not_or] at Z hm;rcases hm with e|e
  ·have:=bI e;omega
  ·exact Z.2 e⟩
 exact⟨hr,V,b.aN.mono sub,(b.hs.mono sub).grow hg,fun e=>by have:=(b.hs.lt _ e).2;omega,b.bM.mono sub,b.grow.trans hg⟩
theorem iL.past {w0:World} {A:Nat} (b:iL w W B vl vo vh vn x) (h:aK w0 w) (hg:W.grownBy W2 (some A)) (hA:w0.heap.size<=A/\A<w.heap.size):iL w0 W2 B vl vo vh vn x:=by
 have hs:=h.size;have hge:=b.ge;have sub:Sub (fr w W (BP B vh)) (fr w0 W2 (BP B vh)):=(jV (W0:=w) (w':=W2) (X':=BP B vh) fun k hk h0 Z=>⟨hg.block k hk iP,Z⟩).trans (kG hs);have hlt:=b.hs.lt;refine⟨bJ b.row hg iP,V,b.aN.mono sub,((b.hs.mono sub).base hs).kept hg ?_,b.ne,b.bM.mono sub,(h.trans b.grow).grown hg fun q O=>by have:=bI O;omega⟩;cases e:vh.ownBlock with
 |none=>exact .inl rfl
 |some q=>exact .inr fun e2=>by have:=hlt q e;have:=bI e2;omega
theorem iL.app {W3:World} {EV:Value} {hs':List Hs} (b:iL w W B vl vo vh vn x) (hg:W.grownBy W2 vh.ownBlock) (hb:EV.ownBlock=vh.ownBlock∨∃g,EV.ownBlock=some g/\W.heap.size<=g)
  (ho:bK Ty.hs (fr w W (BP B vh)) W2 w.heap.size 50 EV hs') (g3:W2.grownBy W3 (some B)) (r3:W3.heap[B]? =some (.cells #[vl,J x.aN.aW,J x.aN.next,vo,EV,vn] 33 (0,0))):iL w W3 B vl vo EV vn { x with aI:=hs' }:=by
 have hl:=b.lt;have hge:=b.ge;have hsz:=hg.size;have hne:EV.ownBlock≠some B:=fun e=>by
  rcases hb with hb|⟨g,hb,hgg⟩
  ·exact b.ne (hb▸e)
  ·rw [hb] at e;have:=bI e;omega
 have sub:Sub (fr w W (BP B vh)) (fr w W3 (BP B EV)):=jV fun k hk _ Z=>by
  unfold BP at Z ⊢;simp only [List.mem_cons,List.not_mem_nil,or_false,not_or] at Z ⊢;refine⟨?_,Z.1,fun e=>?_⟩
  ·rw [g3.block k V Z.1,hg.block k hk Z.2]
  ·rcases hb with hb|⟨g,hb,hgg⟩
   ·exact Z.2 (hb▸e)
   ·rw [hb] at e;have:=bI e;omega
 exact⟨r3,b.ge,b.aN.mono sub,(ho.mono sub).kept g3 (.inr hne),hne,b.bM.mono sub,(b.grow.grown hg fun q O=>(b.hs.lt q O).1).grown g3 fun q O=>by have:=bI O;omega⟩
theorem iL.start {hd:Hd} {bM:List Ms} (hr:W.heap[B]? =some (.cells #[vl,J hd.aW,J hd.next,vo,(),vn] 33 (0,0))) (hge:w.heap.size<=B)
  (N:Of Ty.hd (fr w W [some B]) (.agg #[vl,J hd.aW,J hd.next,vo]) hd) (Y:yS (fr w W [some B]) vn (bM.map dh)) (hg:aK w W):iL w W B vl vo (U none 0 0) vn ⟨hd,[],bM⟩:=by
 have sub:Sub (fr w W [some B]) (fr w W (BP B (U none 0 0))):=jV fun k _ _ Z=>⟨rfl,fun hm=>by
  unfold BP at hm;simp only [Value.ownBlock,List.mem_cons,List.not_mem_nil,or_false] at hm Z;rcases hm with e|e
  ·exact Z e
  ·cases e⟩
 exact⟨hr,hge,N.mono sub,bK.nil _ _ _ _ _,(fun e=>by cases e),Y.mono sub,hg⟩
end
theorem mD.A18 {m:Ms} (h:mD m):AY m.aH/\I64 m.aJ/\I64 m.aU/\I64 (m.aH.length:Int):=by
 have hp:=h.pts;have hl:=h.len;have hd:=h.aJ;have hh:=h.aU;exact⟨fun p hp'=>by have:=hp p hp';exact⟨ku V V,ku V V,ku V V⟩,ku V V,ku V V,ku V V⟩
theorem vG {m:Ms} (h:cZ m=0):(dh m).length<=200:=by
 have hr:=CG.1 h;obtain⟨N,Y,h3,h4⟩:=hr.A18;have hl:=hr.len;have a1:=lF (fJ Y).1 (fJ Y).2;have a2:=lF (fJ h3).1 (fJ h3).2;have a3:=lF (fJ h4).1 (fJ h4).2;have a4:=qX N;unfold dh;rw [LP];unfold iF;simp only [List.length_cons,List.length_append];omega
structure WK (k:Nat) (x:AW):Prop where
 wi:∃n G,WI n G x
 few:Ih k x
 le:k<=99000
 logp:u_ x.aN.bg
theorem WK.I5 {k:Nat} {x:AW} (i:WK k x):1<=x.aI.length/\x.aI.length<=3:=by
 obtain⟨n,G,hi⟩:=i.wi;rw [hi.core.len];exact hi.core.n3
theorem WK.UY {k:Nat} {x:AW} (i:WK k x):FK x.aN:=by
 obtain⟨n,G,hi⟩:=i.wi;exact⟨hi.core.Bl,fun o ho=>(g_ (hi.core.reg.ok _ (hi.core.sD o ho)).2).2.1,fun o ho=>by have:=(hi.core.onew o ho).2.2;have:=jJ o.aH;omega,by have:=i.few.bg;have:=i.le;omega,by have:=hi.core.aW;omega,hi.core.next⟩
theorem WK.Gf {k:Nat} {x:AW} (i:WK k x):Zd x.aN:=by
 obtain⟨n,G,hi⟩:=i.wi;exact hi.Gf i.logp
structure A2_ (k:Nat) (h:Hs):Prop where
 made:Made h
 keys:∀r∈h.bg,jg r.aH
 len:h.bg.length<=k
 aH:∀r∈h.bg,r.aH.length*24<=140737488355328
 ready:h.ready.length<=4
theorem WK.hs {k:Nat} {x:AW} (i:WK k x) {j:Nat} {h:Hs} (hj:x.aI[j]? =some h):A2_ k h:=by
 obtain⟨n,G,hi⟩:=i.wi;have hh:=hi.core.aU j h hj;refine⟨hh.calm.made,hh.keys,i.few.logs h (List.mem_of_getElem? hj),fun r hr=>?_,CU hi.core hj⟩;have h9:=hh.bg r hr;simp only [Tv,decide_eq_true_eq] at h9;by_cases hp:r.aH=[]
 ·rw [hp];decide
 ·have:=(g_ (h9.2.1 hp)).2.1
  omega
theorem WK.bM {k:Nat} {x:AW} (i:WK k x):(x.bM.map dh).length*24<=140737488355328/\∀b∈x.bM.map dh,b.length<=140737488355328:=by
 obtain⟨n,G,hi⟩:=i.wi;refine⟨by rw [List.length_map];have:=hi.len;omega,fun b hb=>?_⟩;obtain⟨m,hm,rfl⟩:=List.mem_map.1 hb;have:=vG (hi.right m hm);omega
theorem I7 {v:Value} {x:AW} {k:Nat} (w:World) (hv:Of Ty.wd w.cell? v x) (hk:WK k x):
  Calls Tryz.prog 17 #[v] w fun e w'=>∃vl vo vh vn B,e=.returned (.agg #[vl,J x.aN.aW,J x.aN.next,vo,vh,vn])/\iL w w' B vl vo vh vn x:=by
 obtain⟨al,cl,ao,co,ah,ch,an,cn,rfl⟩:=hv.dJ;obtain⟨q1,q2,q3⟩:=hv.ji;have NX:=I (fun(W:World) (hW:aK w W)=>BK W (q1.mono hW.sub) hk.UY hk.Gf.logp);have HNT:=I (fun(W:World) (hW:aK w W)=>J5 W (q3.mono hW.sub) hk.bM.1 hk.bM.2);have rG:Hid (I64 x.aN.aW/\I64 x.aN.next):=I (by obtain⟨cs,he,_,_,rfl,_,N,Y,_⟩:=q1;exact⟨N,Y⟩);obtain⟨AN,ch',wG,N,Y,-,hel⟩:=q2;simp only [Value.slice.injEq,true_and] at wG;obtain⟨rfl,rfl⟩:=wG;unfold maxLen at Y;have nH:=I hel;have yw:=I hk;have hl3:=hk.I5.2;clear hv q1 q3 hel hk;obtain⟨wa,fZ⟩:=χ (w.alloc (.cells #[U al x.aN.bg.length cl,J x.aN.aW,J x.aN.next,U ao x.aN.bG.length co,U ah x.aI.length ch,U an x.bM.length cn] 33));obtain⟨wz,hwz⟩:=χ (wa.alloc (.cells #[(),J 0,J 0,(),(),()] 33));have hsz:wa.heap.size=w.heap.size+1:=by rw [fZ];simp
 have R1:Hid (wz.heap[w.heap.size]? =some (.cells #[U al x.aN.bg.length cl,J x.aN.aW,J x.aN.next,U ao x.aN.bG.length co,U ah x.aI.length ch,U an x.bM.length cn] 33 (0,0))):=I (by rw [hwz,fZ];exact bQ (bn _ _) _);have R2:Hid (wz.heap[w.heap.size+1]? =some (.cells #[(),J 0,J 0,(),(),()] 33 (0,0))):=I (by rw [hwz,<-hsz];exact bn _ _);have G1:Hid (aK w wz):=I (by rw [hwz,fZ];exact((aG w).alloc _).alloc _);have HZ:Hid (wz.heap.size=w.heap.size+2):=I (by rw [hwz,fZ];simp);have HS:Hid (∀W,aK wz W->W.cell? ⟨w,0,none⟩=some (U al x.aN.bg.length cl)/\W.cell? ⟨w,1,none⟩=some (J x.aN.aW)/\W.cell? ⟨w,2,none⟩=some (J x.aN.next)/\W.cell? ⟨w,3,none⟩=some (U ao x.aN.bG.length co)/\W.cell? ⟨w,5,none⟩=some (U an x.bM.length cn)):=fun W hW=>by
  obtain⟨j0,j1,j2,j3,-,j5⟩:=bF (aF R1.o hW);exact⟨j0,j1,j2,j3,j5⟩
 go_enter Tryz.func17,Tryz.ntmps17;go_upto_region 1 with fail
 rw [<-fZ];try rw [hsz]
 rw [<-hwz];clear fZ hwz hsz;go_cut [3] from 6 to 12 (fun s3 wc=>∃B3 Dh Di Kr co3 JU cn3,s3=.pointer (some ⟨B3,0,none⟩)/\iL wz wc B3 (U Dh x.aN.bg.length Di) (U Kr x.aN.bG.length co3) (U none 0 0) (U JU x.bM.length cn3) ⟨x.aN,[],x.bM⟩)
 case first=>
  refine Gq (fun w'=>w'.cell? ⟨w,0,none⟩=some (U al x.aN.bg.length cl)/\w'.cell? ⟨w,1,none⟩=some (J x.aN.aW)/\w'.cell? ⟨w,2,none⟩=some (J x.aN.next)/\w'.cell? ⟨w,3,none⟩=some (U ao x.aN.bG.length co)/\w'.cell? ⟨w,5,none⟩=some (U an x.bM.length cn)) [8] κ ?_;intro wd GD zD;have ZD:=I zD;clear zD;refine pF [0,1,3,4] 11 κ (fun _ _ _ _ _ h=>h) (HS.o _ GD) ?_;repeat (refine jm ?_;try simp only [bT])
  refine pG ?_;refine RE 2 7 κ rfl rfl ?_ ?_
  ·intro K M
   try simp only [dD]
   go_simp;go_at_call 60
   refine(NX.o _ (G1.o.trans GD)).mono ?_;rintro e w1 ⟨vl,vo,B0,LL,rfl,hl,F9⟩;obtain⟨Dh,Di,Kr,co3,rfl,rfl⟩:=F9.form;have hln:LL.length=x.aN.bG.length:=by rw [<-hl];simp
   rw [hln] at F9 ⊢;have AH:=I (F9.aN hl rG.o.1 rG.o.2);have GH1:=I F9.grow;have G2:=I (aK.trans GD F9.grow);clear F9 hl hln;refine ψ M (.inr (HS.o _ G2.o)) ?_;try simp only [bT]
   refine RE 5 7 κ rfl rfl ?_ ?_
   ·intro K M
    try simp only [dD]
    go_simp;go_at_call 61
    refine(HNT.o _ (G1.o.trans G2.o)).mono ?_;rintro e w2 ⟨vn,rfl,hon,gB⟩;obtain⟨JU,cn3,hvn⟩:=hon.form;rw [List.length_map] at hvn;subst hvn;have YI:=I (bK.YJ ε hon);have BB:=I gB;have G3:=I (aK.trans G2.o gB);clear hon gB;refine ψ M (.inr (HS.o _ G3.o)) ?_;try simp only [bT]
    refine pF [6] 11 κ (fun _ _ _ _ _ h=>h) (HS.o _ G3.o) ?_;repeat (refine jm ?_;try simp only [bT])
    refine pG ?_;refine kS 7 κ rfl ?_;intro K M;try simp only [dD]
    go_simp;obtain⟨w8,Df⟩:=χ (w2.alloc (.cells #[(),J 0,J 0,(),(),()] 33));obtain⟨B3,F8⟩:=χ w2.heap.size;rw [<-Df,<-F8];have R3:Hid (w8.heap[B3]? =some (.cells #[(),J 0,J 0,(),(),()] 33 (0,0))):=I (by rw [Df,F8];exact bn _ _);have G8:Hid (aK w2 w8):=I (by rw [Df];exact(aG _).alloc _);have lU:Hid (B3=w2.heap.size/\w8.heap.size=B3+1):=I ⟨F8,by rw [Df,F8];simp⟩;have OO:=I (aK.trans G3.o G8.o);clear Df F8;refine ψ M (.inr (HS.o _ OO.o)) ?_;try simp only [bT]
    refine kS 8 κ rfl ?_;intro K M;refine aY rfl ?_;try simp only [dD]
    refine b_ (.tmp 3) (.tmp 12) rfl rfl rfl R3.o dN rfl rfl ?_;intro wc rc gc;refine ψ M (.inl ε) ?_;try simp only [bT]
    refine Bf κ ?_;go_wp2;go_meet
    case rel=>
     have z2:=ZD.o;have z3:=lU.o;have zh:=GH1.o.size;have zn:=BB.o.size;have z8:=G8.o.size;have kh:Sub (ov (fun _=>none) wd w1) (fr wz wc [some B3]):=fun a v e=>by
      unfold ov at e;split at e
      ·cases e
      ·have hl:=eH w1 a e
       rw [jh V (fun hm=>by have:=bI (List.mem_singleton.1 hm);omega)];exact bV (G8.o.sub _ _ (BB.o.sub _ _ e)) gc V
     have kn:Sub (ov (fun _=>none) w1 w2) (fr wz wc [some B3]):=fun a v e=>by
      unfold ov at e;split at e
      ·cases e
      ·have hl:=eH w2 a e
       rw [jh V (fun hm=>by have:=bI (List.mem_singleton.1 hm);omega)];exact bV (G8.o.sub _ _ e) gc V
     exact⟨B3,Dh,Di,Kr,co3,JU,cn3,rfl,iL.start rc V (AH.o.mono kh) (YI.o.mono kn) ((OO.o).grown gc (fun q O=>by have:=bI O;omega))⟩
   ·intro K M
    try simp only [dD]
    go_simp;obtain⟨w8,Df⟩:=χ (w1.alloc (.cells #[(),J 0,J 0,(),(),()] 33));obtain⟨B3,F8⟩:=χ w1.heap.size;rw [<-Df,<-F8];have R3:Hid (w8.heap[B3]? =some (.cells #[(),J 0,J 0,(),(),()] 33 (0,0))):=I (by rw [Df,F8];exact bn _ _);have G8:Hid (aK w1 w8):=I (by rw [Df];exact(aG _).alloc _);have lU:Hid (B3=w1.heap.size/\w8.heap.size=B3+1):=I ⟨F8,by rw [Df,F8];simp⟩;have OO:=I (aK.trans G2.o G8.o);clear Df F8;refine ψ M (.inr (HS.o _ OO.o)) ?_;try simp only [bT]
    refine kS 5 κ rfl ?_;intro K M;try simp only [dD]
    go_simp;go_at_call 61
    refine(HNT.o _ (G1.o.trans OO.o)).mono ?_;rintro e w2 ⟨vn,rfl,hon,gB⟩;obtain⟨JU,cn3,hvn⟩:=hon.form;rw [List.length_map] at hvn;subst hvn;have YI:=I (bK.YJ ε hon);have BB:=I gB;have G3:=I (aK.trans OO.o gB);clear hon gB;have R32:=I (aF R3.o BB.o);refine ψ M (.inr (HS.o _ G3.o)) ?_;try simp only [bT]
    refine pF [6] 11 κ (fun _ _ _ _ _ h=>h) (HS.o _ G3.o) ?_;repeat (refine jm ?_;try simp only [bT])
    refine pG ?_;refine kS 8 κ rfl ?_;intro K M;refine aY rfl ?_;try simp only [dD]
    refine b_ (.tmp 3) (.tmp 12) rfl rfl rfl R32.o dN rfl rfl ?_;intro wc rc gc;refine ψ M (.inl ε) ?_;try simp only [bT]
    refine Bf κ ?_;go_wp2;go_meet
    case rel=>
     have z2:=ZD.o;have z3:=lU.o;have zh:=GH1.o.size;have zn:=BB.o.size;have z8:=G8.o.size;have kh:Sub (ov (fun _=>none) wd w1) (fr wz wc [some B3]):=fun a v e=>by
      unfold ov at e;split at e
      ·cases e
      ·have hl:=eH w1 a e
       rw [jh V (fun hm=>by have:=bI (List.mem_singleton.1 hm);omega)];exact bV (BB.o.sub _ _ (G8.o.sub _ _ e)) gc V
     have kn:Sub (ov (fun _=>none) w8 w2) (fr wz wc [some B3]):=(I4 (w:=wz) (X:=[some B3]) OO.o (fun q O=>by have:=bI (List.mem_singleton.1 O);omega)).trans (Nz gc σ);exact⟨B3,Dh,Di,Kr,co3,JU,cn3,rfl,iL.start rc V (AH.o.mono kh) (YI.o.mono kn) ((G3.o).grown gc (fun q O=>by have:=bI O;omega))⟩
  ·intro K M
   try simp only [dD]
   go_simp;obtain⟨w8,Df⟩:=χ (wd.alloc (.cells #[(),J 0,J 0,(),(),()] 33));obtain⟨B3,F8⟩:=χ wd.heap.size;rw [<-Df,<-F8];have R3:Hid (w8.heap[B3]? =some (.cells #[(),J 0,J 0,(),(),()] 33 (0,0))):=I (by rw [Df,F8];exact bn _ _);have G8:Hid (aK wd w8):=I (by rw [Df];exact(aG _).alloc _);have lU:Hid (B3=wd.heap.size/\w8.heap.size=B3+1):=I ⟨F8,by rw [Df,F8];simp⟩;have OO:=I (aK.trans GD G8.o);clear Df F8;refine ψ M (.inr (HS.o _ OO.o)) ?_;try simp only [bT]
   refine kS 2 κ rfl ?_;intro K M;try simp only [dD]
   go_simp;go_at_call 60
   refine(NX.o _ (G1.o.trans OO.o)).mono ?_;rintro e w1 ⟨vl,vo,B0,LL,rfl,hl,F9⟩;obtain⟨Dh,Di,Kr,co3,rfl,rfl⟩:=F9.form;have hln:LL.length=x.aN.bG.length:=by rw [<-hl];simp
   rw [hln] at F9 ⊢;have AH:=I (F9.aN hl rG.o.1 rG.o.2);have GH1:=I F9.grow;have G2:=I (aK.trans OO.o F9.grow);clear F9 hl hln;have R31:=I (aF R3.o GH1.o);refine ψ M (.inr (HS.o _ G2.o)) ?_;try simp only [bT]
   refine kS 5 κ rfl ?_;intro K M;try simp only [dD]
   go_simp;go_at_call 61
   refine(HNT.o _ (G1.o.trans G2.o)).mono ?_;rintro e w2 ⟨vn,rfl,hon,gB⟩;obtain⟨JU,cn3,hvn⟩:=hon.form;rw [List.length_map] at hvn;subst hvn;have YI:=I (bK.YJ ε hon);have BB:=I gB;have G3:=I (aK.trans G2.o gB);clear hon gB;have R32:=I (aF R31.o BB.o);refine ψ M (.inr (HS.o _ G3.o)) ?_;try simp only [bT]
   refine pF [6] 11 κ (fun _ _ _ _ _ h=>h) (HS.o _ G3.o) ?_;repeat (refine jm ?_;try simp only [bT])
   refine pG ?_;refine kS 8 κ rfl ?_;intro K M;refine aY rfl ?_;try simp only [dD]
   refine b_ (.tmp 3) (.tmp 12) rfl rfl rfl R32.o dN rfl rfl ?_;intro wc rc gc;refine ψ M (.inl ε) ?_;try simp only [bT]
   refine Bf κ ?_;go_wp2;go_meet
   case rel=>
    have z2:=ZD.o;have z3:=lU.o;have zh:=GH1.o.size;have zn:=BB.o.size;have z8:=G8.o.size;have zs:wz.heap.size<=wd.heap.size:=by omega
    have kh:Sub (ov (fun _=>none) w8 w1) (fr wz wc [some B3]):=(I4 (w:=wz) (X:=[some B3]) OO.o (fun q O=>by have:=bI (List.mem_singleton.1 O);omega)).trans ((fH BB.o).trans (Nz gc σ));have kn:Sub (ov (fun _=>none) w1 w2) (fr wz wc [some B3]):=(I4 (w:=wz) (X:=[some B3]) G2.o (fun q O=>by have:=bI (List.mem_singleton.1 O);omega)).trans (Nz gc σ);exact⟨B3,Dh,Di,Kr,co3,JU,cn3,rfl,iL.start rc V (AH.o.mono kh) (YI.o.mono kn) ((G3.o).grown gc (fun q O=>by have:=bI O;omega))⟩
 case rest=>
 obtain⟨B3,Dh,Di,Kr,co3,JU,cn3,rfl,hbx⟩:=hcut;obtain⟨w3,rfl⟩:=χ wc;have j_:=I hbx;have FJ:=I (aF R1.o hbx.grow);have lU:Hid (wz.heap.size<=B3):=I hbx.ge;clear HS hbx;obtain⟨c0,c1,c2,c3,c4,c5⟩:=bF FJ.o;have z1:w.heap.size<w3:=(γ FJ.o);go_wp2;clear c0 c1 c2 c3 c4 c5 z1;go_loopw [16] (fun i wr=>∃(k:Nat) (av:Option Addr) (cv:Nat),k<=x.aI.length/\i=J k/\aK w wr/\iL wz wr B3 (U Dh x.aN.bg.length Di) (U Kr x.aN.bG.length co3) (U av k cv) (U JU x.bM.length cn3) ⟨x.aN,x.aI.take k,x.bM⟩) (fun i _=>x.aI.length - (intOf i).toNat)
 case atStart=>exact⟨0,none,0,V,rfl,G1.o.trans j_.o.grow,j_.o⟩
 case round=>
  obtain⟨j,av,cv,hj',rfl,hgr,hbx⟩:=hrel;have Vh:=I hbx;have Fj:=I hgr;clear hbx hgr;by_cases hlt:j<x.aI.length
  ·obtain⟨bh,oh,vl,vr,vd,rfl,e0,e1,e2,e3,e4,e5,e6,yu,-,-,-,-,Ar,xk⟩:=VW.at_ nH.o j hlt
   obtain⟨il,jl,rfl,-⟩:=id yu;obtain⟨ir,jr,rfl,-⟩:=id Ar;obtain⟨yX,jd,rfl,-⟩:=id xk;have AL:=I (yw.o.hs (dM hlt));have nK:Hid (x.aI.take (j+1)=x.aI.take j++ [x.aI[j]]):=I (List.take_succ_eq_append_getElem hlt);have G_:=I yu;replace e0:=Fj.o.sub _ _ e0;replace e1:=Fj.o.sub _ _ e1;replace e2:=Fj.o.sub _ _ e2;replace e3:=Fj.o.sub _ _ e3;replace e4:=Fj.o.sub _ _ e4;replace e5:=Fj.o.sub _ _ e5;replace e6:=Fj.o.sub _ _ e6;clear yu Ar xk;generalize x.aI[j]=h at*;go_upto_region 5 with fail
   obtain⟨wo,hwo⟩:=χ (wr.alloc (.cells #[U il h.bg.length jl,J h.aP.a,J h.aP.b,J h.aP.c,J h.aP.d,U ir h.ready.length jr,U yX h.done.length jd] 50));obtain⟨BO,Aq⟩:=χ wr.heap.size;have GO:Hid (aK wr wo):=I (by rw [hwo];exact(aG _).alloc _);have RO:Hid (wo.heap[BO]? =some (.cells #[U il h.bg.length jl,J h.aP.a,J h.aP.b,J h.aP.c,J h.aP.d,U ir h.ready.length jr,U yX h.done.length jd] 50 (0,0))):=I (by rw [hwo,Aq];exact bn _ _);have SBO:Hid (BO=wr.heap.size):=I Aq;rw [<-hwo,<-Aq];clear hwo Aq e0 e1 e2 e3 e4 e5 e6;have vw:=I (Vh.o.dL GO.o);have HS:Hid (∀W,aK wo W->W.cell? ⟨B3,4,none⟩=some (U av j cv)/\W.cell? ⟨BO,0,none⟩=some (U il h.bg.length jl)):=fun W hW=>by
    obtain⟨-,-,-,-,b4,-⟩:=bF (aF vw.o.row hW);obtain⟨o0,-⟩:=bZ (aF RO.o hW);exact⟨b4,o0⟩
   refine Gq (fun w'=>w'.cell? ⟨B3,4,none⟩=some (U av j cv)/\w'.cell? ⟨BO,0,none⟩=some (U il h.bg.length jl)) [8] κ ?_;intro wd GD zD;have ZD:=I zD;clear zD;refine pF [0,1,2,3] 11 κ (fun _ _ _ _ _ h=>h) (HS.o _ GD) ?_;repeat (refine jm ?_;try simp only [bT])
   refine pG ?_;refine kS 4 κ rfl ?_;intro K M;try simp only [dD]
   go_simp;go_at_call 38
   refine(vN _ (G_.o.mono (aK.sub (Fj.o.trans (GO.o.trans GD)))) AL.o.keys (by have:=AL.o.len;have:=yw.o.le;omega) AL.o.aH).mono ?_;rintro e w5 ⟨v5,rfl,mW,iY⟩;rw [<-show h=jM h.bg from AL.o.made] at mW;obtain⟨RU,RV,R_,Si,id2,Sj,rfl⟩:=mW.ig;have oQ:=I mW;have G5:=I (aK.trans GD iY);have YX:=I iY;have tF:=I (vw.o.dL GD);clear mW iY;refine ψ M (.inr (HS.o _ G5.o)) ?_;try simp only [bT]
   refine kS 5 κ rfl ?_;intro K M;try simp only [dD]
   go_simp;obtain⟨w6,sF⟩:=χ (w5.alloc (.cells #[U RU h.bg.length RV,J h.aP.a,J h.aP.b,J h.aP.c,J h.aP.d,U R_ h.ready.length Si,U id2 h.done.length Sj] 50));have G6:Hid (aK w5 w6):=I (by rw [sF];exact(aG _).alloc _);have JW:=I (tF.o.dL (YX.o.trans G6.o));have yD:Hid (Src Ty.hs (fr wz w6 (BP B3 (U av j cv))) w6 (U (some ⟨w5,0,none⟩) 1 1) [h]):=I (by
    obtain⟨cs,he,hR⟩:=(oQ.o.mono (tF.o.new)).mono (fH G6.o);rw [sF] at hR ⊢;have hcs:cs=[U RU h.bg.length RV,J h.aP.a,J h.aP.b,J h.aP.c,J h.aP.d,U R_ h.ready.length Si,U id2 h.done.length Sj]:=by cases he;rfl
    rw [hcs] at hR;exact Src.dU (T:=Ty.hs) (x:=h) (cs:=#[U RU h.bg.length RV,J h.aP.a,J h.aP.b,J h.aP.c,J h.aP.d,U R_ h.ready.length Si,U id2 h.done.length Sj]) hR _ _ rfl)
   have sM:=I (aK.trans G5.o G6.o);rw [<-sF];clear sF;refine ψ M (.inr (HS.o _ sM.o)) ?_;try simp only [bT]
   refine kS 6 κ rfl ?_;intro K M;refine aY rfl ?_;try simp only [dD]
   refine fP (c:=fr wz w6 (BP B3 (U av j cv))) (base:=wz.heap.size) (l:=x.aI.take j) (m:=[h]) (v:=U av j cv) nW rfl Qo ε (.tmp 21) (.tmp 25) rfl rfl JW.o.hs rfl yD.o (by simp;omega) JW.o.grow.size ?_;intro a8 c8 w8 nT yK lD;have hl8:(x.aI.take j).length+ [h].length=j+1:=by simp;omega
   rw [hl8] at nT lD ⊢;have t_:=I nT;have vZ:=I yK;have A0t:=I lD;have FL:=I (bJ JW.o.row yK (fun e=>JW.o.ne e.symm));have RO8:=I (bJ (aF RO.o sM.o) yK (fun e=>by have N:=(JW.o.hs.lt _ e.symm).2;have Y:=(Vh.o.hs.lt _ e.symm).2;have h3:=SBO.o;omega));clear nT yK lD hl8;refine ψ M (.inr (by obtain⟨-,-,-,-,b4,-⟩:=bF FL.o;obtain⟨o0,-⟩:=bZ RO8.o;exact⟨b4,o0⟩)) ?_;try simp only [bT]
   refine pF [7] 11 κ (fun _ _ _ _ _ h=>h) (by obtain⟨-,-,-,-,b4,-⟩:=bF FL.o;obtain⟨o0,-⟩:=bZ RO8.o;exact⟨b4,o0⟩) ?_;repeat (refine jm ?_;try simp only [bT])
   refine pG ?_;refine kS 8 κ rfl ?_;intro K M;refine aY rfl ?_;try simp only [dD]
   refine dF (.tmp 27) (.tmp 26) (v:=U a8 (j+1) c8) (new:=#[U Dh x.aN.bg.length Di,J x.aN.aW,J x.aN.next,U Kr x.aN.bG.length co3,U a8 (j+1) c8,U JU x.bM.length cn3]) rfl rfl ρ ρ FL.o MN σ ρ ρ ?_;intro w9 r9 g9;refine ψ M (.inl ε) ?_;try simp only [bT]
   refine Bf κ ?_;have Aj:=I (JW.o.app vZ.o A0t.o t_.o g9 r9);have G9:=I (G1.o.trans Aj.o.grow);rw [<-nK.o] at Aj;clear r9 g9 HS;go_wp2;go_roundw
   case rel=>exact⟨j+1,a8,c8,V,by go_num,G9.o,Aj.o⟩
   case measure=>simp [intOf];omega
  ·obtain rfl:j=x.aI.length:=by omega
   rw [List.take_length] at Vh;have R2r:=I (aF R2.o Vh.o.grow);obtain⟨b0,b1,b2,b3,b4,b5⟩:=bF Vh.o.row;have z3:B3<wr.heap.size:=Vh.o.lt;have zr:w.heap.size+1<wr:=(γ R2r.o);go_wp2_with (first|(refine aQ rfl (.tmp 2) (.tmp 29) rfl rfl rfl R2r.o dN rfl rfl ?_))
   intro wf rf gf;obtain⟨p0,p1,p2,p3,p4,p5⟩:=bF rf;go_wp2;refine dw (v:=.agg #[U Dh x.aN.bg.length Di,J x.aN.aW,J x.aN.next,U Kr x.aN.bG.length co3,U av x.aI.length cv,U JU x.bM.length cn3]) (by simp [results,Tryz.results17,go_sem,p0,p1,p2,p3,p4,p5]) rfl ?_;exact⟨_,_,_,_,B3,rfl,Vh.o.past G1.o gf (τ HZ.o)⟩
theorem NC {x:AW} {n:Int} (hr:∀m∈x.bM,cZ m=0) (h:there x n=true):takeB (x.bM.map dh) n=((x.bM.eraseIdx n.toNat).map dh,x.bM.getD n.toNat ⟨0,0,0,[]⟩,0):=by
 have hh:0<=n/\n<x.bM.length:=of_decide_eq_true h;have hlt:n.toNat<x.bM.length:=by omega
 unfold takeB;rw [bC (by rw [List.length_map];exact hh),List.getD_eq_getElem?_getD,List.getElem?_map,dM hlt,List.getD_eq_getElem?_getD,dM hlt,List.eraseIdx_eq_take_drop_succ,Ik];simp only [Option.map_some,Option.getD_some];rw [Ei (hr _ (List.getElem_mem hlt))]
theorem VJ {x:AW} {n:Int} (h:there x n=false):takeB (x.bM.map dh) n=(x.bM.map dh,ms0,6):=by
 have hh:¬(0<=n/\n<x.bM.length):=of_decide_eq_false h;unfold takeB;rw [aV (by rw [List.length_map];exact hh)]
theorem d8 {w:AW} {m:Ms} (h:w.aI[m.aU.toNat]? =none):iZ w m=w:=by unfold iZ;rw [h]
theorem VK {w:AW} {m:Ms} {h:Hs} (e:w.aI[m.aU.toNat]? =some h) (f:iR m=true):iZ w m={ w with aI:=w.aI.set m.aU.toNat (dK h m),bM:=eu w.bM (dV h m.aU m) }:=by
 unfold iZ;rw [e];simp only;rw [bC f]
theorem XI {w:AW} {m:Ms} {h:Hs} (e:w.aI[m.aU.toNat]? =some h) (f:iR m=false):iZ w m={ w with aN:=gQ w.aN m,bM:=eu w.bM (iQ w.aN m) }:=by
 unfold iZ;rw [e];simp only;rw [aV (by rw [f];simp)]
theorem iL.sent {w W W1 W2:World} {B:Nat} {vl vo vh vn v':Value} {x:AW} {ms:List Ms} (b:iL w W B vl vo vh vn x) (ho:bK Ty.bs (fr W W1 [v'.ownBlock]) W1 W.heap.size 97 v' (kC (x.bM.map dh) ms)) (hg:aK W W1) (g2:W1.grownBy W2 (some B))
  (r2:W2.heap[B]? =some (.cells #[vl,J x.aN.aW,J x.aN.next,vo,vh,v'] 33 (0,0))):iL w W2 B vl vo vh v' { x with bM:=eu x.bM ms }:=by
 refine(b.dL hg).XH g2 r2 ?_;have h9:=(bK.YJ ε ho).mono b.new;rw [iK] at h9;exact h9
theorem ND {W W1 W2:World} {A:Nat} (hg:W1.grownBy W2 (some A)) (hA:A<W.heap.size):Sub (ov (fun _=>none) W W1) W2.cell?:=fun a v e=>by
 unfold ov at e;split at e
 ·cases e
 ·exact bV e hg V
theorem NH {c:CM} {cs:List Value} {h:Hs} (hR:Ty.hs.R c cs h):∃il jl ir jr id jd,cs=[U il h.bg.length jl,J h.aP.a,J h.aP.b,J h.aP.c,J h.aP.d,U ir h.ready.length jr,U id h.done.length jd]:=by
 obtain⟨v1,v2,v3,rfl,N,-,-,-,-,Y,h3⟩:=hR;obtain⟨il,jl,rfl,-⟩:=N;obtain⟨ir,jr,rfl,-⟩:=Y;obtain⟨id,jd,rfl,-⟩:=h3;exact⟨_,_,_,_,_,_,rfl⟩
def SP (w W:World) (B:Nat) (vh:Value) (y:AW) (W':World):Prop:=∃vl vo vn,iL w W' B vl vo vh vn y/\W.heap.size<=W'.heap.size
theorem A0u (x:AW) (sn:Int) (sp:List Pt):eU x ⟨2,sn,sp⟩=if there x sn=true then 0 else 6:=by unfold eU;simp
theorem A3a (x:AW) (sn:Int) (sp:List Pt):jZ x ⟨2,sn,sp⟩=if there x sn=true then iZ { x with bM:=x.bM.eraseIdx sn.toNat } (x.bM.getD sn.toNat ⟨0,0,0,[]⟩) else x:=by unfold jZ;simp
theorem mD.A0v {m:Ms} (h:mD m):jg m.aH:=by
 by_cases N:m.aX=1
 ·exact fun p hp=>by have:=(g_ (h.aH N).1).2.2.1 p hp;omega
 ·rw [h.none N];exact fun p hp=>by cases hp
theorem mD.tG {m:Ms} (h:mD m):m.aH.length<=4:=by
 by_cases N:m.aX=1
 ·exact(g_ (h.aH N).1).2.1
 ·rw [h.none N];simp
theorem qZ:(Tryz.prog.info? 31).map (·.size)=some 1:=by kernel_rfl
theorem VL {v vm:Value} {h:Hd} {m:Ms} (w:World) (hv:Of Ty.hd w.cell? v h) (hm:Of Ty.ms w.cell? vm m) (hk:FK h) (hi:Zd h):
  Calls Tryz.prog 79 #[v,vm] w fun e w'=>∃v1 v2,e=.returned (.tuple #[v1,v2])/\Of Ty.hd (ov (fun _=>none) w w') v1 (gQ h m)/\Sl Ty.ms (ov (fun _=>none) w w') v2 (iQ h m)/\aK w w':=
 (XD w hv hm hk hi).mono fun _ _ ⟨v1,v2,he,N,Y,h3⟩=>⟨v1,v2,he,N,Y,h3⟩
theorem XJ {w W:World} {B k:Nat} {vl vo vh vn:Value} {x:AW} {sn:Int} (sp:List Pt) (hb:iL w W B vl vo vh vn x) (hk:WK k x):
  Calls Tryz.prog 42 #[.pointer (some ⟨B,0,none⟩),J sn] W fun e W'=>e=.returned (J (eU x ⟨2,sn,sp⟩))/\SP w W B vh (jZ x ⟨2,sn,sp⟩) W':=by
 obtain⟨al,cl,ao,co,ah,ch,an,cn,rfl,rfl,rfl,rfl⟩:=hb.form;have nK:=I (Vw (n:=sn) W hb.JN hk.bM.1 hk.bM.2);have j_:=I hb;have yw:=I hk;have HE:=I (A0u x sn sp);have HD:=I (A3a x sn sp);have hl3:=hk.I5.2;clear hb hk;rw [HE.o,HD.o];by_cases hth:there x sn=true;rotate_left
 ·have JS:there x sn=false:=by simpa using hth
  have HT:=I (VJ JS);rw [aV hth,aV hth];clear hth JS HE HD;go_enter Tryz.func42,Tryz.ntmps42;obtain⟨b0,b1,b2,b3,b4,b5⟩:=bF j_.o.row;have zB:B<W.heap.size:=j_.o.lt;go_wp2_with fail
  refine nK.o.mono ?_;rintro e W1 ⟨v1,v2,rfl,ho,hm,hg⟩;rw [HT.o] at ho hm ⊢;obtain⟨a1,c1,rfl⟩:=ho.form;obtain⟨tI,tL,rfl⟩:=hm.ny;have HG:=I hg;clear ho hm hg b0 b1 b2 b3 b4 b5 zB;go_wp2;go_ret;exact⟨rfl,_,_,_,j_.o.dL (HG.o.alloc _),by have:=HG.o.size;simp;omega⟩
 rw [bC hth,bC hth];obtain⟨m,hm⟩:=χ (x.bM.getD sn.toNat ⟨0,0,0,[]⟩);obtain⟨nt,hnt⟩:=χ (x.bM.eraseIdx sn.toNat);obtain⟨n,G,hwi⟩:=yw.o.wi;have HT:Hid (takeB (x.bM.map dh) sn=(nt.map dh,m,0)):=I (by rw [NC hwi.right hth,<-hm,<-hnt]);have PZ:Hid (wZ n G x.aN x.aI m):=I (by rw [hm];exact hwi.there hth);have HNL:Hid (nt.length<=24/\∀q∈nt,cZ q=0):=I ⟨by rw [hnt];have:=hwi.len;have:=List.length_eraseIdx_le x.bM sn.toNat;omega,fun q O=>hwi.right q (List.mem_of_mem_eraseIdx (by rw [<-hnt];exact O))⟩;have yV:=I hwi;rw [<-hm,<-hnt];have h0:0<=m.aU:=PZ.o.right.aU.1;clear hth hm hnt hwi HE HD;go_enter Tryz.func42,Tryz.ntmps42;obtain⟨b0,b1,b2,b3,b4,b5⟩:=bF j_.o.row;have zB:B<W.heap.size:=j_.o.lt;go_wp2_with fail
 refine nK.o.mono ?_;rintro e W1 ⟨v1,v2,rfl,ho,hm,hg⟩;rw [HT.o] at ho hm ⊢;obtain⟨a1,c1,hv1⟩:=ho.form;rw [List.length_map] at hv1;subst hv1;obtain⟨tI,tL,rfl⟩:=hm.ny;have L8:=I ((bK.YJ ε ho).mono j_.o.new);have vC:=I hm;have HG:=I hg;have oW:=I (j_.o.dL hg);clear ho hm hg b0 b1 b2 b3 b4 b5 zB;obtain⟨W2,hW2⟩:=χ (W1.alloc (.cells #[J m.aX,J m.aJ,J m.aU,U tI m.aH.length tL] 85));obtain⟨BM,N6⟩:=χ W1.heap.size;have zW:Hid (aK W1 W2):=I (by rw [hW2];exact(aG _).alloc _);have RM2:Hid (W2.heap[BM]? =some (.cells #[J m.aX,J m.aJ,J m.aU,U tI m.aH.length tL] 85 (0,0))):=I (by rw [hW2,N6];exact bn _ _);have SBM:Hid (BM=W1.heap.size):=I N6;have jq:=I (oW.o.dL zW.o);have A19:=I (L8.o.mono (fH zW.o));go_upto_region 2 with fail
 rw [<-hW2,<-N6];clear hW2 N6;obtain⟨b0,b1,b2,b3,b4,b5⟩:=bF jq.o.row;have zB:B<W2.heap.size:=jq.o.lt;go_wp2_with (first|(refine bY rfl (.tmp 25) (.tmp 23) (v:=U a1 nt.length c1) (new:=#[U al x.aN.bg.length cl,J x.aN.aW,J x.aN.next,U ao x.aN.bG.length co,U ah x.aI.length ch,U a1 nt.length c1]) rfl rfl ρ ρ jq.o.row qZ σ ρ ρ ?_))
 intro W4 r4 g4;have AA:=I (jq.o.XH g4 r4 A19.o);have O2:=I (bJ RM2.o g4 (fun e=>by have N:=bI e;have Y:=oW.o.lt;have h3:=SBM.o;omega));have A1_:=I ((vC.o.mono (zx (Sub.refl _) zW.o)).mono (ND g4 j_.o.lt));have V_:Hid (W.heap.size<=W4.heap.size):=I (by have:=HG.o.size;have:=zW.o.size;have:=g4.size;omega);have A3b:Hid (B≠BM):=I (fun e=>by have Y:=oW.o.lt;have h3:=SBM.o;omega);clear r4 g4 b0 b1 b2 b3 b4 b5 zB jq RM2 A19 vC oW L8;obtain⟨b0,b1,b2,b3,b4,b5⟩:=bF AA.o.row;have zB:B<W4.heap.size:=AA.o.lt;obtain⟨m0,m1,m2,m3⟩:=aT O2.o;have zM:BM<W4.heap.size:=(γ O2.o);by_cases hmh:(x.aI.length:Int)<=m.aU
 ·have HC:Hid (iZ { x with bM:=nt } m={ x with bM:=nt }):=I (d8 (by rw [List.getElem?_eq_none_iff];show x.aI.length<=_;omega))
  go_wp2_with (go_quiet (fail))
  go_ret;exact⟨rfl,_,_,_,by rw [HC.o];exact AA.o.dL (aK.drewN (aG _) _),Nat.le_trans V_.o (aK.drewN (aG W4) _).size⟩
 have hlt:m.aU.toNat<x.aI.length:=by omega
 obtain⟨j,hj⟩:=χ m.aU.toNat;rw [<-hj] at hlt;have hmj:m.aU=(j:Int):=by omega
 have HHJ:Hid (x.aI[m.aU.toNat]? =some x.aI[j]):=I (by rw [<-hj];exact dM hlt);have HJM:=I (And.intro hj hmj);clear hj hmj;go_upto_region 5 with fail
 go_cut [37] from 26 to 37 (fun s37 wc=>s37=.bool false/\aK W4 wc)
 case first=>
  go_wp2_with (go_quiet (fail))
  go_meet
  case rel=>exact⟨by first|rfl|(simp;omega),aK.drewN (aG _) _⟩
 case rest=>
 obtain⟨rfl,hgc⟩:=hcut;obtain⟨W5,rfl⟩:=χ wc;have AV:=I (AA.o.dL hgc);have RM5:=I (aF O2.o hgc);have A2a:=I (A1_.o.mono hgc.sub);have Y_:Hid (W.heap.size<=W5.heap.size):=I (by have:=V_.o;have:=hgc.size;omega);clear hgc b0 b1 b2 b3 b4 b5 zB m0 m1 m2 m3 zM AA O2 A1_ hmh;obtain⟨m0,m1,m2,m3⟩:=aT RM5.o;have zM:BM<W5.heap.size:=(γ RM5.o);go_upto_block 0 with fail
 clear m0 m1 m2 m3 zM;go_cut [8] from 40 to 77 (fun s8 wc=>∃(iC lY tM:Option Addr) (iD lZ cs:Nat) (nZ:Hd) (hs2:List Hs) (ms:List Ms),s8=U tM ms.length cs/\iL w wc B (U iC nZ.bg.length iD) (U lY nZ.bG.length lZ) (U ah x.aI.length ch) (U a1 nt.length c1) ⟨nZ,hs2,nt⟩/\Mss wc.cell? (U tM ms.length cs) ms/\(∀q∈ms,cZ q=0)/\iZ { x with bM:=nt } m=⟨nZ,hs2,eu nt ms⟩/\W.heap.size<=wc.heap.size)
 case rest=>
  obtain⟨iC,lY,tM,iD,lZ,cs,nZ,hs2,ms,rfl,hbx,hms,hsy,hce,hsz⟩:=hcut;obtain⟨W9,rfl⟩:=χ wc;have Aj:=I hbx;have A3c:=I hms;have SQ:=I hsy;have HCE:=I hce;have J3:=I hsz;clear hbx hms hsy hce hsz;obtain⟨b0,b1,b2,b3,b4,b5⟩:=bF Aj.o.row;have zB:B<W9.heap.size:=Aj.o.lt;go_wp2_with fail
  refine(Bj (l:=nt.map dh) (ms:=ms) W9 Aj.o.JN A3c.o SQ.o (by rw [List.length_map];have:=HNL.o.1;omega) (fun b hb=>by
   obtain⟨q,O,rfl⟩:=List.mem_map.1 hb;have:=vG (HNL.o.2 q O);omega)).mono ?_
  rintro e W10 ⟨v10,rfl,oV,lQ⟩;obtain⟨EL,EM,A2b⟩:=oV.form;have A2c:(kC (nt.map dh) ms).length=(eu nt ms).length:=by rw [iK,List.length_map]
  rw [A2c] at A2b;subst A2b;have AO:=I oV;have A2d:=I lQ;have A0w:=I (Aj.o.dL lQ);clear oV lQ A2c b0 b1 b2 b3 b4 b5 zB;go_wp2_with (first|(refine bY rfl (.tmp 86) (.tmp 84) (v:=U EL (eu nt ms).length EM) (new:=#[U iC nZ.bg.length iD,J nZ.aW,J nZ.next,U lY nZ.bG.length lZ,U ah x.aI.length ch,U EL (eu nt ms).length EM]) rfl rfl ρ ρ A0w.o.row qZ σ ρ ρ ?_))
  intro W11 AT Np;have Xi:=I (Aj.o.sent AO.o A2d.o Np AT);have IX:Hid (W.heap.size<=W11.heap.size):=I (by have:=J3.o;have:=A2d.o.size;have:=Np.size;omega);clear AT Np;go_wp2;go_ret;exact⟨rfl,_,_,_,by rw [HCE.o];exact Xi.o,IX.o⟩
 go_upto_if 52 with fail
 go_cut [52] from 54 to 55 (fun s52 wc=>s52=.bool (iR m)/\aK W5 wc)
 case first=>
  by_cases k1:m.aX=1
  ·have t1:(m.aX==1)=true:=by simp [k1]
   have hf:iR m=true:=by unfold iR;simp [k1]
   have HF:=I hf;clear k1 hf;go_wp2;go_meet
   case rel=>exact⟨by first|(rw [HF.o];done)|(rw [HF.o];simp [t1]),je⟩
  ·have t1:(m.aX==1)=false:=by simp [k1]
   by_cases k4:m.aX=4
   ·have t4:(m.aX==4)=true:=by simp [k4]
    have hf:iR m=true:=by unfold iR;simp [k4]
    have HF:=I hf;clear k1 k4 hf;go_wp2;go_meet
    case rel=>exact⟨by first|(rw [HF.o];done)|(rw [HF.o];simp [t1,t4]),je⟩
   ·have t4:(m.aX==4)=false:=by simp [k4]
    have hf:iR m=(m.aX==5):=by unfold iR;simp only [k1,k4,false_or];by_cases k5:m.aX=5<;>simp [k5]
    have HF:=I hf;clear k1 k4 hf;go_wp2;go_meet
    case rel=>exact⟨by rw [HF.o],je⟩
 case rest=>
 obtain⟨rfl,hgc⟩:=hcut;obtain⟨W6,rfl⟩:=χ wc;have Gw:=I (AV.o.dL hgc);have cU:=I (aF RM5.o hgc);have A2e:=I (A2a.o.mono hgc.sub);have gD:Hid (W.heap.size<=W6.heap.size):=I (by have:=Y_.o;have:=hgc.size;omega);clear hgc AV RM5 A2a;obtain⟨f,hf⟩:=χ (iR m);rw [<-hf];have HF:=I hf;clear hf;have A3G:=HNL.o.1;cases f with
 |true=>
   have HC:=I (VK (w:={ x with bM:=nt }) HHJ.o HF.o.symm);have SQ:Hid (∀q∈dV x.aI[j] m.aU m,cZ q=0):=I (WI.says (yV.o.core.hear PZ.o HHJ.o).2.2);have AL:=I (yw.o.hs (dM hlt));obtain⟨gh,cs0,rfl,tO,O3⟩:=Gw.o.hs.get ε j hlt;obtain⟨il,jl,ir,jr,yX,jd,rfl⟩:=NH tO;have PA:=I tO;have Kt:=I O3;clear tO O3;obtain⟨h,hh⟩:=χ (x.aI[j]);rw [<-hh] at HC SQ AL PA Kt;clear hh;have hjz:(j:Int)<(x.aI.length:Int):=by omega
   have HS:Hid (∀W',aK W6 W'->W'.cell? ⟨B,4,none⟩=some (U (some ⟨gh,0,none⟩) x.aI.length ch)/\W'.cell? ⟨BM,0,none⟩=some (J m.aX)/\W'.cell? ⟨BM,1,none⟩=some (J m.aJ)/\W'.cell? ⟨BM,2,none⟩=some (J (j:Int))/\W'.cell? ⟨BM,3,none⟩=some (U tI m.aH.length tL)):=fun W' hW=>by
    obtain⟨-,-,-,-,q4,-⟩:=bF (aF Gw.o.row hW);obtain⟨n0,n1,n2,n3⟩:=aT (aF cU.o hW);rw [HJM.o.2] at n2;exact⟨q4,n0,n1,n2,n3⟩
   have nH:Hid (∀W',aK W6 W'->W'.cell? ⟨gh,j*7,none⟩=some (U il h.bg.length jl)/\W'.cell? ⟨gh,j*7+1,none⟩=some (J h.aP.a)/\W'.cell? ⟨gh,j*7+2,none⟩=some (J h.aP.b)/\W'.cell? ⟨gh,j*7+3,none⟩=some (J h.aP.c)/\W'.cell? ⟨gh,j*7+4,none⟩=some (J h.aP.d)/\W'.cell? ⟨gh,j*7+5,none⟩=some (U ir h.ready.length jr)/\W'.cell? ⟨gh,j*7+6,none⟩=some (U yX h.done.length jd)):=fun W' hW=>⟨by have h9:=Kt.o 0 _ rfl;simp only [show Ty.hs.size=7 from rfl,Nat.add_zero] at h9;exact hW.sub _ _ h9,by have h9:=Kt.o 1 _ rfl;simp only [show Ty.hs.size=7 from rfl] at h9;exact hW.sub _ _ h9,by have h9:=Kt.o 2 _ rfl;simp only [show Ty.hs.size=7 from rfl] at h9;exact hW.sub _ _ h9,by have h9:=Kt.o 3 _ rfl;simp only [show Ty.hs.size=7 from rfl] at h9;exact hW.sub _ _ h9,by have h9:=Kt.o 4 _ rfl;simp only [show Ty.hs.size=7 from rfl] at h9;exact hW.sub _ _ h9,by have h9:=Kt.o 5 _ rfl;simp only [show Ty.hs.size=7 from rfl] at h9;exact hW.sub _ _ h9,by have h9:=Kt.o 6 _ rfl;simp only [show Ty.hs.size=7 from rfl] at h9;exact hW.sub _ _ h9⟩;have NGB:Hid (gh≠B/\gh≠BM):=I ⟨fun e=>Gw.o.ne (by rw [<-e];rfl),fun e=>by have N:=(j_.o.hs.lt gh rfl).2;have Y:=HG.o.size;have h3:=SBM.o;omega⟩;go_upto_region 13 with fail
   refine Gq (fun w'=>w'.cell? ⟨B,4,none⟩=some (U (some ⟨gh,0,none⟩) x.aI.length ch)/\w'.cell? ⟨BM,0,none⟩=some (J m.aX)/\w'.cell? ⟨BM,1,none⟩=some (J m.aJ)/\w'.cell? ⟨BM,2,none⟩=some (J (j:Int))/\w'.cell? ⟨BM,3,none⟩=some (U tI m.aH.length tL)) [] κ ?_;intro wd GD zD;clear zD;refine pF [0,1,2,3,4,5,6,7,8,9,10,11,12,14,15,16] 26 κ (fun _ _ _ _ _ h=>h) (HS.o _ GD) ?_;repeat (refine jm ?_;try simp only [bT])
   refine pG ?_;refine kS 13 κ rfl ?_;intro K M;try simp only [dD]
   obtain⟨q0,q1,q2,q3,q4,q5,q6⟩:=nH.o _ GD;have zg:gh<wd.heap.size:=eH _ _ q0;go_simp;clear q0 q1 q2 q3 q4 q5 q6 zg;refine ψ M (.inr (HS.o _ GD)) ?_;try simp only [bT]
   refine kS 17 κ rfl ?_;intro K M;try simp only [dD]
   go_simp;go_at_call 78
   refine(Xv (h:=h) (m:=m) (me:=(j:Int)) wd ⟨_,rfl,Ty.hs.mono ((iO _ _ _).trans (aK.sub GD)) PA.o⟩ (by rw [<-HJM.o.2];exact A2e.o.mono (aK.sub GD)) AL.o.keys PZ.o.right.A0v (by have:=AL.o.len;have:=yw.o.le;omega) AL.o.aH (τ PZ.o.right.tG) (ku V V) AL.o.made).mono ?_;rintro e W7 ⟨v1,v2,rfl,Dc,W_,jQ⟩;obtain⟨RU,RV,R_,Si,id2,Sj,rfl⟩:=Dc.ig;obtain⟨tM,cs,rfl,-⟩:=id W_;have WL:=I (Gw.o.dL GD);have JR:=I (Dc.mono WL.o.new);have HM7:=I W_;have G7:=I (aK.trans GD jQ);have Ai:=I (WL.o.dL jQ);have HGH:Hid (gh<wd.heap.size):=I (WL.o.hs.lt gh rfl).2;clear Dc W_ jQ;refine ψ M (.inr (HS.o _ G7.o)) ?_;try simp only [bT]
   refine pF [18,19,20,21] 26 κ (fun _ _ _ _ _ h=>h) (HS.o _ G7.o) ?_;repeat (refine jm ?_;try simp only [bT])
   refine pG ?_;refine kS 22 κ rfl ?_;intro K M;refine aY rfl ?_;try simp only [dD]
   refine xG (.tmp 77) (.tmp 75) (i:=j) (x:=dK h m) rfl rfl rfl ρ Ai.o.hs hlt fO (by obtain⟨cs9,wG,fL⟩:=JR.o;cases wG;exact fL) ρ ?_;intro W8 nT g8;have RB8:=I (bJ Ai.o.row g8 (fun e=>NGB.o.1 (bI e).symm));have pS:=I (bJ (aF cU.o G7.o) g8 (fun e=>NGB.o.2 (bI e).symm));refine ψ M (.inr (by obtain⟨-,-,-,-,q4,-⟩:=bF RB8.o;obtain⟨n0,n1,n2,n3⟩:=aT pS.o;rw [HJM.o.2] at n2;exact⟨q4,n0,n1,n2,n3⟩)) ?_;try simp only [bT]
   refine pF [23] 26 κ (fun _ _ _ _ _ h=>h) (by obtain⟨-,-,-,-,q4,-⟩:=bF RB8.o;obtain⟨n0,n1,n2,n3⟩:=aT pS.o;rw [HJM.o.2] at n2;exact⟨q4,n0,n1,n2,n3⟩) ?_;repeat (refine jm ?_;try simp only [bT])
   refine pG ?_;refine Bf κ ?_;go_wp2;go_meet
   case rel=>
    have hsz:=G7.o.size;have hs8:=g8.size;have hs6:=gD.o;refine⟨al,ao,tM,cl,co,cs,x.aN,x.aI.set j (dK h m),dV h j m,rfl,Ai.o.A17 g8 nT,HM7.o.mono (ND g8 HGH.o),?_,?_,V⟩
    ·intro q O;exact SQ.o q (by rw [HJM.o.2];exact O)
    ·rw [HC.o,<-HJM.o.1,HJM.o.2]
 |false=>
   have HC:=I (XI (w:={ x with bM:=nt }) HHJ.o HF.o.symm);have SQ:Hid (∀q∈iQ x.aN m,cZ q=0):=I (WI.says (yV.o.core.mE PZ.o).2.2);have HS:Hid (∀W',aK W6 W'->W'.cell? ⟨BM,0,none⟩=some (J m.aX)/\W'.cell? ⟨BM,1,none⟩=some (J m.aJ)/\W'.cell? ⟨BM,2,none⟩=some (J m.aU)/\W'.cell? ⟨BM,3,none⟩=some (U tI m.aH.length tL)):=fun W' hW=>by
    obtain⟨n0,n1,n2,n3⟩:=aT (aF cU.o hW);exact⟨n0,n1,n2,n3⟩
   go_upto_region 9 with fail
   refine Gq (fun w'=>w'.cell? ⟨BM,0,none⟩=some (J m.aX)/\w'.cell? ⟨BM,1,none⟩=some (J m.aJ)/\w'.cell? ⟨BM,2,none⟩=some (J m.aU)/\w'.cell? ⟨BM,3,none⟩=some (U tI m.aH.length tL)) [] κ ?_;intro wd GD zD;clear zD;refine pF [0,1,2,3,5] 16 κ (fun _ _ _ _ _ h=>h) (HS.o _ GD) ?_;repeat (refine jm ?_;try simp only [bT])
   refine pG ?_;refine kS 4 κ rfl ?_;intro K M;try simp only [dD]
   obtain⟨q0,q1,q2,q3,-,-⟩:=bF (aF Gw.o.row GD);have zB:B<wd.heap.size:=eH _ _ q0;go_simp;clear q0 q1 q2 q3 zB;refine ψ M (.inr (HS.o _ GD)) ?_;try simp only [bT]
   refine kS 6 κ rfl ?_;intro K M;try simp only [dD]
   go_simp;go_at_call 79
   refine(VL (h:=x.aN) (m:=m) wd (Of.mono (aK.sub GD) Gw.o.fA) (A2e.o.mono (aK.sub GD)) yw.o.UY yw.o.Gf).mono ?_;rintro e W7 ⟨v1,v2,rfl,Dc,W_,jQ⟩;obtain⟨iC,iD,lY,lZ,rfl⟩:=Dc.iw;obtain⟨tM,cs,rfl,-⟩:=id W_;have WL:=I (Gw.o.dL GD);have JR:=I (Dc.mono WL.o.new);have HM7:=I W_;have G7:=I (aK.trans GD jQ);have Ai:=I (WL.o.dL jQ);have Yg:Hid (B<wd.heap.size):=I WL.o.lt;clear Dc W_ jQ;refine ψ M (.inr (HS.o _ G7.o)) ?_;try simp only [bT]
   refine pF [7,8,9,10,11] 16 κ (fun _ _ _ _ _ h=>h) (HS.o _ G7.o) ?_;repeat (refine jm ?_;try simp only [bT])
   refine pG ?_;refine kS 12 κ rfl ?_;intro K M;refine aY rfl ?_;try simp only [dD]
   refine jF (.tmp 51) (.tmp 48) (new:=#[U iC (gQ x.aN m).bg.length iD,J (gQ x.aN m).aW,J (gQ x.aN m).next,U lY (gQ x.aN m).bG.length lZ,U ah x.aI.length ch,U a1 nt.length c1]) rfl rfl rfl Ai.o.row eY σ ρ ρ ?_;intro W8 r8 g8;have pS:=I (bJ (aF cU.o G7.o) g8 (fun e=>A3b.o (bI e).symm));refine ψ M (.inr (by obtain⟨n0,n1,n2,n3⟩:=aT pS.o;exact⟨n0,n1,n2,n3⟩)) ?_;try simp only [bT]
   refine pF [13] 16 κ (fun _ _ _ _ _ h=>h) (by obtain⟨n0,n1,n2,n3⟩:=aT pS.o;exact⟨n0,n1,n2,n3⟩) ?_;repeat (refine jm ?_;try simp only [bT])
   refine pG ?_;refine Bf κ ?_;go_wp2;go_meet
   case rel=>
    have hsz:=G7.o.size;have hs8:=g8.size;have hs6:=gD.o;exact⟨iC,lY,tM,iD,lZ,cs,gQ x.aN m,x.aI,iQ x.aN m,rfl,Ai.o.JP g8 r8 JR.o,HM7.o.mono (ND g8 Yg.o),SQ.o,HC.o,V⟩
theorem A0x (x:AW) (sn:Int) (sp:List Pt):eU x ⟨1,sn,sp⟩=if dO sp x.aI.length=0 then uD x.aN else dO sp x.aI.length:=by unfold eU;simp
theorem A3d (x:AW) (sn:Int) (sp:List Pt):jZ x ⟨1,sn,sp⟩=if dO sp x.aI.length=0 then { x with aN:=kL x.aN sp,bM:=eu x.bM (nM x.aN sp) } else x:=by unfold jZ;simp
theorem A0y (x:AW) (sn:Int) (sp:List Pt):eU x ⟨5,sn,sp⟩=if sn=3 then uH x.aN else if uJ x sn=true then 0 else 6:=by unfold eU;simp
theorem A3e (x:AW) (sn:Int) (sp:List Pt):jZ x ⟨5,sn,sp⟩=if sn=3 then { x with aN:=lV x.aN } else x:=by unfold jZ;simp
theorem A0z (x:AW) (sn:Int) (sp:List Pt):eU x ⟨6,sn,sp⟩=if sn=3∨uJ x sn=true then 0 else 6:=by unfold eU;simp
theorem A3f (x:AW) (sn:Int) (sp:List Pt):jZ x ⟨6,sn,sp⟩=if sn=3∨uJ x sn=true then jy x sn.toNat else x:=by unfold jZ;simp
theorem bK.same {α:Type} {T:Ty α} {c:CM} {w:World} {base e:Nat} {v:Value} {l:List α} {j:Nat} {x:α} (hj:l[j]? =some x) (h:bK T c w base e v (l.set j x)):bK T c w base e v l:=by
 obtain⟨hlt,rfl⟩:=List.getElem?_eq_some_iff.1 hj;rwa [List.set_getElem_self] at h
theorem VN {w W:World} {B k:Nat} {vl vo vh vn vp:Value} {x:AW} {sp:List Pt} (sn:Int) (hb:iL w W B vl vo vh vn x) (hk:WK k x) (hp:pX W.cell? vp sp):
  Calls Tryz.prog 41 #[.pointer (some ⟨B,0,none⟩),vp] W fun e W'=>e=.returned (J (eU x ⟨1,sn,sp⟩))/\SP w W B vh (jZ x ⟨1,sn,sp⟩) W':=by
 obtain⟨al,cl,ao,co,ah,ch,an,cn,rfl,rfl,rfl,rfl⟩:=hb.form;obtain⟨n,G,hwi⟩:=hk.wi;have yV:=I hwi;have j_:=I hb;have yw:=I hk;have hl3:=hk.I5;have A0A:x.bM.length<=24:=hwi.len;have Am:Hid (x.aI.length=n):=I hwi.core.len;have HP:=I hp;obtain⟨ap,cp,rfl,-⟩:=hp;clear hb hk hwi;rw [A0x,A3d];by_cases hw:dO sp x.aI.length=0;rotate_left
 ·have hwb:(dO sp x.aI.length !=0)=true:=by simp [hw]
  rw [aV hw,aV hw];clear hw;go_enter Tryz.func41,Tryz.ntmps41;obtain⟨b0,b1,b2,b3,b4,b5⟩:=bF j_.o.row;have zB:B<W.heap.size:=j_.o.lt;go_wp2_with fail
  refine(Ea (h:=x.aI.length) W HP.o).mono ?_;rintro e W1 ⟨rfl,dZ⟩;have HG:=I dZ;clear dZ b0 b1 b2 b3 b4 b5 zB;go_wp2;go_ret;exact⟨rfl,_,_,_,j_.o.dL HG.o,HG.o.size⟩
 have hwb:(dO sp x.aI.length !=0)=false:=by simp [hw]
 rw [bC hw,bC hw];have HW:Hid (dO sp n=0):=I (by rw [<-Am.o];exact hw);have Dk:Hid (OQ sp):=I (Zf hl3.2 hw);have SQ:Hid (∀q∈nM x.aN sp,cZ q=0):=I (by
  by_cases hf:uI x.aN=true
  ·rw [(sG hf).2.1];simp
  ·exact WI.says (yV.o.core.begin HW.o (by simpa using hf)).2.2)
 clear hw;go_enter Tryz.func41,Tryz.ntmps41;obtain⟨b0,b1,b2,b3,b4,b5⟩:=bF j_.o.row;have zB:B<W.heap.size:=j_.o.lt;go_wp2_with fail
 refine(Ea (h:=x.aI.length) W HP.o).mono ?_;rintro e W1 ⟨rfl,dZ⟩;have VX:=I dZ;have oW:=I (j_.o.dL dZ);clear dZ b0 b1 b2 b3 b4 b5 zB;obtain⟨b0,b1,b2,b3,b4,b5⟩:=bF oW.o.row;have zB:B<W1.heap.size:=oW.o.lt;go_wp2_with fail
 refine(Vz W1 oW.o.fA (HP.o.mono VX.o.sub) yw.o.UY yw.o.Gf.logp Dk.o).mono ?_;rintro e W2 ⟨v1,v2,rfl,pV,Ye,gB⟩;have AX:=I (pV.mono oW.o.new);have yI:=I (Ye.mono (fG _ _));have jq:=I (oW.o.dL gB);have Gl:Hid (W.heap.size<=W2.heap.size):=I (by have:=VX.o.size;have:=gB.size;omega);clear pV gB b0 b1 b2 b3 b4 b5 zB hwb;generalize Dw:kL x.aN sp=nZ at*;generalize Dx:nM x.aN sp=ms at*;generalize AM:uD x.aN=be at*;have LQ:=I Dw;have Il:=I Dx;have PS:=I AM;clear Dw Dx AM;obtain⟨iC,iD,lY,lZ,rfl⟩:=AX.o.iw;obtain⟨tM,cs,rfl,-⟩:=Ye;obtain⟨W3,hW3⟩:=χ (W2.alloc (.cells #[U iC nZ.bg.length iD,J nZ.aW,J nZ.next,U lY nZ.bG.length lZ] 29));obtain⟨BH,IW⟩:=χ W2.heap.size;have AU:Hid (aK W2 W3):=I (by rw [hW3];exact(aG _).alloc _);have RH3:Hid (W3.heap[BH]? =some (.cells #[U iC nZ.bg.length iD,J nZ.aW,J nZ.next,U lY nZ.bG.length lZ] 29 (0,0))):=I (by rw [hW3,IW];exact bn _ _);have HNB:Hid (BH≠B):=I (fun e=>by have:=jq.o.lt;omega);go_upto_region 5 with fail
 rw [<-hW3,<-IW];clear hW3 IW;have lU:=I (jq.o.dL AU.o);have Dj:=I (AX.o.mono (fH AU.o));have NI:=I (yI.o.mono AU.o.sub);have tP:Hid (W.heap.size<=W3.heap.size):=I (by have:=Gl.o;have:=AU.o.size;omega);clear AX yI jq Gl;have HS:Hid (∀W',aK W3 W'->W'.cell? ⟨BH,0,none⟩=some (U iC nZ.bg.length iD)/\W'.cell? ⟨BH,1,none⟩=some (J nZ.aW)/\W'.cell? ⟨BH,2,none⟩=some (J nZ.next)/\W'.cell? ⟨BH,3,none⟩=some (U lY nZ.bG.length lZ)/\W'.cell? ⟨B,5,none⟩=some (U an x.bM.length cn)):=fun W' hW=>by
  obtain⟨n0,n1,n2,n3⟩:=aT (aF RH3.o hW);obtain⟨-,-,-,-,-,q5⟩:=bF (aF lU.o.row hW);exact⟨n0,n1,n2,n3,q5⟩
 refine Gq (fun w'=>w'.cell? ⟨BH,0,none⟩=some (U iC nZ.bg.length iD)/\w'.cell? ⟨BH,1,none⟩=some (J nZ.aW)/\w'.cell? ⟨BH,2,none⟩=some (J nZ.next)/\w'.cell? ⟨BH,3,none⟩=some (U lY nZ.bG.length lZ)/\w'.cell? ⟨B,5,none⟩=some (U an x.bM.length cn)) [14] κ ?_;intro wd GD zD;clear zD;refine pF [0,1,2,3,4,5,6,7] 17 κ (fun _ _ _ _ _ h=>h) (HS.o _ GD) ?_;repeat (refine jm ?_;try simp only [bT])
 refine pG ?_;refine kS 8 κ rfl ?_;intro K M;try simp only [dD]
 go_simp;go_at_call 48
 refine(Bj (l:=x.bM.map dh) (ms:=ms) wd (Sl.mono (iO _ _ _) (lU.o.dL GD).bM) (NI.o.mono (aK.sub GD)) SQ.o (by rw [List.length_map];omega) (fun b hb=>by
  obtain⟨q,O,rfl⟩:=List.mem_map.1 hb;have:=vG (yV.o.right q O);omega)).mono ?_
 rintro e W5 ⟨v5,rfl,mW,iY⟩;obtain⟨a5,c5,hv5⟩:=mW.form;rw [show(kC (x.bM.map dh) ms).length=(eu x.bM ms).length by rw [iK,List.length_map]] at hv5;subst hv5;have AA:=I (lU.o.dL GD);have oQ:=I mW;have G5:=I (aK.trans GD iY);have AV:=I (AA.o.dL iY);clear mW iY;refine ψ M (.inr (HS.o _ G5.o)) ?_;try simp only [bT]
 refine pF [9,10] 17 κ (fun _ _ _ _ _ h=>h) (HS.o _ G5.o) ?_;repeat (refine jm ?_;try simp only [bT])
 refine pG ?_;refine kS 11 κ rfl ?_;intro K M;refine aY rfl ?_;try simp only [dD]
 refine jF (.tmp 39) (.tmp 31) (new:=#[U iC nZ.bg.length iD,J nZ.aW,J nZ.next,U lY nZ.bG.length lZ,U ah x.aI.length ch,U an x.bM.length cn]) rfl rfl rfl AV.o.row eY σ ρ ρ ?_;intro W6 r6 g6;have Gw:=I (AV.o.JP g6 r6 (Dj.o.mono (fH G5.o)));have R6:=I r6;have S6:Hid (W.heap.size<=W6.heap.size):=I (by have:=tP.o;have:=G5.o.size;have:=g6.size;omega);have EN:Hid (yS (fr w W6 (BP B (U ah x.aI.length ch))) (U a5 (eu x.bM ms).length c5) ((eu x.bM ms).map dh)):=I (by
  have h9:=((bK.YJ ε oQ.o).mono AA.o.new).mono (AV.o.keeps g6);rw [iK] at h9;exact h9)
 have RH6:=I (bJ (aF RH3.o G5.o) g6 (fun e=>HNB.o (bI e)));clear r6 g6;refine ψ M (.inr (by obtain⟨n0,n1,n2,n3⟩:=aT RH6.o;obtain⟨-,-,-,-,-,q5⟩:=bF R6.o;exact⟨n0,n1,n2,n3,q5⟩)) ?_;try simp only [bT]
 refine pF [12,13] 17 κ (fun _ _ _ _ _ h=>h) (by obtain⟨n0,n1,n2,n3⟩:=aT RH6.o;obtain⟨-,-,-,-,-,q5⟩:=bF R6.o;exact⟨n0,n1,n2,n3,q5⟩) ?_;repeat (refine jm ?_;try simp only [bT])
 refine pG ?_;refine kS 14 κ rfl ?_;intro K M;refine aY rfl ?_;try simp only [dD]
 refine dF (.tmp 41) (.tmp 37) (v:=U a5 (eu x.bM ms).length c5) (new:=#[U iC nZ.bg.length iD,J nZ.aW,J nZ.next,U lY nZ.bG.length lZ,U ah x.aI.length ch,U a5 (eu x.bM ms).length c5]) rfl rfl ρ ρ R6.o qZ σ ρ ρ ?_;intro W7 r7 g7;have Ai:=I (Gw.o.XH g7 r7 EN.o);have S7:Hid (W.heap.size<=W7.heap.size):=I (by have:=S6.o;have:=g7.size;omega);clear r7 g7;refine ψ M (.inl ε) ?_;try simp only [bT]
 refine Bf κ ?_;go_wp2;go_ret;exact⟨dQ PS.o.symm,_,_,_,by rw [LQ.o,Il.o];exact Ai.o,S7.o⟩
theorem XK {w W:World} {B k:Nat} {vl vo vh vn:Value} {x:AW} {sn:Int} (sp:List Pt) (hb:iL w W B vl vo vh vn x) (hk:WK k x):
  Calls Tryz.prog 45 #[.pointer (some ⟨B,0,none⟩),J sn] W fun e W'=>e=.returned (J (eU x ⟨5,sn,sp⟩))/\SP w W B vh (jZ x ⟨5,sn,sp⟩) W':=by
 obtain⟨al,cl,ao,co,ah,ch,an,cn,rfl,rfl,rfl,rfl⟩:=hb.form;obtain⟨n,G,hwi⟩:=hk.wi;have j_:=I hb;have yw:=I hk;have hl3:=hk.I5;have A0A:x.bM.length<=24:=hwi.len;clear hb hk hwi;rw [A0y,A3e];by_cases h3:sn=3
 ·rw [bC h3,bC h3]
  have t3:(sn==3)=true:=by simp [h3]
  clear h3;go_enter Tryz.func45,Tryz.ntmps45;obtain⟨b0,b1,b2,b3,b4,b5⟩:=bF j_.o.row;have zB:B<W.heap.size:=j_.o.lt;go_wp2_with fail
  refine(Xy W j_.o.fA yw.o.UY yw.o.Gf.logp).mono ?_;rintro e W1 ⟨v1,rfl,Gs,dZ⟩;have Kq:=I (Gs.mono j_.o.new);have oW:=I (j_.o.dL dZ);have eW:=I dZ.size;clear Gs dZ b0 b1 b2 b3 b4 b5 zB t3;generalize Dw:lV x.aN=nZ at*;generalize Dx:uH x.aN=fe at*;have LQ:=I Dw;have Il:=I Dx;clear Dw Dx;obtain⟨iC,iD,lY,lZ,rfl⟩:=Kq.o.iw;obtain⟨W3,hW3⟩:=χ (W1.alloc (.cells #[U iC nZ.bg.length iD,J nZ.aW,J nZ.next,U lY nZ.bG.length lZ] 29));obtain⟨BH,IW⟩:=χ W1.heap.size;have AU:Hid (aK W1 W3):=I (by rw [hW3];exact(aG _).alloc _);have RH3:Hid (W3.heap[BH]? =some (.cells #[U iC nZ.bg.length iD,J nZ.aW,J nZ.next,U lY nZ.bG.length lZ] 29 (0,0))):=I (by rw [hW3,IW];exact bn _ _);go_upto_region 3 with fail
  rw [<-hW3,<-IW];clear hW3 IW;have lU:=I (oW.o.dL AU.o);have Dj:=I (Kq.o.mono (fH AU.o));have tP:Hid (W.heap.size<=W3.heap.size):=I (by have:=eW.o;have:=AU.o.size;omega);obtain⟨n0,n1,n2,n3⟩:=aT RH3.o;have zH:BH<W3.heap.size:=(γ RH3.o);go_wp2_with (first|(refine xH rfl (.tmp 21) (.tmp 19) (new:=#[U iC nZ.bg.length iD,J nZ.aW,J nZ.next,U lY nZ.bG.length lZ,U ah x.aI.length ch,U an x.bM.length cn]) rfl rfl rfl lU.o.row eY σ ρ ρ ?_))
  intro W4 r4 g4;have AA:=I (lU.o.JP g4 r4 Dj.o);have V_:Hid (W.heap.size<=W4.heap.size):=I (by have:=tP.o;have:=g4.size;omega);clear r4 g4 n0 n1 n2 n3 zH;go_wp2;go_ret;exact⟨dQ Il.o.symm,_,_,_,by rw [LQ.o];exact AA.o,V_.o⟩
 have t3:(sn==3)=false:=by simp [h3]
 rw [aV h3,aV h3];clear h3;by_cases hh:uJ x sn=true;rotate_left
 ·have hn:¬(0<=sn/\sn<x.aI.length):=fun e=>hh (by unfold uJ;exact decide_eq_true e)
  rw [aV hh];clear hh;go_enter Tryz.func45,Tryz.ntmps45;obtain⟨b0,b1,b2,b3,b4,b5⟩:=bF j_.o.row;have zB:B<W.heap.size:=j_.o.lt;by_cases h0:sn<0
  ·clear hn
   go_wp2;go_ret;exact⟨rfl,_,_,_,j_.o,Nat.le_refl _⟩
  ·have N:(x.aI.length:Int)<=sn:=by omega
   clear hn;go_wp2;go_ret;exact⟨rfl,_,_,_,j_.o,Nat.le_refl _⟩
 rw [bC hh];have hn:0<=sn/\sn<x.aI.length:=of_decide_eq_true hh;obtain⟨j,rfl⟩:∃j:Nat,sn=(j:Int):=⟨sn.toNat,V⟩;have hlt:j<x.aI.length:=by omega
 have hz0:¬(j:Int)<0:=by omega
 have hz1:¬(x.aI.length:Int)<=(j:Int):=by omega
 have hz2:(j:Int)<(x.aI.length:Int):=by omega
 have AL:=I (yw.o.hs (dM hlt));obtain⟨gh,cs0,rfl,tO,O3⟩:=j_.o.hs.get ε j hlt;obtain⟨il,jl,ir,jr,yX,jd,rfl⟩:=NH tO;have PA:=I tO;have Kt:=I O3;clear tO O3;obtain⟨h,hh9⟩:=χ (x.aI[j]);rw [<-hh9] at AL PA Kt;have HJ2:Hid (x.aI[j]? =some h):=I (by rw [hh9];exact dM hlt);clear hh9;clear hh hn;go_enter Tryz.func45,Tryz.ntmps45;obtain⟨b0,b1,b2,b3,b4,b5⟩:=bF j_.o.row;have zB:B<W.heap.size:=j_.o.lt;go_upto_region 7 with fail
 clear b0 b1 b2 b3 b4 b5 zB;have HS:Hid (∀W',aK W W'->W'.cell? ⟨B,4,none⟩=some (U (some ⟨gh,0,none⟩) x.aI.length ch)/\W'.cell? ⟨gh,j*7,none⟩=some (U il h.bg.length jl)):=fun W' hW=>by
  obtain⟨-,-,-,-,q4,-⟩:=bF (aF j_.o.row hW);exact⟨q4,by have h9:=Kt.o 0 _ rfl;simp only [show Ty.hs.size=7 from rfl,Nat.add_zero] at h9;exact hW.sub _ _ h9⟩
 refine Gq (fun w'=>w'.cell? ⟨B,4,none⟩=some (U (some ⟨gh,0,none⟩) x.aI.length ch)/\w'.cell? ⟨gh,j*7,none⟩=some (U il h.bg.length jl)) [15] κ ?_;intro wd GD zD;clear zD;refine pF [0,1,2,3,4,5,6,7,8,9,10,11,12] 18 κ (fun _ _ _ _ _ h=>h) (HS.o _ GD) ?_;repeat (refine jm ?_;try simp only [bT])
 refine pG ?_;refine kS 13 κ rfl ?_;intro K M;try simp only [dD]
 go_simp;go_at_call 38
 refine(vN wd (l:=h.bg) (by obtain⟨v1,v2,v3,he,hr,-⟩:=PA.o;cases he;exact hr.mono ((iO _ _ _).trans (aK.sub GD))) AL.o.keys (by have:=AL.o.len;have:=yw.o.le;omega) AL.o.aH).mono ?_;rintro e W5 ⟨v5,rfl,mW,iY⟩;rw [<-show h=jM h.bg from AL.o.made] at mW;obtain⟨RU,RV,R_,Si,id2,Sj,rfl⟩:=mW.ig;have WL:=I (j_.o.dL GD);have oQ:=I (mW.mono WL.o.new);have G5:=I (aK.trans GD iY);have AV:=I (WL.o.dL iY);clear mW iY;refine ψ M (.inr (HS.o _ G5.o)) ?_;try simp only [bT]
 refine pF [14] 18 κ (fun _ _ _ _ _ h=>h) (HS.o _ G5.o) ?_;repeat (refine jm ?_;try simp only [bT])
 refine pG ?_;refine kS 15 κ rfl ?_;intro K M;refine aY rfl ?_;try simp only [dD]
 refine xG (.tmp 49) (.tmp 48) (i:=j) (x:=h) rfl rfl rfl ρ AV.o.hs hlt fO (by obtain⟨cs9,wG,fL⟩:=oQ.o;cases wG;exact fL) ρ ?_;intro W6 tZ g6;have Gw:=I (AV.o.A17 g6 (tZ.same HJ2.o));have S6:Hid (W.heap.size<=W6.heap.size):=I (by have:=G5.o.size;have:=g6.size;omega);clear tZ g6;refine ψ M (.inl ε) ?_;try simp only [bT]
 refine Bf κ ?_;go_wp2;go_ret;exact⟨rfl,_,_,_,Gw.o,S6.o⟩
theorem XL {w W:World} {B k:Nat} {vl vo vh vn:Value} {x:AW} {sn:Int} (sp:List Pt) (hb:iL w W B vl vo vh vn x) (hk:WK k x):
  Calls Tryz.prog 46 #[.pointer (some ⟨B,0,none⟩),J sn] W fun e W'=>e=.returned (J (eU x ⟨6,sn,sp⟩))/\SP w W B vh (jZ x ⟨6,sn,sp⟩) W':=by
 obtain⟨al,cl,ao,co,ah,ch,an,cn,rfl,rfl,rfl,rfl⟩:=hb.form;obtain⟨n,G,hwi⟩:=hk.wi;have yV:=I hwi;have j_:=I hb;have yw:=I hk;have hl3:=hk.I5;have A0A:x.bM.length<=24:=hwi.len;clear hb hk hwi;rw [A0z,A3f];by_cases h3:sn=3
 ·rw [bC (.inl h3),bC (.inl h3)]
  have HT:Hid (jy x sn.toNat={ x with bM:=eu x.bM (qO x.aN) }):=I (by rw [h3];rfl);have SQ:Hid (∀q∈qO x.aN,cZ q=0):=I (WI.says (Mc yV.o.core));have t3:(sn==3)=true:=by simp [h3]
  rw [HT.o];clear h3 HT;have lU:=I j_.o;have HS:Hid (∀W',aK W W'->W'.cell? ⟨B,0,none⟩=some (U al x.aN.bg.length cl)/\W'.cell? ⟨B,1,none⟩=some (J x.aN.aW)/\W'.cell? ⟨B,2,none⟩=some (J x.aN.next)/\W'.cell? ⟨B,3,none⟩=some (U ao x.aN.bG.length co)/\W'.cell? ⟨B,5,none⟩=some (U an x.bM.length cn)):=fun W' hW=>by
   obtain⟨q0,q1,q2,q3,-,q5⟩:=bF (aF j_.o.row hW);exact⟨q0,q1,q2,q3,q5⟩
  go_enter Tryz.func46,Tryz.ntmps46;go_upto_region 3 with fail
  clear t3;refine Gq (fun w'=>w'.cell? ⟨B,0,none⟩=some (U al x.aN.bg.length cl)/\w'.cell? ⟨B,1,none⟩=some (J x.aN.aW)/\w'.cell? ⟨B,2,none⟩=some (J x.aN.next)/\w'.cell? ⟨B,3,none⟩=some (U ao x.aN.bG.length co)/\w'.cell? ⟨B,5,none⟩=some (U an x.bM.length cn)) [13] κ ?_;intro wd GD zD;clear zD;refine pF [0,1,2,3,4,5,6,7,8] 16 κ (fun _ _ _ _ _ h=>h) (HS.o _ GD) ?_;repeat (refine jm ?_;try simp only [bT])
  refine pG ?_;refine kS 9 κ rfl ?_;intro K M;try simp only [dD]
  go_simp;go_at_call 84
  refine(Xx wd (Of.mono (aK.sub GD) j_.o.fA) yw.o.UY yw.o.Gf.aH).mono ?_;rintro e W4 ⟨v4,rfl,vO,qW⟩;obtain⟨tM,cs,rfl⟩:=vO.form;have HM4:=I ((bK.YJ ε vO).mono (fG _ _));have G4:=I (aK.trans GD qW);clear vO qW;refine ψ M (.inr (HS.o _ G4.o)) ?_;try simp only [bT]
  refine kS 10 κ rfl ?_;intro K M;try simp only [dD]
  go_simp;go_at_call 48
  refine(Bj (l:=x.bM.map dh) (ms:=(qO x.aN)) W4 (Sl.mono (iO _ _ _) (lU.o.dL G4.o).bM) HM4.o SQ.o (by rw [List.length_map];omega) (fun b hb=>by
   obtain⟨q,O,rfl⟩:=List.mem_map.1 hb;have:=vG (yV.o.right q O);omega)).mono ?_
  rintro e W5 ⟨v5,rfl,mW,iY⟩;obtain⟨a5,c5,hv5⟩:=mW.form;rw [show(kC (x.bM.map dh) (qO x.aN)).length=(eu x.bM (qO x.aN)).length by rw [iK,List.length_map]] at hv5;subst hv5;have AA:=I (lU.o.dL G4.o);have oQ:=I mW;have GS5:=I iY;have G5:=I (aK.trans G4.o iY);have AV:=I (AA.o.dL iY);clear mW iY;refine ψ M (.inr (HS.o _ G5.o)) ?_;try simp only [bT]
  refine pF [11,12] 16 κ (fun _ _ _ _ _ h=>h) (HS.o _ G5.o) ?_;repeat (refine jm ?_;try simp only [bT])
  refine pG ?_;refine kS 13 κ rfl ?_;intro K M;refine aY rfl ?_;try simp only [dD]
  refine dF (.tmp 37) (.tmp 35) (v:=U a5 (eu x.bM (qO x.aN)).length c5) (new:=#[U al x.aN.bg.length cl,J x.aN.aW,J x.aN.next,U ao x.aN.bG.length co,U ah x.aI.length ch,U a5 (eu x.bM (qO x.aN)).length c5]) rfl rfl ρ ρ AV.o.row qZ σ ρ ρ ?_;intro W7 r7 g7;have Ai:=I (AA.o.sent oQ.o GS5.o g7 r7);have S7:Hid (W.heap.size<=W7.heap.size):=I (by have:=G5.o.size;have:=g7.size;omega);clear r7 g7;refine ψ M (.inl ε) ?_;try simp only [bT]
  refine Bf κ ?_;go_wp2;go_ret;exact⟨rfl,_,_,_,Ai.o,S7.o⟩
 have t3:(sn==3)=false:=by simp [h3]
 by_cases hh:uJ x sn=true;rotate_left
 ·have hn:¬(0<=sn/\sn<x.aI.length):=fun e=>hh (by unfold uJ;exact decide_eq_true e)
  rw [aV (by rintro(e|e);exact h3 e;exact hh e),aV (by rintro(e|e);exact h3 e;exact hh e)];clear hh h3;go_enter Tryz.func46,Tryz.ntmps46;obtain⟨b0,b1,b2,b3,b4,b5⟩:=bF j_.o.row;have zB:B<W.heap.size:=j_.o.lt;by_cases h0:sn<0
  ·clear hn
   go_wp2;go_ret;exact⟨rfl,_,_,_,j_.o,Nat.le_refl _⟩
  ·have N:(x.aI.length:Int)<=sn:=by omega
   clear hn;go_wp2;go_ret;exact⟨rfl,_,_,_,j_.o,Nat.le_refl _⟩
 rw [bC (.inr hh),bC (.inr hh)];have hn:0<=sn/\sn<x.aI.length:=of_decide_eq_true hh;obtain⟨j,rfl⟩:∃j:Nat,sn=(j:Int):=⟨sn.toNat,V⟩;have hlt:j<x.aI.length:=by omega
 have hz0:¬(j:Int)<0:=by omega
 have hz1:¬(x.aI.length:Int)<=(j:Int):=by omega
 have hz2:(j:Int)<(x.aI.length:Int):=by omega
 have AL:=I (yw.o.hs (dM hlt));obtain⟨gh,cs0,rfl,tO,O3⟩:=j_.o.hs.get ε j hlt;obtain⟨il,jl,ir,jr,yX,jd,rfl⟩:=NH tO;have PA:=I tO;have Kt:=I O3;clear tO O3;obtain⟨h,hh9⟩:=χ (x.aI[j]);rw [<-hh9] at AL PA Kt;have HJ2:Hid (x.aI[j]? =some h):=I (by rw [hh9];exact dM hlt);clear hh9;have HT:Hid (jy x ((j:Int)).toNat={ x with bM:=eu x.bM (mg h j) }):=I (by
  unfold jy;rw [aV V];simp only [Int.toNat_natCast];rw [HJ2.o])
 have SQ:Hid (∀q∈mg h j,cZ q=0):=I (WI.says (L_ yV.o.core HJ2.o));rw [HT.o];clear hh hn h3 HT;have lU:=I j_.o;have HS:Hid (∀W',aK W W'->W'.cell? ⟨B,4,none⟩=some (U (some ⟨gh,0,none⟩) x.aI.length ch)/\W'.cell? ⟨B,5,none⟩=some (U an x.bM.length cn)/\W'.cell? ⟨gh,j*7,none⟩=some (U il h.bg.length jl)/\W'.cell? ⟨gh,j*7+1,none⟩=some (J h.aP.a)/\W'.cell? ⟨gh,j*7+2,none⟩=some (J h.aP.b)/\W'.cell? ⟨gh,j*7+3,none⟩=some (J h.aP.c)/\W'.cell? ⟨gh,j*7+4,none⟩=some (J h.aP.d)/\W'.cell? ⟨gh,j*7+5,none⟩=some (U ir h.ready.length jr)/\W'.cell? ⟨gh,j*7+6,none⟩=some (U yX h.done.length jd)):=fun W' hW=>by
  obtain⟨-,-,-,-,q4,q5⟩:=bF (aF j_.o.row hW);exact⟨q4,q5,by have h9:=Kt.o 0 _ rfl;simp only [show Ty.hs.size=7 from rfl,Nat.add_zero] at h9;exact hW.sub _ _ h9,by have h9:=Kt.o 1 _ rfl;simp only [show Ty.hs.size=7 from rfl] at h9;exact hW.sub _ _ h9,by have h9:=Kt.o 2 _ rfl;simp only [show Ty.hs.size=7 from rfl] at h9;exact hW.sub _ _ h9,by have h9:=Kt.o 3 _ rfl;simp only [show Ty.hs.size=7 from rfl] at h9;exact hW.sub _ _ h9,by have h9:=Kt.o 4 _ rfl;simp only [show Ty.hs.size=7 from rfl] at h9;exact hW.sub _ _ h9,by have h9:=Kt.o 5 _ rfl;simp only [show Ty.hs.size=7 from rfl] at h9;exact hW.sub _ _ h9,by have h9:=Kt.o 6 _ rfl;simp only [show Ty.hs.size=7 from rfl] at h9;exact hW.sub _ _ h9⟩
 go_enter Tryz.func46,Tryz.ntmps46;obtain⟨b0,b1,b2,b3,b4,b5⟩:=bF j_.o.row;have zB:B<W.heap.size:=j_.o.lt;go_upto_region 1 with fail
 clear b0 b1 b2 b3 b4 b5 zB t3;refine Gq (fun w'=>w'.cell? ⟨B,4,none⟩=some (U (some ⟨gh,0,none⟩) x.aI.length ch)/\w'.cell? ⟨B,5,none⟩=some (U an x.bM.length cn)/\w'.cell? ⟨gh,j*7,none⟩=some (U il h.bg.length jl)/\w'.cell? ⟨gh,j*7+1,none⟩=some (J h.aP.a)/\w'.cell? ⟨gh,j*7+2,none⟩=some (J h.aP.b)/\w'.cell? ⟨gh,j*7+3,none⟩=some (J h.aP.c)/\w'.cell? ⟨gh,j*7+4,none⟩=some (J h.aP.d)/\w'.cell? ⟨gh,j*7+5,none⟩=some (U ir h.ready.length jr)/\w'.cell? ⟨gh,j*7+6,none⟩=some (U yX h.done.length jd)) [17] κ ?_;intro wd GD zD;clear zD;refine pF [0,1,2,3,4,5,6,7,8,9,10,11,12] 20 κ (fun _ _ _ _ _ h=>h) (HS.o _ GD) ?_;repeat (refine jm ?_;try simp only [bT])
 refine pG ?_;refine kS 13 κ rfl ?_;intro K M;try simp only [dD]
 go_simp;go_at_call 85
 refine(WO (h:=h) (me:=(j:Int)) wd ⟨_,rfl,Ty.hs.mono ((iO _ _ _).trans (aK.sub GD)) PA.o⟩ (ku V V) (τ AL.o.ready)).mono ?_;rintro e W4 ⟨v4,rfl,vO,qW⟩;obtain⟨tM,cs,rfl⟩:=vO.form;have HM4:=I (bK.sl ε (fun _ _ e=>by cases e) vO);have G4:=I (aK.trans GD qW);clear vO qW;refine ψ M (.inr (HS.o _ G4.o)) ?_;try simp only [bT]
 refine kS 14 κ rfl ?_;intro K M;try simp only [dD]
 go_simp;go_at_call 48
 refine(Bj (l:=x.bM.map dh) (ms:=(mg h j)) W4 (Sl.mono (iO _ _ _) (lU.o.dL G4.o).bM) HM4.o SQ.o (by rw [List.length_map];omega) (fun b hb=>by
  obtain⟨q,O,rfl⟩:=List.mem_map.1 hb;have:=vG (yV.o.right q O);omega)).mono ?_
 rintro e W5 ⟨v5,rfl,mW,iY⟩;obtain⟨a5,c5,hv5⟩:=mW.form;rw [show(kC (x.bM.map dh) (mg h j)).length=(eu x.bM (mg h j)).length by rw [iK,List.length_map]] at hv5;subst hv5;have AA:=I (lU.o.dL G4.o);have oQ:=I mW;have GS5:=I iY;have G5:=I (aK.trans G4.o iY);have AV:=I (AA.o.dL iY);clear mW iY;refine ψ M (.inr (HS.o _ G5.o)) ?_;try simp only [bT]
 refine pF [15,16] 20 κ (fun _ _ _ _ _ h=>h) (HS.o _ G5.o) ?_;repeat (refine jm ?_;try simp only [bT])
 refine pG ?_;refine kS 17 κ rfl ?_;intro K M;refine aY rfl ?_;try simp only [dD]
 refine dF (.tmp 21) (.tmp 19) (v:=U a5 (eu x.bM (mg h j)).length c5) (new:=#[U al x.aN.bg.length cl,J x.aN.aW,J x.aN.next,U ao x.aN.bG.length co,U (some ⟨gh,0,none⟩) x.aI.length ch,U a5 (eu x.bM (mg h j)).length c5]) rfl rfl ρ ρ AV.o.row qZ σ ρ ρ ?_;intro W7 r7 g7;have Ai:=I (AA.o.sent oQ.o GS5.o g7 r7);have S7:Hid (W.heap.size<=W7.heap.size):=I (by have:=G5.o.size;have:=g7.size;omega);clear r7 g7;refine ψ M (.inl ε) ?_;try simp only [bT]
 refine Bf κ ?_;go_wp2;go_ret;exact⟨rfl,_,_,_,Ai.o,S7.o⟩
theorem A0B (x:AW) (sn:Int) (sp:List Pt):eU x ⟨3,sn,sp⟩=if there x sn=true then 0 else 6:=by unfold eU;simp
theorem A3g (x:AW) (sn:Int) (sp:List Pt):jZ x ⟨3,sn,sp⟩=if there x sn=true then { x with bM:=x.bM.eraseIdx sn.toNat } else x:=by unfold jZ;simp
theorem A0C (x:AW) (sn:Int) (sp:List Pt):eU x ⟨4,sn,sp⟩=if there x sn=true then 0 else 6:=by unfold eU;simp
theorem A3h (x:AW) (sn:Int) (sp:List Pt):jZ x ⟨4,sn,sp⟩=if there x sn=true/\x.bM.length<24 then { x with bM:=x.bM++ [x.bM.getD sn.toNat ⟨0,0,0,[]⟩] } else x:=by unfold jZ;simp
theorem A0D (x:AW) (sn:Int) (sp:List Pt):eU x ⟨7,sn,sp⟩=0:=by unfold eU;simp
theorem A3i (x:AW) (sn:Int) (sp:List Pt):jZ x ⟨7,sn,sp⟩={ x with aN:=oZ x.aN,bM:=eu x.bM (xE x.aN) }:=by unfold jZ;simp
theorem A0E (x:AW) {kd:Int} (sn:Int) (sp:List Pt) (h:kd≠1/\kd≠2/\kd≠3/\kd≠4/\kd≠5/\kd≠6/\kd≠7):eU x ⟨kd,sn,sp⟩=1/\jZ x ⟨kd,sn,sp⟩=x:=by
 obtain⟨N,Y,h3,h4,h5,h6,h7⟩:=h;unfold eU jZ;simp [N,Y,h3,h4,h5,h6,h7]
theorem d9 (x:AW) (sn:Int) (sp:List Pt):vP (x.bM.map dh) sn=((jZ x ⟨4,sn,sp⟩).bM.map dh,eU x ⟨4,sn,sp⟩)/\(jZ x ⟨4,sn,sp⟩)={ x with bM:=(jZ x ⟨4,sn,sp⟩).bM }:=by
 rw [A3h,A0C];unfold vP;rw [List.length_map];by_cases h:there x sn=true
 ·have hh:0<=sn/\sn<x.bM.length:=of_decide_eq_true h
  have hlt:sn.toNat<x.bM.length:=by omega
  rw [bC hh,bC h];by_cases Y:x.bM.length<24
  ·rw [bC Y,bC ⟨h,Y⟩]
   refine⟨?_,rfl⟩;rw [List.getD_eq_getElem?_getD,List.getElem?_map,dM hlt,List.getD_eq_getElem?_getD,dM hlt];simp
  ·rw [aV Y,aV (fun e=>Y e.2)]
   exact⟨rfl,rfl⟩
 ·have hh:¬(0<=sn/\sn<x.bM.length):=fun e=>h (decide_eq_true e)
  rw [aV hh,aV h,aV (fun e=>h e.1)];exact⟨rfl,rfl⟩
theorem NJ {v vs:Value} {x:AW} {s:St} {k:Nat} (w:World) (hv:Of Ty.wd w.cell? v x) (hs:Of Ty.st w.cell? vs s) (hk:WK k x):
  Calls Tryz.prog 15 #[v,vs] w fun e w'=>∃v',e=.returned (.tuple #[v',J (eU x s)])/\Of Ty.wd (ov (fun _=>none) w w') v' (jZ x s)/\aK w w':=by
 obtain⟨kd,sn,sp⟩:=s;have HOW:=I (fun(W:World) (hW:aK w W)=>I7 W (hv.mono hW.sub) hk);obtain⟨al,cl,ao,co,ah,ch,an,cn,rfl⟩:=hv.dJ;obtain⟨ap,cp,rfl⟩:=hs.YR;have C_:=I hs.UW.2;have yw:=I hk;obtain⟨n,G,hwi⟩:=hk.wi;have A0A:x.bM.length<=24:=hwi.len;have yV:=I hwi;clear hv hs hk hwi;obtain⟨wa,fZ⟩:=χ (w.alloc (.cells #[U al x.aN.bg.length cl,J x.aN.aW,J x.aN.next,U ao x.aN.bG.length co,U ah x.aI.length ch,U an x.bM.length cn] 33));obtain⟨wb,hwb⟩:=χ (wa.alloc (.cells #[J kd,J sn,U ap sp.length cp] 25));obtain⟨wz,hwz⟩:=χ (wb.alloc (.cells #[(),J 0,J 0,(),(),()] 33));have hsa:wa.heap.size=w.heap.size+1:=by rw [fZ];simp
 have hsb:wb.heap.size=w.heap.size+2:=by rw [hwb];simp [hsa]
 have R2:Hid (wz.heap[w.heap.size]? =some (.cells #[U al x.aN.bg.length cl,J x.aN.aW,J x.aN.next,U ao x.aN.bG.length co,U ah x.aI.length ch,U an x.bM.length cn] 33 (0,0))):=I (by rw [hwz,hwb,fZ];exact bQ (bQ (bn _ _) _) _);have R3:Hid (wz.heap[w.heap.size+1]? =some (.cells #[J kd,J sn,U ap sp.length cp] 25 (0,0))):=I (by rw [hwz,hwb,<-hsa];exact bQ (bn _ _) _);have R4:Hid (wz.heap[w.heap.size+2]? =some (.cells #[(),J 0,J 0,(),(),()] 33 (0,0))):=I (by rw [hwz,<-hsb];exact bn _ _);have G1:Hid (aK w wz):=I (by rw [hwz,hwb,fZ];exact(((aG w).alloc _).alloc _).alloc _);have HZ:Hid (wz.heap.size=w.heap.size+3):=I (by rw [hwz];simp [hsb]);go_enter Tryz.func15,Tryz.ntmps15;go_upto_region 1 with fail
 rw [<-fZ];try rw [hsa]
 rw [<-hwb];try rw [hsb]
 rw [<-hwz];clear fZ hwb hwz hsa hsb;obtain⟨c0,c1,c2,c3,c4,c5⟩:=bF R2.o;have z1:w.heap.size<wz:=(γ R2.o);go_wp2_with fail
 refine(HOW.o _ G1.o).mono ?_;rintro e w1 ⟨vl,vo,vh,vn,B0,rfl,hbx⟩;obtain⟨tQ,tR,tS,tT,XM,ch6,tU,tW,rfl,rfl,rfl,rfl⟩:=hbx.form;have oW:=I hbx;clear hbx c0 c1 c2 c3 c4 c5 z1;obtain⟨w2,rH⟩:=χ (w1.alloc (.cells #[U tQ x.aN.bg.length tR,J x.aN.aW,J x.aN.next,U tS x.aN.bG.length tT,U XM x.aI.length ch6,U tU x.bM.length tW] 33));obtain⟨B,hB⟩:=χ w1.heap.size;have j_:Hid (iL wz w2 B (U tQ x.aN.bg.length tR) (U tS x.aN.bG.length tT) (U XM x.aI.length ch6) (U tU x.bM.length tW) x):=I (oW.o.Vx (by rw [rH];exact(aG _).alloc _) V (by rw [rH,hB];exact bn _ _));go_upto_region 3 with fail
 rw [<-rH,<-hB];clear rH hB;have R32:=I (aF R3.o j_.o.grow);obtain⟨s0,s1,s2⟩:=iI R32.o;have zs:w.heap.size+1<w2:=(γ R32.o);go_upto_block 0 with fail
 go_cut [7] from 8 to 78 (fun s7 wc=>∃vl2 vo2 vn2,s7=J (eU x ⟨kd,sn,sp⟩)/\iL wz wc B vl2 vo2 (U XM x.aI.length ch6) vn2 (jZ x ⟨kd,sn,sp⟩))
 case rest=>
  obtain⟨vl2,vo2,vn2,rfl,hbx⟩:=hcut;obtain⟨w3,rfl⟩:=χ wc;generalize Dw:eU x ⟨kd,sn,sp⟩=er at*;generalize Dx:jZ x ⟨kd,sn,sp⟩=y at*;have LQ:=I Dw;have Il:=I Dx;clear Dw Dx;obtain⟨al7,cl7,ao7,co7,ah7,ch7,an7,cn7,rfl,rfl,hvh,rfl⟩:=hbx.form;rw [hvh] at hbx;have lU:=I hbx;have gF:=I (aF R4.o hbx.grow);clear hbx hvh s0 s1 s2 zs;obtain⟨b0,b1,b2,b3,b4,b5⟩:=bF lU.o.row;have zB:B<w3.heap.size:=lU.o.lt;have zr:w.heap.size+2<w3:=(γ gF.o);go_wp2_with (first|(refine aQ rfl (.tmp 4) (.tmp 79) rfl rfl rfl gF.o dN rfl rfl ?_))
  intro wf rf gf;obtain⟨p0,p1,p2,p3,p4,p5⟩:=bF rf;go_wp2;refine dw (v:=.tuple #[.agg #[U al7 y.aN.bg.length cl7,J y.aN.aW,J y.aN.next,U ao7 y.aN.bG.length co7,U ah7 y.aI.length ch7,U an7 y.bM.length cn7],J er]) (by simp [results,Tryz.results15,go_sem,p0,p1,p2,p3,p4,p5]) rfl ?_;have h9:=lU.o.past G1.o gf (τ HZ.o);exact⟨_,by rw [LQ.o],by rw [Il.o];exact h9.of,h9.grow⟩
 case first=>
  obtain⟨b0,b1,b2,b3,b4,b5⟩:=bF j_.o.row;have zB:B<w2.heap.size:=j_.o.lt;by_cases N:kd=1
  ·have t1:(kd==1)=true:=by simp [N]
   have AP:=I (VN (sp:=sp) sn j_.o yw.o (C_.o.mono (G1.o.trans j_.o.grow).sub));rw [<-N] at AP;clear N;go_wp2_with fail
   refine AP.o.mono ?_;rintro e w3 ⟨rfl,vl3,vo3,vn3,fB,-⟩;have lU:=I fB;clear fB;go_wp2;go_meet
   case rel=>exact⟨_,_,_,rfl,lU.o⟩
  have t1:(kd==1)=false:=by simp [N]
  by_cases Y:kd=2
  ·have t2:(kd==2)=true:=by simp [Y]
   have AP:=I (XJ (sn:=sn) sp j_.o yw.o);rw [<-Y] at AP;clear N Y;go_wp2_with fail
   refine AP.o.mono ?_;rintro e w3 ⟨rfl,vl3,vo3,vn3,fB,-⟩;have lU:=I fB;clear fB;go_wp2;go_meet
   case rel=>exact⟨_,_,_,rfl,lU.o⟩
  have t2:(kd==2)=false:=by simp [Y]
  by_cases h3:kd=3
  ·have t3:(kd==3)=true:=by simp [h3]
   have HE:Hid (eU x ⟨kd,sn,sp⟩=if there x sn=true then 0 else 6):=I (by rw [h3];exact A0B x sn sp);have HD:Hid (jZ x ⟨kd,sn,sp⟩=if there x sn=true then { x with bM:=x.bM.eraseIdx sn.toNat } else x):=I (by rw [h3];exact A3g x sn sp);clear N Y h3;go_wp2_with fail
   refine(Vw (n:=sn) w2 j_.o.JN yw.o.bM.1 yw.o.bM.2).mono ?_;rintro e w3 ⟨v1,v2,rfl,ho,hm,hg⟩;by_cases hth:there x sn=true
   ·rw [bC hth] at HE HD
    rw [NC yV.o.right hth] at ho hm ⊢;obtain⟨a1,c1,hv1⟩:=ho.form;rw [List.length_map] at hv1;subst hv1;generalize x.bM.getD sn.toNat ⟨0,0,0,[]⟩=m at*;obtain⟨tI,tL,rfl⟩:=hm.ny;have L8:=I ((bK.YJ ε ho).mono j_.o.new);have lU:=I (j_.o.dL hg);clear ho hm hg b0 b1 b2 b3 b4 b5 zB s0 s1 s2 zs;obtain⟨w4,NZ⟩:=χ (w3.alloc (.cells #[J m.aX,J m.aJ,J m.aU,U tI m.aH.length tL] 85));have xM:Hid (aK w3 w4):=I (by rw [NZ];exact(aG _).alloc _);go_upto_region 11 with fail
    rw [<-NZ];clear NZ;have AA:=I (lU.o.dL xM.o);go_wp2_with (first|(refine bY rfl (.tmp 39) (.tmp 38) (v:=U a1 (x.bM.eraseIdx sn.toNat).length c1) (new:=#[U tQ x.aN.bg.length tR,J x.aN.aW,J x.aN.next,U tS x.aN.bG.length tT,U XM x.aI.length ch6,U a1 (x.bM.eraseIdx sn.toNat).length c1]) rfl rfl ρ ρ AA.o.row qZ σ ρ ρ ?_))
    intro w5 r5 g5;have AV:=I (AA.o.XH g5 r5 (L8.o.mono (fH xM.o)));clear r5 g5;go_wp2;go_meet
    case rel=>exact⟨_,_,_,by rw [HE.o],by rw [HD.o];exact AV.o⟩
   ·have JS:there x sn=false:=by simpa using hth
    rw [aV hth] at HE HD;rw [VJ JS] at ho hm ⊢;obtain⟨a1,c1,hv1⟩:=ho.form;rw [List.length_map] at hv1;subst hv1;generalize ms0=m at*;obtain⟨tI,tL,rfl⟩:=hm.ny;have L8:=I ((bK.YJ ε ho).mono j_.o.new);have lU:=I (j_.o.dL hg);clear ho hm hg b0 b1 b2 b3 b4 b5 zB s0 s1 s2 zs;obtain⟨w4,NZ⟩:=χ (w3.alloc (.cells #[J m.aX,J m.aJ,J m.aU,U tI m.aH.length tL] 85));have xM:Hid (aK w3 w4):=I (by rw [NZ];exact(aG _).alloc _);go_upto_region 11 with fail
    rw [<-NZ];clear NZ;have AA:=I (lU.o.dL xM.o);go_wp2_with (first|(refine bY rfl (.tmp 39) (.tmp 38) (v:=U a1 x.bM.length c1) (new:=#[U tQ x.aN.bg.length tR,J x.aN.aW,J x.aN.next,U tS x.aN.bG.length tT,U XM x.aI.length ch6,U a1 x.bM.length c1]) rfl rfl ρ ρ AA.o.row qZ σ ρ ρ ?_))
    intro w5 r5 g5;have AV:=I (AA.o.XH g5 r5 (L8.o.mono (fH xM.o)));clear r5 g5;go_wp2;go_meet
    case rel=>exact⟨_,_,_,by rw [HE.o],by rw [HD.o];exact AV.o⟩
  have t3:(kd==3)=false:=by simp [h3]
  by_cases h4:kd=4
  ·have t4:(kd==4)=true:=by simp [h4]
   have HTM:Hid (vP (x.bM.map dh) sn=((jZ x ⟨kd,sn,sp⟩).bM.map dh,eU x ⟨kd,sn,sp⟩)/\(jZ x ⟨kd,sn,sp⟩)={ x with bM:=(jZ x ⟨kd,sn,sp⟩).bM }):=I (by rw [h4];exact d9 x sn sp);clear N Y h3 h4;go_wp2_with fail
   refine(bN (n:=sn) w2 j_.o.JN yw.o.bM.1 yw.o.bM.2).mono ?_;rintro e w3 ⟨v1,rfl,ho,hg⟩;rw [HTM.o.1] at ho ⊢;obtain⟨a1,c1,hv1⟩:=ho.form;rw [List.length_map] at hv1;subst hv1;have L8:=I ((bK.YJ ε ho).mono j_.o.new);have lU:=I (j_.o.dL hg);clear ho hg b0 b1 b2 b3 b4 b5 zB s0 s1 s2 zs;go_wp2_with (first|(refine bY rfl (.tmp 53) (.tmp 51) (v:=U a1 (jZ x ⟨kd,sn,sp⟩).bM.length c1) (new:=#[U tQ x.aN.bg.length tR,J x.aN.aW,J x.aN.next,U tS x.aN.bG.length tT,U XM x.aI.length ch6,U a1 (jZ x ⟨kd,sn,sp⟩).bM.length c1]) rfl rfl ρ ρ lU.o.row qZ σ ρ ρ ?_))
   intro w4 r4 g4;have AA:=I (lU.o.XH g4 r4 L8.o);rw [<-HTM.o.2] at AA;clear r4 g4;go_wp2;go_meet
   case rel=>exact⟨_,_,_,rfl,AA.o⟩
  have t4:(kd==4)=false:=by simp [h4]
  by_cases h5:kd=5
  ·have t5:(kd==5)=true:=by simp [h5]
   have AP:=I (XK (sn:=sn) sp j_.o yw.o);rw [<-h5] at AP;clear N Y h3 h4 h5;go_wp2_with fail
   refine AP.o.mono ?_;rintro e w3 ⟨rfl,vl3,vo3,vn3,fB,-⟩;have lU:=I fB;clear fB;go_wp2;go_meet
   case rel=>exact⟨_,_,_,rfl,lU.o⟩
  have t5:(kd==5)=false:=by simp [h5]
  by_cases h6:kd=6
  ·have t6:(kd==6)=true:=by simp [h6]
   have AP:=I (XL (sn:=sn) sp j_.o yw.o);rw [<-h6] at AP;clear N Y h3 h4 h5 h6;go_wp2_with fail
   refine AP.o.mono ?_;rintro e w3 ⟨rfl,vl3,vo3,vn3,fB,-⟩;have lU:=I fB;clear fB;go_wp2;go_meet
   case rel=>exact⟨_,_,_,rfl,lU.o⟩
  have t6:(kd==6)=false:=by simp [h6]
  by_cases h7:kd=7
  ·have t7:(kd==7)=true:=by simp [h7]
   have HE:Hid (eU x ⟨kd,sn,sp⟩=0):=I (by rw [h7];exact A0D x sn sp);have HD:Hid (jZ x ⟨kd,sn,sp⟩={ x with aN:=oZ x.aN,bM:=eu x.bM (xE x.aN) }):=I (by rw [h7];exact A3i x sn sp);have SQ:Hid (∀q∈xE x.aN,cZ q=0):=I (WI.says yV.o.core.quit.2.2);clear N Y h3 h4 h5 h6 h7;go_wp2_with fail
   refine(XA w2 j_.o.fA yw.o.UY yw.o.Gf.logp yw.o.Gf.aH).mono ?_;rintro e w3 ⟨v1,v2,rfl,FY,hm3,fB⟩;have Dj:=I (FY.mono j_.o.new);have NI:=I (hm3.mono (fG _ _));have A3j:=I (j_.o.dL fB);clear FY fB b0 b1 b2 b3 b4 b5 zB s0 s1 s2 zs;generalize Dw:oZ x.aN=nZ at*;generalize Dx:xE x.aN=ms at*;clear Dw Dx;obtain⟨iC,iD,lY,lZ,rfl⟩:=Dj.o.iw;obtain⟨tM,cs,rfl,-⟩:=hm3;obtain⟨w4,NZ⟩:=χ (w3.alloc (.cells #[U iC nZ.bg.length iD,J nZ.aW,J nZ.next,U lY nZ.bG.length lZ] 29));obtain⟨BH,IW⟩:=χ w3.heap.size;have xM:Hid (aK w3 w4):=I (by rw [NZ];exact(aG _).alloc _);have RH4:Hid (w4.heap[BH]? =some (.cells #[U iC nZ.bg.length iD,J nZ.aW,J nZ.next,U lY nZ.bG.length lZ] 29 (0,0))):=I (by rw [NZ,IW];exact bn _ _);go_upto_region 22 with fail
   rw [<-NZ,<-IW];clear NZ IW;have lU:=I (A3j.o.dL xM.o);have N8:=I (Dj.o.mono (fH xM.o));have HM4:=I (NI.o.mono xM.o.sub);have HS:Hid (∀W',aK w4 W'->W'.cell? ⟨BH,0,none⟩=some (U iC nZ.bg.length iD)/\W'.cell? ⟨BH,1,none⟩=some (J nZ.aW)/\W'.cell? ⟨BH,2,none⟩=some (J nZ.next)/\W'.cell? ⟨BH,3,none⟩=some (U lY nZ.bG.length lZ)/\W'.cell? ⟨B,5,none⟩=some (U tU x.bM.length tW)):=fun W' hW=>by
    obtain⟨n0,n1,n2,n3⟩:=aT (aF RH4.o hW);obtain⟨-,-,-,-,-,q5⟩:=bF (aF lU.o.row hW);exact⟨n0,n1,n2,n3,q5⟩
   refine Gq (fun w'=>w'.cell? ⟨BH,0,none⟩=some (U iC nZ.bg.length iD)/\w'.cell? ⟨BH,1,none⟩=some (J nZ.aW)/\w'.cell? ⟨BH,2,none⟩=some (J nZ.next)/\w'.cell? ⟨BH,3,none⟩=some (U lY nZ.bG.length lZ)/\w'.cell? ⟨B,5,none⟩=some (U tU x.bM.length tW)) [6,7,8] κ ?_;intro wd GD zD;clear zD;refine pF [0,1,2,3] 11 κ (fun _ _ _ _ _ h=>h) (HS.o _ GD) ?_;repeat (refine jm ?_;try simp only [bT])
   refine pG ?_;refine kS 4 κ rfl ?_;intro K M;try simp only [dD]
   go_simp;go_at_call 48
   refine(Bj (l:=x.bM.map dh) (ms:=ms) wd (Sl.mono (iO _ _ _) (lU.o.dL GD).bM) (HM4.o.mono (aK.sub GD)) SQ.o (by rw [List.length_map];omega) (fun b hb=>by
    obtain⟨q,O,rfl⟩:=List.mem_map.1 hb;have:=vG (yV.o.right q O);omega)).mono ?_
   rintro e w5 ⟨v5,rfl,mW,iY⟩;obtain⟨a5,c5,hv5⟩:=mW.form;rw [show(kC (x.bM.map dh) ms).length=(eu x.bM ms).length by rw [iK,List.length_map]] at hv5;subst hv5;have AA:=I (lU.o.dL GD);have oQ:=I mW;have G5:=I (aK.trans GD iY);have AV:=I (AA.o.dL iY);clear mW iY;refine ψ M (.inr (HS.o _ G5.o)) ?_;try simp only [bT]
   refine pF [5] 11 κ (fun _ _ _ _ _ h=>h) (HS.o _ G5.o) ?_;repeat (refine jm ?_;try simp only [bT])
   refine pG ?_;refine kS 6 κ rfl ?_;intro K M;refine aY rfl ?_;try simp only [dD]
   refine jF (.tmp 77) (.tmp 72) (new:=#[U iC nZ.bg.length iD,J nZ.aW,J nZ.next,U lY nZ.bG.length lZ,U XM x.aI.length ch6,U tU x.bM.length tW]) rfl rfl rfl AV.o.row eY σ ρ ρ ?_;intro w6 r6 g6;have Gw:=I (AV.o.JP g6 r6 (N8.o.mono (fH G5.o)));have R6:=I r6;have EN:Hid (yS (fr wz w6 (BP B (U XM x.aI.length ch6))) (U a5 (eu x.bM ms).length c5) ((eu x.bM ms).map dh)):=I (by
    have h9:=((bK.YJ ε oQ.o).mono AA.o.new).mono (AV.o.keeps g6);rw [iK] at h9;exact h9)
   clear r6 g6;refine ψ M (.inl ε) ?_;try simp only [bT]
   refine kS 7 κ rfl ?_;intro K M;try simp only [dD]
   go_simp;refine ψ M (.inl ε) ?_;try simp only [bT]
   refine kS 8 κ rfl ?_;intro K M;refine aY rfl ?_;try simp only [dD]
   refine dF (.tmp 78) (.tmp 76) (v:=U a5 (eu x.bM ms).length c5) (new:=#[U iC nZ.bg.length iD,J nZ.aW,J nZ.next,U lY nZ.bG.length lZ,U XM x.aI.length ch6,U a5 (eu x.bM ms).length c5]) rfl rfl ρ ρ R6.o qZ σ ρ ρ ?_;intro w7 r7 g7;have Ai:=I (Gw.o.XH g7 r7 EN.o);clear r7 g7;refine ψ M (.inl ε) ?_;try simp only [bT]
   refine Bf κ ?_;go_wp2;go_meet
   case rel=>exact⟨_,_,_,by rw [HE.o],by rw [HD.o];exact Ai.o⟩
  have t7:(kd==7)=false:=by simp [h7]
  obtain⟨e1,e2⟩:=A0E x sn sp ⟨N,Y,h3,h4,h5,h6,h7⟩;have HE:=I e1;have HD:=I e2;clear e1 e2 N Y h3 h4 h5 h6 h7;go_wp2;go_meet
  case rel=>exact⟨_,_,_,by rw [HE.o],by rw [HD.o];exact j_.o⟩
theorem Qh {n:Nat} (w:World) (hn:1<=n/\n<=3):
  Calls Tryz.prog 11 #[J n] w fun e w'=>∃v',e=.returned (.tuple #[v',J 0])/\Of Ty.wd (ov (fun _=>none) w w') v' (gK n)/\aK w w':=by
 have t1:decide ((n:Int)<1)=false:=by simp;omega
 have t2:decide ((3:Int)<(n:Int))=false:=by simp;omega
 obtain⟨h,hh⟩:=χ hs0;have HH:=I hh;have hl3:=hn.2;clear hh;obtain⟨wz,hwz⟩:=χ (w.alloc (.cells #[(),J 0,J 0,(),(),()] 33));have R2:Hid (wz.heap[w.heap.size]? =some (.cells #[(),J 0,J 0,(),(),()] 33 (0,0))):=I (by rw [hwz];exact bn _ _);have G1:Hid (aK w wz):=I (by rw [hwz];exact(aG w).alloc _);have HZ:Hid (wz.heap.size=w.heap.size+1):=I (by rw [hwz];simp);go_enter Tryz.func11,Tryz.ntmps11;go_upto_region 1 with fail
 rw [<-hwz];clear hwz;go_wp2_with fail
 refine(cX wz).mono ?_;rintro e w1 ⟨v1,rfl,Z,dZ⟩;obtain⟨al,cl,ao,co,rfl⟩:=Z.iw;obtain⟨q,O⟩:=χ (fA [⟨4,0,[]⟩]);rw [<-O] at Z ⊢;have HQ:=I O;have HX:=I Z;have GB:=I dZ;clear Z dZ O;obtain⟨w2,rH⟩:=χ (w1.alloc (.cells #[(),J 0,J 0,(),(),()] 33));obtain⟨B,hB⟩:=χ w1.heap.size;have RB:Hid (w2.heap[B]? =some (.cells #[(),J 0,J 0,(),(),()] 33 (0,0))):=I (by rw [rH,hB];exact bn _ _);have G2:Hid (aK w1 w2):=I (by rw [rH];exact(aG _).alloc _);have uA:Hid (B=w1.heap.size):=I hB;go_wp2_with (first|(rw [<-rH,<-hB];clear rH hB;refine aQ rfl (.tmp 4) (.tmp 13) rfl rfl rfl RB.o dN rfl rfl ?_))
 intro w3 r3 g3;have lU:Hid (iL wz w3 B (U al q.bg.length cl) (U ao q.bG.length co) (U none 0 0) (U none 0 0) ⟨q,[],[]⟩):=I (by
  have hs:=GB.o.size;have hb:=uA.o;refine iL.start r3 V (HX.o.mono ?_) (Sl.nil _ _) ((GB.o.trans G2.o).grown g3 (fun q O=>by have:=bI O;omega));intro a v e;unfold ov at e;split at e
  ·cases e
  ·have hl:=eH w1 a e
   rw [jh V (fun hm=>by have:=bI (List.mem_singleton.1 hm);omega)];exact bV (G2.o.sub _ _ e) g3 V)
 clear r3 g3;go_wp2;go_loopw [15] (fun i wr=>∃(k:Nat) (av:Option Addr) (cv:Nat),k<=n/\i=J k/\iL wz wr B (U al q.bg.length cl) (U ao q.bG.length co) (U av k cv) (U none 0 0) ⟨q,List.replicate k h,[]⟩) (fun i _=>n - (intOf i).toNat)
 case atStart=>exact⟨0,none,0,V,rfl,lU.o⟩
 case round=>
  obtain⟨j,av,cv,hj',rfl,hbx⟩:=hrel;have Vh:=I hbx;clear hbx;by_cases hlt:j<n
  ·have nK:Hid (List.replicate (j+1) h=List.replicate j h++ [h]):=I List.replicate_succ'
   have HS:Hid (∀W,aK wr W->W.cell? ⟨B,4,none⟩=some (U av j cv)):=fun W hW=>by
    obtain⟨-,-,-,-,b4,-⟩:=bF (aF Vh.o.row hW);exact b4
   go_upto_region 6 with fail
   refine Gq (fun w'=>w'.cell? ⟨B,4,none⟩=some (U av j cv)) [6] κ ?_;intro wd GD zD;clear zD;refine pF [0,1] 9 κ (fun _ _ _ _ _ h=>h) (HS.o _ GD) ?_;repeat (refine tNc (v:=?_) rfl ρ ?_ ?_;rotate_left;(· (intro w' hSw;(try dsimp only at hSw);go_simp<;>with_reducible rfl));try simp only [bT])
   refine pG ?_;refine kS 2 κ rfl ?_;intro K M;try simp only [dD]
   go_simp;go_at_call 38
   refine(vN _ (l:=[]) (Sl.nil _ _) σ σ σ).mono ?_;rintro e w5 ⟨v5,rfl,mW,iY⟩;rw [show jM []=h from HH.o.symm] at mW;obtain⟨RU,RV,R_,Si,id2,Sj,rfl⟩:=mW.ig;have oQ:=I mW;have G5:=I (aK.trans GD iY);have YX:=I iY;have tF:=I (Vh.o.dL GD);clear mW iY;refine ψ M (.inr (HS.o _ G5.o)) ?_;try simp only [bT]
   refine kS 3 κ rfl ?_;intro K M;try simp only [dD]
   go_simp;obtain⟨w6,sF⟩:=χ (w5.alloc (.cells #[U RU h.bg.length RV,J h.aP.a,J h.aP.b,J h.aP.c,J h.aP.d,U R_ h.ready.length Si,U id2 h.done.length Sj] 50));have G6:Hid (aK w5 w6):=I (by rw [sF];exact(aG _).alloc _);have JW:=I (tF.o.dL (YX.o.trans G6.o));have yD:Hid (Src Ty.hs (fr wz w6 (BP B (U av j cv))) w6 (U (some ⟨w5,0,none⟩) 1 1) [h]):=I (by
    obtain⟨cs,he,hR⟩:=(oQ.o.mono (tF.o.new)).mono (fH G6.o);rw [sF] at hR ⊢;have hcs:cs=[U RU h.bg.length RV,J h.aP.a,J h.aP.b,J h.aP.c,J h.aP.d,U R_ h.ready.length Si,U id2 h.done.length Sj]:=by cases he;rfl
    rw [hcs] at hR;exact Src.dU (T:=Ty.hs) (x:=h) (cs:=#[U RU h.bg.length RV,J h.aP.a,J h.aP.b,J h.aP.c,J h.aP.d,U R_ h.ready.length Si,U id2 h.done.length Sj]) hR _ _ rfl)
   have sM:=I (aK.trans G5.o G6.o);rw [<-sF];clear sF;refine ψ M (.inr (HS.o _ sM.o)) ?_;try simp only [bT]
   refine kS 4 κ rfl ?_;intro K M;refine aY rfl ?_;try simp only [dD]
   refine fP (c:=fr wz w6 (BP B (U av j cv))) (base:=wz.heap.size) (l:=List.replicate j h) (m:=[h]) (v:=U av j cv) nW rfl Qo ε (.tmp 18) (.tmp 20) rfl rfl JW.o.hs rfl yD.o (by simp;omega) JW.o.grow.size ?_;intro a8 c8 w8 nT yK lD;have hl8:(List.replicate j h).length+ [h].length=j+1:=by simp
   rw [hl8] at nT lD ⊢;have t_:=I nT;have vZ:=I yK;have A0t:=I lD;have FL:=I (bJ JW.o.row yK (fun e=>JW.o.ne e.symm));clear nT yK lD hl8;refine ψ M (.inr (by obtain⟨-,-,-,-,b4,-⟩:=bF FL.o;exact b4)) ?_;try simp only [bT]
   refine pF [5] 9 κ (fun _ _ _ _ _ h=>h) (by obtain⟨-,-,-,-,b4,-⟩:=bF FL.o;exact b4) ?_;repeat (refine tNc (v:=?_) rfl ρ ?_ ?_;rotate_left;(· (intro w' hSw;(try dsimp only at hSw);go_simp<;>with_reducible rfl));try simp only [bT])
   refine pG ?_;refine kS 6 κ rfl ?_;intro K M;refine aY rfl ?_;try simp only [dD]
   refine dF (.tmp 22) (.tmp 21) (v:=U a8 (j+1) c8) (new:=#[U al q.bg.length cl,J q.aW,J q.next,U ao q.bG.length co,U a8 (j+1) c8,()]) rfl rfl ρ ρ FL.o MN σ ρ ρ ?_;intro w9 r9 g9;refine ψ M (.inl ε) ?_;try simp only [bT]
   refine Bf κ ?_;have Aj:=I (JW.o.app vZ.o A0t.o t_.o g9 r9);rw [<-nK.o] at Aj;clear r9 g9 HS;go_wp2;go_roundw
   case rel=>exact⟨j+1,a8,c8,V,by go_num,Aj.o⟩
   case measure=>simp [intOf];omega
  ·obtain rfl:j=n:=by omega
   have R2r:=I (aF R2.o Vh.o.grow);obtain⟨b0,b1,b2,b3,b4,b5⟩:=bF Vh.o.row;have z3:B<wr.heap.size:=Vh.o.lt;have zr:w.heap.size<wr:=(γ R2r.o);go_wp2_with (first|(refine aQ rfl (.tmp 2) (.tmp 24) rfl rfl rfl R2r.o dN rfl rfl ?_))
   intro wf rf gf;obtain⟨p0,p1,p2,p3,p4,p5⟩:=bF rf;go_wp2;refine dw (v:=.tuple #[.agg #[U al q.bg.length cl,J q.aW,J q.next,U ao q.bG.length co,U av j cv,()],J 0]) (by simp [results,Tryz.results11,go_sem,p0,p1,p2,p3,p4,p5]) rfl ?_;have h9:=Vh.o.past G1.o gf (τ HZ.o);refine⟨_,rfl,?_,h9.grow⟩;unfold gK;rw [<-HQ.o,<-HH.o];exact h9.of
theorem WK.up {k k':Nat} {x:AW} (i:WK k x) (h:k<=k') (h9:k'<=99000):WK k' x:=
 ⟨i.wi,⟨by have:=i.few.bg;omega,fun y hy=>Nat.le_trans (i.few.logs y hy) h⟩,h9,i.logp⟩
theorem WK.step {k:Nat} {x:AW} (i:WK k x) (s:St) (h9:k+1<=99000):WK (k+1) (jZ x s):=by
 obtain⟨n,G,hw⟩:=i.wi;obtain⟨G',hw',-⟩:=hw.step' s;exact⟨⟨n,G',hw'⟩,i.few.step s,h9,Qe i.logp s⟩
theorem WK.zero {n:Nat} (hn:1<=n/\n<=3):WK 0 (gK n):=⟨⟨n,[],WI.zero hn⟩,Ih.zero n,V,VH n⟩
theorem WK.play {n:Nat} (hn:1<=n/\n<=3) (l:List St) (h:l.length<=99000):WK l.length (d_ (gK n) l):=by
 obtain⟨G,hw,-⟩:=WI.sQ hn l;have hf:=Ih.play n l (Ih.zero n);rw [Nat.zero_add] at hf;exact⟨⟨n,G,hw⟩,hf,h,Qg l (VH n)⟩
theorem Kv {w wb W W7:World} {X:List (Option Nat)} {A:Nat} (hs:w.heap.size<=wb.heap.size) (g:W.grownBy W7 (some A)) (hA:A<wb.heap.size):Sub (fr wb W X) (ov (fun _=>none) w W7):=fun a v e=>by
 unfold fr at e;split at e
 ·cases e
 ·rename_i h
  have Y:¬a.block<wb.heap.size:=fun x=>h (.inl x);rw [dY V];exact bV e g V
theorem JT {W0 w w':World} {B:Nat} {v v':Value} (hg:w.grownBy w' v.ownBlock) (hb:v'.ownBlock=v.ownBlock∨∃g,v'.ownBlock=some g/\w.heap.size<=g):Sub (fr W0 w [some B,v.ownBlock]) (fr W0 w' [some B,v'.ownBlock]):=jV fun k hk _ Z=>by
 simp only [List.mem_cons,List.not_mem_nil,or_false,not_or] at Z ⊢;refine⟨hg.block k hk Z.2,Z.1,fun e=>?_⟩;rcases hb with hb|⟨g,hb,hgg⟩
 ·exact Z.2 (hb▸e)
 ·rw [hb] at e;have:=bI e;omega
end Go.Proofs.YtocnmkefmgmkbaaGreat
