/- Parts of proofs, joined: G13, A9, G15, G16, G17, G18, G19, G20. No condition beside those that each theorem names. -/
import Derived.Deep.CutBlock
import Derived.Test.YtocnmkefmgmkbaaGreatJW1b
import Derived.Test.YtocnmkefmgmkbaaGreatJW6a
import Derived.Test.YtocnmkefmgmkbaaGreatJW4b
import Derived.Test.YtocnmkefmgmkbaaGreatJWUa
import Derived.Test.YtocnmkefmgmkbaaGreatJW3a
import Derived.Test.YtocnmkefmgmkbaaGreatJW2a
import Derived.Test.YtocnmkefmgmkbaaGreatJWGa
set_option maxRecDepth 100000
set_option maxHeartbeats 40000000
namespace Go.Proofs.YtocnmkefmgmkbaaGreat
open Go.RowKit
def vH (B:Nat) (vh:Value):List (Option Nat):=[some B,vh.ownBlock]
structure fM (w W:World) (B:Nat) (vl vo vh vn:Value) (x:AW):Prop where
 row:W.heap[B]? =some (.cells #[vl,ι x.head.aG,ι x.head.next,vo,vh,vn] 33 (0,0))
 ge:w.heap.size<=B
 head:Of Ty.hd (fr w W (vH B vh)) (.agg #[vl,ι x.head.aG,ι x.head.next,vo]) x.head
 hs:aI Ty.hs (fr w W (vH B vh)) W w.heap.size 50 vh x.aA
 ne:vh.ownBlock≠some B
 net:uH (fr w W (vH B vh)) vn (x.net.map aS)
 grow:Grow w W
section
variable {w W W1 W2:World} {B:Nat} {vl vo vh vn:Value} {x:AW}
theorem fM.lt (b:fM w W B vl vo vh vn x):B<W.heap.size:=(γ b.row)
theorem fM.form (b:fM w W B vl vo vh vn x):∃al cl ao co ah ch an cn,vl=ς al x.head.log.length cl/\vo=ς ao x.head.opn.length co/\vh=ς ah x.aA.length ch/\vn=ς an x.net.length cn:=by
 obtain⟨al,cl,ao,co,e⟩:=b.head.dS;obtain⟨ah,ch,rfl⟩:=b.hs.form;obtain⟨an,cn,rfl,-⟩:=b.net;simp at e;obtain⟨rfl,rfl⟩:=e;rw [List.length_map];exact⟨_,_,_,_,_,_,_,_,rfl,rfl,rfl,rfl⟩
theorem fM.later (b:fM w W B vl vo vh vn x) (hg:Grow W W2):fM w W2 B vl vo vh vn x where
 row:=aj b.row hg
 ge:=b.ge
 head:=b.head.mono (dO hg)
 hs:=(b.hs.mono (dO hg)).grow hg
 ne:=b.ne
 net:=b.net.mono (dO hg)
 grow:=b.grow.trans hg
theorem fM.new (b:fM w W B vl vo vh vn x):Sub (ov (fun _=>none) W W1) (fr w W1 (vH B vh)):=fun a v e=>by
 have hs:=b.grow.size;have hl:=b.lt;unfold ov at e;split at e
 ·cases e
 ·rw [gy δ (by
   unfold vH;simp only [List.mem_cons,List.not_mem_nil,or_false,not_or];refine⟨fun e=>?_,fun e=>?_⟩
   ·have:=Option.some.inj e;omega
   ·have:=(b.hs.lt _ e.symm).2;omega)]
  exact e
theorem fM.sub (_:fM w W B vl vo vh vn x):Sub (fr w W (vH B vh)) (ov (fun _=>none) w W):=QF _ _ _ _
theorem fM.bT (b:fM w W B vl vo vh vn x):Of Ty.hd W.cell? (.agg #[vl,ι x.head.aG,ι x.head.next,vo]) x.head:=b.head.mono (fF _ _ _)
theorem fM.ZG (b:fM w W B vl vo vh vn x):uH W.cell? vn (x.net.map aS):=b.net.mono (fF _ _ _)
theorem fM.of (b:fM w W B vl vo vh vn x):Of Ty.wd (ov (fun _=>none) w W) (.agg #[vl,ι x.head.aG,ι x.head.next,vo,vh,vn]) x:=
 Of.ku (b.head.mono b.sub) (b.hs.slc ε b.sub fun a ha=>bH ha) (b.net.mono b.sub)
theorem fM.keeps (_:fM w W B vl vo vh vn x) (hg:W.grownBy W2 (some B)):Sub (fr w W (vH B vh)) (fr w W2 (vH B vh)):=
 gZ fun k hk _ hx=>⟨hg.block k hk fun e=>hx (by rw [e];simp [vH]),hx⟩
theorem fM.put {ED jZ b7:Value} {hd':Hd} {XF:List Ms} (b:fM w W B vl vo vh vn x) (hg:W.grownBy W2 (some B))
  (hr:W2.heap[B]? =some (.cells #[ED,ι hd'.aG,ι hd'.next,jZ,vh,b7] 33 (0,0)))
  (h1:Of Ty.hd (fr w W (vH B vh)) (.agg #[ED,ι hd'.aG,ι hd'.next,jZ]) hd') (h2:uH (fr w W (vH B vh)) b7 (XF.map aS)):fM w W2 B ED jZ vh b7 ⟨hd',x.aA,XF⟩ where
 row:=hr
 ge:=b.ge
 head:=h1.mono (b.keeps hg)
 hs:=(b.hs.mono (b.keeps hg)).kept hg (.inr b.ne)
 ne:=b.ne
 net:=h2.mono (b.keeps hg)
 grow:=b.grow.grown hg fun q hq=>by have:=Option.some.inj hq;have:=b.ge;omega
theorem fM.ZH {ED jZ:Value} {hd':Hd} (b:fM w W B vl vo vh vn x) (hg:W.grownBy W2 (some B))
  (hr:W2.heap[B]? =some (.cells #[ED,ι hd'.aG,ι hd'.next,jZ,vh,vn] 33 (0,0)))
  (h1:Of Ty.hd (fr w W (vH B vh)) (.agg #[ED,ι hd'.aG,ι hd'.next,jZ]) hd'):fM w W2 B ED jZ vh vn { x with head:=hd' }:=b.put hg hr h1 b.net
theorem fM.PW {b7:Value} {XF:List Ms} (b:fM w W B vl vo vh vn x) (hg:W.grownBy W2 (some B))
  (hr:W2.heap[B]? =some (.cells #[vl,ι x.head.aG,ι x.head.next,vo,vh,b7] 33 (0,0)))
  (h2:uH (fr w W (vH B vh)) b7 (XF.map aS)):fM w W2 B vl vo vh b7 { x with net:=XF }:=b.put hg hr b.head h2
theorem fM.zP {g n c:Nat} {hs':List Hs} (b:fM w W B vl vo (ς (some ⟨g,0,none⟩) n c) vn x) (hg:W.grownBy W2 (some g))
  (ho:aI Ty.hs (fr w W (vH B (ς (some ⟨g,0,none⟩) n c))) W2 w.heap.size 50 (ς (some ⟨g,0,none⟩) n c) hs'):fM w W2 B vl vo (ς (some ⟨g,0,none⟩) n c) vn { x with aA:=hs' }:=by
 have hne:B≠g:=fun e=>b.ne (by rw [e];rfl);have hge:=(b.hs.lt g rfl).1;have sub:Sub (fr w W (vH B (ς (some ⟨g,0,none⟩) n c))) (fr w W2 (vH B (ς (some ⟨g,0,none⟩) n c))):=gZ fun k hk _ hx=>⟨hg.block k hk fun e=>hx (by rw [e];simp [vH,Value.ownBlock]),hx⟩;exact⟨aH b.row hg (fun e=>hne (Option.some.inj e)),b.ge,b.head.mono sub,ho.mono sub,b.ne,b.net.mono sub,b.grow.grown hg fun q hq=>by have:=Option.some.inj hq;omega⟩
theorem fM.MR {B':Nat} (b:fM w W B vl vo vh vn x) (hg:Grow W W2) (hB:W.heap.size<=B') (hr:W2.heap[B']? =some (.cells #[vl,ι x.head.aG,ι x.head.next,vo,vh,vn] 33 (0,0))):fM w W2 B' vl vo vh vn x:=by
 have hs:=b.grow.size;have sub:Sub (fr w W (vH B vh)) (fr w W2 (vH B' vh)):=gZ fun k hk _ hx=>⟨hg.block k hk,fun hm=>by
  unfold vH at hx hm;simp only [List.mem_cons,List.not_mem_nil,or_false,not_or] at hx hm;rcases hm with e|e
  ·have:=Option.some.inj e;omega
  ·exact hx.2 e⟩
 exact⟨hr,δ,b.head.mono sub,(b.hs.mono sub).grow hg,fun e=>by have:=(b.hs.lt _ e).2;omega,b.net.mono sub,b.grow.trans hg⟩
theorem fM.past {w0:World} {A:Nat} (b:fM w W B vl vo vh vn x) (h:Grow w0 w) (hg:W.grownBy W2 (some A)) (hA:w0.heap.size<=A/\A<w.heap.size):fM w0 W2 B vl vo vh vn x:=by
 have hs:=h.size;have hge:=b.ge;have sub:Sub (fr w W (vH B vh)) (fr w0 W2 (vH B vh)):=(gZ (W0:=w) (w':=W2) (X':=vH B vh) fun k hk h0 hx=>⟨hg.block k hk (fun e=>by have:=Option.some.inj e;omega),hx⟩).trans (xP hs);have hlt:=b.hs.lt;refine⟨aH b.row hg (fun e=>by have:=Option.some.inj e;omega),δ,b.head.mono sub,((b.hs.mono sub).base hs).kept hg ?_,b.ne,b.net.mono sub,(h.trans b.grow).grown hg fun q hq=>by have:=Option.some.inj hq;omega⟩;cases e:vh.ownBlock with
 |none=>exact .inl rfl
 |some q=>exact .inr fun e2=>by have:=hlt q e;have:=Option.some.inj e2;omega
theorem fM.app {W3:World} {Zj:Value} {hs':List Hs} (b:fM w W B vl vo vh vn x) (hg:W.grownBy W2 vh.ownBlock) (hb:Zj.ownBlock=vh.ownBlock∨∃g,Zj.ownBlock=some g/\W.heap.size<=g)
  (ho:aI Ty.hs (fr w W (vH B vh)) W2 w.heap.size 50 Zj hs') (g3:W2.grownBy W3 (some B)) (r3:W3.heap[B]? =some (.cells #[vl,ι x.head.aG,ι x.head.next,vo,Zj,vn] 33 (0,0))):fM w W3 B vl vo Zj vn { x with aA:=hs' }:=by
 have hl:=b.lt;have hge:=b.ge;have hsz:=hg.size;have hne:Zj.ownBlock≠some B:=fun e=>by
  rcases hb with hb|⟨g,hb,hgg⟩
  ·exact b.ne (hb▸e)
  ·rw [hb] at e;have:=Option.some.inj e;omega
 have sub:Sub (fr w W (vH B vh)) (fr w W3 (vH B Zj)):=gZ fun k hk _ hx=>by
  unfold vH at hx ⊢;simp only [List.mem_cons,List.not_mem_nil,or_false,not_or] at hx ⊢;refine⟨?_,hx.1,fun e=>?_⟩
  ·rw [g3.block k δ hx.1,hg.block k hk hx.2]
  ·rcases hb with hb|⟨g,hb,hgg⟩
   ·exact hx.2 (hb▸e)
   ·rw [hb] at e;have:=Option.some.inj e;omega
 exact⟨r3,b.ge,b.head.mono sub,(ho.mono sub).kept g3 (.inr hne),hne,b.net.mono sub,(b.grow.grown hg fun q hq=>(b.hs.lt q hq).1).grown g3 fun q hq=>by have:=Option.some.inj hq;omega⟩
theorem fM.start {hd:Hd} {net:List Ms} (hr:W.heap[B]? =some (.cells #[vl,ι hd.aG,ι hd.next,vo,(),vn] 33 (0,0))) (hge:w.heap.size<=B)
  (h1:Of Ty.hd (fr w W [some B]) (.agg #[vl,ι hd.aG,ι hd.next,vo]) hd) (h2:uH (fr w W [some B]) vn (net.map aS)) (hg:Grow w W):fM w W B vl vo (ς none 0 0) vn ⟨hd,[],net⟩:=by
 have sub:Sub (fr w W [some B]) (fr w W (vH B (ς none 0 0))):=gZ fun k _ _ hx=>⟨rfl,fun hm=>by
  unfold vH at hm;simp only [Value.ownBlock,List.mem_cons,List.not_mem_nil,or_false] at hm hx;rcases hm with e|e
  ·exact hx e
  ·cases e⟩
 exact⟨hr,hge,h1.mono sub,aI.nil _ _ _ _ _,(fun e=>by cases e),h2.mono sub,hg⟩
end
theorem jg.AC {m:Ms} (h:jg m):wH m.parts/\I64 m.deed/\I64 m.house/\I64 (m.parts.length:Int):=by
 have hp:=h.pts;have hl:=h.len;have hd:=h.deed;have hh:=h.house;exact⟨fun p hp'=>by have:=hp p hp';exact⟨iW δ δ,iW δ δ,iW δ δ⟩,iW δ δ,iW δ δ,iW δ δ⟩
theorem oV {m:Ms} (h:aQ m=0):(aS m).length<=200:=by
 have hr:=vP.1 h;obtain⟨h1,h2,h3,h4⟩:=hr.AC;have hl:=hr.len;have a1:=iP (cZ h2).1 (cZ h2).2;have a2:=iP (cZ h3).1 (cZ h3).2;have a3:=iP (cZ h4).1 (cZ h4).2;have a4:=lV h1;unfold aS;rw [Ed];unfold dX;simp only [List.length_cons,List.length_append];omega
structure WK (k:Nat) (x:AW):Prop where
 wi:∃n G,WI n G x
 few:tu k x
 le:k<=99000
 logp:PU x.head.log
theorem WK.XG {k:Nat} {x:AW} (i:WK k x):1<=x.aA.length/\x.aA.length<=3:=by
 obtain⟨n,G,hi⟩:=i.wi;rw [hi.core.len];exact hi.core.n3
theorem WK.qE {k:Nat} {x:AW} (i:WK k x):yR x.head:=by
 obtain⟨n,G,hi⟩:=i.wi;exact⟨hi.core.wB,fun o ho=>(eP (hi.core.reg.ok _ (hi.core.nO o ho)).2).2.1,fun o ho=>by have:=(hi.core.onew o ho).2.2;have:=iC o.parts;omega,by have:=i.few.log;have:=i.le;omega,by have:=hi.core.aG;omega,hi.core.next⟩
theorem WK.yV {k:Nat} {x:AW} (i:WK k x):Rt x.head:=by
 obtain⟨n,G,hi⟩:=i.wi;exact hi.yV i.logp
structure QQ (k:Nat) (h:Hs):Prop where
 made:Made h
 keys:∀r∈h.log,dw r.parts
 len:h.log.length<=k
 parts:∀r∈h.log,r.parts.length*24<=140737488355328
 ready:h.ready.length<=4
theorem WK.hs {k:Nat} {x:AW} (i:WK k x) {j:Nat} {h:Hs} (hj:x.aA[j]? =some h):QQ k h:=by
 obtain⟨n,G,hi⟩:=i.wi;have hh:=hi.core.house j h hj;refine⟨hh.calm.made,hh.keys,i.few.logs h (List.mem_of_getElem? hj),fun r hr=>?_,Hy hi.core hj⟩;have h9:=hh.log r hr;simp only [KC,decide_eq_true_eq] at h9;by_cases hp:r.parts=[]
 ·rw [hp];decide
 ·have:=(eP (h9.2.1 hp)).2.1
  omega
theorem WK.net {k:Nat} {x:AW} (i:WK k x):(x.net.map aS).length*24<=140737488355328/\∀b∈x.net.map aS,b.length<=140737488355328:=by
 obtain⟨n,G,hi⟩:=i.wi;refine⟨by rw [List.length_map];have:=hi.len;omega,fun b hb=>?_⟩;obtain⟨m,hm,rfl⟩:=List.mem_map.1 hb;have:=oV (hi.right m hm);omega
theorem Ip {v:Value} {x:AW} {k:Nat} (w:World) (hv:Of Ty.wd w.cell? v x) (hk:WK k x):
  Calls Tryz.prog 17 #[v] w fun e w'=>∃vl vo vh vn B,e=.returned (.agg #[vl,ι x.head.aG,ι x.head.next,vo,vh,vn])/\fM w w' B vl vo vh vn x:=by
 obtain⟨al,cl,ao,co,ah,ch,an,cn,rfl⟩:=hv.fE;obtain⟨q1,q2,q3⟩:=hv.eu;have FC:=η (fun(W:World) (hW:Grow w W)=>vF W (q1.mono hW.sub) hk.qE hk.yV.logp);have f7:=η (fun(W:World) (hW:Grow w W)=>CV W (q3.mono hW.sub) hk.net.1 hk.net.2);have nG:Hid (I64 x.head.aG/\I64 x.head.next):=η (by obtain⟨cs,he,_,_,rfl,_,h1,h2,_⟩:=q1;exact⟨h1,h2⟩);obtain⟨FG,ch',EZ,h1,h2,-,hel⟩:=q2;simp only [Value.slice.injEq,true_and] at EZ;obtain⟨rfl,rfl⟩:=EZ;unfold maxLen at h2;have lI:=η hel;have wV:=η hk;have hl3:=hk.XG.2;clear hv q1 q3 hel hk;obtain⟨wa,cO⟩:∃y:World,y=w.alloc (.cells #[ς al x.head.log.length cl,ι x.head.aG,ι x.head.next,ς ao x.head.opn.length co,ς ah x.aA.length ch,ς an x.net.length cn] 33):=⟨_,rfl⟩;obtain⟨wz,hwz⟩:∃y:World,y=wa.alloc (.cells #[(),ι 0,ι 0,(),(),()] 33):=⟨_,rfl⟩;have hsz:wa.heap.size=w.heap.size+1:=by rw [cO];simp
 have R1:Hid (wz.heap[w.heap.size]? =some (.cells #[ς al x.head.log.length cl,ι x.head.aG,ι x.head.next,ς ao x.head.opn.length co,ς ah x.aA.length ch,ς an x.net.length cn] 33 (0,0))):=η (by rw [hwz,cO];exact aB (aF _ _) _);have R2:Hid (wz.heap[w.heap.size+1]? =some (.cells #[(),ι 0,ι 0,(),(),()] 33 (0,0))):=η (by rw [hwz,<-hsz];exact aF _ _);have G1:Hid (Grow w wz):=η (by rw [hwz,cO];exact((Grow.refl w).alloc _).alloc _);have HZ:Hid (wz.heap.size=w.heap.size+2):=η (by rw [hwz,cO];simp);have HS:Hid (∀W,Grow wz W->W.cell? ⟨w.heap.size,0,none⟩=some (ς al x.head.log.length cl)/\W.cell? ⟨w.heap.size,1,none⟩=some (ι x.head.aG)/\W.cell? ⟨w.heap.size,2,none⟩=some (ι x.head.next)/\W.cell? ⟨w.heap.size,3,none⟩=some (ς ao x.head.opn.length co)/\W.cell? ⟨w.heap.size,5,none⟩=some (ς an x.net.length cn)):=fun W hW=>by
  obtain⟨j0,j1,j2,j3,-,j5⟩:=aJ (aj R1.o hW);exact⟨j0,j1,j2,j3,j5⟩
 go_enter Tryz.func17,Tryz.ntmps17;go_upto_region 1 with fail
 rw [<-cO];try rw [hsz]
 rw [<-hwz];clear cO hwz hsz;go_cut [3] from 6 to 12 (fun s3 wc=>∃B3 CX CY Rw co3 PX cn3,s3=.pointer (some ⟨B3,0,none⟩)/\fM wz wc B3 (ς CX x.head.log.length CY) (ς Rw x.head.opn.length co3) (ς none 0 0) (ς PX x.net.length cn3) ⟨x.head,[],x.net⟩)
 case first=>
  refine Cm (fun w'=>w'.cell? ⟨w.heap.size,0,none⟩=some (ς al x.head.log.length cl)/\w'.cell? ⟨w.heap.size,1,none⟩=some (ι x.head.aG)/\w'.cell? ⟨w.heap.size,2,none⟩=some (ι x.head.next)/\w'.cell? ⟨w.heap.size,3,none⟩=some (ς ao x.head.opn.length co)/\w'.cell? ⟨w.heap.size,5,none⟩=some (ς an x.net.length cn)) [8] κ ?_;intro wd GD zD;have ZD:=η zD;clear zD;refine lY [0,1,3,4] 11 κ (fun _ _ _ _ _ h=>h) (HS.o _ GD) ?_;repeat (refine gq ?_;try simp only [aK])
  refine lZ ?_;refine eE 2 7 κ rfl rfl ?_ ?_
  ·intro K HK
   try simp only [aV]
   go_simp;go_at_call 60
   refine(FC.o _ (G1.o.trans GD)).mono ?_;rintro e w1 ⟨vl,vo,B0,LL,rfl,hl,hr0⟩;obtain⟨CX,CY,Rw,co3,rfl,rfl⟩:=hr0.form;have hln:LL.length=x.head.opn.length:=by rw [<-hl];simp
   rw [hln] at hr0 ⊢;have Ym:=η (hr0.head hl nG.o.1 nG.o.2);have AD:=η hr0.grow;have G2:=η (Grow.trans GD hr0.grow);clear hr0 hl hln;refine HK.o _ _ ⟨.inr (HS.o _ G2.o),?_⟩;clear HK K;try simp only [aK]
   refine eE 5 7 κ rfl rfl ?_ ?_
   ·intro K HK
    try simp only [aV]
    go_simp;go_at_call 61
    refine(f7.o _ (G1.o.trans G2.o)).mono ?_;rintro e w2 ⟨vn,rfl,hon,hb2⟩;obtain⟨PX,cn3,hvn⟩:=hon.form;rw [List.length_map] at hvn;subst hvn;have bS:=η (aI.Ub ε hon);have Yn:=η hb2;have G3:=η (Grow.trans G2.o hb2);clear hon hb2;refine HK.o _ _ ⟨.inr (HS.o _ G3.o),?_⟩;clear HK K;try simp only [aK]
    refine lY [6] 11 κ (fun _ _ _ _ _ h=>h) (HS.o _ G3.o) ?_;repeat (refine gq ?_;try simp only [aK])
    refine lZ ?_;refine iR 7 κ rfl ?_;intro K HK;try simp only [aV]
    go_simp;obtain⟨w8,hw8⟩:∃y:World,y=w2.alloc (.cells #[(),ι 0,ι 0,(),(),()] 33):=⟨_,rfl⟩;obtain⟨B3,hB3⟩:∃B,B=w2.heap.size:=⟨_,rfl⟩;rw [<-hw8,<-hB3];have R3:Hid (w8.heap[B3]? =some (.cells #[(),ι 0,ι 0,(),(),()] 33 (0,0))):=η (by rw [hw8,hB3];exact aF _ _);have G8:Hid (Grow w2 w8):=η (by rw [hw8];exact(Grow.refl _).alloc _);have HB3:Hid (B3=w2.heap.size/\w8.heap.size=B3+1):=η ⟨hB3,by rw [hw8,hB3];simp⟩;have F8:=η (Grow.trans G3.o G8.o);clear hw8 hB3;refine HK.o _ _ ⟨.inr (HS.o _ F8.o),?_⟩;clear HK K;try simp only [aK]
    refine iR 8 κ rfl ?_;intro K HK;refine aC rfl ?_;try simp only [aV]
    refine wp_store_row (.tmp 3) (.tmp 12) rfl rfl rfl R3.o bV rfl rfl ?_;intro wc rc gc;refine HK.o _ _ ⟨.inl ε,?_⟩;clear HK K;try simp only [aK]
    refine wO κ ?_;go_wp2;go_meet
    case rel=>
     have z2:=ZD.o;have z3:=HB3.o;have zh:=AD.o.size;have zn:=Yn.o.size;have z8:=G8.o.size;have kh:Sub (ov (fun _=>none) wd w1) (fr wz wc [some B3]):=fun a v e=>by
      unfold ov at e;split at e
      ·cases e
      ·have hl:=World.block_lt_of_cell? w1 a e
       rw [gy δ (fun hm=>by have:=Option.some.inj (List.mem_singleton.1 hm);omega)];exact aP (G8.o.sub _ _ (Yn.o.sub _ _ e)) gc δ
     have kn:Sub (ov (fun _=>none) w1 w2) (fr wz wc [some B3]):=fun a v e=>by
      unfold ov at e;split at e
      ·cases e
      ·have hl:=World.block_lt_of_cell? w2 a e
       rw [gy δ (fun hm=>by have:=Option.some.inj (List.mem_singleton.1 hm);omega)];exact aP (G8.o.sub _ _ e) gc δ
     exact⟨B3,CX,CY,Rw,co3,PX,cn3,rfl,fM.start rc δ (Ym.o.mono kh) (bS.o.mono kn) ((F8.o).grown gc (fun q hq=>by have:=Option.some.inj hq;omega))⟩
   ·intro K HK
    try simp only [aV]
    go_simp;obtain⟨w8,hw8⟩:∃y:World,y=w1.alloc (.cells #[(),ι 0,ι 0,(),(),()] 33):=⟨_,rfl⟩;obtain⟨B3,hB3⟩:∃B,B=w1.heap.size:=⟨_,rfl⟩;rw [<-hw8,<-hB3];have R3:Hid (w8.heap[B3]? =some (.cells #[(),ι 0,ι 0,(),(),()] 33 (0,0))):=η (by rw [hw8,hB3];exact aF _ _);have G8:Hid (Grow w1 w8):=η (by rw [hw8];exact(Grow.refl _).alloc _);have HB3:Hid (B3=w1.heap.size/\w8.heap.size=B3+1):=η ⟨hB3,by rw [hw8,hB3];simp⟩;have F8:=η (Grow.trans G2.o G8.o);clear hw8 hB3;refine HK.o _ _ ⟨.inr (HS.o _ F8.o),?_⟩;clear HK K;try simp only [aK]
    refine iR 5 κ rfl ?_;intro K HK;try simp only [aV]
    go_simp;go_at_call 61
    refine(f7.o _ (G1.o.trans F8.o)).mono ?_;rintro e w2 ⟨vn,rfl,hon,hb2⟩;obtain⟨PX,cn3,hvn⟩:=hon.form;rw [List.length_map] at hvn;subst hvn;have bS:=η (aI.Ub ε hon);have Yn:=η hb2;have G3:=η (Grow.trans F8.o hb2);clear hon hb2;have R32:=η (aj R3.o Yn.o);refine HK.o _ _ ⟨.inr (HS.o _ G3.o),?_⟩;clear HK K;try simp only [aK]
    refine lY [6] 11 κ (fun _ _ _ _ _ h=>h) (HS.o _ G3.o) ?_;repeat (refine gq ?_;try simp only [aK])
    refine lZ ?_;refine iR 8 κ rfl ?_;intro K HK;refine aC rfl ?_;try simp only [aV]
    refine wp_store_row (.tmp 3) (.tmp 12) rfl rfl rfl R32.o bV rfl rfl ?_;intro wc rc gc;refine HK.o _ _ ⟨.inl ε,?_⟩;clear HK K;try simp only [aK]
    refine wO κ ?_;go_wp2;go_meet
    case rel=>
     have z2:=ZD.o;have z3:=HB3.o;have zh:=AD.o.size;have zn:=Yn.o.size;have z8:=G8.o.size;have kh:Sub (ov (fun _=>none) wd w1) (fr wz wc [some B3]):=fun a v e=>by
      unfold ov at e;split at e
      ·cases e
      ·have hl:=World.block_lt_of_cell? w1 a e
       rw [gy δ (fun hm=>by have:=Option.some.inj (List.mem_singleton.1 hm);omega)];exact aP (Yn.o.sub _ _ (G8.o.sub _ _ e)) gc δ
     have kn:Sub (ov (fun _=>none) w8 w2) (fr wz wc [some B3]):=(PV (w:=wz) (X:=[some B3]) F8.o (fun q hq=>by have:=Option.some.inj (List.mem_singleton.1 hq);omega)).trans (XA gc σ);exact⟨B3,CX,CY,Rw,co3,PX,cn3,rfl,fM.start rc δ (Ym.o.mono kh) (bS.o.mono kn) ((G3.o).grown gc (fun q hq=>by have:=Option.some.inj hq;omega))⟩
  ·intro K HK
   try simp only [aV]
   go_simp;obtain⟨w8,hw8⟩:∃y:World,y=wd.alloc (.cells #[(),ι 0,ι 0,(),(),()] 33):=⟨_,rfl⟩;obtain⟨B3,hB3⟩:∃B,B=wd.heap.size:=⟨_,rfl⟩;rw [<-hw8,<-hB3];have R3:Hid (w8.heap[B3]? =some (.cells #[(),ι 0,ι 0,(),(),()] 33 (0,0))):=η (by rw [hw8,hB3];exact aF _ _);have G8:Hid (Grow wd w8):=η (by rw [hw8];exact(Grow.refl _).alloc _);have HB3:Hid (B3=wd.heap.size/\w8.heap.size=B3+1):=η ⟨hB3,by rw [hw8,hB3];simp⟩;have F8:=η (Grow.trans GD G8.o);clear hw8 hB3;refine HK.o _ _ ⟨.inr (HS.o _ F8.o),?_⟩;clear HK K;try simp only [aK]
   refine iR 2 κ rfl ?_;intro K HK;try simp only [aV]
   go_simp;go_at_call 60
   refine(FC.o _ (G1.o.trans F8.o)).mono ?_;rintro e w1 ⟨vl,vo,B0,LL,rfl,hl,hr0⟩;obtain⟨CX,CY,Rw,co3,rfl,rfl⟩:=hr0.form;have hln:LL.length=x.head.opn.length:=by rw [<-hl];simp
   rw [hln] at hr0 ⊢;have Ym:=η (hr0.head hl nG.o.1 nG.o.2);have AD:=η hr0.grow;have G2:=η (Grow.trans F8.o hr0.grow);clear hr0 hl hln;have NF:=η (aj R3.o AD.o);refine HK.o _ _ ⟨.inr (HS.o _ G2.o),?_⟩;clear HK K;try simp only [aK]
   refine iR 5 κ rfl ?_;intro K HK;try simp only [aV]
   go_simp;go_at_call 61
   refine(f7.o _ (G1.o.trans G2.o)).mono ?_;rintro e w2 ⟨vn,rfl,hon,hb2⟩;obtain⟨PX,cn3,hvn⟩:=hon.form;rw [List.length_map] at hvn;subst hvn;have bS:=η (aI.Ub ε hon);have Yn:=η hb2;have G3:=η (Grow.trans G2.o hb2);clear hon hb2;have R32:=η (aj NF.o Yn.o);refine HK.o _ _ ⟨.inr (HS.o _ G3.o),?_⟩;clear HK K;try simp only [aK]
   refine lY [6] 11 κ (fun _ _ _ _ _ h=>h) (HS.o _ G3.o) ?_;repeat (refine gq ?_;try simp only [aK])
   refine lZ ?_;refine iR 8 κ rfl ?_;intro K HK;refine aC rfl ?_;try simp only [aV]
   refine wp_store_row (.tmp 3) (.tmp 12) rfl rfl rfl R32.o bV rfl rfl ?_;intro wc rc gc;refine HK.o _ _ ⟨.inl ε,?_⟩;clear HK K;try simp only [aK]
   refine wO κ ?_;go_wp2;go_meet
   case rel=>
    have z2:=ZD.o;have z3:=HB3.o;have zh:=AD.o.size;have zn:=Yn.o.size;have z8:=G8.o.size;have zs:wz.heap.size<=wd.heap.size:=by omega
    have kh:Sub (ov (fun _=>none) w8 w1) (fr wz wc [some B3]):=(PV (w:=wz) (X:=[some B3]) F8.o (fun q hq=>by have:=Option.some.inj (List.mem_singleton.1 hq);omega)).trans ((dO Yn.o).trans (XA gc σ));have kn:Sub (ov (fun _=>none) w1 w2) (fr wz wc [some B3]):=(PV (w:=wz) (X:=[some B3]) G2.o (fun q hq=>by have:=Option.some.inj (List.mem_singleton.1 hq);omega)).trans (XA gc σ);exact⟨B3,CX,CY,Rw,co3,PX,cn3,rfl,fM.start rc δ (Ym.o.mono kh) (bS.o.mono kn) ((G3.o).grown gc (fun q hq=>by have:=Option.some.inj hq;omega))⟩
 case rest=>
 obtain⟨B3,CX,CY,Rw,co3,PX,cn3,rfl,hbx⟩:=hcut;obtain⟨w3,rfl⟩:∃y:World,y=wc:=⟨_,rfl⟩;have gW:=η hbx;have R13:=η (aj R1.o hbx.grow);have HB3:Hid (wz.heap.size<=B3):=η hbx.ge;clear HS hbx;obtain⟨c0,c1,c2,c3,c4,c5⟩:=aJ R13.o;have z1:w.heap.size<w3:=(γ R13.o);go_wp2;clear c0 c1 c2 c3 c4 c5 z1;go_loopw [16] (fun i wr=>∃(k:Nat) (av:Option Addr) (cv:Nat),k<=x.aA.length/\i=ι k/\Grow w wr/\fM wz wr B3 (ς CX x.head.log.length CY) (ς Rw x.head.opn.length co3) (ς av k cv) (ς PX x.net.length cn3) ⟨x.head,x.aA.take k,x.net⟩) (fun i _=>x.aA.length - (intOf i).toNat)
 case atStart=>exact⟨0,none,0,δ,rfl,G1.o.trans gW.o.grow,gW.o⟩
 case round=>
  obtain⟨j,av,cv,hj',rfl,hgr,hbx⟩:=hrel;have Nh:=η hbx;have Bv:=η hgr;clear hbx hgr;by_cases hlt:j<x.aA.length
  ·obtain⟨bh,oh,vl,vr,vd,rfl,e0,e1,e2,e3,e4,e5,e6,hH1,-,-,-,-,hH2,hH3⟩:=nQ.at_ lI.o j hlt
   obtain⟨il,jl,rfl,-⟩:=id hH1;obtain⟨ir,jr,rfl,-⟩:=id hH2;obtain⟨N_,jd,rfl,-⟩:=id hH3;have uy:=η (wV.o.hs (List.getElem?_eq_getElem hlt));have kY:Hid (x.aA.take (j+1)=x.aA.take j++ [x.aA[j]]):=η (List.take_succ_eq_append_getElem hlt);have IU:=η hH1;replace e0:=Bv.o.sub _ _ e0;replace e1:=Bv.o.sub _ _ e1;replace e2:=Bv.o.sub _ _ e2;replace e3:=Bv.o.sub _ _ e3;replace e4:=Bv.o.sub _ _ e4;replace e5:=Bv.o.sub _ _ e5;replace e6:=Bv.o.sub _ _ e6;clear hH1 hH2 hH3;generalize x.aA[j]=h at*;go_upto_region 5 with fail
   obtain⟨wo,hwo⟩:∃y:World,y=wr.alloc (.cells #[ς il h.log.length jl,ι h.sums.a,ι h.sums.b,ι h.sums.c,ι h.sums.d,ς ir h.ready.length jr,ς N_ h.done.length jd] 50):=⟨_,rfl⟩;obtain⟨BO,Ro⟩:∃y,y=wr.heap.size:=⟨_,rfl⟩;have GO:Hid (Grow wr wo):=η (by rw [hwo];exact(Grow.refl _).alloc _);have RO:Hid (wo.heap[BO]? =some (.cells #[ς il h.log.length jl,ι h.sums.a,ι h.sums.b,ι h.sums.c,ι h.sums.d,ς ir h.ready.length jr,ς N_ h.done.length jd] 50 (0,0))):=η (by rw [hwo,Ro];exact aF _ _);have SBO:Hid (BO=wr.heap.size):=η Ro;rw [<-hwo,<-Ro];clear hwo Ro e0 e1 e2 e3 e4 e5 e6;have oP:=η (Nh.o.later GO.o);have HS:Hid (∀W,Grow wo W->W.cell? ⟨B3,4,none⟩=some (ς av j cv)/\W.cell? ⟨BO,0,none⟩=some (ς il h.log.length jl)):=fun W hW=>by
    obtain⟨-,-,-,-,b4,-⟩:=aJ (aj oP.o.row hW);obtain⟨o0,-⟩:=aT (aj RO.o hW);exact⟨b4,o0⟩
   refine Cm (fun w'=>w'.cell? ⟨B3,4,none⟩=some (ς av j cv)/\w'.cell? ⟨BO,0,none⟩=some (ς il h.log.length jl)) [8] κ ?_;intro wd GD zD;have ZD:=η zD;clear zD;refine lY [0,1,2,3] 11 κ (fun _ _ _ _ _ h=>h) (HS.o _ GD) ?_;repeat (refine gq ?_;try simp only [aK])
   refine lZ ?_;refine iR 4 κ rfl ?_;intro K HK;try simp only [aV]
   go_simp;go_at_call 38
   refine(pK _ (IU.o.mono (Grow.sub (Bv.o.trans (GO.o.trans GD)))) uy.o.keys (by have:=uy.o.len;have:=wV.o.le;omega) uy.o.parts).mono ?_;rintro e w5 ⟨v5,rfl,kJ,hb5⟩;rw [<-show h=gu h.log from uy.o.made] at kJ;obtain⟨Rx,Ry,Rz,RF,id2,RI,rfl⟩:=kJ.dF;have l9:=η kJ;have G5:=η (Grow.trans GD hb5);have UM:=η hb5;have XH:=η (oP.o.later GD);clear kJ hb5;refine HK.o _ _ ⟨.inr (HS.o _ G5.o),?_⟩;clear HK K;try simp only [aK]
   refine iR 5 κ rfl ?_;intro K HK;try simp only [aV]
   go_simp;obtain⟨w6,hw6⟩:∃y:World,y=w5.alloc (.cells #[ς Rx h.log.length Ry,ι h.sums.a,ι h.sums.b,ι h.sums.c,ι h.sums.d,ς Rz h.ready.length RF,ς id2 h.done.length RI] 50):=⟨_,rfl⟩;have G6:Hid (Grow w5 w6):=η (by rw [hw6];exact(Grow.refl _).alloc _);have CP:=η (XH.o.later (UM.o.trans G6.o));have uq:Hid (Src Ty.hs (fr wz w6 (vH B3 (ς av j cv))) w6 (ς (some ⟨w5.heap.size,0,none⟩) 1 1) [h]):=η (by
    obtain⟨cs,he,hR⟩:=(l9.o.mono (XH.o.new)).mono (dO G6.o);rw [hw6] at hR ⊢;have hcs:cs=[ς Rx h.log.length Ry,ι h.sums.a,ι h.sums.b,ι h.sums.c,ι h.sums.d,ς Rz h.ready.length RF,ς id2 h.done.length RI]:=by cases he;rfl
    rw [hcs] at hR;exact Src.bQ (T:=Ty.hs) (x:=h) (cs:=#[ς Rx h.log.length Ry,ι h.sums.a,ι h.sums.b,ι h.sums.c,ι h.sums.d,ς Rz h.ready.length RF,ς id2 h.done.length RI]) hR _ _ rfl)
   have Xn:=η (Grow.trans G5.o G6.o);rw [<-hw6];clear hw6;refine HK.o _ _ ⟨.inr (HS.o _ Xn.o),?_⟩;clear HK K;try simp only [aK]
   refine iR 6 κ rfl ?_;intro K HK;refine aC rfl ?_;try simp only [aV]
   refine dD (c:=fr wz w6 (vH B3 (ς av j cv))) (base:=wz.heap.size) (l:=x.aA.take j) (m:=[h]) (v:=ς av j cv) WV rfl IC ε (.tmp 21) (.tmp 25) rfl rfl CP.o.hs rfl uq.o (by simp;omega) CP.o.grow.size ?_;intro a8 c8 w8 kV rX hb8;have AE:(x.aA.take j).length+ [h].length=j+1:=by simp;omega
   rw [AE] at kV hb8 ⊢;have qX:=η kV;have oU:=η rX;have lA:=η hb8;have Zn:=η (aH CP.o.row rX (fun e=>CP.o.ne e.symm));have RO8:=η (aH (aj RO.o Xn.o) rX (fun e=>by have h1:=(CP.o.hs.lt _ e.symm).2;have h2:=(Nh.o.hs.lt _ e.symm).2;have h3:=SBO.o;omega));clear kV rX hb8 AE;refine HK.o _ _ ⟨.inr (by obtain⟨-,-,-,-,b4,-⟩:=aJ Zn.o;obtain⟨o0,-⟩:=aT RO8.o;exact⟨b4,o0⟩),?_⟩;clear HK K;try simp only [aK]
   refine lY [7] 11 κ (fun _ _ _ _ _ h=>h) (by obtain⟨-,-,-,-,b4,-⟩:=aJ Zn.o;obtain⟨o0,-⟩:=aT RO8.o;exact⟨b4,o0⟩) ?_;repeat (refine gq ?_;try simp only [aK])
   refine lZ ?_;refine iR 8 κ rfl ?_;intro K HK;refine aC rfl ?_;try simp only [aV]
   refine aU (.tmp 27) (.tmp 26) (v:=ς a8 (j+1) c8) (new:=#[ς CX x.head.log.length CY,ι x.head.aG,ι x.head.next,ς Rw x.head.opn.length co3,ς a8 (j+1) c8,ς PX x.net.length cn3]) rfl rfl ρ ρ Zn.o EP σ ρ ρ ?_;intro w9 r9 g9;refine HK.o _ _ ⟨.inl ε,?_⟩;clear HK K;try simp only [aK]
   refine wO κ ?_;have sU:=η (CP.o.app oU.o lA.o qX.o g9 r9);have G9:=η (G1.o.trans sU.o.grow);rw [<-kY.o] at sU;clear r9 g9 HS;go_wp2;go_roundw
   case rel=>exact⟨j+1,a8,c8,δ,by go_num,G9.o,sU.o⟩
   case measure=>simp [intOf];omega
  ·obtain rfl:j=x.aA.length:=by omega
   rw [List.take_length] at Nh;have AF:=η (aj R2.o Nh.o.grow);obtain⟨b0,b1,b2,b3,b4,b5⟩:=aJ Nh.o.row;have z3:B3<wr.heap.size:=Nh.o.lt;have zr:w.heap.size+1<wr:=(γ AF.o);go_wp2_with (first|(refine wpList_store_row rfl (.tmp 2) (.tmp 29) rfl rfl rfl AF.o bV rfl rfl ?_))
   intro wf rf gf;obtain⟨p0,p1,p2,p3,p4,p5⟩:=aJ rf;go_wp2;refine bodyPost_ret (v:=.agg #[ς CX x.head.log.length CY,ι x.head.aG,ι x.head.next,ς Rw x.head.opn.length co3,ς av x.aA.length cv,ς PX x.net.length cn3]) (by simp [results,Tryz.results17,go_sem,p0,p1,p2,p3,p4,p5]) rfl ?_;exact⟨_,_,_,_,B3,rfl,Nh.o.past G1.o gf (τ HZ.o)⟩
theorem E5 {x:AW} {n:Int} (hr:∀m∈x.net,aQ m=0) (h:there x n=true):takeB (x.net.map aS) n=((x.net.eraseIdx n.toNat).map aS,x.net.getD n.toNat ⟨0,0,0,[]⟩,0):=by
 have hh:0<=n/\n<x.net.length:=of_decide_eq_true h;have hlt:n.toNat<x.net.length:=by omega
 unfold takeB;rw [if_pos (by rw [List.length_map];exact hh),List.getD_eq_getElem?_getD,List.getElem?_map,List.getElem?_eq_getElem hlt,List.getD_eq_getElem?_getD,List.getElem?_eq_getElem hlt,List.eraseIdx_eq_take_drop_succ,Ak];simp only [Option.map_some,Option.getD_some];rw [xC (hr _ (List.getElem_mem hlt))]
theorem Nj {x:AW} {n:Int} (h:there x n=false):takeB (x.net.map aS) n=(x.net.map aS,ms0,6):=by
 have hh:¬(0<=n/\n<x.net.length):=of_decide_eq_false h;unfold takeB;rw [if_neg (by rw [List.length_map];exact hh)]
theorem Uw {w:AW} {m:Ms} (h:w.aA[m.house.toNat]? =none):iY w m=w:=by unfold iY;rw [h]
theorem Nk {w:AW} {m:Ms} {h:Hs} (e:w.aA[m.house.toNat]? =some h) (f:iI m=true):iY w m={ w with aA:=w.aA.set m.house.toNat (bg h m),net:=bW w.net (bG h m.house m) }:=by
 unfold iY;rw [e];simp only;rw [if_pos f]
theorem PY {w:AW} {m:Ms} {h:Hs} (e:w.aA[m.house.toNat]? =some h) (f:iI m=false):iY w m={ w with head:=f_ w.head m,net:=bW w.net (fG w.head m) }:=by
 unfold iY;rw [e];simp only;rw [if_neg (by rw [f];simp)]
theorem fM.sent {w W W1 W2:World} {B:Nat} {vl vo vh vn v':Value} {x:AW} {ms:List Ms} (b:fM w W B vl vo vh vn x) (ho:aI Ty.bs (fr W W1 [v'.ownBlock]) W1 W.heap.size 97 v' (gX (x.net.map aS) ms)) (hg:Grow W W1) (g2:W1.grownBy W2 (some B))
  (r2:W2.heap[B]? =some (.cells #[vl,ι x.head.aG,ι x.head.next,vo,vh,v'] 33 (0,0))):fM w W2 B vl vo vh v' { x with net:=bW x.net ms }:=by
 refine(b.later hg).PW g2 r2 ?_;have h9:=(aI.Ub ε ho).mono b.new;rw [dZ] at h9;exact h9
theorem E8 {W W1 W2:World} {A:Nat} (hg:W1.grownBy W2 (some A)) (hA:A<W.heap.size):Sub (ov (fun _=>none) W W1) W2.cell?:=fun a v e=>by
 unfold ov at e;split at e
 ·cases e
 ·exact aP e hg δ
theorem E_ {c:CM} {cs:List Value} {h:Hs} (hR:Ty.hs.R c cs h):∃il jl ir jr id jd,cs=[ς il h.log.length jl,ι h.sums.a,ι h.sums.b,ι h.sums.c,ι h.sums.d,ς ir h.ready.length jr,ς id h.done.length jd]:=by
 obtain⟨v1,v2,v3,rfl,h1,-,-,-,-,h2,h3⟩:=hR;obtain⟨il,jl,rfl,-⟩:=h1;obtain⟨ir,jr,rfl,-⟩:=h2;obtain⟨id,jd,rfl,-⟩:=h3;exact⟨_,_,_,_,_,_,rfl⟩
def SP (w W:World) (B:Nat) (vh:Value) (y:AW) (W':World):Prop:=∃vl vo vn,fM w W' B vl vo vh vn y/\W.heap.size<=W'.heap.size
theorem lB (x:AW) (sn:Int) (sp:List Pt):bI x ⟨2,sn,sp⟩=if there x sn=true then 0 else 6:=by unfold bI;simp
theorem QR (x:AW) (sn:Int) (sp:List Pt):iD x ⟨2,sn,sp⟩=if there x sn=true then iY { x with net:=x.net.eraseIdx sn.toNat } (x.net.getD sn.toNat ⟨0,0,0,[]⟩) else x:=by unfold iD;simp
theorem jg.lE {m:Ms} (h:jg m):dw m.parts:=by
 by_cases h1:m.kind=1
 ·exact fun p hp=>by have:=(eP (h.parts h1).1).2.2.1 p hp;omega
 ·rw [h.none h1];exact fun p hp=>by cases hp
theorem jg.XI {m:Ms} (h:jg m):m.parts.length<=4:=by
 by_cases h1:m.kind=1
 ·exact(eP (h.parts h1).1).2.1
 ·rw [h.none h1];simp
theorem lX:(Tryz.prog.info? 31).map (·.size)=some 1:=by kernel_rfl
theorem Nl {v vm:Value} {h:Hd} {m:Ms} (w:World) (hv:Of Ty.hd w.cell? v h) (hm:Of Ty.ms w.cell? vm m) (hk:yR h) (hi:Rt h):
  Calls Tryz.prog 79 #[v,vm] w fun e w'=>∃v1 v2,e=.returned (.tuple #[v1,v2])/\Of Ty.hd (ov (fun _=>none) w w') v1 (f_ h m)/\Sl Ty.ms (ov (fun _=>none) w w') v2 (fG h m)/\Grow w w':=
 (PO w hv hm hk hi).mono fun _ _ ⟨v1,v2,he,h1,h2,h3⟩=>⟨v1,v2,he,h1,h2,h3⟩
theorem PZ {w W:World} {B k:Nat} {vl vo vh vn:Value} {x:AW} {sn:Int} (sp:List Pt) (hb:fM w W B vl vo vh vn x) (hk:WK k x):
  Calls Tryz.prog 42 #[.pointer (some ⟨B,0,none⟩),ι sn] W fun e W'=>e=.returned (ι (bI x ⟨2,sn,sp⟩))/\SP w W B vh (iD x ⟨2,sn,sp⟩) W':=by
 obtain⟨al,cl,ao,co,ah,ch,an,cn,rfl,rfl,rfl,rfl⟩:=hb.form;have kY:=η (LV (n:=sn) W hb.ZG hk.net.1 hk.net.2);have gW:=η hb;have wV:=η hk;have HE:=η (lB x sn sp);have HD:=η (QR x sn sp);have hl3:=hk.XG.2;clear hb hk;rw [HE.o,HD.o];by_cases hth:there x sn=true;rotate_left
 ·have ZI:there x sn=false:=by simpa using hth
  have HT:=η (Nj ZI);rw [if_neg hth,if_neg hth];clear hth ZI HE HD;go_enter Tryz.func42,Tryz.ntmps42;obtain⟨b0,b1,b2,b3,b4,b5⟩:=aJ gW.o.row;have zB:B<W.heap.size:=gW.o.lt;go_wp2_with fail
  refine kY.o.mono ?_;rintro e W1 ⟨v1,v2,rfl,ho,hm,hg⟩;rw [HT.o] at ho hm ⊢;obtain⟨a1,c1,rfl⟩:=ho.form;obtain⟨XJ,XK,rfl⟩:=hm.fQ;have HG:=η hg;clear ho hm hg b0 b1 b2 b3 b4 b5 zB;go_wp2;go_ret;exact⟨rfl,_,_,_,gW.o.later (HG.o.alloc _),by have:=HG.o.size;simp;omega⟩
 rw [if_pos hth,if_pos hth];obtain⟨m,hm⟩:∃q,q=x.net.getD sn.toNat ⟨0,0,0,[]⟩:=⟨_,rfl⟩;obtain⟨nt,hnt⟩:∃q,q=x.net.eraseIdx sn.toNat:=⟨_,rfl⟩;obtain⟨n,G,hwi⟩:=wV.o.wi;have HT:Hid (takeB (x.net.map aS) sn=(nt.map aS,m,0)):=η (by rw [E5 hwi.right hth,<-hm,<-hnt]);have Ik:Hid (qB n G x.head x.aA m):=η (by rw [hm];exact hwi.there hth);have oE:Hid (nt.length<=24/\∀q∈nt,aQ q=0):=η ⟨by rw [hnt];have:=hwi.len;have:=List.length_eraseIdx_le x.net sn.toNat;omega,fun q hq=>hwi.right q (List.mem_of_mem_eraseIdx (by rw [<-hnt];exact hq))⟩;have mY:=η hwi;rw [<-hm,<-hnt];have h0:0<=m.house:=Ik.o.right.house.1;clear hth hm hnt hwi HE HD;go_enter Tryz.func42,Tryz.ntmps42;obtain⟨b0,b1,b2,b3,b4,b5⟩:=aJ gW.o.row;have zB:B<W.heap.size:=gW.o.lt;go_wp2_with fail
 refine kY.o.mono ?_;rintro e W1 ⟨v1,v2,rfl,ho,hm,hg⟩;rw [HT.o] at ho hm ⊢;obtain⟨a1,c1,hv1⟩:=ho.form;rw [List.length_map] at hv1;subst hv1;obtain⟨XJ,XK,rfl⟩:=hm.fQ;have FY:=η ((aI.Ub ε ho).mono gW.o.new);have lM:=η hm;have HG:=η hg;have HB1:=η (gW.o.later hg);clear ho hm hg b0 b1 b2 b3 b4 b5 zB;obtain⟨W2,hW2⟩:∃zq:World,zq=W1.alloc (.cells #[ι m.kind,ι m.deed,ι m.house,ς XJ m.parts.length XK] 85):=⟨_,rfl⟩;obtain⟨BM,cF⟩:∃zq,zq=W1.heap.size:=⟨_,rfl⟩;have wG:Hid (Grow W1 W2):=η (by rw [hW2];exact(Grow.refl _).alloc _);have i8:Hid (W2.heap[BM]? =some (.cells #[ι m.kind,ι m.deed,ι m.house,ς XJ m.parts.length XK] 85 (0,0))):=η (by rw [hW2,cF];exact aF _ _);have Q0:Hid (BM=W1.heap.size):=η cF;have HB2:=η (HB1.o.later wG.o);have AG:=η (FY.o.mono (dO wG.o));go_upto_region 2 with fail
 rw [<-hW2,<-cF];clear hW2 cF;obtain⟨b0,b1,b2,b3,b4,b5⟩:=aJ HB2.o.row;have zB:B<W2.heap.size:=HB2.o.lt;go_wp2_with (first|(refine aN rfl (.tmp 25) (.tmp 23) (v:=ς a1 nt.length c1) (new:=#[ς al x.head.log.length cl,ι x.head.aG,ι x.head.next,ς ao x.head.opn.length co,ς ah x.aA.length ch,ς a1 nt.length c1]) rfl rfl ρ ρ HB2.o.row lX σ ρ ρ ?_))
 intro W4 r4 g4;have HB4:=η (HB2.o.PW g4 r4 AG.o);have cD:=η (aH i8.o g4 (fun e=>by have h1:=Option.some.inj e;have h2:=HB1.o.lt;have h3:=Q0.o;omega));have AH:=η ((lM.o.mono (sK (Sub.refl _) wG.o)).mono (E8 g4 gW.o.lt));have N9:Hid (W.heap.size<=W4.heap.size):=η (by have:=HG.o.size;have:=wG.o.size;have:=g4.size;omega);have RC:Hid (B≠BM):=η (fun e=>by have h2:=HB1.o.lt;have h3:=Q0.o;omega);clear r4 g4 b0 b1 b2 b3 b4 b5 zB HB2 i8 AG lM HB1 FY;obtain⟨b0,b1,b2,b3,b4,b5⟩:=aJ HB4.o.row;have zB:B<W4.heap.size:=HB4.o.lt;obtain⟨m0,m1,m2,m3⟩:=cells4 cD.o;have zM:BM<W4.heap.size:=(γ cD.o);by_cases hmh:(x.aA.length:Int)<=m.house
 ·have HC:Hid (iY { x with net:=nt } m={ x with net:=nt }):=η (Uw (by rw [List.getElem?_eq_none_iff];show x.aA.length<=_;omega))
  go_wp2_with (go_quiet (fail))
  go_ret;exact⟨rfl,_,_,_,by rw [HC.o];exact HB4.o.later (Grow.drewN (Grow.refl _) _),Nat.le_trans N9.o (Grow.drewN (Grow.refl W4) _).size⟩
 have hlt:m.house.toNat<x.aA.length:=by omega
 obtain⟨j,hj⟩:∃q,q=m.house.toNat:=⟨_,rfl⟩;rw [<-hj] at hlt;have hmj:m.house=(j:Int):=by omega
 have lL:Hid (x.aA[m.house.toNat]? =some x.aA[j]):=η (by rw [<-hj];exact List.getElem?_eq_getElem hlt);have lO:=η (And.intro hj hmj);clear hj hmj;go_upto_region 5 with fail
 go_cut [37] from 26 to 37 (fun s37 wc=>s37=.bool false/\Grow W4 wc)
 case first=>
  go_wp2_with (go_quiet (fail))
  go_meet
  case rel=>exact⟨by first|rfl|(simp;omega),Grow.drewN (Grow.refl _) _⟩
 case rest=>
 obtain⟨rfl,hgc⟩:=hcut;obtain⟨W5,rfl⟩:∃zq:World,zq=wc:=⟨_,rfl⟩;have zu:=η (HB4.o.later hgc);have pL:=η (aj cD.o hgc);have AI:=η (AH.o.mono hgc.sub);have RE:Hid (W.heap.size<=W5.heap.size):=η (by have:=N9.o;have:=hgc.size;omega);clear hgc b0 b1 b2 b3 b4 b5 zB m0 m1 m2 m3 zM HB4 cD AH hmh;obtain⟨m0,m1,m2,m3⟩:=cells4 pL.o;have zM:BM<W5.heap.size:=(γ pL.o);go_upto_block 0 with fail
 clear m0 m1 m2 m3 zM;go_cut [8] from 40 to 77 (fun s8 wc=>∃(eU kN XL:Option Addr) (eX kP cs:Nat) (hd2:Hd) (hs2:List Hs) (ms:List Ms),s8=ς XL ms.length cs/\fM w wc B (ς eU hd2.log.length eX) (ς kN hd2.opn.length kP) (ς ah x.aA.length ch) (ς a1 nt.length c1) ⟨hd2,hs2,nt⟩/\nL wc.cell? (ς XL ms.length cs) ms/\(∀q∈ms,aQ q=0)/\iY { x with net:=nt } m=⟨hd2,hs2,bW nt ms⟩/\W.heap.size<=wc.heap.size)
 case rest=>
  obtain⟨eU,kN,XL,eX,kP,cs,hd2,hs2,ms,rfl,hbx,hms,hsy,hce,hsz⟩:=hcut;obtain⟨W9,rfl⟩:∃zq:World,zq=wc:=⟨_,rfl⟩;have sU:=η hbx;have RK:=η hms;have Ko:=η hsy;have HCE:=η hce;have Yb:=η hsz;clear hbx hms hsy hce hsz;obtain⟨b0,b1,b2,b3,b4,b5⟩:=aJ sU.o.row;have zB:B<W9.heap.size:=sU.o.lt;go_wp2_with fail
  refine(uY (l:=nt.map aS) (ms:=ms) W9 sU.o.ZG RK.o Ko.o (by rw [List.length_map];have:=oE.o.1;omega) (fun b hb=>by
   obtain⟨q,hq,rfl⟩:=List.mem_map.1 hb;have:=oV (oE.o.2 q hq);omega)).mono ?_
  rintro e W10 ⟨v10,rfl,kL,iL⟩;obtain⟨a10,c10,AJ⟩:=kL.form;have AK:(gX (nt.map aS) ms).length=(bW nt ms).length:=by rw [dZ,List.length_map]
  rw [AK] at AJ;subst AJ;have uz:=η kL;have XM:=η iL;have RT:=η (sU.o.later iL);clear kL iL AK b0 b1 b2 b3 b4 b5 zB;go_wp2_with (first|(refine aN rfl (.tmp 86) (.tmp 84) (v:=ς a10 (bW nt ms).length c10) (new:=#[ς eU hd2.log.length eX,ι hd2.aG,ι hd2.next,ς kN hd2.opn.length kP,ς ah x.aA.length ch,ς a10 (bW nt ms).length c10]) rfl rfl ρ ρ RT.o.row lX σ ρ ρ ?_))
  intro W11 r11 g11;have P7:=η (sU.o.sent uz.o XM.o g11 r11);have Au:Hid (W.heap.size<=W11.heap.size):=η (by have:=Yb.o;have:=XM.o.size;have:=g11.size;omega);clear r11 g11;go_wp2;go_ret;exact⟨rfl,_,_,_,by rw [HCE.o];exact P7.o,Au.o⟩
 go_upto_if 52 with fail
 go_cut [52] from 54 to 55 (fun s52 wc=>s52=.bool (iI m)/\Grow W5 wc)
 case first=>
  by_cases k1:m.kind=1
  ·have t1:(m.kind==1)=true:=by simp [k1]
   have hf:iI m=true:=by unfold iI;simp [k1]
   have HF:=η hf;clear k1 hf;go_wp2;go_meet
   case rel=>exact⟨by first|(rw [HF.o];done)|(rw [HF.o];simp [t1]),gY⟩
  ·have t1:(m.kind==1)=false:=by simp [k1]
   by_cases k4:m.kind=4
   ·have t4:(m.kind==4)=true:=by simp [k4]
    have hf:iI m=true:=by unfold iI;simp [k4]
    have HF:=η hf;clear k1 k4 hf;go_wp2;go_meet
    case rel=>exact⟨by first|(rw [HF.o];done)|(rw [HF.o];simp [t1,t4]),gY⟩
   ·have t4:(m.kind==4)=false:=by simp [k4]
    have hf:iI m=(m.kind==5):=by unfold iI;simp only [k1,k4,false_or];by_cases k5:m.kind=5<;>simp [k5]
    have HF:=η hf;clear k1 k4 hf;go_wp2;go_meet
    case rel=>exact⟨by rw [HF.o],gY⟩
 case rest=>
 obtain⟨rfl,hgc⟩:=hcut;obtain⟨W6,rfl⟩:∃zq:World,zq=wc:=⟨_,rfl⟩;have Bz:=η (zu.o.later hgc);have Ux:=η (aj pL.o hgc);have AM:=η (AI.o.mono hgc.sub);have pC:Hid (W.heap.size<=W6.heap.size):=η (by have:=RE.o;have:=hgc.size;omega);clear hgc zu pL AI;obtain⟨f,hf⟩:∃b,b=iI m:=⟨_,rfl⟩;rw [<-hf];have HF:=η hf;clear hf;have A0k:=oE.o.1;cases f with
 |true=>
   have HC:=η (Nk (w:={ x with net:=nt }) lL.o HF.o.symm);have Ko:Hid (∀q∈bG x.aA[j] m.house m,aQ q=0):=η (WI.says (mY.o.core.hear Ik.o lL.o).2.2);have uy:=η (wV.o.hs (List.getElem?_eq_getElem hlt));obtain⟨gh,cs0,rfl,XO,cG⟩:=Bz.o.hs.get ε j hlt;obtain⟨il,jl,ir,jr,N_,jd,rfl⟩:=E_ XO;have cH:=η XO;have Dc:=η cG;clear XO cG;obtain⟨h,hh⟩:∃q,q=x.aA[j]:=⟨_,rfl⟩;rw [<-hh] at HC Ko uy cH Dc;have HJ2:Hid (x.aA[j]? =some h):=η (by rw [hh];exact List.getElem?_eq_getElem hlt);clear hh;have hjz:(j:Int)<(x.aA.length:Int):=by omega
   have HS:Hid (∀W',Grow W6 W'->W'.cell? ⟨B,4,none⟩=some (ς (some ⟨gh,0,none⟩) x.aA.length ch)/\W'.cell? ⟨BM,0,none⟩=some (ι m.kind)/\W'.cell? ⟨BM,1,none⟩=some (ι m.deed)/\W'.cell? ⟨BM,2,none⟩=some (ι (j:Int))/\W'.cell? ⟨BM,3,none⟩=some (ς XJ m.parts.length XK)):=fun W' hW=>by
    obtain⟨-,-,-,-,q4,-⟩:=aJ (aj Bz.o.row hW);obtain⟨n0,n1,n2,n3⟩:=cells4 (aj Ux.o hW);rw [lO.o.2] at n2;exact⟨q4,n0,n1,n2,n3⟩
   have lI:Hid (∀W',Grow W6 W'->W'.cell? ⟨gh,j*7,none⟩=some (ς il h.log.length jl)/\W'.cell? ⟨gh,j*7+1,none⟩=some (ι h.sums.a)/\W'.cell? ⟨gh,j*7+2,none⟩=some (ι h.sums.b)/\W'.cell? ⟨gh,j*7+3,none⟩=some (ι h.sums.c)/\W'.cell? ⟨gh,j*7+4,none⟩=some (ι h.sums.d)/\W'.cell? ⟨gh,j*7+5,none⟩=some (ς ir h.ready.length jr)/\W'.cell? ⟨gh,j*7+6,none⟩=some (ς N_ h.done.length jd)):=fun W' hW=>⟨by have h9:=Dc.o 0 _ rfl;simp only [show Ty.hs.size=7 from rfl,Nat.add_zero] at h9;exact hW.sub _ _ h9,by have h9:=Dc.o 1 _ rfl;simp only [show Ty.hs.size=7 from rfl] at h9;exact hW.sub _ _ h9,by have h9:=Dc.o 2 _ rfl;simp only [show Ty.hs.size=7 from rfl] at h9;exact hW.sub _ _ h9,by have h9:=Dc.o 3 _ rfl;simp only [show Ty.hs.size=7 from rfl] at h9;exact hW.sub _ _ h9,by have h9:=Dc.o 4 _ rfl;simp only [show Ty.hs.size=7 from rfl] at h9;exact hW.sub _ _ h9,by have h9:=Dc.o 5 _ rfl;simp only [show Ty.hs.size=7 from rfl] at h9;exact hW.sub _ _ h9,by have h9:=Dc.o 6 _ rfl;simp only [show Ty.hs.size=7 from rfl] at h9;exact hW.sub _ _ h9⟩;have NGB:Hid (gh≠B/\gh≠BM):=η ⟨fun e=>Bz.o.ne (by rw [<-e];rfl),fun e=>by have h1:=(gW.o.hs.lt gh rfl).2;have h2:=HG.o.size;have h3:=Q0.o;omega⟩;go_upto_region 13 with fail
   refine Cm (fun w'=>w'.cell? ⟨B,4,none⟩=some (ς (some ⟨gh,0,none⟩) x.aA.length ch)/\w'.cell? ⟨BM,0,none⟩=some (ι m.kind)/\w'.cell? ⟨BM,1,none⟩=some (ι m.deed)/\w'.cell? ⟨BM,2,none⟩=some (ι (j:Int))/\w'.cell? ⟨BM,3,none⟩=some (ς XJ m.parts.length XK)) [] κ ?_;intro wd GD zD;have ZD:=η zD;clear zD;refine lY [0,1,2,3,4,5,6,7,8,9,10,11,12,14,15,16] 26 κ (fun _ _ _ _ _ h=>h) (HS.o _ GD) ?_;repeat (refine gq ?_;try simp only [aK])
   refine lZ ?_;refine iR 13 κ rfl ?_;intro K HK;try simp only [aV]
   obtain⟨q0,q1,q2,q3,q4,q5,q6⟩:=lI.o _ GD;have zg:gh<wd.heap.size:=World.block_lt_of_cell? _ _ q0;go_simp;clear q0 q1 q2 q3 q4 q5 q6 zg;refine HK.o _ _ ⟨.inr (HS.o _ GD),?_⟩;clear HK K;try simp only [aK]
   refine iR 17 κ rfl ?_;intro K HK;try simp only [aV]
   go_simp;go_at_call 78
   refine(OO (h:=h) (m:=m) (me:=(j:Int)) wd ⟨_,rfl,Ty.hs.mono ((fF _ _ _).trans (Grow.sub GD)) cH.o⟩ (by rw [<-lO.o.2];exact AM.o.mono (Grow.sub GD)) uy.o.keys Ik.o.right.lE (by have:=uy.o.len;have:=wV.o.le;omega) uy.o.parts (τ Ik.o.right.XI) (iW δ δ) uy.o.made).mono ?_;rintro e W7 ⟨v1,v2,rfl,hx7,OT,hb7⟩;obtain⟨Rx,Ry,Rz,RF,id2,RI,rfl⟩:=hx7.dF;obtain⟨XL,cs,rfl,-⟩:=id OT;have Oy:=η (Bz.o.later GD);have M_:=η (hx7.mono Oy.o.new);have RW:=η OT;have G7:=η (Grow.trans GD hb7);have wZ:=η (Oy.o.later hb7);have HGH:Hid (gh<wd.heap.size):=η (Oy.o.hs.lt gh rfl).2;clear hx7 OT hb7;refine HK.o _ _ ⟨.inr (HS.o _ G7.o),?_⟩;clear HK K;try simp only [aK]
   refine lY [18,19,20,21] 26 κ (fun _ _ _ _ _ h=>h) (HS.o _ G7.o) ?_;repeat (refine gq ?_;try simp only [aK])
   refine lZ ?_;refine iR 22 κ rfl ?_;intro K HK;refine aC rfl ?_;try simp only [aV]
   refine uX (.tmp 77) (.tmp 75) (i:=j) (x:=bg h m) rfl rfl rfl ρ wZ.o.hs hlt dL (by obtain⟨cs9,EZ,YH⟩:=M_.o;cases EZ;exact YH) ρ ?_;intro W8 kV g8;have pE:=η (aH wZ.o.row g8 (fun e=>NGB.o.1 (Option.some.inj e).symm));have XP:=η (aH (aj Ux.o G7.o) g8 (fun e=>NGB.o.2 (Option.some.inj e).symm));refine HK.o _ _ ⟨.inr (by obtain⟨-,-,-,-,q4,-⟩:=aJ pE.o;obtain⟨n0,n1,n2,n3⟩:=cells4 XP.o;rw [lO.o.2] at n2;exact⟨q4,n0,n1,n2,n3⟩),?_⟩;clear HK K;try simp only [aK]
   refine lY [23] 26 κ (fun _ _ _ _ _ h=>h) (by obtain⟨-,-,-,-,q4,-⟩:=aJ pE.o;obtain⟨n0,n1,n2,n3⟩:=cells4 XP.o;rw [lO.o.2] at n2;exact⟨q4,n0,n1,n2,n3⟩) ?_;repeat (refine gq ?_;try simp only [aK])
   refine lZ ?_;refine wO κ ?_;go_wp2;go_meet
   case rel=>
    have hsz:=G7.o.size;have hs8:=g8.size;have hs6:=pC.o;refine⟨al,ao,XL,cl,co,cs,x.head,x.aA.set j (bg h m),bG h j m,rfl,wZ.o.zP g8 kV,RW.o.mono (E8 g8 HGH.o),?_,?_,δ⟩
    ·intro q hq;exact Ko.o q (by rw [lO.o.2];exact hq)
    ·rw [HC.o,<-lO.o.1,lO.o.2]
 |false=>
   have HC:=η (PY (w:={ x with net:=nt }) lL.o HF.o.symm);have Ko:Hid (∀q∈fG x.head m,aQ q=0):=η (WI.says (mY.o.core.Wx Ik.o).2.2);have HS:Hid (∀W',Grow W6 W'->W'.cell? ⟨BM,0,none⟩=some (ι m.kind)/\W'.cell? ⟨BM,1,none⟩=some (ι m.deed)/\W'.cell? ⟨BM,2,none⟩=some (ι m.house)/\W'.cell? ⟨BM,3,none⟩=some (ς XJ m.parts.length XK)):=fun W' hW=>by
    obtain⟨n0,n1,n2,n3⟩:=cells4 (aj Ux.o hW);exact⟨n0,n1,n2,n3⟩
   go_upto_region 9 with fail
   refine Cm (fun w'=>w'.cell? ⟨BM,0,none⟩=some (ι m.kind)/\w'.cell? ⟨BM,1,none⟩=some (ι m.deed)/\w'.cell? ⟨BM,2,none⟩=some (ι m.house)/\w'.cell? ⟨BM,3,none⟩=some (ς XJ m.parts.length XK)) [] κ ?_;intro wd GD zD;have ZD:=η zD;clear zD;refine lY [0,1,2,3,5] 16 κ (fun _ _ _ _ _ h=>h) (HS.o _ GD) ?_;repeat (refine gq ?_;try simp only [aK])
   refine lZ ?_;refine iR 4 κ rfl ?_;intro K HK;try simp only [aV]
   obtain⟨q0,q1,q2,q3,-,-⟩:=aJ (aj Bz.o.row GD);have zB:B<wd.heap.size:=World.block_lt_of_cell? _ _ q0;go_simp;clear q0 q1 q2 q3 zB;refine HK.o _ _ ⟨.inr (HS.o _ GD),?_⟩;clear HK K;try simp only [aK]
   refine iR 6 κ rfl ?_;intro K HK;try simp only [aV]
   go_simp;go_at_call 79
   refine(Nl (h:=x.head) (m:=m) wd (Of.mono (Grow.sub GD) Bz.o.bT) (AM.o.mono (Grow.sub GD)) wV.o.qE wV.o.yV).mono ?_;rintro e W7 ⟨v1,v2,rfl,hx7,OT,hb7⟩;obtain⟨eU,eX,kN,kP,rfl⟩:=hx7.dS;obtain⟨XL,cs,rfl,-⟩:=id OT;have Oy:=η (Bz.o.later GD);have M_:=η (hx7.mono Oy.o.new);have RW:=η OT;have G7:=η (Grow.trans GD hb7);have wZ:=η (Oy.o.later hb7);have Oi:Hid (B<wd.heap.size):=η Oy.o.lt;clear hx7 OT hb7;refine HK.o _ _ ⟨.inr (HS.o _ G7.o),?_⟩;clear HK K;try simp only [aK]
   refine lY [7,8,9,10,11] 16 κ (fun _ _ _ _ _ h=>h) (HS.o _ G7.o) ?_;repeat (refine gq ?_;try simp only [aK])
   refine lZ ?_;refine iR 12 κ rfl ?_;intro K HK;refine aC rfl ?_;try simp only [aV]
   refine fV (.tmp 51) (.tmp 48) (new:=#[ς eU (f_ x.head m).log.length eX,ι (f_ x.head m).aG,ι (f_ x.head m).next,ς kN (f_ x.head m).opn.length kP,ς ah x.aA.length ch,ς a1 nt.length c1]) rfl rfl rfl wZ.o.row bU σ ρ ρ ?_;intro W8 r8 g8;have XP:=η (aH (aj Ux.o G7.o) g8 (fun e=>RC.o (Option.some.inj e).symm));refine HK.o _ _ ⟨.inr (by obtain⟨n0,n1,n2,n3⟩:=cells4 XP.o;exact⟨n0,n1,n2,n3⟩),?_⟩;clear HK K;try simp only [aK]
   refine lY [13] 16 κ (fun _ _ _ _ _ h=>h) (by obtain⟨n0,n1,n2,n3⟩:=cells4 XP.o;exact⟨n0,n1,n2,n3⟩) ?_;repeat (refine gq ?_;try simp only [aK])
   refine lZ ?_;refine wO κ ?_;go_wp2;go_meet
   case rel=>
    have hsz:=G7.o.size;have hs8:=g8.size;have hs6:=pC.o;exact⟨eU,kN,XL,eX,kP,cs,f_ x.head m,x.aA,fG x.head m,rfl,wZ.o.ZH g8 r8 M_.o,RW.o.mono (E8 g8 Oi.o),Ko.o,HC.o,δ⟩
theorem lP (x:AW) (sn:Int) (sp:List Pt):bI x ⟨1,sn,sp⟩=if bD sp x.aA.length=0 then nZ x.head else bD sp x.aA.length:=by unfold bI;simp
theorem R0 (x:AW) (sn:Int) (sp:List Pt):iD x ⟨1,sn,sp⟩=if bD sp x.aA.length=0 then { x with head:=iH x.head sp,net:=bW x.net (jK x.head sp) } else x:=by unfold iD;simp
theorem lR (x:AW) (sn:Int) (sp:List Pt):bI x ⟨5,sn,sp⟩=if sn=3 then ou x.head else if oC x sn=true then 0 else 6:=by unfold bI;simp
theorem SD (x:AW) (sn:Int) (sp:List Pt):iD x ⟨5,sn,sp⟩=if sn=3 then { x with head:=jA x.head } else x:=by unfold iD;simp
theorem l0 (x:AW) (sn:Int) (sp:List Pt):bI x ⟨6,sn,sp⟩=if sn=3∨oC x sn=true then 0 else 6:=by unfold bI;simp
theorem SF (x:AW) (sn:Int) (sp:List Pt):iD x ⟨6,sn,sp⟩=if sn=3∨oC x sn=true then rH x sn.toNat else x:=by unfold iD;simp
theorem aI.same {α:Type} {T:Ty α} {c:CM} {w:World} {base e:Nat} {v:Value} {l:List α} {j:Nat} {x:α} (hj:l[j]? =some x) (h:aI T c w base e v (l.set j x)):aI T c w base e v l:=by
 obtain⟨hlt,rfl⟩:=List.getElem?_eq_some_iff.1 hj;rwa [List.set_getElem_self] at h
theorem Np {w W:World} {B k:Nat} {vl vo vh vn vp:Value} {x:AW} {sp:List Pt} (sn:Int) (hb:fM w W B vl vo vh vn x) (hk:WK k x) (hp:m_ W.cell? vp sp):
  Calls Tryz.prog 41 #[.pointer (some ⟨B,0,none⟩),vp] W fun e W'=>e=.returned (ι (bI x ⟨1,sn,sp⟩))/\SP w W B vh (iD x ⟨1,sn,sp⟩) W':=by
 obtain⟨al,cl,ao,co,ah,ch,an,cn,rfl,rfl,rfl,rfl⟩:=hb.form;obtain⟨n,G,hwi⟩:=hk.wi;have mY:=η hwi;have gW:=η hb;have wV:=η hk;have hl3:=hk.XG;have l6:x.net.length<=24:=hwi.len;have wP:Hid (x.aA.length=n):=η hwi.core.len;have HP:=η hp;obtain⟨ap,cp,rfl,-⟩:=hp;clear hb hk hwi;rw [lP,R0];by_cases hw:bD sp x.aA.length=0;rotate_left
 ·have hwb:(bD sp x.aA.length !=0)=true:=by simp [hw]
  rw [if_neg hw,if_neg hw];clear hw;go_enter Tryz.func41,Tryz.ntmps41;obtain⟨b0,b1,b2,b3,b4,b5⟩:=aJ gW.o.row;have zB:B<W.heap.size:=gW.o.lt;go_wp2_with fail
  refine(xq (h:=x.aA.length) W HP.o).mono ?_;rintro e W1 ⟨rfl,hb1⟩;have HG:=η hb1;clear hb1 b0 b1 b2 b3 b4 b5 zB;go_wp2;go_ret;exact⟨rfl,_,_,_,gW.o.later HG.o,HG.o.size⟩
 have hwb:(bD sp x.aA.length !=0)=false:=by simp [hw]
 rw [if_pos hw,if_pos hw];have HW:Hid (bD sp n=0):=η (by rw [<-wP.o];exact hw);have zo:Hid (F9 sp):=η (Ru hl3.2 hw);have Ko:Hid (∀q∈jK x.head sp,aQ q=0):=η (by
  by_cases hf:oz x.head=true
  ·rw [(mX hf).2.1];simp
  ·exact WI.says (mY.o.core.begin HW.o (by simpa using hf)).2.2)
 clear hw;go_enter Tryz.func41,Tryz.ntmps41;obtain⟨b0,b1,b2,b3,b4,b5⟩:=aJ gW.o.row;have zB:B<W.heap.size:=gW.o.lt;go_wp2_with fail
 refine(xq (h:=x.aA.length) W HP.o).mono ?_;rintro e W1 ⟨rfl,hb1⟩;have SA:=η hb1;have HB1:=η (gW.o.later hb1);clear hb1 b0 b1 b2 b3 b4 b5 zB;obtain⟨b0,b1,b2,b3,b4,b5⟩:=aJ HB1.o.row;have zB:B<W1.heap.size:=HB1.o.lt;go_wp2_with fail
 refine(MW W1 HB1.o.bT (HP.o.mono SA.o.sub) wV.o.qE wV.o.yV.logp zo.o).mono ?_;rintro e W2 ⟨v1,v2,rfl,hx2,hm2,hb2⟩;have UQ:=η (hx2.mono HB1.o.new);have FU:=η (hm2.mono (qK _ _));have HB2:=η (HB1.o.later hb2);have HS2:Hid (W.heap.size<=W2.heap.size):=η (by have:=SA.o.size;have:=hb2.size;omega);clear hx2 hb2 b0 b1 b2 b3 b4 b5 zB hwb;generalize hq1:iH x.head sp=hd2 at*;generalize hq2:jK x.head sp=ms at*;generalize hq3:nZ x.head=be at*;have uw:=η hq1;have uD:=η hq2;have xQ:=η hq3;clear hq1 hq2 hq3;obtain⟨eU,eX,kN,kP,rfl⟩:=UQ.o.dS;obtain⟨XL,cs,rfl,-⟩:=hm2;obtain⟨W3,hW3⟩:∃zq:World,zq=W2.alloc (.cells #[ς eU hd2.log.length eX,ι hd2.aG,ι hd2.next,ς kN hd2.opn.length kP] 29):=⟨_,rfl⟩;obtain⟨BH,Aw⟩:∃zq,zq=W2.heap.size:=⟨_,rfl⟩;have cI:Hid (Grow W2 W3):=η (by rw [hW3];exact(Grow.refl _).alloc _);have AN:Hid (W3.heap[BH]? =some (.cells #[ς eU hd2.log.length eX,ι hd2.aG,ι hd2.next,ς kN hd2.opn.length kP] 29 (0,0))):=η (by rw [hW3,Aw];exact aF _ _);have HNB:Hid (BH≠B):=η (fun e=>by have:=HB2.o.lt;omega);go_upto_region 5 with fail
 rw [<-hW3,<-Aw];clear hW3 Aw;have HB3:=η (HB2.o.later cI.o);have cJ:=η (UQ.o.mono (dO cI.o));have uL:=η (FU.o.mono cI.o.sub);have SJ:Hid (W.heap.size<=W3.heap.size):=η (by have:=HS2.o;have:=cI.o.size;omega);clear UQ FU HB2 HS2;have HS:Hid (∀W',Grow W3 W'->W'.cell? ⟨BH,0,none⟩=some (ς eU hd2.log.length eX)/\W'.cell? ⟨BH,1,none⟩=some (ι hd2.aG)/\W'.cell? ⟨BH,2,none⟩=some (ι hd2.next)/\W'.cell? ⟨BH,3,none⟩=some (ς kN hd2.opn.length kP)/\W'.cell? ⟨B,5,none⟩=some (ς an x.net.length cn)):=fun W' hW=>by
  obtain⟨n0,n1,n2,n3⟩:=cells4 (aj AN.o hW);obtain⟨-,-,-,-,-,q5⟩:=aJ (aj HB3.o.row hW);exact⟨n0,n1,n2,n3,q5⟩
 refine Cm (fun w'=>w'.cell? ⟨BH,0,none⟩=some (ς eU hd2.log.length eX)/\w'.cell? ⟨BH,1,none⟩=some (ι hd2.aG)/\w'.cell? ⟨BH,2,none⟩=some (ι hd2.next)/\w'.cell? ⟨BH,3,none⟩=some (ς kN hd2.opn.length kP)/\w'.cell? ⟨B,5,none⟩=some (ς an x.net.length cn)) [14] κ ?_;intro wd GD zD;have ZD:=η zD;clear zD;refine lY [0,1,2,3,4,5,6,7] 17 κ (fun _ _ _ _ _ h=>h) (HS.o _ GD) ?_;repeat (refine gq ?_;try simp only [aK])
 refine lZ ?_;refine iR 8 κ rfl ?_;intro K HK;try simp only [aV]
 go_simp;go_at_call 48
 refine(uY (l:=x.net.map aS) (ms:=ms) wd (Sl.mono (fF _ _ _) (HB3.o.later GD).net) (uL.o.mono (Grow.sub GD)) Ko.o (by rw [List.length_map];omega) (fun b hb=>by
  obtain⟨q,hq,rfl⟩:=List.mem_map.1 hb;have:=oV (mY.o.right q hq);omega)).mono ?_
 rintro e W5 ⟨v5,rfl,kJ,hb5⟩;obtain⟨a5,c5,hv5⟩:=kJ.form;rw [show(gX (x.net.map aS) ms).length=(bW x.net ms).length by rw [dZ,List.length_map]] at hv5;subst hv5;have HB4:=η (HB3.o.later GD);have l9:=η kJ;have FJ:=η hb5;have G5:=η (Grow.trans GD hb5);have zu:=η (HB4.o.later hb5);clear kJ hb5;refine HK.o _ _ ⟨.inr (HS.o _ G5.o),?_⟩;clear HK K;try simp only [aK]
 refine lY [9,10] 17 κ (fun _ _ _ _ _ h=>h) (HS.o _ G5.o) ?_;repeat (refine gq ?_;try simp only [aK])
 refine lZ ?_;refine iR 11 κ rfl ?_;intro K HK;refine aC rfl ?_;try simp only [aV]
 refine fV (.tmp 39) (.tmp 31) (new:=#[ς eU hd2.log.length eX,ι hd2.aG,ι hd2.next,ς kN hd2.opn.length kP,ς ah x.aA.length ch,ς an x.net.length cn]) rfl rfl rfl zu.o.row bU σ ρ ρ ?_;intro W6 r6 g6;have Bz:=η (zu.o.ZH g6 r6 (cJ.o.mono (dO G5.o)));have Oi:Hid (B<wd.heap.size):=η HB4.o.lt;have R6:=η r6;have S6:Hid (W.heap.size<=W6.heap.size):=η (by have:=SJ.o;have:=G5.o.size;have:=g6.size;omega);have xZ:Hid (uH (fr w W6 (vH B (ς ah x.aA.length ch))) (ς a5 (bW x.net ms).length c5) ((bW x.net ms).map aS)):=η (by
  have h9:=((aI.Ub ε l9.o).mono HB4.o.new).mono (zu.o.keeps g6);rw [dZ] at h9;exact h9)
 have RH6:=η (aH (aj AN.o G5.o) g6 (fun e=>HNB.o (Option.some.inj e)));clear r6 g6;refine HK.o _ _ ⟨.inr (by obtain⟨n0,n1,n2,n3⟩:=cells4 RH6.o;obtain⟨-,-,-,-,-,q5⟩:=aJ R6.o;exact⟨n0,n1,n2,n3,q5⟩),?_⟩;clear HK K;try simp only [aK]
 refine lY [12,13] 17 κ (fun _ _ _ _ _ h=>h) (by obtain⟨n0,n1,n2,n3⟩:=cells4 RH6.o;obtain⟨-,-,-,-,-,q5⟩:=aJ R6.o;exact⟨n0,n1,n2,n3,q5⟩) ?_;repeat (refine gq ?_;try simp only [aK])
 refine lZ ?_;refine iR 14 κ rfl ?_;intro K HK;refine aC rfl ?_;try simp only [aV]
 refine aU (.tmp 41) (.tmp 37) (v:=ς a5 (bW x.net ms).length c5) (new:=#[ς eU hd2.log.length eX,ι hd2.aG,ι hd2.next,ς kN hd2.opn.length kP,ς ah x.aA.length ch,ς a5 (bW x.net ms).length c5]) rfl rfl ρ ρ R6.o lX σ ρ ρ ?_;intro W7 r7 g7;have wZ:=η (Bz.o.PW g7 r7 xZ.o);have S7:Hid (W.heap.size<=W7.heap.size):=η (by have:=S6.o;have:=g7.size;omega);clear r7 g7;refine HK.o _ _ ⟨.inl ε,?_⟩;clear HK K;try simp only [aK]
 refine wO κ ?_;go_wp2;go_ret;exact⟨bC xQ.o.symm,_,_,_,by rw [uw.o,uD.o];exact wZ.o,S7.o⟩
theorem P8 {w W:World} {B k:Nat} {vl vo vh vn:Value} {x:AW} {sn:Int} (sp:List Pt) (hb:fM w W B vl vo vh vn x) (hk:WK k x):
  Calls Tryz.prog 45 #[.pointer (some ⟨B,0,none⟩),ι sn] W fun e W'=>e=.returned (ι (bI x ⟨5,sn,sp⟩))/\SP w W B vh (iD x ⟨5,sn,sp⟩) W':=by
 obtain⟨al,cl,ao,co,ah,ch,an,cn,rfl,rfl,rfl,rfl⟩:=hb.form;obtain⟨n,G,hwi⟩:=hk.wi;have mY:=η hwi;have gW:=η hb;have wV:=η hk;have hl3:=hk.XG;have l6:x.net.length<=24:=hwi.len;have wP:Hid (x.aA.length=n):=η hwi.core.len;clear hb hk hwi;rw [lR,SD];by_cases h3:sn=3
 ·rw [if_pos h3,if_pos h3]
  have t3:(sn==3)=true:=by simp [h3]
  clear h3;go_enter Tryz.func45,Tryz.ntmps45;obtain⟨b0,b1,b2,b3,b4,b5⟩:=aJ gW.o.row;have zB:B<W.heap.size:=gW.o.lt;go_wp2_with fail
  refine(PG W gW.o.bT wV.o.qE wV.o.yV.logp).mono ?_;rintro e W1 ⟨v1,rfl,hx1,hb1⟩;have Jg:=η (hx1.mono gW.o.new);have HB1:=η (gW.o.later hb1);have UE:=η hb1.size;clear hx1 hb1 b0 b1 b2 b3 b4 b5 zB t3;generalize hq1:jA x.head=hd2 at*;generalize hq2:ou x.head=fe at*;have uw:=η hq1;have uD:=η hq2;clear hq1 hq2;obtain⟨eU,eX,kN,kP,rfl⟩:=Jg.o.dS;obtain⟨W3,hW3⟩:∃zq:World,zq=W1.alloc (.cells #[ς eU hd2.log.length eX,ι hd2.aG,ι hd2.next,ς kN hd2.opn.length kP] 29):=⟨_,rfl⟩;obtain⟨BH,Aw⟩:∃zq,zq=W1.heap.size:=⟨_,rfl⟩;have cI:Hid (Grow W1 W3):=η (by rw [hW3];exact(Grow.refl _).alloc _);have AN:Hid (W3.heap[BH]? =some (.cells #[ς eU hd2.log.length eX,ι hd2.aG,ι hd2.next,ς kN hd2.opn.length kP] 29 (0,0))):=η (by rw [hW3,Aw];exact aF _ _);go_upto_region 3 with fail
  rw [<-hW3,<-Aw];clear hW3 Aw;have HB3:=η (HB1.o.later cI.o);have cJ:=η (Jg.o.mono (dO cI.o));have SJ:Hid (W.heap.size<=W3.heap.size):=η (by have:=UE.o;have:=cI.o.size;omega);obtain⟨n0,n1,n2,n3⟩:=cells4 AN.o;have zH:BH<W3.heap.size:=(γ AN.o);go_wp2_with (first|(refine qL rfl (.tmp 21) (.tmp 19) (new:=#[ς eU hd2.log.length eX,ι hd2.aG,ι hd2.next,ς kN hd2.opn.length kP,ς ah x.aA.length ch,ς an x.net.length cn]) rfl rfl rfl HB3.o.row bU σ ρ ρ ?_))
  intro W4 r4 g4;have HB4:=η (HB3.o.ZH g4 r4 cJ.o);have N9:Hid (W.heap.size<=W4.heap.size):=η (by have:=SJ.o;have:=g4.size;omega);clear r4 g4 n0 n1 n2 n3 zH;go_wp2;go_ret;exact⟨bC uD.o.symm,_,_,_,by rw [uw.o];exact HB4.o,N9.o⟩
 have t3:(sn==3)=false:=by simp [h3]
 rw [if_neg h3,if_neg h3];clear h3;by_cases hh:oC x sn=true;rotate_left
 ·have hn:¬(0<=sn/\sn<x.aA.length):=fun e=>hh (by unfold oC;exact decide_eq_true e)
  rw [if_neg hh];clear hh;go_enter Tryz.func45,Tryz.ntmps45;obtain⟨b0,b1,b2,b3,b4,b5⟩:=aJ gW.o.row;have zB:B<W.heap.size:=gW.o.lt;by_cases h0:sn<0
  ·clear hn
   go_wp2;go_ret;exact⟨rfl,_,_,_,gW.o,Nat.le_refl _⟩
  ·have h1:(x.aA.length:Int)<=sn:=by omega
   clear hn;go_wp2;go_ret;exact⟨rfl,_,_,_,gW.o,Nat.le_refl _⟩
 rw [if_pos hh];have hn:0<=sn/\sn<x.aA.length:=of_decide_eq_true hh;obtain⟨j,rfl⟩:∃j:Nat,sn=(j:Int):=⟨sn.toNat,δ⟩;have hlt:j<x.aA.length:=by omega
 have hz0:¬(j:Int)<0:=by omega
 have hz1:¬(x.aA.length:Int)<=(j:Int):=by omega
 have hz2:(j:Int)<(x.aA.length:Int):=by omega
 have uy:=η (wV.o.hs (List.getElem?_eq_getElem hlt));obtain⟨gh,cs0,rfl,XO,cG⟩:=gW.o.hs.get ε j hlt;obtain⟨il,jl,ir,jr,N_,jd,rfl⟩:=E_ XO;have cH:=η XO;have Dc:=η cG;clear XO cG;obtain⟨h,hh9⟩:∃q,q=x.aA[j]:=⟨_,rfl⟩;rw [<-hh9] at uy cH Dc;have HJ2:Hid (x.aA[j]? =some h):=η (by rw [hh9];exact List.getElem?_eq_getElem hlt);clear hh9;clear hh hn;go_enter Tryz.func45,Tryz.ntmps45;obtain⟨b0,b1,b2,b3,b4,b5⟩:=aJ gW.o.row;have zB:B<W.heap.size:=gW.o.lt;go_upto_region 7 with fail
 clear b0 b1 b2 b3 b4 b5 zB;have HS:Hid (∀W',Grow W W'->W'.cell? ⟨B,4,none⟩=some (ς (some ⟨gh,0,none⟩) x.aA.length ch)/\W'.cell? ⟨gh,j*7,none⟩=some (ς il h.log.length jl)):=fun W' hW=>by
  obtain⟨-,-,-,-,q4,-⟩:=aJ (aj gW.o.row hW);exact⟨q4,by have h9:=Dc.o 0 _ rfl;simp only [show Ty.hs.size=7 from rfl,Nat.add_zero] at h9;exact hW.sub _ _ h9⟩
 refine Cm (fun w'=>w'.cell? ⟨B,4,none⟩=some (ς (some ⟨gh,0,none⟩) x.aA.length ch)/\w'.cell? ⟨gh,j*7,none⟩=some (ς il h.log.length jl)) [15] κ ?_;intro wd GD zD;have ZD:=η zD;clear zD;refine lY [0,1,2,3,4,5,6,7,8,9,10,11,12] 18 κ (fun _ _ _ _ _ h=>h) (HS.o _ GD) ?_;repeat (refine gq ?_;try simp only [aK])
 refine lZ ?_;refine iR 13 κ rfl ?_;intro K HK;try simp only [aV]
 go_simp;go_at_call 38
 refine(pK wd (l:=h.log) (by obtain⟨v1,v2,v3,he,hr,-⟩:=cH.o;cases he;exact hr.mono ((fF _ _ _).trans (Grow.sub GD))) uy.o.keys (by have:=uy.o.len;have:=wV.o.le;omega) uy.o.parts).mono ?_;rintro e W5 ⟨v5,rfl,kJ,hb5⟩;rw [<-show h=gu h.log from uy.o.made] at kJ;obtain⟨Rx,Ry,Rz,RF,id2,RI,rfl⟩:=kJ.dF;have Oy:=η (gW.o.later GD);have l9:=η (kJ.mono Oy.o.new);have G5:=η (Grow.trans GD hb5);have zu:=η (Oy.o.later hb5);clear kJ hb5;refine HK.o _ _ ⟨.inr (HS.o _ G5.o),?_⟩;clear HK K;try simp only [aK]
 refine lY [14] 18 κ (fun _ _ _ _ _ h=>h) (HS.o _ G5.o) ?_;repeat (refine gq ?_;try simp only [aK])
 refine lZ ?_;refine iR 15 κ rfl ?_;intro K HK;refine aC rfl ?_;try simp only [aV]
 refine uX (.tmp 49) (.tmp 48) (i:=j) (x:=h) rfl rfl rfl ρ zu.o.hs hlt dL (by obtain⟨cs9,EZ,YH⟩:=l9.o;cases EZ;exact YH) ρ ?_;intro W6 tX g6;have Bz:=η (zu.o.zP g6 (tX.same HJ2.o));have S6:Hid (W.heap.size<=W6.heap.size):=η (by have:=G5.o.size;have:=g6.size;omega);clear tX g6;refine HK.o _ _ ⟨.inl ε,?_⟩;clear HK K;try simp only [aK]
 refine wO κ ?_;go_wp2;go_ret;exact⟨rfl,_,_,_,Bz.o,S6.o⟩
theorem P9 {w W:World} {B k:Nat} {vl vo vh vn:Value} {x:AW} {sn:Int} (sp:List Pt) (hb:fM w W B vl vo vh vn x) (hk:WK k x):
  Calls Tryz.prog 46 #[.pointer (some ⟨B,0,none⟩),ι sn] W fun e W'=>e=.returned (ι (bI x ⟨6,sn,sp⟩))/\SP w W B vh (iD x ⟨6,sn,sp⟩) W':=by
 obtain⟨al,cl,ao,co,ah,ch,an,cn,rfl,rfl,rfl,rfl⟩:=hb.form;obtain⟨n,G,hwi⟩:=hk.wi;have mY:=η hwi;have gW:=η hb;have wV:=η hk;have hl3:=hk.XG;have l6:x.net.length<=24:=hwi.len;have wP:Hid (x.aA.length=n):=η hwi.core.len;clear hb hk hwi;rw [l0,SF];by_cases h3:sn=3
 ·rw [if_pos (.inl h3),if_pos (.inl h3)]
  have HT:Hid (rH x sn.toNat={ x with net:=bW x.net (pG x.head) }):=η (by rw [h3];rfl);have Ko:Hid (∀q∈pG x.head,aQ q=0):=η (WI.says (EC mY.o.core));have t3:(sn==3)=true:=by simp [h3]
  rw [HT.o];clear h3 HT;have HB3:=η gW.o;have HS:Hid (∀W',Grow W W'->W'.cell? ⟨B,0,none⟩=some (ς al x.head.log.length cl)/\W'.cell? ⟨B,1,none⟩=some (ι x.head.aG)/\W'.cell? ⟨B,2,none⟩=some (ι x.head.next)/\W'.cell? ⟨B,3,none⟩=some (ς ao x.head.opn.length co)/\W'.cell? ⟨B,5,none⟩=some (ς an x.net.length cn)):=fun W' hW=>by
   obtain⟨q0,q1,q2,q3,-,q5⟩:=aJ (aj gW.o.row hW);exact⟨q0,q1,q2,q3,q5⟩
  go_enter Tryz.func46,Tryz.ntmps46;go_upto_region 3 with fail
  clear t3;refine Cm (fun w'=>w'.cell? ⟨B,0,none⟩=some (ς al x.head.log.length cl)/\w'.cell? ⟨B,1,none⟩=some (ι x.head.aG)/\w'.cell? ⟨B,2,none⟩=some (ι x.head.next)/\w'.cell? ⟨B,3,none⟩=some (ς ao x.head.opn.length co)/\w'.cell? ⟨B,5,none⟩=some (ς an x.net.length cn)) [13] κ ?_;intro wd GD zD;have ZD:=η zD;clear zD;refine lY [0,1,2,3,4,5,6,7,8] 16 κ (fun _ _ _ _ _ h=>h) (HS.o _ GD) ?_;repeat (refine gq ?_;try simp only [aK])
  refine lZ ?_;refine iR 9 κ rfl ?_;intro K HK;try simp only [aV]
  go_simp;go_at_call 84
  refine(PE wd (Of.mono (Grow.sub GD) gW.o.bT) wV.o.qE wV.o.yV.parts).mono ?_;rintro e W4 ⟨v4,rfl,pO,hb4⟩;obtain⟨XL,cs,rfl⟩:=pO.form;have AR:=η ((aI.Ub ε pO).mono (qK _ _));have G4:=η (Grow.trans GD hb4);clear pO hb4;refine HK.o _ _ ⟨.inr (HS.o _ G4.o),?_⟩;clear HK K;try simp only [aK]
  refine iR 10 κ rfl ?_;intro K HK;try simp only [aV]
  go_simp;go_at_call 48
  refine(uY (l:=x.net.map aS) (ms:=(pG x.head)) W4 (Sl.mono (fF _ _ _) (HB3.o.later G4.o).net) AR.o Ko.o (by rw [List.length_map];omega) (fun b hb=>by
   obtain⟨q,hq,rfl⟩:=List.mem_map.1 hb;have:=oV (mY.o.right q hq);omega)).mono ?_
  rintro e W5 ⟨v5,rfl,kJ,hb5⟩;obtain⟨a5,c5,hv5⟩:=kJ.form;rw [show(gX (x.net.map aS) (pG x.head)).length=(bW x.net (pG x.head)).length by rw [dZ,List.length_map]] at hv5;subst hv5;have HB4:=η (HB3.o.later G4.o);have l9:=η kJ;have FJ:=η hb5;have G5:=η (Grow.trans G4.o hb5);have zu:=η (HB4.o.later hb5);clear kJ hb5;refine HK.o _ _ ⟨.inr (HS.o _ G5.o),?_⟩;clear HK K;try simp only [aK]
  refine lY [11,12] 16 κ (fun _ _ _ _ _ h=>h) (HS.o _ G5.o) ?_;repeat (refine gq ?_;try simp only [aK])
  refine lZ ?_;refine iR 13 κ rfl ?_;intro K HK;refine aC rfl ?_;try simp only [aV]
  refine aU (.tmp 37) (.tmp 35) (v:=ς a5 (bW x.net (pG x.head)).length c5) (new:=#[ς al x.head.log.length cl,ι x.head.aG,ι x.head.next,ς ao x.head.opn.length co,ς ah x.aA.length ch,ς a5 (bW x.net (pG x.head)).length c5]) rfl rfl ρ ρ zu.o.row lX σ ρ ρ ?_;intro W7 r7 g7;have wZ:=η (HB4.o.sent l9.o FJ.o g7 r7);have S7:Hid (W.heap.size<=W7.heap.size):=η (by have:=G5.o.size;have:=g7.size;omega);clear r7 g7;refine HK.o _ _ ⟨.inl ε,?_⟩;clear HK K;try simp only [aK]
  refine wO κ ?_;go_wp2;go_ret;exact⟨rfl,_,_,_,wZ.o,S7.o⟩
 have t3:(sn==3)=false:=by simp [h3]
 by_cases hh:oC x sn=true;rotate_left
 ·have hn:¬(0<=sn/\sn<x.aA.length):=fun e=>hh (by unfold oC;exact decide_eq_true e)
  rw [if_neg (by rintro(e|e);exact h3 e;exact hh e),if_neg (by rintro(e|e);exact h3 e;exact hh e)];clear hh h3;go_enter Tryz.func46,Tryz.ntmps46;obtain⟨b0,b1,b2,b3,b4,b5⟩:=aJ gW.o.row;have zB:B<W.heap.size:=gW.o.lt;by_cases h0:sn<0
  ·clear hn
   go_wp2;go_ret;exact⟨rfl,_,_,_,gW.o,Nat.le_refl _⟩
  ·have h1:(x.aA.length:Int)<=sn:=by omega
   clear hn;go_wp2;go_ret;exact⟨rfl,_,_,_,gW.o,Nat.le_refl _⟩
 rw [if_pos (.inr hh),if_pos (.inr hh)];have hn:0<=sn/\sn<x.aA.length:=of_decide_eq_true hh;obtain⟨j,rfl⟩:∃j:Nat,sn=(j:Int):=⟨sn.toNat,δ⟩;have hlt:j<x.aA.length:=by omega
 have hz0:¬(j:Int)<0:=by omega
 have hz1:¬(x.aA.length:Int)<=(j:Int):=by omega
 have hz2:(j:Int)<(x.aA.length:Int):=by omega
 have uy:=η (wV.o.hs (List.getElem?_eq_getElem hlt));obtain⟨gh,cs0,rfl,XO,cG⟩:=gW.o.hs.get ε j hlt;obtain⟨il,jl,ir,jr,N_,jd,rfl⟩:=E_ XO;have cH:=η XO;have Dc:=η cG;clear XO cG;obtain⟨h,hh9⟩:∃q,q=x.aA[j]:=⟨_,rfl⟩;rw [<-hh9] at uy cH Dc;have HJ2:Hid (x.aA[j]? =some h):=η (by rw [hh9];exact List.getElem?_eq_getElem hlt);clear hh9;have HT:Hid (rH x ((j:Int)).toNat={ x with net:=bW x.net (kX h j) }):=η (by
  unfold rH;rw [if_neg δ];simp only [Int.toNat_natCast];rw [HJ2.o])
 have Ko:Hid (∀q∈kX h j,aQ q=0):=η (WI.says (Ez mY.o.core HJ2.o));rw [HT.o];clear hh hn h3 HT;have HB3:=η gW.o;have HS:Hid (∀W',Grow W W'->W'.cell? ⟨B,4,none⟩=some (ς (some ⟨gh,0,none⟩) x.aA.length ch)/\W'.cell? ⟨B,5,none⟩=some (ς an x.net.length cn)/\W'.cell? ⟨gh,j*7,none⟩=some (ς il h.log.length jl)/\W'.cell? ⟨gh,j*7+1,none⟩=some (ι h.sums.a)/\W'.cell? ⟨gh,j*7+2,none⟩=some (ι h.sums.b)/\W'.cell? ⟨gh,j*7+3,none⟩=some (ι h.sums.c)/\W'.cell? ⟨gh,j*7+4,none⟩=some (ι h.sums.d)/\W'.cell? ⟨gh,j*7+5,none⟩=some (ς ir h.ready.length jr)/\W'.cell? ⟨gh,j*7+6,none⟩=some (ς N_ h.done.length jd)):=fun W' hW=>by
  obtain⟨-,-,-,-,q4,q5⟩:=aJ (aj gW.o.row hW);exact⟨q4,q5,by have h9:=Dc.o 0 _ rfl;simp only [show Ty.hs.size=7 from rfl,Nat.add_zero] at h9;exact hW.sub _ _ h9,by have h9:=Dc.o 1 _ rfl;simp only [show Ty.hs.size=7 from rfl] at h9;exact hW.sub _ _ h9,by have h9:=Dc.o 2 _ rfl;simp only [show Ty.hs.size=7 from rfl] at h9;exact hW.sub _ _ h9,by have h9:=Dc.o 3 _ rfl;simp only [show Ty.hs.size=7 from rfl] at h9;exact hW.sub _ _ h9,by have h9:=Dc.o 4 _ rfl;simp only [show Ty.hs.size=7 from rfl] at h9;exact hW.sub _ _ h9,by have h9:=Dc.o 5 _ rfl;simp only [show Ty.hs.size=7 from rfl] at h9;exact hW.sub _ _ h9,by have h9:=Dc.o 6 _ rfl;simp only [show Ty.hs.size=7 from rfl] at h9;exact hW.sub _ _ h9⟩
 go_enter Tryz.func46,Tryz.ntmps46;obtain⟨b0,b1,b2,b3,b4,b5⟩:=aJ gW.o.row;have zB:B<W.heap.size:=gW.o.lt;go_upto_region 1 with fail
 clear b0 b1 b2 b3 b4 b5 zB t3;refine Cm (fun w'=>w'.cell? ⟨B,4,none⟩=some (ς (some ⟨gh,0,none⟩) x.aA.length ch)/\w'.cell? ⟨B,5,none⟩=some (ς an x.net.length cn)/\w'.cell? ⟨gh,j*7,none⟩=some (ς il h.log.length jl)/\w'.cell? ⟨gh,j*7+1,none⟩=some (ι h.sums.a)/\w'.cell? ⟨gh,j*7+2,none⟩=some (ι h.sums.b)/\w'.cell? ⟨gh,j*7+3,none⟩=some (ι h.sums.c)/\w'.cell? ⟨gh,j*7+4,none⟩=some (ι h.sums.d)/\w'.cell? ⟨gh,j*7+5,none⟩=some (ς ir h.ready.length jr)/\w'.cell? ⟨gh,j*7+6,none⟩=some (ς N_ h.done.length jd)) [17] κ ?_;intro wd GD zD;have ZD:=η zD;clear zD;refine lY [0,1,2,3,4,5,6,7,8,9,10,11,12] 20 κ (fun _ _ _ _ _ h=>h) (HS.o _ GD) ?_;repeat (refine gq ?_;try simp only [aK])
 refine lZ ?_;refine iR 13 κ rfl ?_;intro K HK;try simp only [aV]
 go_simp;go_at_call 85
 refine(OG (h:=h) (me:=(j:Int)) wd ⟨_,rfl,Ty.hs.mono ((fF _ _ _).trans (Grow.sub GD)) cH.o⟩ (iW δ δ) (τ uy.o.ready)).mono ?_;rintro e W4 ⟨v4,rfl,pO,hb4⟩;obtain⟨XL,cs,rfl⟩:=pO.form;have AR:=η (aI.sl ε (fun _ _ e=>by cases e) pO);have G4:=η (Grow.trans GD hb4);clear pO hb4;refine HK.o _ _ ⟨.inr (HS.o _ G4.o),?_⟩;clear HK K;try simp only [aK]
 refine iR 14 κ rfl ?_;intro K HK;try simp only [aV]
 go_simp;go_at_call 48
 refine(uY (l:=x.net.map aS) (ms:=(kX h j)) W4 (Sl.mono (fF _ _ _) (HB3.o.later G4.o).net) AR.o Ko.o (by rw [List.length_map];omega) (fun b hb=>by
  obtain⟨q,hq,rfl⟩:=List.mem_map.1 hb;have:=oV (mY.o.right q hq);omega)).mono ?_
 rintro e W5 ⟨v5,rfl,kJ,hb5⟩;obtain⟨a5,c5,hv5⟩:=kJ.form;rw [show(gX (x.net.map aS) (kX h j)).length=(bW x.net (kX h j)).length by rw [dZ,List.length_map]] at hv5;subst hv5;have HB4:=η (HB3.o.later G4.o);have l9:=η kJ;have FJ:=η hb5;have G5:=η (Grow.trans G4.o hb5);have zu:=η (HB4.o.later hb5);clear kJ hb5;refine HK.o _ _ ⟨.inr (HS.o _ G5.o),?_⟩;clear HK K;try simp only [aK]
 refine lY [15,16] 20 κ (fun _ _ _ _ _ h=>h) (HS.o _ G5.o) ?_;repeat (refine gq ?_;try simp only [aK])
 refine lZ ?_;refine iR 17 κ rfl ?_;intro K HK;refine aC rfl ?_;try simp only [aV]
 refine aU (.tmp 21) (.tmp 19) (v:=ς a5 (bW x.net (kX h j)).length c5) (new:=#[ς al x.head.log.length cl,ι x.head.aG,ι x.head.next,ς ao x.head.opn.length co,ς (some ⟨gh,0,none⟩) x.aA.length ch,ς a5 (bW x.net (kX h j)).length c5]) rfl rfl ρ ρ zu.o.row lX σ ρ ρ ?_;intro W7 r7 g7;have wZ:=η (HB4.o.sent l9.o FJ.o g7 r7);have S7:Hid (W.heap.size<=W7.heap.size):=η (by have:=G5.o.size;have:=g7.size;omega);clear r7 g7;refine HK.o _ _ ⟨.inl ε,?_⟩;clear HK K;try simp only [aK]
 refine wO κ ?_;go_wp2;go_ret;exact⟨rfl,_,_,_,wZ.o,S7.o⟩
theorem l8 (x:AW) (sn:Int) (sp:List Pt):bI x ⟨3,sn,sp⟩=if there x sn=true then 0 else 6:=by unfold bI;simp
theorem SM (x:AW) (sn:Int) (sp:List Pt):iD x ⟨3,sn,sp⟩=if there x sn=true then { x with net:=x.net.eraseIdx sn.toNat } else x:=by unfold iD;simp
theorem l_ (x:AW) (sn:Int) (sp:List Pt):bI x ⟨4,sn,sp⟩=if there x sn=true then 0 else 6:=by unfold bI;simp
theorem SO (x:AW) (sn:Int) (sp:List Pt):iD x ⟨4,sn,sp⟩=if there x sn=true/\x.net.length<24 then { x with net:=x.net++ [x.net.getD sn.toNat ⟨0,0,0,[]⟩] } else x:=by unfold iD;simp
theorem mA (x:AW) (sn:Int) (sp:List Pt):bI x ⟨7,sn,sp⟩=0:=by unfold bI;simp
theorem SR (x:AW) (sn:Int) (sp:List Pt):iD x ⟨7,sn,sp⟩={ x with head:=kM x.head,net:=bW x.net (qH x.head) }:=by unfold iD;simp
theorem mB (x:AW) {kd:Int} (sn:Int) (sp:List Pt) (h:kd≠1/\kd≠2/\kd≠3/\kd≠4/\kd≠5/\kd≠6/\kd≠7):bI x ⟨kd,sn,sp⟩=1/\iD x ⟨kd,sn,sp⟩=x:=by
 obtain⟨h1,h2,h3,h4,h5,h6,h7⟩:=h;unfold bI iD;simp [h1,h2,h3,h4,h5,h6,h7]
theorem Uy (x:AW) (sn:Int) (sp:List Pt):pR (x.net.map aS) sn=((iD x ⟨4,sn,sp⟩).net.map aS,bI x ⟨4,sn,sp⟩)/\(iD x ⟨4,sn,sp⟩)={ x with net:=(iD x ⟨4,sn,sp⟩).net }:=by
 rw [SO,l_];unfold pR;rw [List.length_map];by_cases h:there x sn=true
 ·have hh:0<=sn/\sn<x.net.length:=of_decide_eq_true h
  have hlt:sn.toNat<x.net.length:=by omega
  rw [if_pos hh,if_pos h];by_cases h2:x.net.length<24
  ·rw [if_pos h2,if_pos ⟨h,h2⟩]
   refine⟨?_,rfl⟩;rw [List.getD_eq_getElem?_getD,List.getElem?_map,List.getElem?_eq_getElem hlt,List.getD_eq_getElem?_getD,List.getElem?_eq_getElem hlt];simp
  ·rw [if_neg h2,if_neg (fun e=>h2 e.2)]
   exact⟨rfl,rfl⟩
 ·have hh:¬(0<=sn/\sn<x.net.length):=fun e=>h (decide_eq_true e)
  rw [if_neg hh,if_neg h,if_neg (fun e=>h e.1)];exact⟨rfl,rfl⟩
theorem XQ {v vs:Value} {x:AW} {s:St} {k:Nat} (w:World) (hv:Of Ty.wd w.cell? v x) (hs:Of Ty.st w.cell? vs s) (hk:WK k x):
  Calls Tryz.prog 15 #[v,vs] w fun e w'=>∃v',e=.returned (.tuple #[v',ι (bI x s)])/\Of Ty.wd (ov (fun _=>none) w w') v' (iD x s)/\Grow w w':=by
 obtain⟨kd,sn,sp⟩:=s;have HOW:=η (fun(W:World) (hW:Grow w W)=>Ip W (hv.mono hW.sub) hk);obtain⟨al,cl,ao,co,ah,ch,an,cn,rfl⟩:=hv.fE;obtain⟨ap,cp,rfl⟩:=hs.je;have vT:=η hs.ig.2;have wV:=η hk;obtain⟨n,G,hwi⟩:=hk.wi;have l6:x.net.length<=24:=hwi.len;have mY:=η hwi;clear hv hs hk hwi;obtain⟨wa,cO⟩:∃y:World,y=w.alloc (.cells #[ς al x.head.log.length cl,ι x.head.aG,ι x.head.next,ς ao x.head.opn.length co,ς ah x.aA.length ch,ς an x.net.length cn] 33):=⟨_,rfl⟩;obtain⟨wb,hwb⟩:∃y:World,y=wa.alloc (.cells #[ι kd,ι sn,ς ap sp.length cp] 25):=⟨_,rfl⟩;obtain⟨wz,hwz⟩:∃y:World,y=wb.alloc (.cells #[(),ι 0,ι 0,(),(),()] 33):=⟨_,rfl⟩;have hsa:wa.heap.size=w.heap.size+1:=by rw [cO];simp
 have hsb:wb.heap.size=w.heap.size+2:=by rw [hwb];simp [hsa]
 have R2:Hid (wz.heap[w.heap.size]? =some (.cells #[ς al x.head.log.length cl,ι x.head.aG,ι x.head.next,ς ao x.head.opn.length co,ς ah x.aA.length ch,ς an x.net.length cn] 33 (0,0))):=η (by rw [hwz,hwb,cO];exact aB (aB (aF _ _) _) _);have R3:Hid (wz.heap[w.heap.size+1]? =some (.cells #[ι kd,ι sn,ς ap sp.length cp] 25 (0,0))):=η (by rw [hwz,hwb,<-hsa];exact aB (aF _ _) _);have R4:Hid (wz.heap[w.heap.size+2]? =some (.cells #[(),ι 0,ι 0,(),(),()] 33 (0,0))):=η (by rw [hwz,<-hsb];exact aF _ _);have G1:Hid (Grow w wz):=η (by rw [hwz,hwb,cO];exact(((Grow.refl w).alloc _).alloc _).alloc _);have HZ:Hid (wz.heap.size=w.heap.size+3):=η (by rw [hwz];simp [hsb]);go_enter Tryz.func15,Tryz.ntmps15;go_upto_region 1 with fail
 rw [<-cO];try rw [hsa]
 rw [<-hwb];try rw [hsb]
 rw [<-hwz];clear cO hwb hwz hsa hsb;obtain⟨c0,c1,c2,c3,c4,c5⟩:=aJ R2.o;have z1:w.heap.size<wz:=(γ R2.o);go_wp2_with fail
 refine(HOW.o _ G1.o).mono ?_;rintro e w1 ⟨vl,vo,vh,vn,B0,rfl,hbx⟩;obtain⟨AS,AT,A0,A1,ZJ,ch6,A3,A5,rfl,rfl,rfl,rfl⟩:=hbx.form;have HB1:=η hbx;clear hbx c0 c1 c2 c3 c4 c5 z1;obtain⟨w2,hw2⟩:∃y:World,y=w1.alloc (.cells #[ς AS x.head.log.length AT,ι x.head.aG,ι x.head.next,ς A0 x.head.opn.length A1,ς ZJ x.aA.length ch6,ς A3 x.net.length A5] 33):=⟨_,rfl⟩;obtain⟨B,hB⟩:∃y,y=w1.heap.size:=⟨_,rfl⟩;have gW:Hid (fM wz w2 B (ς AS x.head.log.length AT) (ς A0 x.head.opn.length A1) (ς ZJ x.aA.length ch6) (ς A3 x.net.length A5) x):=η (HB1.o.MR (by rw [hw2];exact(Grow.refl _).alloc _) δ (by rw [hw2,hB];exact aF _ _));go_upto_region 3 with fail
 rw [<-hw2,<-hB];clear hw2 hB;have R32:=η (aj R3.o gW.o.grow);have UU:=η (aj R4.o gW.o.grow);obtain⟨s0,s1,s2⟩:=cells3 R32.o;have zs:w.heap.size+1<w2:=(γ R32.o);go_upto_block 0 with fail
 go_cut [7] from 8 to 78 (fun s7 wc=>∃ST vo2 vn2,s7=ι (bI x ⟨kd,sn,sp⟩)/\fM wz wc B ST vo2 (ς ZJ x.aA.length ch6) vn2 (iD x ⟨kd,sn,sp⟩))
 case rest=>
  obtain⟨ST,vo2,vn2,rfl,hbx⟩:=hcut;obtain⟨w3,rfl⟩:∃zq:World,zq=wc:=⟨_,rfl⟩;generalize hq1:bI x ⟨kd,sn,sp⟩=er at*;generalize hq2:iD x ⟨kd,sn,sp⟩=y at*;have uw:=η hq1;have uD:=η hq2;clear hq1 hq2;obtain⟨SU,SW,ao7,co7,ah7,ch7,an7,cn7,rfl,rfl,hvh,rfl⟩:=hbx.form;rw [hvh] at hbx;have HB3:=η hbx;have UO:=η (aj R4.o hbx.grow);clear hbx hvh s0 s1 s2 zs;obtain⟨b0,b1,b2,b3,b4,b5⟩:=aJ HB3.o.row;have zB:B<w3.heap.size:=HB3.o.lt;have zr:w.heap.size+2<w3:=(γ UO.o);go_wp2_with (first|(refine wpList_store_row rfl (.tmp 4) (.tmp 79) rfl rfl rfl UO.o bV rfl rfl ?_))
  intro wf rf gf;obtain⟨p0,p1,p2,p3,p4,p5⟩:=aJ rf;go_wp2;refine bodyPost_ret (v:=.tuple #[.agg #[ς SU y.head.log.length SW,ι y.head.aG,ι y.head.next,ς ao7 y.head.opn.length co7,ς ah7 y.aA.length ch7,ς an7 y.net.length cn7],ι er]) (by simp [results,Tryz.results15,go_sem,p0,p1,p2,p3,p4,p5]) rfl ?_;have h9:=HB3.o.past G1.o gf (τ HZ.o);exact⟨_,by rw [uw.o],by rw [uD.o];exact h9.of,h9.grow⟩
 case first=>
  obtain⟨b0,b1,b2,b3,b4,b5⟩:=aJ gW.o.row;have zB:B<w2.heap.size:=gW.o.lt;by_cases h1:kd=1
  ·have t1:(kd==1)=true:=by simp [h1]
   have uG:=η (Np (sp:=sp) sn gW.o wV.o (vT.o.mono (G1.o.trans gW.o.grow).sub));rw [<-h1] at uG;clear h1;go_wp2_with fail
   refine uG.o.mono ?_;rintro e w3 ⟨rfl,SZ,S0,S8,hb3,-⟩;have HB3:=η hb3;clear hb3;go_wp2;go_meet
   case rel=>exact⟨_,_,_,rfl,HB3.o⟩
  have t1:(kd==1)=false:=by simp [h1]
  by_cases h2:kd=2
  ·have t2:(kd==2)=true:=by simp [h2]
   have uG:=η (PZ (sn:=sn) sp gW.o wV.o);rw [<-h2] at uG;clear h1 h2;go_wp2_with fail
   refine uG.o.mono ?_;rintro e w3 ⟨rfl,SZ,S0,S8,hb3,-⟩;have HB3:=η hb3;clear hb3;go_wp2;go_meet
   case rel=>exact⟨_,_,_,rfl,HB3.o⟩
  have t2:(kd==2)=false:=by simp [h2]
  by_cases h3:kd=3
  ·have t3:(kd==3)=true:=by simp [h3]
   have HE:Hid (bI x ⟨kd,sn,sp⟩=if there x sn=true then 0 else 6):=η (by rw [h3];exact l8 x sn sp);have HD:Hid (iD x ⟨kd,sn,sp⟩=if there x sn=true then { x with net:=x.net.eraseIdx sn.toNat } else x):=η (by rw [h3];exact SM x sn sp);clear h1 h2 h3;go_wp2_with fail
   refine(LV (n:=sn) w2 gW.o.ZG wV.o.net.1 wV.o.net.2).mono ?_;rintro e w3 ⟨v1,v2,rfl,ho,hm,hg⟩;by_cases hth:there x sn=true
   ·rw [if_pos hth] at HE HD
    rw [E5 mY.o.right hth] at ho hm ⊢;obtain⟨a1,c1,hv1⟩:=ho.form;rw [List.length_map] at hv1;subst hv1;generalize x.net.getD sn.toNat ⟨0,0,0,[]⟩=m at*;obtain⟨XJ,XK,rfl⟩:=hm.fQ;have FY:=η ((aI.Ub ε ho).mono gW.o.new);have HB3:=η (gW.o.later hg);clear ho hm hg b0 b1 b2 b3 b4 b5 zB s0 s1 s2 zs;obtain⟨w4,hw4⟩:∃zq:World,zq=w3.alloc (.cells #[ι m.kind,ι m.deed,ι m.house,ς XJ m.parts.length XK] 85):=⟨_,rfl⟩;have RJ:Hid (Grow w3 w4):=η (by rw [hw4];exact(Grow.refl _).alloc _);go_upto_region 11 with fail
    rw [<-hw4];clear hw4;have HB4:=η (HB3.o.later RJ.o);go_wp2_with (first|(refine aN rfl (.tmp 39) (.tmp 38) (v:=ς a1 (x.net.eraseIdx sn.toNat).length c1) (new:=#[ς AS x.head.log.length AT,ι x.head.aG,ι x.head.next,ς A0 x.head.opn.length A1,ς ZJ x.aA.length ch6,ς a1 (x.net.eraseIdx sn.toNat).length c1]) rfl rfl ρ ρ HB4.o.row lX σ ρ ρ ?_))
    intro w5 r5 g5;have zu:=η (HB4.o.PW g5 r5 (FY.o.mono (dO RJ.o)));clear r5 g5;go_wp2;go_meet
    case rel=>exact⟨_,_,_,by rw [HE.o],by rw [HD.o];exact zu.o⟩
   ·have ZI:there x sn=false:=by simpa using hth
    rw [if_neg hth] at HE HD;rw [Nj ZI] at ho hm ⊢;obtain⟨a1,c1,hv1⟩:=ho.form;rw [List.length_map] at hv1;subst hv1;generalize ms0=m at*;obtain⟨XJ,XK,rfl⟩:=hm.fQ;have FY:=η ((aI.Ub ε ho).mono gW.o.new);have HB3:=η (gW.o.later hg);clear ho hm hg b0 b1 b2 b3 b4 b5 zB s0 s1 s2 zs;obtain⟨w4,hw4⟩:∃zq:World,zq=w3.alloc (.cells #[ι m.kind,ι m.deed,ι m.house,ς XJ m.parts.length XK] 85):=⟨_,rfl⟩;have RJ:Hid (Grow w3 w4):=η (by rw [hw4];exact(Grow.refl _).alloc _);go_upto_region 11 with fail
    rw [<-hw4];clear hw4;have HB4:=η (HB3.o.later RJ.o);go_wp2_with (first|(refine aN rfl (.tmp 39) (.tmp 38) (v:=ς a1 x.net.length c1) (new:=#[ς AS x.head.log.length AT,ι x.head.aG,ι x.head.next,ς A0 x.head.opn.length A1,ς ZJ x.aA.length ch6,ς a1 x.net.length c1]) rfl rfl ρ ρ HB4.o.row lX σ ρ ρ ?_))
    intro w5 r5 g5;have zu:=η (HB4.o.PW g5 r5 (FY.o.mono (dO RJ.o)));clear r5 g5;go_wp2;go_meet
    case rel=>exact⟨_,_,_,by rw [HE.o],by rw [HD.o];exact zu.o⟩
  have t3:(kd==3)=false:=by simp [h3]
  by_cases h4:kd=4
  ·have t4:(kd==4)=true:=by simp [h4]
   have HTM:Hid (pR (x.net.map aS) sn=((iD x ⟨kd,sn,sp⟩).net.map aS,bI x ⟨kd,sn,sp⟩)/\(iD x ⟨kd,sn,sp⟩)={ x with net:=(iD x ⟨kd,sn,sp⟩).net }):=η (by rw [h4];exact Uy x sn sp);clear h1 h2 h3 h4;go_wp2_with fail
   refine(TV (n:=sn) w2 gW.o.ZG wV.o.net.1 wV.o.net.2).mono ?_;rintro e w3 ⟨v1,rfl,ho,hg⟩;rw [HTM.o.1] at ho ⊢;obtain⟨a1,c1,hv1⟩:=ho.form;rw [List.length_map] at hv1;subst hv1;have FY:=η ((aI.Ub ε ho).mono gW.o.new);have HB3:=η (gW.o.later hg);clear ho hg b0 b1 b2 b3 b4 b5 zB s0 s1 s2 zs;go_wp2_with (first|(refine aN rfl (.tmp 53) (.tmp 51) (v:=ς a1 (iD x ⟨kd,sn,sp⟩).net.length c1) (new:=#[ς AS x.head.log.length AT,ι x.head.aG,ι x.head.next,ς A0 x.head.opn.length A1,ς ZJ x.aA.length ch6,ς a1 (iD x ⟨kd,sn,sp⟩).net.length c1]) rfl rfl ρ ρ HB3.o.row lX σ ρ ρ ?_))
   intro w4 r4 g4;have HB4:=η (HB3.o.PW g4 r4 FY.o);rw [<-HTM.o.2] at HB4;clear r4 g4;go_wp2;go_meet
   case rel=>exact⟨_,_,_,rfl,HB4.o⟩
  have t4:(kd==4)=false:=by simp [h4]
  by_cases h5:kd=5
  ·have t5:(kd==5)=true:=by simp [h5]
   have uG:=η (P8 (sn:=sn) sp gW.o wV.o);rw [<-h5] at uG;clear h1 h2 h3 h4 h5;go_wp2_with fail
   refine uG.o.mono ?_;rintro e w3 ⟨rfl,SZ,S0,S8,hb3,-⟩;have HB3:=η hb3;clear hb3;go_wp2;go_meet
   case rel=>exact⟨_,_,_,rfl,HB3.o⟩
  have t5:(kd==5)=false:=by simp [h5]
  by_cases h6:kd=6
  ·have t6:(kd==6)=true:=by simp [h6]
   have uG:=η (P9 (sn:=sn) sp gW.o wV.o);rw [<-h6] at uG;clear h1 h2 h3 h4 h5 h6;go_wp2_with fail
   refine uG.o.mono ?_;rintro e w3 ⟨rfl,SZ,S0,S8,hb3,-⟩;have HB3:=η hb3;clear hb3;go_wp2;go_meet
   case rel=>exact⟨_,_,_,rfl,HB3.o⟩
  have t6:(kd==6)=false:=by simp [h6]
  by_cases h7:kd=7
  ·have t7:(kd==7)=true:=by simp [h7]
   have HE:Hid (bI x ⟨kd,sn,sp⟩=0):=η (by rw [h7];exact mA x sn sp);have HD:Hid (iD x ⟨kd,sn,sp⟩={ x with head:=kM x.head,net:=bW x.net (qH x.head) }):=η (by rw [h7];exact SR x sn sp);have Ko:Hid (∀q∈qH x.head,aQ q=0):=η (WI.says mY.o.core.quit.2.2);clear h1 h2 h3 h4 h5 h6 h7;go_wp2_with fail
   refine(PK w2 gW.o.bT wV.o.qE wV.o.yV.logp wV.o.yV.parts).mono ?_;rintro e w3 ⟨v1,v2,rfl,hx3,hm3,hb3⟩;have cJ:=η (hx3.mono gW.o.new);have uL:=η (hm3.mono (qK _ _));have TC:=η (gW.o.later hb3);clear hx3 hb3 b0 b1 b2 b3 b4 b5 zB s0 s1 s2 zs;generalize hq1:kM x.head=hd2 at*;generalize hq2:qH x.head=ms at*;clear hq1 hq2;obtain⟨eU,eX,kN,kP,rfl⟩:=cJ.o.dS;obtain⟨XL,cs,rfl,-⟩:=hm3;obtain⟨w4,hw4⟩:∃zq:World,zq=w3.alloc (.cells #[ς eU hd2.log.length eX,ι hd2.aG,ι hd2.next,ς kN hd2.opn.length kP] 29):=⟨_,rfl⟩;obtain⟨BH,Aw⟩:∃zq,zq=w3.heap.size:=⟨_,rfl⟩;have RJ:Hid (Grow w3 w4):=η (by rw [hw4];exact(Grow.refl _).alloc _);have RH4:Hid (w4.heap[BH]? =some (.cells #[ς eU hd2.log.length eX,ι hd2.aG,ι hd2.next,ς kN hd2.opn.length kP] 29 (0,0))):=η (by rw [hw4,Aw];exact aF _ _);go_upto_region 22 with fail
   rw [<-hw4,<-Aw];clear hw4 Aw;have HB3:=η (TC.o.later RJ.o);have HX4:=η (cJ.o.mono (dO RJ.o));have AR:=η (uL.o.mono RJ.o.sub);have HS:Hid (∀W',Grow w4 W'->W'.cell? ⟨BH,0,none⟩=some (ς eU hd2.log.length eX)/\W'.cell? ⟨BH,1,none⟩=some (ι hd2.aG)/\W'.cell? ⟨BH,2,none⟩=some (ι hd2.next)/\W'.cell? ⟨BH,3,none⟩=some (ς kN hd2.opn.length kP)/\W'.cell? ⟨B,5,none⟩=some (ς A3 x.net.length A5)):=fun W' hW=>by
    obtain⟨n0,n1,n2,n3⟩:=cells4 (aj RH4.o hW);obtain⟨-,-,-,-,-,q5⟩:=aJ (aj HB3.o.row hW);exact⟨n0,n1,n2,n3,q5⟩
   refine Cm (fun w'=>w'.cell? ⟨BH,0,none⟩=some (ς eU hd2.log.length eX)/\w'.cell? ⟨BH,1,none⟩=some (ι hd2.aG)/\w'.cell? ⟨BH,2,none⟩=some (ι hd2.next)/\w'.cell? ⟨BH,3,none⟩=some (ς kN hd2.opn.length kP)/\w'.cell? ⟨B,5,none⟩=some (ς A3 x.net.length A5)) [6,7,8] κ ?_;intro wd GD zD;have ZD:=η zD;clear zD;refine lY [0,1,2,3] 11 κ (fun _ _ _ _ _ h=>h) (HS.o _ GD) ?_;repeat (refine gq ?_;try simp only [aK])
   refine lZ ?_;refine iR 4 κ rfl ?_;intro K HK;try simp only [aV]
   go_simp;go_at_call 48
   refine(uY (l:=x.net.map aS) (ms:=ms) wd (Sl.mono (fF _ _ _) (HB3.o.later GD).net) (AR.o.mono (Grow.sub GD)) Ko.o (by rw [List.length_map];omega) (fun b hb=>by
    obtain⟨q,hq,rfl⟩:=List.mem_map.1 hb;have:=oV (mY.o.right q hq);omega)).mono ?_
   rintro e w5 ⟨v5,rfl,kJ,hb5⟩;obtain⟨a5,c5,hv5⟩:=kJ.form;rw [show(gX (x.net.map aS) ms).length=(bW x.net ms).length by rw [dZ,List.length_map]] at hv5;subst hv5;have HB4:=η (HB3.o.later GD);have l9:=η kJ;have G5:=η (Grow.trans GD hb5);have zu:=η (HB4.o.later hb5);clear kJ hb5;refine HK.o _ _ ⟨.inr (HS.o _ G5.o),?_⟩;clear HK K;try simp only [aK]
   refine lY [5] 11 κ (fun _ _ _ _ _ h=>h) (HS.o _ G5.o) ?_;repeat (refine gq ?_;try simp only [aK])
   refine lZ ?_;refine iR 6 κ rfl ?_;intro K HK;refine aC rfl ?_;try simp only [aV]
   refine fV (.tmp 77) (.tmp 72) (new:=#[ς eU hd2.log.length eX,ι hd2.aG,ι hd2.next,ς kN hd2.opn.length kP,ς ZJ x.aA.length ch6,ς A3 x.net.length A5]) rfl rfl rfl zu.o.row bU σ ρ ρ ?_;intro w6 r6 g6;have Bz:=η (zu.o.ZH g6 r6 (HX4.o.mono (dO G5.o)));have R6:=η r6;have xZ:Hid (uH (fr wz w6 (vH B (ς ZJ x.aA.length ch6))) (ς a5 (bW x.net ms).length c5) ((bW x.net ms).map aS)):=η (by
    have h9:=((aI.Ub ε l9.o).mono HB4.o.new).mono (zu.o.keeps g6);rw [dZ] at h9;exact h9)
   clear r6 g6;refine HK.o _ _ ⟨.inl ε,?_⟩;clear HK K;try simp only [aK]
   refine iR 7 κ rfl ?_;intro K HK;try simp only [aV]
   go_simp;refine HK.o _ _ ⟨.inl ε,?_⟩;clear HK K;try simp only [aK]
   refine iR 8 κ rfl ?_;intro K HK;refine aC rfl ?_;try simp only [aV]
   refine aU (.tmp 78) (.tmp 76) (v:=ς a5 (bW x.net ms).length c5) (new:=#[ς eU hd2.log.length eX,ι hd2.aG,ι hd2.next,ς kN hd2.opn.length kP,ς ZJ x.aA.length ch6,ς a5 (bW x.net ms).length c5]) rfl rfl ρ ρ R6.o lX σ ρ ρ ?_;intro w7 r7 g7;have wZ:=η (Bz.o.PW g7 r7 xZ.o);clear r7 g7;refine HK.o _ _ ⟨.inl ε,?_⟩;clear HK K;try simp only [aK]
   refine wO κ ?_;go_wp2;go_meet
   case rel=>exact⟨_,_,_,by rw [HE.o],by rw [HD.o];exact wZ.o⟩
  have t7:(kd==7)=false:=by simp [h7]
  obtain⟨e1,e2⟩:=mB x sn sp ⟨h1,h2,h3,h4,h5,h6,h7⟩;have HE:=η e1;have HD:=η e2;clear e1 e2 h1 h2 h3 h4 h5 h6 h7;go_wp2;go_meet
  case rel=>exact⟨_,_,_,by rw [HE.o],by rw [HD.o];exact gW.o⟩
theorem P_ {n:Int} (w:World) (hn:¬(1<=n/\n<=3)):
  Calls Tryz.prog 11 #[ι n] w fun e w'=>e=.returned (.tuple #[.agg #[(),ι 0,ι 0,(),(),()],ι 3])/\Grow w w':=by
 have t:(decide (n<1)=true∨(decide (n<1)=false/\decide (3<n)=true)):=by
  by_cases h:n<1
  ·left;simp [h]
  ·right;simp;omega
 obtain⟨wz,hwz⟩:∃y:World,y=w.alloc (.cells #[(),ι 0,ι 0,(),(),()] 33):=⟨_,rfl⟩;have R2:Hid (wz.heap[w.heap.size]? =some (.cells #[(),ι 0,ι 0,(),(),()] 33 (0,0))):=η (by rw [hwz];exact aF _ _);have G1:Hid (Grow w wz):=η (by rw [hwz];exact(Grow.refl w).alloc _);clear hn;go_enter Tryz.func11,Tryz.ntmps11;go_upto_region 1 with fail
 rw [<-hwz];clear hwz;rcases t with t|⟨t1,t2⟩
 ·go_wp2_with (first|(refine wpList_store_row rfl (.tmp 2) (.tmp 11) rfl rfl rfl R2.o bV rfl rfl ?_))
  intro wf rf gf;obtain⟨p0,p1,p2,p3,p4,p5⟩:=aJ rf;go_wp2;refine bodyPost_ret (v:=.tuple #[.agg #[(),ι 0,ι 0,(),(),()],ι 3]) (by simp [results,Tryz.results11,go_sem,p0,p1,p2,p3,p4,p5]) rfl ?_;exact⟨rfl,G1.o.grown gf (fun q hq=>by have:=Option.some.inj hq;omega)⟩
 ·go_wp2_with (first|(refine wpList_store_row rfl (.tmp 2) (.tmp 11) rfl rfl rfl R2.o bV rfl rfl ?_))
  intro wf rf gf;obtain⟨p0,p1,p2,p3,p4,p5⟩:=aJ rf;go_wp2;refine bodyPost_ret (v:=.tuple #[.agg #[(),ι 0,ι 0,(),(),()],ι 3]) (by simp [results,Tryz.results11,go_sem,p0,p1,p2,p3,p4,p5]) rfl ?_;exact⟨rfl,G1.o.grown gf (fun q hq=>by have:=Option.some.inj hq;omega)⟩
theorem Uz {n:Nat} (w:World) (hn:1<=n/\n<=3):
  Calls Tryz.prog 11 #[ι n] w fun e w'=>∃v',e=.returned (.tuple #[v',ι 0])/\Of Ty.wd (ov (fun _=>none) w w') v' (pI n)/\Grow w w':=by
 have t1:decide ((n:Int)<1)=false:=by simp;omega
 have t2:decide ((3:Int)<(n:Int))=false:=by simp;omega
 obtain⟨h,hh⟩:∃h:Hs,h=hs0:=⟨_,rfl⟩;have HH:=η hh;have hl3:=hn.2;clear hh;obtain⟨wz,hwz⟩:∃y:World,y=w.alloc (.cells #[(),ι 0,ι 0,(),(),()] 33):=⟨_,rfl⟩;have R2:Hid (wz.heap[w.heap.size]? =some (.cells #[(),ι 0,ι 0,(),(),()] 33 (0,0))):=η (by rw [hwz];exact aF _ _);have G1:Hid (Grow w wz):=η (by rw [hwz];exact(Grow.refl w).alloc _);have HZ:Hid (wz.heap.size=w.heap.size+1):=η (by rw [hwz];simp);go_enter Tryz.func11,Tryz.ntmps11;go_upto_region 1 with fail
 rw [<-hwz];clear hwz;go_wp2_with fail
 refine(Ur wz).mono ?_;rintro e w1 ⟨v1,rfl,hx,hb1⟩;obtain⟨al,cl,ao,co,rfl⟩:=hx.dS;obtain⟨q,hq⟩:∃q:Hd,q=bT [⟨4,0,[]⟩]:=⟨_,rfl⟩;rw [<-hq] at hx ⊢;have HQ:=η hq;have HX:=η hx;have GB:=η hb1;clear hx hb1 hq;obtain⟨w2,hw2⟩:∃y:World,y=w1.alloc (.cells #[(),ι 0,ι 0,(),(),()] 33):=⟨_,rfl⟩;obtain⟨B,hB⟩:∃y,y=w1.heap.size:=⟨_,rfl⟩;have RB:Hid (w2.heap[B]? =some (.cells #[(),ι 0,ι 0,(),(),()] 33 (0,0))):=η (by rw [hw2,hB];exact aF _ _);have G2:Hid (Grow w1 w2):=η (by rw [hw2];exact(Grow.refl _).alloc _);have HBE:Hid (B=w1.heap.size):=η hB;go_wp2_with (first|(rw [<-hw2,<-hB];clear hw2 hB;refine wpList_store_row rfl (.tmp 4) (.tmp 13) rfl rfl rfl RB.o bV rfl rfl ?_))
 intro w3 r3 g3;have HB3:Hid (fM wz w3 B (ς al q.log.length cl) (ς ao q.opn.length co) (ς none 0 0) (ς none 0 0) ⟨q,[],[]⟩):=η (by
  have hs:=GB.o.size;have hb:=HBE.o;refine fM.start r3 δ (HX.o.mono ?_) (Sl.nil _ _) ((GB.o.trans G2.o).grown g3 (fun q hq=>by have:=Option.some.inj hq;omega));intro a v e;unfold ov at e;split at e
  ·cases e
  ·have hl:=World.block_lt_of_cell? w1 a e
   rw [gy δ (fun hm=>by have:=Option.some.inj (List.mem_singleton.1 hm);omega)];exact aP (G2.o.sub _ _ e) g3 δ)
 clear r3 g3;go_wp2;go_loopw [15] (fun i wr=>∃(k:Nat) (av:Option Addr) (cv:Nat),k<=n/\i=ι k/\fM wz wr B (ς al q.log.length cl) (ς ao q.opn.length co) (ς av k cv) (ς none 0 0) ⟨q,List.replicate k h,[]⟩) (fun i _=>n - (intOf i).toNat)
 case atStart=>exact⟨0,none,0,δ,rfl,HB3.o⟩
 case round=>
  obtain⟨j,av,cv,hj',rfl,hbx⟩:=hrel;have Nh:=η hbx;clear hbx;by_cases hlt:j<n
  ·have kY:Hid (List.replicate (j+1) h=List.replicate j h++ [h]):=η List.replicate_succ'
   have HS:Hid (∀W,Grow wr W->W.cell? ⟨B,4,none⟩=some (ς av j cv)):=fun W hW=>by
    obtain⟨-,-,-,-,b4,-⟩:=aJ (aj Nh.o.row hW);exact b4
   go_upto_region 6 with fail
   refine Cm (fun w'=>w'.cell? ⟨B,4,none⟩=some (ς av j cv)) [6] κ ?_;intro wd GD zD;have ZD:=η zD;clear zD;refine lY [0,1] 9 κ (fun _ _ _ _ _ h=>h) (HS.o _ GD) ?_;repeat (refine tNc (v:=?_) rfl ρ ?_ ?_;rotate_left;(· (intro w' hSw;(try dsimp only at hSw);go_simp<;>with_reducible rfl));try simp only [aK])
   refine lZ ?_;refine iR 2 κ rfl ?_;intro K HK;try simp only [aV]
   go_simp;go_at_call 38
   refine(pK _ (l:=[]) (Sl.nil _ _) σ σ σ).mono ?_;rintro e w5 ⟨v5,rfl,kJ,hb5⟩;rw [show gu []=h from HH.o.symm] at kJ;obtain⟨Rx,Ry,Rz,RF,id2,RI,rfl⟩:=kJ.dF;have l9:=η kJ;have G5:=η (Grow.trans GD hb5);have UM:=η hb5;have XH:=η (Nh.o.later GD);clear kJ hb5;refine HK.o _ _ ⟨.inr (HS.o _ G5.o),?_⟩;clear HK K;try simp only [aK]
   refine iR 3 κ rfl ?_;intro K HK;try simp only [aV]
   go_simp;obtain⟨w6,hw6⟩:∃y:World,y=w5.alloc (.cells #[ς Rx h.log.length Ry,ι h.sums.a,ι h.sums.b,ι h.sums.c,ι h.sums.d,ς Rz h.ready.length RF,ς id2 h.done.length RI] 50):=⟨_,rfl⟩;have G6:Hid (Grow w5 w6):=η (by rw [hw6];exact(Grow.refl _).alloc _);have CP:=η (XH.o.later (UM.o.trans G6.o));have uq:Hid (Src Ty.hs (fr wz w6 (vH B (ς av j cv))) w6 (ς (some ⟨w5.heap.size,0,none⟩) 1 1) [h]):=η (by
    obtain⟨cs,he,hR⟩:=(l9.o.mono (XH.o.new)).mono (dO G6.o);rw [hw6] at hR ⊢;have hcs:cs=[ς Rx h.log.length Ry,ι h.sums.a,ι h.sums.b,ι h.sums.c,ι h.sums.d,ς Rz h.ready.length RF,ς id2 h.done.length RI]:=by cases he;rfl
    rw [hcs] at hR;exact Src.bQ (T:=Ty.hs) (x:=h) (cs:=#[ς Rx h.log.length Ry,ι h.sums.a,ι h.sums.b,ι h.sums.c,ι h.sums.d,ς Rz h.ready.length RF,ς id2 h.done.length RI]) hR _ _ rfl)
   have Xn:=η (Grow.trans G5.o G6.o);rw [<-hw6];clear hw6;refine HK.o _ _ ⟨.inr (HS.o _ Xn.o),?_⟩;clear HK K;try simp only [aK]
   refine iR 4 κ rfl ?_;intro K HK;refine aC rfl ?_;try simp only [aV]
   refine dD (c:=fr wz w6 (vH B (ς av j cv))) (base:=wz.heap.size) (l:=List.replicate j h) (m:=[h]) (v:=ς av j cv) WV rfl IC ε (.tmp 18) (.tmp 20) rfl rfl CP.o.hs rfl uq.o (by simp;omega) CP.o.grow.size ?_;intro a8 c8 w8 kV rX hb8;have AE:(List.replicate j h).length+ [h].length=j+1:=by simp
   rw [AE] at kV hb8 ⊢;have qX:=η kV;have oU:=η rX;have lA:=η hb8;have Zn:=η (aH CP.o.row rX (fun e=>CP.o.ne e.symm));clear kV rX hb8 AE;refine HK.o _ _ ⟨.inr (by obtain⟨-,-,-,-,b4,-⟩:=aJ Zn.o;exact b4),?_⟩;clear HK K;try simp only [aK]
   refine lY [5] 9 κ (fun _ _ _ _ _ h=>h) (by obtain⟨-,-,-,-,b4,-⟩:=aJ Zn.o;exact b4) ?_;repeat (refine tNc (v:=?_) rfl ρ ?_ ?_;rotate_left;(· (intro w' hSw;(try dsimp only at hSw);go_simp<;>with_reducible rfl));try simp only [aK])
   refine lZ ?_;refine iR 6 κ rfl ?_;intro K HK;refine aC rfl ?_;try simp only [aV]
   refine aU (.tmp 22) (.tmp 21) (v:=ς a8 (j+1) c8) (new:=#[ς al q.log.length cl,ι q.aG,ι q.next,ς ao q.opn.length co,ς a8 (j+1) c8,()]) rfl rfl ρ ρ Zn.o EP σ ρ ρ ?_;intro w9 r9 g9;refine HK.o _ _ ⟨.inl ε,?_⟩;clear HK K;try simp only [aK]
   refine wO κ ?_;have sU:=η (CP.o.app oU.o lA.o qX.o g9 r9);rw [<-kY.o] at sU;clear r9 g9 HS;go_wp2;go_roundw
   case rel=>exact⟨j+1,a8,c8,δ,by go_num,sU.o⟩
   case measure=>simp [intOf];omega
  ·obtain rfl:j=n:=by omega
   have AF:=η (aj R2.o Nh.o.grow);obtain⟨b0,b1,b2,b3,b4,b5⟩:=aJ Nh.o.row;have z3:B<wr.heap.size:=Nh.o.lt;have zr:w.heap.size<wr:=(γ AF.o);go_wp2_with (first|(refine wpList_store_row rfl (.tmp 2) (.tmp 24) rfl rfl rfl AF.o bV rfl rfl ?_))
   intro wf rf gf;obtain⟨p0,p1,p2,p3,p4,p5⟩:=aJ rf;go_wp2;refine bodyPost_ret (v:=.tuple #[.agg #[ς al q.log.length cl,ι q.aG,ι q.next,ς ao q.opn.length co,ς av j cv,()],ι 0]) (by simp [results,Tryz.results11,go_sem,p0,p1,p2,p3,p4,p5]) rfl ?_;have h9:=Nh.o.past G1.o gf (τ HZ.o);refine⟨_,rfl,?_,h9.grow⟩;unfold pI;rw [<-HQ.o,<-HH.o];exact h9.of
theorem WK.up {k k':Nat} {x:AW} (i:WK k x) (h:k<=k') (h9:k'<=99000):WK k' x:=
 ⟨i.wi,⟨by have:=i.few.log;omega,fun y hy=>Nat.le_trans (i.few.logs y hy) h⟩,h9,i.logp⟩
theorem WK.step {k:Nat} {x:AW} (i:WK k x) (s:St) (h9:k+1<=99000):WK (k+1) (iD x s):=by
 obtain⟨n,G,hw⟩:=i.wi;obtain⟨G',hw',-⟩:=hw.step' s;exact⟨⟨n,G',hw'⟩,i.few.step s,h9,A0C i.logp s⟩
theorem WK.zero {n:Nat} (hn:1<=n/\n<=3):WK 0 (pI n):=⟨⟨n,[],WI.zero hn⟩,tu.zero n,δ,A0E n⟩
theorem WK.play {n:Nat} (hn:1<=n/\n<=3) (l:List St) (h:l.length<=99000):WK l.length (jG (pI n) l):=by
 obtain⟨G,hw,-⟩:=WI.Zi hn l;have hf:=tu.play n l (tu.zero n);rw [Nat.zero_add] at hf;exact⟨⟨n,G,hw⟩,hf,h,A0D l (A0E n)⟩
end Go.Proofs.YtocnmkefmgmkbaaGreat
