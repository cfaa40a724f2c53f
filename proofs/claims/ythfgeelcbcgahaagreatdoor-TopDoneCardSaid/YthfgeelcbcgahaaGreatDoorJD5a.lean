/- The parts that laws are proved of, joined: U12, U13, G13, A9, G15, G16, G17, G18, G19, U20p, G20, G22, G23, U30, G24, G25, G21, T4, G27, U32, U31, U26, U33, U34, G28. No condition beside those that each theorem names. -/
import Derived.Deep.CutBlock
import Derived.Test.YthfgeelcbcgahaaGreatDoorJD1b
import Derived.Test.YthfgeelcbcgahaaGreatDoorJD2a
import Derived.Test.YthfgeelcbcgahaaGreatDoorJD3a
import Derived.Test.YthfgeelcbcgahaaGreatDoorJD4a
namespace Go.Proofs.YthfgeelcbcgahaaGreatDoor
open Go.RowKit
theorem Of.st_form {c:CM} {v:Value} {kd sn:Int} {sp:List Pt} (hv:Of Ty.st c v ⟨kd,sn,sp⟩):∃ap cp,v=.agg #[.int .i64 kd,.int .i64 sn,.slice ap sp.length cp]:=by
 obtain⟨cs,rfl,vp,rfl,-,-,hp⟩:=hv
 obtain⟨ap,cp,rfl,-⟩:=id hp
 exact⟨ap,cp,rfl⟩
theorem Of.st_parts {c:CM} {a b vp:Value} {kd sn:Int} {sp:List Pt} (hv:Of Ty.st c (.agg #[a,b,vp]) ⟨kd,sn,sp⟩):I64 sn∧Sl Ty.pt c vp sp:=by
 obtain⟨cs,he,vp',rfl,-,h2,hp⟩:=hv
 simp at he
 obtain⟨-,-,rfl⟩:=he
 exact⟨h2,hp⟩
theorem WI.hdok {n:Nat} {G:Reg} {x:AW} {k:Nat} (i:WI n G x) (f:Few k x) (hk:k≤90000):HdOk x.head where
 opn:=i.core.olen
 parts:=fun o ho=>(wrong_ok (i.core.reg.ok _ (i.core.oreg o ho)).2).2.1
 heard:=fun o ho=>by have:=(i.core.onew o ho).2.2;have:=houses_short o.parts;omega
 log:=by have:=f.log;omega
 boot:=by have:=i.core.boot;omega
 next:=i.core.next
def wro (B:Nat) (vh:Value):List (Option Nat):=[some B,vh.ownBlock]
structure WBox (w W:World) (B:Nat) (vl vo vh vn:Value) (x:AW):Prop where
 row:W.heap[B]? =some (.cells #[vl,.int .i64 x.head.boot,.int .i64 x.head.next,vo,vh,vn] 39 (0,0))
 ge:w.heap.size≤B
 head:Of Ty.hd (fr w W (wro B vh)) (.agg #[vl,.int .i64 x.head.boot,.int .i64 x.head.next,vo]) x.head
 hs:OwnC Ty.hs (fr w W (wro B vh)) W w.heap.size 68 vh x.houses
 ne:vh.ownBlock≠some B
 net:Nts (fr w W (wro B vh)) vn (x.net.map bytesM)
 grow:Grow w W
section
variable {w W W1 W2:World} {B:Nat} {vl vo vh vn:Value} {x:AW}
theorem WBox.lt (b:WBox w W B vl vo vh vn x):B<W.heap.size:=(γ b.row)
theorem WBox.form (b:WBox w W B vl vo vh vn x):∃al cl ao co ah ch an cn,vl=.slice al x.head.log.length cl∧vo=.slice ao x.head.opn.length co∧vh=.slice ah x.houses.length ch∧vn=.slice an x.net.length cn:=by
 obtain⟨al,cl,ao,co,e⟩:=b.head.hd_form
 obtain⟨ah,ch,rfl⟩:=b.hs.form
 obtain⟨an,cn,rfl,-⟩:=b.net
 simp at e
 obtain⟨rfl,rfl⟩:=e
 rw [List.length_map]
 exact⟨_,_,_,_,_,_,_,_,rfl,rfl,rfl,rfl⟩
theorem WBox.later (b:WBox w W B vl vo vh vn x) (hg:Grow W W2):WBox w W2 B vl vo vh vn x where
 row:=row_grow b.row hg
 ge:=b.ge
 head:=b.head.mono (fr_grow hg)
 hs:=(b.hs.mono (fr_grow hg)).grow hg
 ne:=b.ne
 net:=b.net.mono (fr_grow hg)
 grow:=b.grow.trans hg
theorem WBox.new (b:WBox w W B vl vo vh vn x):Sub (ov (fun _=>none) W W1) (fr w W1 (wro B vh)):=fun a v e=>by
 have hs:=b.grow.size
 have hl:=b.lt
 unfold ov at e
 split at e
 ·cases e
 ·rw [fr_new (by omega) (by
   unfold wro
   simp only [List.mem_cons,List.not_mem_nil,or_false,not_or]
   refine⟨fun e=>?_,fun e=>?_⟩
   ·have:=Option.some.inj e;omega
   ·have:=(b.hs.lt _ e.symm).2;omega)]
  exact e
theorem WBox.sub (_:WBox w W B vl vo vh vn x):Sub (fr w W (wro B vh)) (ov (fun _=>none) w W):=fr_ov _ _ _ _
theorem WBox.headR (b:WBox w W B vl vo vh vn x):Of Ty.hd W.cell? (.agg #[vl,.int .i64 x.head.boot,.int .i64 x.head.next,vo]) x.head:=b.head.mono (fr_sub _ _ _)
theorem WBox.netR (b:WBox w W B vl vo vh vn x):Nts W.cell? vn (x.net.map bytesM):=b.net.mono (fr_sub _ _ _)
theorem WBox.of (b:WBox w W B vl vo vh vn x):Of Ty.wd (ov (fun _=>none) w W) (.agg #[vl,.int .i64 x.head.boot,.int .i64 x.head.next,vo,vh,vn]) x:=
 Of.wd_mk (b.head.mono b.sub) (b.hs.slc (by decide) b.sub fun a ha=>ov_new ha) (b.net.mono b.sub)
theorem WBox.keeps (_:WBox w W B vl vo vh vn x) (hg:W.grownBy W2 (some B)):Sub (fr w W (wro B vh)) (fr w W2 (wro B vh)):=
 fr_step fun k hk _ hx=>⟨hg.block k hk fun e=>hx (by rw [e];simp [wro]),hx⟩
theorem WBox.put {vl' vo' vn':Value} {hd':Hd} {net':List Ms} (b:WBox w W B vl vo vh vn x) (hg:W.grownBy W2 (some B))
  (hr:W2.heap[B]? =some (.cells #[vl',.int .i64 hd'.boot,.int .i64 hd'.next,vo',vh,vn'] 39 (0,0)))
  (h1:Of Ty.hd (fr w W (wro B vh)) (.agg #[vl',.int .i64 hd'.boot,.int .i64 hd'.next,vo']) hd') (h2:Nts (fr w W (wro B vh)) vn' (net'.map bytesM)):WBox w W2 B vl' vo' vh vn' ⟨hd',x.houses,net'⟩ where
 row:=hr
 ge:=b.ge
 head:=h1.mono (b.keeps hg)
 hs:=(b.hs.mono (b.keeps hg)).kept hg (.inr b.ne)
 ne:=b.ne
 net:=h2.mono (b.keeps hg)
 grow:=b.grow.grown hg fun q hq=>by have:=Option.some.inj hq;have:=b.ge;omega
theorem WBox.putH {vl' vo':Value} {hd':Hd} (b:WBox w W B vl vo vh vn x) (hg:W.grownBy W2 (some B))
  (hr:W2.heap[B]? =some (.cells #[vl',.int .i64 hd'.boot,.int .i64 hd'.next,vo',vh,vn] 39 (0,0)))
  (h1:Of Ty.hd (fr w W (wro B vh)) (.agg #[vl',.int .i64 hd'.boot,.int .i64 hd'.next,vo']) hd'):WBox w W2 B vl' vo' vh vn { x with head:=hd' }:=b.put hg hr h1 b.net
theorem WBox.putN {vn':Value} {net':List Ms} (b:WBox w W B vl vo vh vn x) (hg:W.grownBy W2 (some B))
  (hr:W2.heap[B]? =some (.cells #[vl,.int .i64 x.head.boot,.int .i64 x.head.next,vo,vh,vn'] 39 (0,0)))
  (h2:Nts (fr w W (wro B vh)) vn' (net'.map bytesM)):WBox w W2 B vl vo vh vn' { x with net:=net' }:=b.put hg hr b.head h2
theorem WBox.putK {g n c:Nat} {hs':List Hs} (b:WBox w W B vl vo (.slice (some ⟨g,0,none⟩) n c) vn x) (hg:W.grownBy W2 (some g))
  (ho:OwnC Ty.hs (fr w W (wro B (.slice (some ⟨g,0,none⟩) n c))) W2 w.heap.size 68 (.slice (some ⟨g,0,none⟩) n c) hs'):WBox w W2 B vl vo (.slice (some ⟨g,0,none⟩) n c) vn { x with houses:=hs' }:=by
 have hne:B≠g:=fun e=>b.ne (by rw [e];rfl)
 have hge:=(b.hs.lt g rfl).1
 have sub:Sub (fr w W (wro B (.slice (some ⟨g,0,none⟩) n c))) (fr w W2 (wro B (.slice (some ⟨g,0,none⟩) n c))):=fr_step fun k hk _ hx=>⟨hg.block k hk fun e=>hx (by rw [e];simp [wro,Value.ownBlock]),hx⟩
 exact⟨row_by b.row hg (fun e=>hne (Option.some.inj e)),b.ge,b.head.mono sub,ho.mono sub,b.ne,b.net.mono sub,b.grow.grown hg fun q hq=>by have:=Option.some.inj hq;omega⟩
theorem WBox.rebox {B':Nat} (b:WBox w W B vl vo vh vn x) (hg:Grow W W2) (hB:W.heap.size≤B') (hr:W2.heap[B']? =some (.cells #[vl,.int .i64 x.head.boot,.int .i64 x.head.next,vo,vh,vn] 39 (0,0))):WBox w W2 B' vl vo vh vn x:=by
 have hs:=b.grow.size
 have sub:Sub (fr w W (wro B vh)) (fr w W2 (wro B' vh)):=fr_step fun k hk _ hx=>⟨hg.block k hk,fun hm=>by
  unfold wro at hx hm
  simp only [List.mem_cons,List.not_mem_nil,or_false,not_or] at hx hm
  rcases hm with e|e
  ·have:=Option.some.inj e;omega
  ·exact hx.2 e⟩
 exact⟨hr,by omega,b.head.mono sub,(b.hs.mono sub).grow hg,fun e=>by have:=(b.hs.lt _ e).2;omega,b.net.mono sub,b.grow.trans hg⟩
theorem WBox.past {w0:World} {A:Nat} (b:WBox w W B vl vo vh vn x) (h:Grow w0 w) (hg:W.grownBy W2 (some A)) (hA:w0.heap.size≤A∧A<w.heap.size):WBox w0 W2 B vl vo vh vn x:=by
 have hs:=h.size
 have hge:=b.ge
 have sub:Sub (fr w W (wro B vh)) (fr w0 W2 (wro B vh)):=(fr_step (W0:=w) (w':=W2) (X':=wro B vh) fun k hk h0 hx=>⟨hg.block k hk (fun e=>by have:=Option.some.inj e;omega),hx⟩).trans (fr_low hs)
 have hlt:=b.hs.lt
 refine⟨row_by b.row hg (fun e=>by have:=Option.some.inj e;omega),by omega,b.head.mono sub,((b.hs.mono sub).base hs).kept hg ?_,b.ne,b.net.mono sub,(h.trans b.grow).grown hg fun q hq=>by have:=Option.some.inj hq;omega⟩
 cases e:vh.ownBlock with
 |none=>exact .inl rfl
 |some q=>exact .inr fun e2=>by have:=hlt q e;have:=Option.some.inj e2;omega
theorem WBox.app {W3:World} {vh':Value} {hs':List Hs} (b:WBox w W B vl vo vh vn x) (hg:W.grownBy W2 vh.ownBlock) (hb:vh'.ownBlock=vh.ownBlock∨∃g,vh'.ownBlock=some g∧W.heap.size≤g)
  (ho:OwnC Ty.hs (fr w W (wro B vh)) W2 w.heap.size 68 vh' hs') (g3:W2.grownBy W3 (some B)) (r3:W3.heap[B]? =some (.cells #[vl,.int .i64 x.head.boot,.int .i64 x.head.next,vo,vh',vn] 39 (0,0))):WBox w W3 B vl vo vh' vn { x with houses:=hs' }:=by
 have hl:=b.lt
 have hge:=b.ge
 have hsz:=hg.size
 have hne:vh'.ownBlock≠some B:=fun e=>by
  rcases hb with hb|⟨g,hb,hgg⟩
  ·exact b.ne (hb▸e)
  ·rw [hb] at e;have:=Option.some.inj e;omega
 have sub:Sub (fr w W (wro B vh)) (fr w W3 (wro B vh')):=fr_step fun k hk _ hx=>by
  unfold wro at hx ⊢
  simp only [List.mem_cons,List.not_mem_nil,or_false,not_or] at hx ⊢
  refine⟨?_,hx.1,fun e=>?_⟩
  ·rw [g3.block k (by omega) hx.1,hg.block k hk hx.2]
  ·rcases hb with hb|⟨g,hb,hgg⟩
   ·exact hx.2 (hb▸e)
   ·rw [hb] at e;have:=Option.some.inj e;omega
 exact⟨r3,b.ge,b.head.mono sub,(ho.mono sub).kept g3 (.inr hne),hne,b.net.mono sub,(b.grow.grown hg fun q hq=>(b.hs.lt q hq).1).grown g3 fun q hq=>by have:=Option.some.inj hq;omega⟩
theorem WBox.start {hd:Hd} {net:List Ms} (hr:W.heap[B]? =some (.cells #[vl,.int .i64 hd.boot,.int .i64 hd.next,vo,.slice none 0 0,vn] 39 (0,0))) (hge:w.heap.size≤B)
  (h1:Of Ty.hd (fr w W [some B]) (.agg #[vl,.int .i64 hd.boot,.int .i64 hd.next,vo]) hd) (h2:Nts (fr w W [some B]) vn (net.map bytesM)) (hg:Grow w W):WBox w W B vl vo (.slice none 0 0) vn ⟨hd,[],net⟩:=by
 have sub:Sub (fr w W [some B]) (fr w W (wro B (.slice none 0 0))):=fr_step fun k _ _ hx=>⟨rfl,fun hm=>by
  unfold wro at hm
  simp only [Value.ownBlock,List.mem_cons,List.not_mem_nil,or_false] at hm hx
  rcases hm with e|e
  ·exact hx e
  ·cases e⟩
 exact⟨hr,hge,h1.mono sub,OwnC.nil _ _ _ _ _,(fun e=>by cases e),h2.mono sub,hg⟩
end
theorem RightM.ptsOk {m:Ms} (h:RightM m):PtsOk m.parts∧I64 m.deed∧I64 m.house∧I64 (m.parts.length:Int):=by
 have hp:=h.pts
 have hl:=h.len
 have hd:=h.deed
 have hh:=h.house
 exact⟨fun p hp'=>by have:=hp p hp';exact⟨i64_of (by omega) (by omega),i64_of (by omega) (by omega),i64_of (by omega) (by omega)⟩,i64_of (by omega) (by omega),i64_of (by omega) (by omega),i64_of (by omega) (by omega)⟩
theorem bytesM_le {m:Ms} (h:wrongM m=0):(bytesM m).length≤200:=by
 have hr:=right_m.1 h
 obtain⟨h1,h2,h3,h4⟩:=hr.ptsOk
 have hl:=hr.len
 have a1:=numB_len (i64_bounds h2).1 (i64_bounds h2).2
 have a2:=numB_len (i64_bounds h3).1 (i64_bounds h3).2
 have a3:=numB_len (i64_bounds h4).1 (i64_bounds h4).2
 have a4:=partsBytes_len h1
 unfold bytesM
 rw [seal_len]
 unfold msgHead
 simp only [List.length_cons,List.length_append]
 omega
structure WK (k:Nat) (x:AW):Prop where
 wi:∃n G,WI n G x
 few:Few k x
 le:k≤99000
 logp:LogP x.head.log
theorem WK.len3 {k:Nat} {x:AW} (i:WK k x):1≤x.houses.length∧x.houses.length≤3:=by
 obtain⟨n,G,hi⟩:=i.wi
 rw [hi.core.len];exact hi.core.n3
theorem WK.hdok {k:Nat} {x:AW} (i:WK k x):HdOk x.head:=by
 obtain⟨n,G,hi⟩:=i.wi
 exact⟨hi.core.olen,fun o ho=>(wrong_ok (hi.core.reg.ok _ (hi.core.oreg o ho)).2).2.1,fun o ho=>by have:=(hi.core.onew o ho).2.2;have:=houses_short o.parts;omega,by have:=i.few.log;have:=i.le;omega,by have:=hi.core.boot;omega,hi.core.next⟩
theorem WK.hdinv {k:Nat} {x:AW} (i:WK k x):HdInv x.head:=by
 obtain⟨n,G,hi⟩:=i.wi
 exact hi.hdinv i.logp
structure HsOk (k:Nat) (h:Hs):Prop where
 made:Made h
 keys:∀r∈h.log,KeysOk r.parts
 len:h.log.length≤k
 parts:∀r∈h.log,r.parts.length*24≤140737488355328
 ready:h.ready.length≤4
theorem WK.hs {k:Nat} {x:AW} (i:WK k x) {j:Nat} {h:Hs} (hj:x.houses[j]? =some h):HsOk k h:=by
 obtain⟨n,G,hi⟩:=i.wi
 have hh:=hi.core.house j h hj
 refine⟨hh.calm.made,hh.keys,i.few.logs h (List.mem_of_getElem? hj),fun r hr=>?_,ready_len hi.core hj⟩
 have h9:=hh.log r hr
 simp only [okRec,decide_eq_true_eq] at h9
 by_cases hp:r.parts=[]
 ·rw [hp];decide
 ·have:=(wrong_ok (h9.2.1 hp)).2.1
  omega
theorem WK.net {k:Nat} {x:AW} (i:WK k x):(x.net.map bytesM).length*24≤140737488355328∧∀b∈x.net.map bytesM,b.length≤140737488355328:=by
 obtain⟨n,G,hi⟩:=i.wi
 refine⟨by rw [List.length_map];have:=hi.len;omega,fun b hb=>?_⟩
 obtain⟨m,hm,rfl⟩:=List.mem_map.1 hb
 have:=bytesM_le (hi.right m hm)
 omega
set_option maxRecDepth 100000 in
set_option maxHeartbeats 4000000 in
theorem world_own {v:Value} {x:AW} {k:Nat} (w:World) (hv:Of Ty.wd w.cell? v x) (hk:WK k x):
  Calls Tryz.prog 25 #[v] w fun e w'=>∃vl vo vh vn B,e=.returned (.agg #[vl,.int .i64 x.head.boot,.int .i64 x.head.next,vo,vh,vn])∧WBox w w' B vl vo vh vn x:=by
 obtain⟨al,cl,ao,co,ah,ch,an,cn,rfl⟩:=hv.wd_form
 obtain⟨q1,q2,q3⟩:=hv.wd_parts
 have HHD:=η (fun(W:World) (hW:Grow w W)=>head_own W (q1.mono hW.sub) hk.hdok hk.hdinv.logp)
 have HNT:=η (fun(W:World) (hW:Grow w W)=>net_own W (q3.mono hW.sub) hk.net.1 hk.net.2)
 have HIB:Hid (I64 x.head.boot∧I64 x.head.next):=η (by obtain⟨cs,he,_,_,rfl,_,h1,h2,_⟩:=q1;exact⟨h1,h2⟩)
 obtain⟨ah',ch',he9,h1,h2,-,hel⟩:=q2
 simp only [Value.slice.injEq,true_and] at he9
 obtain⟨rfl,rfl⟩:=he9
 unfold maxLen at h2
 have HEL:=η hel
 have HWK:=η hk
 have hl3:=hk.len3.2
 clear hv q1 q3 hel hk
 obtain⟨wa,hwa⟩:∃y:World,y=w.alloc (.cells #[.slice al x.head.log.length cl,.int .i64 x.head.boot,.int .i64 x.head.next,.slice ao x.head.opn.length co,.slice ah x.houses.length ch,.slice an x.net.length cn] 39):=⟨_,rfl⟩
 obtain⟨wz,hwz⟩:∃y:World,y=wa.alloc (.cells #[.slice none 0 0,.int .i64 0,.int .i64 0,.slice none 0 0,.slice none 0 0,.slice none 0 0] 39):=⟨_,rfl⟩
 have hsz:wa.heap.size=w.heap.size+1:=by rw [hwa];simp
 have R1:Hid (wz.heap[w.heap.size]? =some (.cells #[.slice al x.head.log.length cl,.int .i64 x.head.boot,.int .i64 x.head.next,.slice ao x.head.opn.length co,.slice ah x.houses.length ch,.slice an x.net.length cn] 39 (0,0))):=η (by rw [hwz,hwa];exact heap_later (row_new _ _) _)
 have R2:Hid (wz.heap[w.heap.size+1]? =some (.cells #[.slice none 0 0,.int .i64 0,.int .i64 0,.slice none 0 0,.slice none 0 0,.slice none 0 0] 39 (0,0))):=η (by rw [hwz,←hsz];exact row_new _ _)
 have G1:Hid (Grow w wz):=η (by rw [hwz,hwa];exact((Grow.refl w).alloc _).alloc _)
 have HZ:Hid (wz.heap.size=w.heap.size+2):=η (by rw [hwz,hwa];simp)
 have HS:Hid (∀W,Grow wz W→W.cell? ⟨w.heap.size,0,none⟩=some (.slice al x.head.log.length cl)∧W.cell? ⟨w.heap.size,1,none⟩=some (.int .i64 x.head.boot)∧W.cell? ⟨w.heap.size,2,none⟩=some (.int .i64 x.head.next)∧W.cell? ⟨w.heap.size,3,none⟩=some (.slice ao x.head.opn.length co)∧W.cell? ⟨w.heap.size,5,none⟩=some (.slice an x.net.length cn)):=fun W hW=>by
  obtain⟨j0,j1,j2,j3,-,j5⟩:=cells6 (row_grow R1.o hW)
  exact⟨j0,j1,j2,j3,j5⟩
 go_enter Tryz.func25,Tryz.ntmps25
 go_upto_region 1 with fail
 rw [←hwa]
 try rw [hsz]
 rw [←hwz]
 clear hwa hwz hsz
 go_cut [3] from 6 to 12 (fun s3 wc=>∃B3 al3 cl3 ao3 co3 an3 cn3,s3=.pointer (some ⟨B3,0,none⟩)∧WBox wz wc B3 (.slice al3 x.head.log.length cl3) (.slice ao3 x.head.opn.length co3) (.slice none 0 0) (.slice an3 x.net.length cn3) ⟨x.head,[],x.net⟩)
 case first=>
  refine bSc (fun w'=>w'.cell? ⟨w.heap.size,0,none⟩=some (.slice al x.head.log.length cl)∧w'.cell? ⟨w.heap.size,1,none⟩=some (.int .i64 x.head.boot)∧w'.cell? ⟨w.heap.size,2,none⟩=some (.int .i64 x.head.next)∧w'.cell? ⟨w.heap.size,3,none⟩=some (.slice ao x.head.opn.length co)∧w'.cell? ⟨w.heap.size,5,none⟩=some (.slice an x.net.length cn)) [8] (by kernel_rfl) ?_
  intro wd GD zD
  have ZD:=η zD
  clear zD
  refine bLc [0,1,3,4] 11 (by kernel_rfl) (fun _ _ _ _ _ h=>h) (HS.o _ GD) ?_
  repeat (refine tNc (v:=?_) rfl (by rfl) ?_ ?_;rotate_left;(· (intro w' hSw;(try dsimp only at hSw);obtain⟨hs0,hs1,hs2,hs3,hs4⟩:=hSw;go_simp<;>with_reducible rfl));try simp only [Act.put,lzA,lzB,lzC,lzD,lzE,lzF])
  refine tEc ?_
  refine bPc 2 7 (by kernel_rfl) rfl rfl ?_ ?_
  ·intro K HK
   try simp only [lzA,lzB,lzC]
   go_simp
   go_at_call 44
   refine(HHD.o _ (G1.o.trans GD)).mono ?_
   rintro e w1 ⟨vl,vo,B0,LL,rfl,hl,hr0⟩
   obtain⟨al3,cl3,ao3,co3,rfl,rfl⟩:=hr0.form
   have hln:LL.length=x.head.opn.length:=by rw [←hl];simp
   rw [hln] at hr0 ⊢
   have HH1:=η (hr0.head hl HIB.o.1 HIB.o.2)
   have GH1:=η hr0.grow
   have G2:=η (Grow.trans GD hr0.grow)
   clear hr0 hl hln
   refine HK.o _ _ ⟨.inr (HS.o _ G2.o),?_⟩
   clear HK K
   try simp only [Act.put,lzA,lzB,lzC,lzD,lzE,lzF]
   refine bPc 5 7 (by kernel_rfl) rfl rfl ?_ ?_
   ·intro K HK
    try simp only [lzA,lzB,lzC]
    go_simp
    go_at_call 45
    refine(HNT.o _ (G1.o.trans G2.o)).mono ?_
    rintro e w2 ⟨vn,rfl,hon,hb2⟩
    obtain⟨an3,cn3,hvn⟩:=hon.form
    rw [List.length_map] at hvn
    subst hvn
    have HN2:=η (OwnC.ovn (by decide) hon)
    have GN2:=η hb2
    have G3:=η (Grow.trans G2.o hb2)
    clear hon hb2
    refine HK.o _ _ ⟨.inr (HS.o _ G3.o),?_⟩
    clear HK K
    try simp only [Act.put,lzA,lzB,lzC,lzD,lzE,lzF]
    refine bLc [6] 11 (by kernel_rfl) (fun _ _ _ _ _ h=>h) (HS.o _ G3.o) ?_
    repeat (refine tNc (v:=?_) rfl (by rfl) ?_ ?_;rotate_left;(· (intro w' hSw;(try dsimp only at hSw);obtain⟨hs0,hs1,hs2,hs3,hs4⟩:=hSw;go_simp<;>with_reducible rfl));try simp only [Act.put,lzA,lzB,lzC,lzD,lzE,lzF])
    refine tEc ?_
    refine bOc 7 (by kernel_rfl) rfl ?_
    intro K HK
    try simp only [lzA,lzB,lzC]
    go_simp
    obtain⟨w8,hw8⟩:∃y:World,y=w2.alloc (.cells #[.slice none 0 0,.int .i64 0,.int .i64 0,.slice none 0 0,.slice none 0 0,.slice none 0 0] 39):=⟨_,rfl⟩
    obtain⟨B3,hB3⟩:∃B,B=w2.heap.size:=⟨_,rfl⟩
    rw [←hw8,←hB3]
    have R3:Hid (w8.heap[B3]? =some (.cells #[.slice none 0 0,.int .i64 0,.int .i64 0,.slice none 0 0,.slice none 0 0,.slice none 0 0] 39 (0,0))):=η (by rw [hw8,hB3];exact row_new _ _)
    have G8:Hid (Grow w2 w8):=η (by rw [hw8];exact(Grow.refl _).alloc _)
    have HB3:Hid (B3=w2.heap.size∧w8.heap.size=B3+1):=η ⟨hB3,by rw [hw8,hB3];simp⟩
    have GA8:=η (Grow.trans G3.o G8.o)
    clear hw8 hB3
    refine HK.o _ _ ⟨.inr (HS.o _ GA8.o),?_⟩
    clear HK K
    try simp only [Act.put,lzA,lzB,lzC,lzD,lzE,lzF]
    refine bOc 8 (by kernel_rfl) rfl ?_
    intro K HK
    refine wanted_go rfl ?_
    try simp only [lzA,lzB,lzC]
    refine wp_store_row (.tmp 3) (.tmp 12) rfl rfl rfl R3.o info_wd rfl rfl ?_
    intro wc rc gc
    refine HK.o _ _ ⟨.inl (by decide),?_⟩
    clear HK K
    try simp only [Act.put]
    refine bDc (by kernel_rfl) ?_
    go_wp2
    go_meet
    case rel=>
     have z2:=ZD.o
     have z3:=HB3.o
     have zh:=GH1.o.size
     have zn:=GN2.o.size
     have z8:=G8.o.size
     have kh:Sub (ov (fun _=>none) wd w1) (fr wz wc [some B3]):=fun a v e=>by
      unfold ov at e
      split at e
      ·cases e
      ·have hl:=World.block_lt_of_cell? w1 a e
       rw [fr_new (by omega) (fun hm=>by have:=Option.some.inj (List.mem_singleton.1 hm);omega)]
       exact cell_past (G8.o.sub _ _ (GN2.o.sub _ _ e)) gc (by omega)
     have kn:Sub (ov (fun _=>none) w1 w2) (fr wz wc [some B3]):=fun a v e=>by
      unfold ov at e
      split at e
      ·cases e
      ·have hl:=World.block_lt_of_cell? w2 a e
       rw [fr_new (by omega) (fun hm=>by have:=Option.some.inj (List.mem_singleton.1 hm);omega)]
       exact cell_past (G8.o.sub _ _ e) gc (by omega)
     exact⟨B3,al3,cl3,ao3,co3,an3,cn3,rfl,WBox.start rc (by omega) (HH1.o.mono kh) (HN2.o.mono kn) ((GA8.o).grown gc (fun q hq=>by have:=Option.some.inj hq;omega))⟩
   ·intro K HK
    try simp only [lzA,lzB,lzC]
    go_simp
    obtain⟨w8,hw8⟩:∃y:World,y=w1.alloc (.cells #[.slice none 0 0,.int .i64 0,.int .i64 0,.slice none 0 0,.slice none 0 0,.slice none 0 0] 39):=⟨_,rfl⟩
    obtain⟨B3,hB3⟩:∃B,B=w1.heap.size:=⟨_,rfl⟩
    rw [←hw8,←hB3]
    have R3:Hid (w8.heap[B3]? =some (.cells #[.slice none 0 0,.int .i64 0,.int .i64 0,.slice none 0 0,.slice none 0 0,.slice none 0 0] 39 (0,0))):=η (by rw [hw8,hB3];exact row_new _ _)
    have G8:Hid (Grow w1 w8):=η (by rw [hw8];exact(Grow.refl _).alloc _)
    have HB3:Hid (B3=w1.heap.size∧w8.heap.size=B3+1):=η ⟨hB3,by rw [hw8,hB3];simp⟩
    have GA8:=η (Grow.trans G2.o G8.o)
    clear hw8 hB3
    refine HK.o _ _ ⟨.inr (HS.o _ GA8.o),?_⟩
    clear HK K
    try simp only [Act.put,lzA,lzB,lzC,lzD,lzE,lzF]
    refine bOc 5 (by kernel_rfl) rfl ?_
    intro K HK
    try simp only [lzA,lzB,lzC]
    go_simp
    go_at_call 45
    refine(HNT.o _ (G1.o.trans GA8.o)).mono ?_
    rintro e w2 ⟨vn,rfl,hon,hb2⟩
    obtain⟨an3,cn3,hvn⟩:=hon.form
    rw [List.length_map] at hvn
    subst hvn
    have HN2:=η (OwnC.ovn (by decide) hon)
    have GN2:=η hb2
    have G3:=η (Grow.trans GA8.o hb2)
    clear hon hb2
    have R32:=η (row_grow R3.o GN2.o)
    refine HK.o _ _ ⟨.inr (HS.o _ G3.o),?_⟩
    clear HK K
    try simp only [Act.put,lzA,lzB,lzC,lzD,lzE,lzF]
    refine bLc [6] 11 (by kernel_rfl) (fun _ _ _ _ _ h=>h) (HS.o _ G3.o) ?_
    repeat (refine tNc (v:=?_) rfl (by rfl) ?_ ?_;rotate_left;(· (intro w' hSw;(try dsimp only at hSw);obtain⟨hs0,hs1,hs2,hs3,hs4⟩:=hSw;go_simp<;>with_reducible rfl));try simp only [Act.put,lzA,lzB,lzC,lzD,lzE,lzF])
    refine tEc ?_
    refine bOc 8 (by kernel_rfl) rfl ?_
    intro K HK
    refine wanted_go rfl ?_
    try simp only [lzA,lzB,lzC]
    refine wp_store_row (.tmp 3) (.tmp 12) rfl rfl rfl R32.o info_wd rfl rfl ?_
    intro wc rc gc
    refine HK.o _ _ ⟨.inl (by decide),?_⟩
    clear HK K
    try simp only [Act.put]
    refine bDc (by kernel_rfl) ?_
    go_wp2
    go_meet
    case rel=>
     have z2:=ZD.o
     have z3:=HB3.o
     have zh:=GH1.o.size
     have zn:=GN2.o.size
     have z8:=G8.o.size
     have kh:Sub (ov (fun _=>none) wd w1) (fr wz wc [some B3]):=fun a v e=>by
      unfold ov at e
      split at e
      ·cases e
      ·have hl:=World.block_lt_of_cell? w1 a e
       rw [fr_new (by omega) (fun hm=>by have:=Option.some.inj (List.mem_singleton.1 hm);omega)]
       exact cell_past (GN2.o.sub _ _ (G8.o.sub _ _ e)) gc (by omega)
     have kn:Sub (ov (fun _=>none) w8 w2) (fr wz wc [some B3]):=(ov_frs (w:=wz) (X:=[some B3]) GA8.o (fun q hq=>by have:=Option.some.inj (List.mem_singleton.1 hq);omega)).trans (fr_by gc (by simp))
     exact⟨B3,al3,cl3,ao3,co3,an3,cn3,rfl,WBox.start rc (by omega) (HH1.o.mono kh) (HN2.o.mono kn) ((G3.o).grown gc (fun q hq=>by have:=Option.some.inj hq;omega))⟩
  ·intro K HK
   try simp only [lzA,lzB,lzC]
   go_simp
   obtain⟨w8,hw8⟩:∃y:World,y=wd.alloc (.cells #[.slice none 0 0,.int .i64 0,.int .i64 0,.slice none 0 0,.slice none 0 0,.slice none 0 0] 39):=⟨_,rfl⟩
   obtain⟨B3,hB3⟩:∃B,B=wd.heap.size:=⟨_,rfl⟩
   rw [←hw8,←hB3]
   have R3:Hid (w8.heap[B3]? =some (.cells #[.slice none 0 0,.int .i64 0,.int .i64 0,.slice none 0 0,.slice none 0 0,.slice none 0 0] 39 (0,0))):=η (by rw [hw8,hB3];exact row_new _ _)
   have G8:Hid (Grow wd w8):=η (by rw [hw8];exact(Grow.refl _).alloc _)
   have HB3:Hid (B3=wd.heap.size∧w8.heap.size=B3+1):=η ⟨hB3,by rw [hw8,hB3];simp⟩
   have GA8:=η (Grow.trans GD G8.o)
   clear hw8 hB3
   refine HK.o _ _ ⟨.inr (HS.o _ GA8.o),?_⟩
   clear HK K
   try simp only [Act.put,lzA,lzB,lzC,lzD,lzE,lzF]
   refine bOc 2 (by kernel_rfl) rfl ?_
   intro K HK
   try simp only [lzA,lzB,lzC]
   go_simp
   go_at_call 44
   refine(HHD.o _ (G1.o.trans GA8.o)).mono ?_
   rintro e w1 ⟨vl,vo,B0,LL,rfl,hl,hr0⟩
   obtain⟨al3,cl3,ao3,co3,rfl,rfl⟩:=hr0.form
   have hln:LL.length=x.head.opn.length:=by rw [←hl];simp
   rw [hln] at hr0 ⊢
   have HH1:=η (hr0.head hl HIB.o.1 HIB.o.2)
   have GH1:=η hr0.grow
   have G2:=η (Grow.trans GA8.o hr0.grow)
   clear hr0 hl hln
   have R31:=η (row_grow R3.o GH1.o)
   refine HK.o _ _ ⟨.inr (HS.o _ G2.o),?_⟩
   clear HK K
   try simp only [Act.put,lzA,lzB,lzC,lzD,lzE,lzF]
   refine bOc 5 (by kernel_rfl) rfl ?_
   intro K HK
   try simp only [lzA,lzB,lzC]
   go_simp
   go_at_call 45
   refine(HNT.o _ (G1.o.trans G2.o)).mono ?_
   rintro e w2 ⟨vn,rfl,hon,hb2⟩
   obtain⟨an3,cn3,hvn⟩:=hon.form
   rw [List.length_map] at hvn
   subst hvn
   have HN2:=η (OwnC.ovn (by decide) hon)
   have GN2:=η hb2
   have G3:=η (Grow.trans G2.o hb2)
   clear hon hb2
   have R32:=η (row_grow R31.o GN2.o)
   refine HK.o _ _ ⟨.inr (HS.o _ G3.o),?_⟩
   clear HK K
   try simp only [Act.put,lzA,lzB,lzC,lzD,lzE,lzF]
   refine bLc [6] 11 (by kernel_rfl) (fun _ _ _ _ _ h=>h) (HS.o _ G3.o) ?_
   repeat (refine tNc (v:=?_) rfl (by rfl) ?_ ?_;rotate_left;(· (intro w' hSw;(try dsimp only at hSw);obtain⟨hs0,hs1,hs2,hs3,hs4⟩:=hSw;go_simp<;>with_reducible rfl));try simp only [Act.put,lzA,lzB,lzC,lzD,lzE,lzF])
   refine tEc ?_
   refine bOc 8 (by kernel_rfl) rfl ?_
   intro K HK
   refine wanted_go rfl ?_
   try simp only [lzA,lzB,lzC]
   refine wp_store_row (.tmp 3) (.tmp 12) rfl rfl rfl R32.o info_wd rfl rfl ?_
   intro wc rc gc
   refine HK.o _ _ ⟨.inl (by decide),?_⟩
   clear HK K
   try simp only [Act.put]
   refine bDc (by kernel_rfl) ?_
   go_wp2
   go_meet
   case rel=>
    have z2:=ZD.o
    have z3:=HB3.o
    have zh:=GH1.o.size
    have zn:=GN2.o.size
    have z8:=G8.o.size
    have zs:wz.heap.size≤wd.heap.size:=by omega
    have kh:Sub (ov (fun _=>none) w8 w1) (fr wz wc [some B3]):=(ov_frs (w:=wz) (X:=[some B3]) GA8.o (fun q hq=>by have:=Option.some.inj (List.mem_singleton.1 hq);omega)).trans ((fr_grow GN2.o).trans (fr_by gc (by simp)))
    have kn:Sub (ov (fun _=>none) w1 w2) (fr wz wc [some B3]):=(ov_frs (w:=wz) (X:=[some B3]) G2.o (fun q hq=>by have:=Option.some.inj (List.mem_singleton.1 hq);omega)).trans (fr_by gc (by simp))
    exact⟨B3,al3,cl3,ao3,co3,an3,cn3,rfl,WBox.start rc (by omega) (HH1.o.mono kh) (HN2.o.mono kn) ((G3.o).grown gc (fun q hq=>by have:=Option.some.inj hq;omega))⟩
 case rest=>
 obtain⟨B3,al3,cl3,ao3,co3,an3,cn3,rfl,hbx⟩:=hcut
 obtain⟨w3,rfl⟩:∃y:World,y=wc:=⟨_,rfl⟩
 have HBX:=η hbx
 have R13:=η (row_grow R1.o hbx.grow)
 have HB3:Hid (wz.heap.size≤B3):=η hbx.ge
 clear HS hbx
 obtain⟨c0,c1,c2,c3,c4,c5⟩:=cells6 R13.o
 have z1:w.heap.size<w3.heap.size:=(γ R13.o)
 go_wp2
 clear c0 c1 c2 c3 c4 c5 z1
 go_loopw [16] (fun i wr=>∃(k:Nat) (av:Option Addr) (cv:Nat),k≤x.houses.length∧i=.int .i64 k∧Grow w wr∧WBox wz wr B3 (.slice al3 x.head.log.length cl3) (.slice ao3 x.head.opn.length co3) (.slice av k cv) (.slice an3 x.net.length cn3) ⟨x.head,x.houses.take k,x.net⟩) (fun i _=>x.houses.length - (intOf i).toNat)
 case atStart=>exact⟨0,none,0,by omega,rfl,G1.o.trans HBX.o.grow,HBX.o⟩
 case round=>
  obtain⟨j,av,cv,hj',rfl,hgr,hbx⟩:=hrel
  have HBK:=η hbx
  have HGR:=η hgr
  clear hbx hgr
  by_cases hlt:j<x.houses.length
  ·obtain⟨bh,oh,vl,vr,vd,rfl,e0,e1,e2,e3,e4,e5,e6,hH1,-,-,-,-,hH2,hH3⟩:=Hss.at_ HEL.o j hlt
   obtain⟨il,jl,rfl,-⟩:=id hH1
   obtain⟨ir,jr,rfl,-⟩:=id hH2
   obtain⟨id9,jd,rfl,-⟩:=id hH3
   have HHO:=η (HWK.o.hs (List.getElem?_eq_getElem hlt))
   have HTK:Hid (x.houses.take (j+1)=x.houses.take j++ [x.houses[j]]):=η (List.take_succ_eq_append_getElem hlt)
   have HLG:=η hH1
   replace e0:=HGR.o.sub _ _ e0
   replace e1:=HGR.o.sub _ _ e1
   replace e2:=HGR.o.sub _ _ e2
   replace e3:=HGR.o.sub _ _ e3
   replace e4:=HGR.o.sub _ _ e4
   replace e5:=HGR.o.sub _ _ e5
   replace e6:=HGR.o.sub _ _ e6
   clear hH1 hH2 hH3
   generalize x.houses[j]=h at*
   go_upto_region 5 with fail
   obtain⟨wo,hwo⟩:∃y:World,y=wr.alloc (.cells #[.slice il h.log.length jl,.int .i64 h.sums.a,.int .i64 h.sums.b,.int .i64 h.sums.c,.int .i64 h.sums.d,.slice ir h.ready.length jr,.slice id9 h.done.length jd] 68):=⟨_,rfl⟩
   obtain⟨BO,hBO⟩:∃y,y=wr.heap.size:=⟨_,rfl⟩
   have GO:Hid (Grow wr wo):=η (by rw [hwo];exact(Grow.refl _).alloc _)
   have RO:Hid (wo.heap[BO]? =some (.cells #[.slice il h.log.length jl,.int .i64 h.sums.a,.int .i64 h.sums.b,.int .i64 h.sums.c,.int .i64 h.sums.d,.slice ir h.ready.length jr,.slice id9 h.done.length jd] 68 (0,0))):=η (by rw [hwo,hBO];exact row_new _ _)
   have SBO:Hid (BO=wr.heap.size):=η hBO
   rw [←hwo,←hBO]
   clear hwo hBO e0 e1 e2 e3 e4 e5 e6
   have HBO:=η (HBK.o.later GO.o)
   have HS:Hid (∀W,Grow wo W→W.cell? ⟨B3,4,none⟩=some (.slice av j cv)∧W.cell? ⟨BO,0,none⟩=some (.slice il h.log.length jl)):=fun W hW=>by
    obtain⟨-,-,-,-,b4,-⟩:=cells6 (row_grow HBO.o.row hW)
    obtain⟨o0,-⟩:=cells7 (row_grow RO.o hW)
    exact⟨b4,o0⟩
   refine bSc (fun w'=>w'.cell? ⟨B3,4,none⟩=some (.slice av j cv)∧w'.cell? ⟨BO,0,none⟩=some (.slice il h.log.length jl)) [8] (by kernel_rfl) ?_
   intro wd GD zD
   have ZD:=η zD
   clear zD
   refine bLc [0,1,2,3] 11 (by kernel_rfl) (fun _ _ _ _ _ h=>h) (HS.o _ GD) ?_
   repeat (refine tNc (v:=?_) rfl (by rfl) ?_ ?_;rotate_left;(· (intro w' hSw;(try dsimp only at hSw);obtain⟨hs0,hs1⟩:=hSw;go_simp<;>with_reducible rfl));try simp only [Act.put,lzA,lzB,lzC,lzD,lzE,lzF])
   refine tEc ?_
   refine bOc 4 (by kernel_rfl) rfl ?_
   intro K HK
   try simp only [lzA,lzB,lzC]
   go_simp
   go_at_call 35
   refine(wlog_house _ (HLG.o.mono (Grow.sub (HGR.o.trans (GO.o.trans GD)))) HHO.o.keys (by have:=HHO.o.len;have:=HWK.o.le;omega) HHO.o.parts).mono ?_
   rintro e w5 ⟨v5,rfl,ho5,hb5⟩
   rw [←show h=houseR h.log from HHO.o.made] at ho5
   obtain⟨il2,jl2,ir2,jr2,id2,jd2,rfl⟩:=ho5.hs_form
   have HO5:=η ho5
   have G5:=η (Grow.trans GD hb5)
   have GB5:=η hb5
   have HBX4:=η (HBO.o.later GD)
   clear ho5 hb5
   refine HK.o _ _ ⟨.inr (HS.o _ G5.o),?_⟩
   clear HK K
   try simp only [Act.put,lzA,lzB,lzC,lzD,lzE,lzF]
   refine bOc 5 (by kernel_rfl) rfl ?_
   intro K HK
   try simp only [lzA,lzB,lzC]
   go_simp
   obtain⟨w6,hw6⟩:∃y:World,y=w5.alloc (.cells #[.slice il2 h.log.length jl2,.int .i64 h.sums.a,.int .i64 h.sums.b,.int .i64 h.sums.c,.int .i64 h.sums.d,.slice ir2 h.ready.length jr2,.slice id2 h.done.length jd2] 68):=⟨_,rfl⟩
   have G6:Hid (Grow w5 w6):=η (by rw [hw6];exact(Grow.refl _).alloc _)
   have HBX6:=η (HBX4.o.later (GB5.o.trans G6.o))
   have HSR:Hid (Src Ty.hs (fr wz w6 (wro B3 (.slice av j cv))) w6 (.slice (some ⟨w5.heap.size,0,none⟩) 1 1) [h]):=η (by
    obtain⟨cs,he,hR⟩:=(HO5.o.mono (HBX4.o.new)).mono (fr_grow G6.o)
    rw [hw6] at hR ⊢
    have hcs:cs=[.slice il2 h.log.length jl2,.int .i64 h.sums.a,.int .i64 h.sums.b,.int .i64 h.sums.c,.int .i64 h.sums.d,.slice ir2 h.ready.length jr2,.slice id2 h.done.length jd2]:=by cases he;rfl
    rw [hcs] at hR
    exact Src.of_new (T:=Ty.hs) (x:=h) (cs:=#[.slice il2 h.log.length jl2,.int .i64 h.sums.a,.int .i64 h.sums.b,.int .i64 h.sums.c,.int .i64 h.sums.d,.slice ir2 h.ready.length jr2,.slice id2 h.done.length jd2]) hR _ _ rfl)
   have GA6:=η (Grow.trans G5.o G6.o)
   rw [←hw6]
   clear hw6
   refine HK.o _ _ ⟨.inr (HS.o _ GA6.o),?_⟩
   clear HK K
   try simp only [Act.put,lzA,lzB,lzC,lzD,lzE,lzF]
   refine bOc 6 (by kernel_rfl) rfl ?_
   intro K HK
   refine wanted_go rfl ?_
   try simp only [lzA,lzB,lzC]
   refine wp_appc (c:=fr wz w6 (wro B3 (.slice av j cv))) (base:=wz.heap.size) (l:=x.houses.take j) (m:=[h]) (v:=.slice av j cv) ei_hs rfl one_Ths (by decide) (.tmp 21) (.tmp 25) rfl rfl HBX6.o.hs rfl HSR.o (by simp;omega) HBX6.o.grow.size ?_
   intro a8 c8 w8 ho8 hg8 hb8
   have hl8:(x.houses.take j).length+ [h].length=j+1:=by simp;omega
   rw [hl8] at ho8 hb8 ⊢
   have HO8:=η ho8
   have HG8:=η hg8
   have HBB8:=η hb8
   have R38:=η (row_by HBX6.o.row hg8 (fun e=>HBX6.o.ne e.symm))
   have RO8:=η (row_by (row_grow RO.o GA6.o) hg8 (fun e=>by have h1:=(HBX6.o.hs.lt _ e.symm).2;have h2:=(HBK.o.hs.lt _ e.symm).2;have h3:=SBO.o;omega))
   clear ho8 hg8 hb8 hl8
   refine HK.o _ _ ⟨.inr (by obtain⟨-,-,-,-,b4,-⟩:=cells6 R38.o;obtain⟨o0,-⟩:=cells7 RO8.o;exact⟨b4,o0⟩),?_⟩
   clear HK K
   try simp only [Act.put,lzD,lzE,lzF]
   refine bLc [7] 11 (by kernel_rfl) (fun _ _ _ _ _ h=>h) (by obtain⟨-,-,-,-,b4,-⟩:=cells6 R38.o;obtain⟨o0,-⟩:=cells7 RO8.o;exact⟨b4,o0⟩) ?_
   repeat (refine tNc (v:=?_) rfl (by rfl) ?_ ?_;rotate_left;(· (intro w' hSw;(try dsimp only at hSw);obtain⟨hs0,hs1⟩:=hSw;go_simp<;>with_reducible rfl));try simp only [Act.put,lzA,lzB,lzC,lzD,lzE,lzF])
   refine tEc ?_
   refine bOc 8 (by kernel_rfl) rfl ?_
   intro K HK
   refine wanted_go rfl ?_
   try simp only [lzA,lzB,lzC]
   refine wp_store_cell (.tmp 27) (.tmp 26) (v:=.slice a8 (j+1) c8) (new:=#[.slice al3 x.head.log.length cl3,.int .i64 x.head.boot,.int .i64 x.head.next,.slice ao3 x.head.opn.length co3,.slice a8 (j+1) c8,.slice an3 x.net.length cn3]) rfl rfl (by rfl) (by rfl) R38.o info_hss (by simp) (by rfl) (by rfl) ?_
   intro w9 r9 g9
   refine HK.o _ _ ⟨.inl (by decide),?_⟩
   clear HK K
   try simp only [Act.put]
   refine bDc (by kernel_rfl) ?_
   have HB9:=η (HBX6.o.app HG8.o HBB8.o HO8.o g9 r9)
   have G9:=η (G1.o.trans HB9.o.grow)
   rw [←HTK.o] at HB9
   clear r9 g9 HS
   go_wp2
   go_roundw
   case rel=>exact⟨j+1,a8,c8,by omega,by go_num,G9.o,HB9.o⟩
   case measure=>simp [intOf];omega
  ·obtain rfl:j=x.houses.length:=by omega
   rw [List.take_length] at HBK
   have R2r:=η (row_grow R2.o HBK.o.grow)
   obtain⟨b0,b1,b2,b3,b4,b5⟩:=cells6 HBK.o.row
   have z3:B3<wr.heap.size:=HBK.o.lt
   have zr:w.heap.size+1<wr.heap.size:=(γ R2r.o)
   go_wp2_with (first|(refine wpList_store_row rfl (.tmp 2) (.tmp 29) rfl rfl rfl R2r.o info_wd rfl rfl ?_))
   intro wf rf gf
   obtain⟨p0,p1,p2,p3,p4,p5⟩:=cells6 rf
   go_wp2
   refine bodyPost_ret (v:=.agg #[.slice al3 x.head.log.length cl3,.int .i64 x.head.boot,.int .i64 x.head.next,.slice ao3 x.head.opn.length co3,.slice av x.houses.length cv,.slice an3 x.net.length cn3]) (by simp [results,Tryz.results25,go_sem,p0,p1,p2,p3,p4,p5]) rfl ?_
   exact⟨_,_,_,_,B3,rfl,HBK.o.past G1.o gf (by have:=HZ.o;omega)⟩
theorem take_there {x:AW} {n:Int} (hr:∀m∈x.net,wrongM m=0) (h:there x n=true):takeB (x.net.map bytesM) n=((x.net.eraseIdx n.toNat).map bytesM,x.net.getD n.toNat ⟨0,0,0,[]⟩,0):=by
 have hh:0≤n∧n<x.net.length:=of_decide_eq_true h
 have hlt:n.toNat<x.net.length:=by omega
 unfold takeB
 rw [if_pos (by rw [List.length_map];exact hh),List.getD_eq_getElem?_getD,List.getElem?_map,List.getElem?_eq_getElem hlt,List.getD_eq_getElem?_getD,List.getElem?_eq_getElem hlt,List.eraseIdx_eq_take_drop_succ,erase_map]
 simp only [Option.map_some,Option.getD_some]
 rw [read_bytes (hr _ (List.getElem_mem hlt))]
theorem take_not {x:AW} {n:Int} (h:there x n=false):takeB (x.net.map bytesM) n=(x.net.map bytesM,ms0,6):=by
 have hh:¬(0≤n∧n<x.net.length):=of_decide_eq_false h
 unfold takeB
 rw [if_neg (by rw [List.length_map];exact hh)]
theorem comeA_out {w:AW} {m:Ms} (h:w.houses[m.house.toNat]? =none):comeA w m=w:=by unfold comeA;rw [h]
theorem comeA_house {w:AW} {m:Ms} {h:Hs} (e:w.houses[m.house.toNat]? =some h) (f:forHouse m=true):comeA w m={ w with houses:=w.houses.set m.house.toNat (hearH h m),net:=sendA w.net (hearM h m.house m) }:=by
 unfold comeA;rw [e];simp only;rw [if_pos f]
theorem comeA_head {w:AW} {m:Ms} {h:Hs} (e:w.houses[m.house.toNat]? =some h) (f:forHouse m=false):comeA w m={ w with head:=hHearH w.head m,net:=sendA w.net (hHearM w.head m) }:=by
 unfold comeA;rw [e];simp only;rw [if_neg (by rw [f];simp)]
theorem WBox.sent {w W W1 W2:World} {B:Nat} {vl vo vh vn v':Value} {x:AW} {ms:List Ms} (b:WBox w W B vl vo vh vn x) (ho:OwnC Ty.bs (fr W W1 [v'.ownBlock]) W1 W.heap.size 139 v' (sendB (x.net.map bytesM) ms)) (hg:Grow W W1) (g2:W1.grownBy W2 (some B))
  (r2:W2.heap[B]? =some (.cells #[vl,.int .i64 x.head.boot,.int .i64 x.head.next,vo,vh,v'] 39 (0,0))):WBox w W2 B vl vo vh v' { x with net:=sendA x.net ms }:=by
 refine(b.later hg).putN g2 r2 ?_
 have h9:=(OwnC.ovn (by decide) ho).mono b.new
 rw [send_map] at h9
 exact h9
theorem ovn_past {W W1 W2:World} {A:Nat} (hg:W1.grownBy W2 (some A)) (hA:A<W.heap.size):Sub (ov (fun _=>none) W W1) W2.cell?:=fun a v e=>by
 unfold ov at e
 split at e
 ·cases e
 ·exact cell_past e hg (by omega)
theorem hs_cells {c:CM} {cs:List Value} {h:Hs} (hR:Ty.hs.R c cs h):∃il jl ir jr id jd,cs=[.slice il h.log.length jl,.int .i64 h.sums.a,.int .i64 h.sums.b,.int .i64 h.sums.c,.int .i64 h.sums.d,.slice ir h.ready.length jr,.slice id h.done.length jd]:=by
 obtain⟨v1,v2,v3,rfl,h1,-,-,-,-,h2,h3⟩:=hR
 obtain⟨il,jl,rfl,-⟩:=h1
 obtain⟨ir,jr,rfl,-⟩:=h2
 obtain⟨id,jd,rfl,-⟩:=h3
 exact⟨_,_,_,_,_,_,rfl⟩
def SP (w W:World) (B:Nat) (vh:Value) (y:AW) (W':World):Prop:=∃vl vo vn,WBox w W' B vl vo vh vn y∧W.heap.size≤W'.heap.size
theorem doErr2 (x:AW) (sn:Int) (sp:List Pt):doErr x ⟨2,sn,sp⟩=if there x sn=true then 0 else 6:=by unfold doErr;simp
theorem doA2 (x:AW) (sn:Int) (sp:List Pt):doA x ⟨2,sn,sp⟩=if there x sn=true then comeA { x with net:=x.net.eraseIdx sn.toNat } (x.net.getD sn.toNat ⟨0,0,0,[]⟩) else x:=by unfold doA;simp
theorem RightM.keysOk {m:Ms} (h:RightM m):KeysOk m.parts:=by
 by_cases h1:m.kind=1
 ·exact fun p hp=>by have:=(wrong_ok (h.parts h1).1).2.2.1 p hp;omega
 ·rw [h.none h1];exact fun p hp=>by cases hp
theorem RightM.partsLen {m:Ms} (h:RightM m):m.parts.length≤4:=by
 by_cases h1:m.kind=1
 ·exact(wrong_ok (h.parts h1).1).2.1
 ·rw [h.none h1];simp
theorem info_bss:(Tryz.prog.info? 37).map (·.size)=some 1:=by kernel_rfl
theorem whead_hearQ {v vm:Value} {h:Hd} {m:Ms} (w:World) (hv:Of Ty.hd w.cell? v h) (hm:Of Ty.ms w.cell? vm m) (hk:HdOk h) (hi:HdInv h):
  Calls Tryz.prog 69 #[v,vm] w fun e w'=>∃v1 v2,e=.returned (.tuple #[v1,v2])∧Of Ty.hd (ov (fun _=>none) w w') v1 (hHearH h m)∧Sl Ty.ms (ov (fun _=>none) w w') v2 (hHearM h m)∧Grow w w':=
 (whead_hear w hv hm hk hi).mono fun _ _ ⟨v1,v2,he,h1,h2,h3⟩=>⟨v1,v2,he,h1,h2,h3⟩
set_option maxRecDepth 100000 in
set_option maxHeartbeats 4000000 in
theorem world_come {w W:World} {B k:Nat} {vl vo vh vn:Value} {x:AW} {sn:Int} (sp:List Pt) (hb:WBox w W B vl vo vh vn x) (hk:WK k x):
  Calls Tryz.prog 37 #[.pointer (some ⟨B,0,none⟩),.int .i64 sn] W fun e W'=>e=.returned (.int .i64 (doErr x ⟨2,sn,sp⟩))∧SP w W B vh (doA x ⟨2,sn,sp⟩) W':=by
 obtain⟨al,cl,ao,co,ah,ch,an,cn,rfl,rfl,rfl,rfl⟩:=hb.form
 have HTK:=η (net_take (n:=sn) W hb.netR hk.net.1 hk.net.2)
 have HBX:=η hb
 have HWK:=η hk
 have HE:=η (doErr2 x sn sp)
 have HD:=η (doA2 x sn sp)
 have hl3:=hk.len3.2
 clear hb hk
 rw [HE.o,HD.o]
 by_cases hth:there x sn=true
 rotate_left
 ·have hth2:there x sn=false:=by simpa using hth
  have HT:=η (take_not hth2)
  rw [if_neg hth,if_neg hth]
  clear hth hth2 HE HD
  go_enter Tryz.func37,Tryz.ntmps37
  obtain⟨b0,b1,b2,b3,b4,b5⟩:=cells6 HBX.o.row
  have zB:B<W.heap.size:=HBX.o.lt
  go_wp2_with fail
  refine HTK.o.mono ?_
  rintro e W1 ⟨v1,v2,rfl,ho,hm,hg⟩
  rw [HT.o] at ho hm ⊢
  obtain⟨a1,c1,rfl⟩:=ho.form
  obtain⟨apm,cpm,rfl⟩:=hm.ms_form
  have HG:=η hg
  clear ho hm hg b0 b1 b2 b3 b4 b5 zB
  go_wp2
  go_ret
  exact⟨rfl,_,_,_,HBX.o.later (HG.o.alloc _),by have:=HG.o.size;simp;omega⟩
 rw [if_pos hth,if_pos hth]
 obtain⟨m,hm⟩:∃q,q=x.net.getD sn.toNat ⟨0,0,0,[]⟩:=⟨_,rfl⟩
 obtain⟨nt,hnt⟩:∃q,q=x.net.eraseIdx sn.toNat:=⟨_,rfl⟩
 obtain⟨n,G,hwi⟩:=HWK.o.wi
 have HT:Hid (takeB (x.net.map bytesM) sn=(nt.map bytesM,m,0)):=η (by rw [take_there hwi.right hth,←hm,←hnt])
 have HMO:Hid (MOk n G x.head x.houses m):=η (by rw [hm];exact hwi.there hth)
 have HNL:Hid (nt.length≤24∧∀q∈nt,wrongM q=0):=η ⟨by rw [hnt];have:=hwi.len;have:=List.length_eraseIdx_le x.net sn.toNat;omega,fun q hq=>hwi.right q (List.mem_of_mem_eraseIdx (by rw [←hnt];exact hq))⟩
 have HWI:=η hwi
 rw [←hm,←hnt]
 have h0:0≤m.house:=HMO.o.right.house.1
 clear hth hm hnt hwi HE HD
 go_enter Tryz.func37,Tryz.ntmps37
 obtain⟨b0,b1,b2,b3,b4,b5⟩:=cells6 HBX.o.row
 have zB:B<W.heap.size:=HBX.o.lt
 go_wp2_with fail
 refine HTK.o.mono ?_
 rintro e W1 ⟨v1,v2,rfl,ho,hm,hg⟩
 rw [HT.o] at ho hm ⊢
 obtain⟨a1,c1,hv1⟩:=ho.form
 rw [List.length_map] at hv1
 subst hv1
 obtain⟨apm,cpm,rfl⟩:=hm.ms_form
 have HON:=η ((OwnC.ovn (by decide) ho).mono HBX.o.new)
 have HMS:=η hm
 have HG:=η hg
 have HB1:=η (HBX.o.later hg)
 clear ho hm hg b0 b1 b2 b3 b4 b5 zB
 obtain⟨W2,hW2⟩:∃zq:World,zq=W1.alloc (.cells #[.int .i64 m.kind,.int .i64 m.deed,.int .i64 m.house,.slice apm m.parts.length cpm] 95):=⟨_,rfl⟩
 obtain⟨BM,hBM⟩:∃zq,zq=W1.heap.size:=⟨_,rfl⟩
 have G12:Hid (Grow W1 W2):=η (by rw [hW2];exact(Grow.refl _).alloc _)
 have RM2:Hid (W2.heap[BM]? =some (.cells #[.int .i64 m.kind,.int .i64 m.deed,.int .i64 m.house,.slice apm m.parts.length cpm] 95 (0,0))):=η (by rw [hW2,hBM];exact row_new _ _)
 have SBM:Hid (BM=W1.heap.size):=η hBM
 have HB2:=η (HB1.o.later G12.o)
 have HON2:=η (HON.o.mono (fr_grow G12.o))
 go_upto_region 2 with fail
 rw [←hW2,←hBM]
 clear hW2 hBM
 obtain⟨b0,b1,b2,b3,b4,b5⟩:=cells6 HB2.o.row
 have zB:B<W2.heap.size:=HB2.o.lt
 go_wp2_with (first|(refine wpList_store_cell rfl (.tmp 25) (.tmp 23) (v:=.slice a1 nt.length c1) (new:=#[.slice al x.head.log.length cl,.int .i64 x.head.boot,.int .i64 x.head.next,.slice ao x.head.opn.length co,.slice ah x.houses.length ch,.slice a1 nt.length c1]) rfl rfl (by rfl) (by rfl) HB2.o.row info_bss (by simp) (by rfl) (by rfl) ?_))
 intro W4 r4 g4
 have HB4:=η (HB2.o.putN g4 r4 HON2.o)
 have RM4:=η (row_by RM2.o g4 (fun e=>by have h1:=Option.some.inj e;have h2:=HB1.o.lt;have h3:=SBM.o;omega))
 have HMS4:=η ((HMS.o.mono (ov_mono (Sub.refl _) G12.o)).mono (ovn_past g4 HBX.o.lt))
 have HS4:Hid (W.heap.size≤W4.heap.size):=η (by have:=HG.o.size;have:=G12.o.size;have:=g4.size;omega)
 have HBM4:Hid (B≠BM):=η (fun e=>by have h2:=HB1.o.lt;have h3:=SBM.o;omega)
 clear r4 g4 b0 b1 b2 b3 b4 b5 zB HB2 RM2 HON2 HMS HB1 HON
 obtain⟨b0,b1,b2,b3,b4,b5⟩:=cells6 HB4.o.row
 have zB:B<W4.heap.size:=HB4.o.lt
 obtain⟨m0,m1,m2,m3⟩:=cells4 RM4.o
 have zM:BM<W4.heap.size:=(γ RM4.o)
 by_cases hmh:(x.houses.length:Int)≤m.house
 ·have HC:Hid (comeA { x with net:=nt } m={ x with net:=nt }):=η (comeA_out (by rw [List.getElem?_eq_none_iff];show x.houses.length≤_;omega))
  go_wp2_with (go_quiet (fail))
  go_ret
  exact⟨rfl,_,_,_,by rw [HC.o];exact HB4.o.later (Grow.drewN (Grow.refl _) _),Nat.le_trans HS4.o (Grow.drewN (Grow.refl W4) _).size⟩
 have hlt:m.house.toNat<x.houses.length:=by omega
 obtain⟨j,hj⟩:∃q,q=m.house.toNat:=⟨_,rfl⟩
 rw [←hj] at hlt
 have hmj:m.house=(j:Int):=by omega
 have HHJ:Hid (x.houses[m.house.toNat]? =some x.houses[j]):=η (by rw [←hj];exact List.getElem?_eq_getElem hlt)
 have HJM:=η (And.intro hj hmj)
 clear hj hmj
 go_upto_region 5 with fail
 go_cut [37] from 26 to 37 (fun s37 wc=>s37=.bool false∧Grow W4 wc)
 case first=>
  go_wp2_with (go_quiet (fail))
  go_meet
  case rel=>exact⟨by first|rfl|(simp;omega),Grow.drewN (Grow.refl _) _⟩
 case rest=>
 obtain⟨rfl,hgc⟩:=hcut
 obtain⟨W5,rfl⟩:∃zq:World,zq=wc:=⟨_,rfl⟩
 have HB5:=η (HB4.o.later hgc)
 have RM5:=η (row_grow RM4.o hgc)
 have HMS5:=η (HMS4.o.mono hgc.sub)
 have HS5:Hid (W.heap.size≤W5.heap.size):=η (by have:=HS4.o;have:=hgc.size;omega)
 clear hgc b0 b1 b2 b3 b4 b5 zB m0 m1 m2 m3 zM HB4 RM4 HMS4 hmh
 obtain⟨m0,m1,m2,m3⟩:=cells4 RM5.o
 have zM:BM<W5.heap.size:=(γ RM5.o)
 go_upto_block 0 with fail
 clear m0 m1 m2 m3 zM
 go_cut [8] from 40 to 77 (fun s8 wc=>∃(al2 ao2 asl:Option Addr) (cl2 co2 cs:Nat) (hd2:Hd) (hs2:List Hs) (ms:List Ms),s8=.slice asl ms.length cs∧WBox w wc B (.slice al2 hd2.log.length cl2) (.slice ao2 hd2.opn.length co2) (.slice ah x.houses.length ch) (.slice a1 nt.length c1) ⟨hd2,hs2,nt⟩∧Mss wc.cell? (.slice asl ms.length cs) ms∧(∀q∈ms,wrongM q=0)∧comeA { x with net:=nt } m=⟨hd2,hs2,sendA nt ms⟩∧W.heap.size≤wc.heap.size)
 case rest=>
  obtain⟨al2,ao2,asl,cl2,co2,cs,hd2,hs2,ms,rfl,hbx,hms,hsy,hce,hsz⟩:=hcut
  obtain⟨W9,rfl⟩:∃zq:World,zq=wc:=⟨_,rfl⟩
  have HB9:=η hbx
  have HMS9:=η hms
  have HSY:=η hsy
  have HCE:=η hce
  have HSZ:=η hsz
  clear hbx hms hsy hce hsz
  obtain⟨b0,b1,b2,b3,b4,b5⟩:=cells6 HB9.o.row
  have zB:B<W9.heap.size:=HB9.o.lt
  go_wp2_with fail
  refine(net_send (l:=nt.map bytesM) (ms:=ms) W9 HB9.o.netR HMS9.o HSY.o (by rw [List.length_map];have:=HNL.o.1;omega) (fun b hb=>by
   obtain⟨q,hq,rfl⟩:=List.mem_map.1 hb
   have:=bytesM_le (HNL.o.2 q hq)
   omega)).mono ?_
  rintro e W10 ⟨v10,rfl,ho10,hb10⟩
  obtain⟨a10,c10,hv10⟩:=ho10.form
  have hl10:(sendB (nt.map bytesM) ms).length=(sendA nt ms).length:=by rw [send_map,List.length_map]
  rw [hl10] at hv10
  subst hv10
  have HO10:=η ho10
  have HG10:=η hb10
  have HB10:=η (HB9.o.later hb10)
  clear ho10 hb10 hl10 b0 b1 b2 b3 b4 b5 zB
  go_wp2_with (first|(refine wpList_store_cell rfl (.tmp 86) (.tmp 84) (v:=.slice a10 (sendA nt ms).length c10) (new:=#[.slice al2 hd2.log.length cl2,.int .i64 hd2.boot,.int .i64 hd2.next,.slice ao2 hd2.opn.length co2,.slice ah x.houses.length ch,.slice a10 (sendA nt ms).length c10]) rfl rfl (by rfl) (by rfl) HB10.o.row info_bss (by simp) (by rfl) (by rfl) ?_))
  intro W11 r11 g11
  have HB11:=η (HB9.o.sent HO10.o HG10.o g11 r11)
  have HS11:Hid (W.heap.size≤W11.heap.size):=η (by have:=HSZ.o;have:=HG10.o.size;have:=g11.size;omega)
  clear r11 g11
  go_wp2
  go_ret
  exact⟨rfl,_,_,_,by rw [HCE.o];exact HB11.o,HS11.o⟩
 go_upto_if 52 with fail
 go_cut [52] from 54 to 55 (fun s52 wc=>s52=.bool (forHouse m)∧Grow W5 wc)
 case first=>
  by_cases k1:m.kind=1
  ·have t1:(m.kind==1)=true:=by simp [k1]
   have hf:forHouse m=true:=by unfold forHouse;simp [k1]
   have HF:=η hf
   clear k1 hf
   go_wp2
   go_meet
   case rel=>exact⟨by first|(rw [HF.o];done)|(rw [HF.o];simp [t1]),grA⟩
  ·have t1:(m.kind==1)=false:=by simp [k1]
   by_cases k4:m.kind=4
   ·have t4:(m.kind==4)=true:=by simp [k4]
    have hf:forHouse m=true:=by unfold forHouse;simp [k4]
    have HF:=η hf
    clear k1 k4 hf
    go_wp2
    go_meet
    case rel=>exact⟨by first|(rw [HF.o];done)|(rw [HF.o];simp [t1,t4]),grA⟩
   ·have t4:(m.kind==4)=false:=by simp [k4]
    have hf:forHouse m=(m.kind==5):=by unfold forHouse;simp only [k1,k4,false_or];by_cases k5:m.kind=5<;>simp [k5]
    have HF:=η hf
    clear k1 k4 hf
    go_wp2
    go_meet
    case rel=>exact⟨by rw [HF.o],grA⟩
 case rest=>
 obtain⟨rfl,hgc⟩:=hcut
 obtain⟨W6,rfl⟩:∃zq:World,zq=wc:=⟨_,rfl⟩
 have HB6:=η (HB5.o.later hgc)
 have RM6:=η (row_grow RM5.o hgc)
 have HMS6:=η (HMS5.o.mono hgc.sub)
 have HS6:Hid (W.heap.size≤W6.heap.size):=η (by have:=HS5.o;have:=hgc.size;omega)
 clear hgc HB5 RM5 HMS5
 obtain⟨f,hf⟩:∃b,b=forHouse m:=⟨_,rfl⟩
 rw [←hf]
 have HF:=η hf
 clear hf
 have HNT0:=HNL.o.1
 cases f with
 |true=>
   have HC:=η (comeA_house (w:={ x with net:=nt }) HHJ.o HF.o.symm)
   have HSY:Hid (∀q∈hearM x.houses[j] m.house m,wrongM q=0):=η (WI.says (HWI.o.core.hear HMO.o HHJ.o).2.2)
   have HHO:=η (HWK.o.hs (List.getElem?_eq_getElem hlt))
   obtain⟨gh,cs0,rfl,hRh,hAh⟩:=HB6.o.hs.get (by decide) j hlt
   obtain⟨il,jl,ir,jr,id9,jd,rfl⟩:=hs_cells hRh
   have HRH:=η hRh
   have HAH:=η hAh
   clear hRh hAh
   obtain⟨h,hh⟩:∃q,q=x.houses[j]:=⟨_,rfl⟩
   rw [←hh] at HC HSY HHO HRH HAH
   have HJ2:Hid (x.houses[j]? =some h):=η (by rw [hh];exact List.getElem?_eq_getElem hlt)
   clear hh
   have hjz:(j:Int)<(x.houses.length:Int):=by omega
   have HS:Hid (∀W',Grow W6 W'→W'.cell? ⟨B,4,none⟩=some (.slice (some ⟨gh,0,none⟩) x.houses.length ch)∧W'.cell? ⟨BM,0,none⟩=some (.int .i64 m.kind)∧W'.cell? ⟨BM,1,none⟩=some (.int .i64 m.deed)∧W'.cell? ⟨BM,2,none⟩=some (.int .i64 (j:Int))∧W'.cell? ⟨BM,3,none⟩=some (.slice apm m.parts.length cpm)):=fun W' hW=>by
    obtain⟨-,-,-,-,q4,-⟩:=cells6 (row_grow HB6.o.row hW)
    obtain⟨n0,n1,n2,n3⟩:=cells4 (row_grow RM6.o hW)
    rw [HJM.o.2] at n2
    exact⟨q4,n0,n1,n2,n3⟩
   have HEL:Hid (∀W',Grow W6 W'→W'.cell? ⟨gh,j*7,none⟩=some (.slice il h.log.length jl)∧W'.cell? ⟨gh,j*7+1,none⟩=some (.int .i64 h.sums.a)∧W'.cell? ⟨gh,j*7+2,none⟩=some (.int .i64 h.sums.b)∧W'.cell? ⟨gh,j*7+3,none⟩=some (.int .i64 h.sums.c)∧W'.cell? ⟨gh,j*7+4,none⟩=some (.int .i64 h.sums.d)∧W'.cell? ⟨gh,j*7+5,none⟩=some (.slice ir h.ready.length jr)∧W'.cell? ⟨gh,j*7+6,none⟩=some (.slice id9 h.done.length jd)):=fun W' hW=>⟨by have h9:=HAH.o 0 _ rfl;simp only [show Ty.hs.size=7 from rfl,Nat.add_zero] at h9;exact hW.sub _ _ h9,by have h9:=HAH.o 1 _ rfl;simp only [show Ty.hs.size=7 from rfl] at h9;exact hW.sub _ _ h9,by have h9:=HAH.o 2 _ rfl;simp only [show Ty.hs.size=7 from rfl] at h9;exact hW.sub _ _ h9,by have h9:=HAH.o 3 _ rfl;simp only [show Ty.hs.size=7 from rfl] at h9;exact hW.sub _ _ h9,by have h9:=HAH.o 4 _ rfl;simp only [show Ty.hs.size=7 from rfl] at h9;exact hW.sub _ _ h9,by have h9:=HAH.o 5 _ rfl;simp only [show Ty.hs.size=7 from rfl] at h9;exact hW.sub _ _ h9,by have h9:=HAH.o 6 _ rfl;simp only [show Ty.hs.size=7 from rfl] at h9;exact hW.sub _ _ h9⟩
   have NGB:Hid (gh≠B∧gh≠BM):=η ⟨fun e=>HB6.o.ne (by rw [←e];rfl),fun e=>by have h1:=(HBX.o.hs.lt gh rfl).2;have h2:=HG.o.size;have h3:=SBM.o;omega⟩
   go_upto_region 13 with fail
   refine bSc (fun w'=>w'.cell? ⟨B,4,none⟩=some (.slice (some ⟨gh,0,none⟩) x.houses.length ch)∧w'.cell? ⟨BM,0,none⟩=some (.int .i64 m.kind)∧w'.cell? ⟨BM,1,none⟩=some (.int .i64 m.deed)∧w'.cell? ⟨BM,2,none⟩=some (.int .i64 (j:Int))∧w'.cell? ⟨BM,3,none⟩=some (.slice apm m.parts.length cpm)) [] (by kernel_rfl) ?_
   intro wd GD zD
   have ZD:=η zD
   clear zD
   refine bLc [0,1,2,3,4,5,6,7,8,9,10,11,12,14,15,16] 26 (by kernel_rfl) (fun _ _ _ _ _ h=>h) (HS.o _ GD) ?_
   repeat (refine tNc (v:=?_) rfl (by rfl) ?_ ?_;rotate_left;(· (intro w' hSw;(try dsimp only at hSw);obtain⟨hs0,hs1,hs2,hs3,hs4⟩:=hSw;go_simp<;>with_reducible rfl));try simp only [Act.put,lzA,lzB,lzC,lzD,lzE,lzF])
   refine tEc ?_
   refine bOc 13 (by kernel_rfl) rfl ?_
   intro K HK
   try simp only [lzA,lzB,lzC]
   obtain⟨q0,q1,q2,q3,q4,q5,q6⟩:=HEL.o _ GD
   have zg:gh<wd.heap.size:=World.block_lt_of_cell? _ _ q0
   go_simp
   clear q0 q1 q2 q3 q4 q5 q6 zg
   refine HK.o _ _ ⟨.inr (HS.o _ GD),?_⟩
   clear HK K
   try simp only [Act.put,lzA,lzB,lzC,lzD,lzE,lzF]
   refine bOc 17 (by kernel_rfl) rfl ?_
   intro K HK
   try simp only [lzA,lzB,lzC]
   go_simp
   go_at_call 68
   refine(house_hear (h:=h) (m:=m) (me:=(j:Int)) wd ⟨_,rfl,Ty.hs.mono ((fr_sub _ _ _).trans (Grow.sub GD)) HRH.o⟩ (by rw [←HJM.o.2];exact HMS6.o.mono (Grow.sub GD)) HHO.o.keys HMO.o.right.keysOk (by have:=HHO.o.len;have:=HWK.o.le;omega) HHO.o.parts (by have:=HMO.o.right.partsLen;omega) (i64_of (by omega) (by omega)) HHO.o.made).mono ?_
   rintro e W7 ⟨v1,v2,rfl,hx7,hm7,hb7⟩
   obtain⟨il2,jl2,ir2,jr2,id2,jd2,rfl⟩:=hx7.hs_form
   obtain⟨asl,cs,rfl,-⟩:=id hm7
   have HBD:=η (HB6.o.later GD)
   have HX7:=η (hx7.mono HBD.o.new)
   have HM7:=η hm7
   have G7:=η (Grow.trans GD hb7)
   have HB7:=η (HBD.o.later hb7)
   have HGH:Hid (gh<wd.heap.size):=η (HBD.o.hs.lt gh rfl).2
   clear hx7 hm7 hb7
   refine HK.o _ _ ⟨.inr (HS.o _ G7.o),?_⟩
   clear HK K
   try simp only [Act.put,lzA,lzB,lzC,lzD,lzE,lzF]
   refine bLc [18,19,20,21] 26 (by kernel_rfl) (fun _ _ _ _ _ h=>h) (HS.o _ G7.o) ?_
   repeat (refine tNc (v:=?_) rfl (by rfl) ?_ ?_;rotate_left;(· (intro w' hSw;(try dsimp only at hSw);obtain⟨hs0,hs1,hs2,hs3,hs4⟩:=hSw;go_simp<;>with_reducible rfl));try simp only [Act.put,lzA,lzB,lzC,lzD,lzE,lzF])
   refine tEc ?_
   refine bOc 22 (by kernel_rfl) rfl ?_
   intro K HK
   refine wanted_go rfl ?_
   try simp only [lzA,lzB,lzC]
   refine wp_store_el (.tmp 77) (.tmp 75) (i:=j) (x:=hearH h m) rfl rfl rfl (by rfl) HB7.o.hs hlt info_hs (by obtain⟨cs9,he9,hR9⟩:=HX7.o;cases he9;exact hR9) (by rfl) ?_
   intro W8 ho8 g8
   have RB8:=η (row_by HB7.o.row g8 (fun e=>NGB.o.1 (Option.some.inj e).symm))
   have RM8:=η (row_by (row_grow RM6.o G7.o) g8 (fun e=>NGB.o.2 (Option.some.inj e).symm))
   refine HK.o _ _ ⟨.inr (by obtain⟨-,-,-,-,q4,-⟩:=cells6 RB8.o;obtain⟨n0,n1,n2,n3⟩:=cells4 RM8.o;rw [HJM.o.2] at n2;exact⟨q4,n0,n1,n2,n3⟩),?_⟩
   clear HK K
   try simp only [Act.put]
   refine bLc [23] 26 (by kernel_rfl) (fun _ _ _ _ _ h=>h) (by obtain⟨-,-,-,-,q4,-⟩:=cells6 RB8.o;obtain⟨n0,n1,n2,n3⟩:=cells4 RM8.o;rw [HJM.o.2] at n2;exact⟨q4,n0,n1,n2,n3⟩) ?_
   repeat (refine tNc (v:=?_) rfl (by rfl) ?_ ?_;rotate_left;(· (intro w' hSw;(try dsimp only at hSw);obtain⟨hs0,hs1,hs2,hs3,hs4⟩:=hSw;go_simp<;>with_reducible rfl));try simp only [Act.put,lzA,lzB,lzC,lzD,lzE,lzF])
   refine tEc ?_
   refine bDc (by kernel_rfl) ?_
   go_wp2
   go_meet
   case rel=>
    have hsz:=G7.o.size
    have hs8:=g8.size
    have hs6:=HS6.o
    refine⟨al,ao,asl,cl,co,cs,x.head,x.houses.set j (hearH h m),hearM h j m,rfl,HB7.o.putK g8 ho8,HM7.o.mono (ovn_past g8 HGH.o),?_,?_,by omega⟩
    ·intro q hq;exact HSY.o q (by rw [HJM.o.2];exact hq)
    ·rw [HC.o,←HJM.o.1,HJM.o.2]
 |false=>
   have HC:=η (comeA_head (w:={ x with net:=nt }) HHJ.o HF.o.symm)
   have HSY:Hid (∀q∈hHearM x.head m,wrongM q=0):=η (WI.says (HWI.o.core.hHear HMO.o).2.2)
   have HS:Hid (∀W',Grow W6 W'→W'.cell? ⟨BM,0,none⟩=some (.int .i64 m.kind)∧W'.cell? ⟨BM,1,none⟩=some (.int .i64 m.deed)∧W'.cell? ⟨BM,2,none⟩=some (.int .i64 m.house)∧W'.cell? ⟨BM,3,none⟩=some (.slice apm m.parts.length cpm)):=fun W' hW=>by
    obtain⟨n0,n1,n2,n3⟩:=cells4 (row_grow RM6.o hW)
    exact⟨n0,n1,n2,n3⟩
   go_upto_region 9 with fail
   refine bSc (fun w'=>w'.cell? ⟨BM,0,none⟩=some (.int .i64 m.kind)∧w'.cell? ⟨BM,1,none⟩=some (.int .i64 m.deed)∧w'.cell? ⟨BM,2,none⟩=some (.int .i64 m.house)∧w'.cell? ⟨BM,3,none⟩=some (.slice apm m.parts.length cpm)) [] (by kernel_rfl) ?_
   intro wd GD zD
   have ZD:=η zD
   clear zD
   refine bLc [0,1,2,3,5] 16 (by kernel_rfl) (fun _ _ _ _ _ h=>h) (HS.o _ GD) ?_
   repeat (refine tNc (v:=?_) rfl (by rfl) ?_ ?_;rotate_left;(· (intro w' hSw;(try dsimp only at hSw);obtain⟨hs0,hs1,hs2,hs3⟩:=hSw;go_simp<;>with_reducible rfl));try simp only [Act.put,lzA,lzB,lzC,lzD,lzE,lzF])
   refine tEc ?_
   refine bOc 4 (by kernel_rfl) rfl ?_
   intro K HK
   try simp only [lzA,lzB,lzC]
   obtain⟨q0,q1,q2,q3,-,-⟩:=cells6 (row_grow HB6.o.row GD)
   have zB:B<wd.heap.size:=World.block_lt_of_cell? _ _ q0
   go_simp
   clear q0 q1 q2 q3 zB
   refine HK.o _ _ ⟨.inr (HS.o _ GD),?_⟩
   clear HK K
   try simp only [Act.put,lzA,lzB,lzC,lzD,lzE,lzF]
   refine bOc 6 (by kernel_rfl) rfl ?_
   intro K HK
   try simp only [lzA,lzB,lzC]
   go_simp
   go_at_call 69
   refine(whead_hearQ (h:=x.head) (m:=m) wd (Of.mono (Grow.sub GD) HB6.o.headR) (HMS6.o.mono (Grow.sub GD)) HWK.o.hdok HWK.o.hdinv).mono ?_
   rintro e W7 ⟨v1,v2,rfl,hx7,hm7,hb7⟩
   obtain⟨al2,cl2,ao2,co2,rfl⟩:=hx7.hd_form
   obtain⟨asl,cs,rfl,-⟩:=id hm7
   have HBD:=η (HB6.o.later GD)
   have HX7:=η (hx7.mono HBD.o.new)
   have HM7:=η hm7
   have G7:=η (Grow.trans GD hb7)
   have HB7:=η (HBD.o.later hb7)
   have HLB:Hid (B<wd.heap.size):=η HBD.o.lt
   clear hx7 hm7 hb7
   refine HK.o _ _ ⟨.inr (HS.o _ G7.o),?_⟩
   clear HK K
   try simp only [Act.put,lzA,lzB,lzC,lzD,lzE,lzF]
   refine bLc [7,8,9,10,11] 16 (by kernel_rfl) (fun _ _ _ _ _ h=>h) (HS.o _ G7.o) ?_
   repeat (refine tNc (v:=?_) rfl (by rfl) ?_ ?_;rotate_left;(· (intro w' hSw;(try dsimp only at hSw);obtain⟨hs0,hs1,hs2,hs3⟩:=hSw;go_simp<;>with_reducible rfl));try simp only [Act.put,lzA,lzB,lzC,lzD,lzE,lzF])
   refine tEc ?_
   refine bOc 12 (by kernel_rfl) rfl ?_
   intro K HK
   refine wanted_go rfl ?_
   try simp only [lzA,lzB,lzC]
   refine wp_store_part (.tmp 51) (.tmp 48) (new:=#[.slice al2 (hHearH x.head m).log.length cl2,.int .i64 (hHearH x.head m).boot,.int .i64 (hHearH x.head m).next,.slice ao2 (hHearH x.head m).opn.length co2,.slice ah x.houses.length ch,.slice a1 nt.length c1]) rfl rfl rfl HB7.o.row info_hd (by simp) (by rfl) (by rfl) ?_
   intro W8 r8 g8
   have RM8:=η (row_by (row_grow RM6.o G7.o) g8 (fun e=>HBM4.o (Option.some.inj e).symm))
   refine HK.o _ _ ⟨.inr (by obtain⟨n0,n1,n2,n3⟩:=cells4 RM8.o;exact⟨n0,n1,n2,n3⟩),?_⟩
   clear HK K
   try simp only [Act.put]
   refine bLc [13] 16 (by kernel_rfl) (fun _ _ _ _ _ h=>h) (by obtain⟨n0,n1,n2,n3⟩:=cells4 RM8.o;exact⟨n0,n1,n2,n3⟩) ?_
   repeat (refine tNc (v:=?_) rfl (by rfl) ?_ ?_;rotate_left;(· (intro w' hSw;(try dsimp only at hSw);obtain⟨hs0,hs1,hs2,hs3⟩:=hSw;go_simp<;>with_reducible rfl));try simp only [Act.put,lzA,lzB,lzC,lzD,lzE,lzF])
   refine tEc ?_
   refine bDc (by kernel_rfl) ?_
   go_wp2
   go_meet
   case rel=>
    have hsz:=G7.o.size
    have hs8:=g8.size
    have hs6:=HS6.o
    exact⟨al2,ao2,asl,cl2,co2,cs,hHearH x.head m,x.houses,hHearM x.head m,rfl,HB7.o.putH g8 r8 HX7.o,HM7.o.mono (ovn_past g8 HLB.o),HSY.o,HC.o,by omega⟩
theorem doErr1 (x:AW) (sn:Int) (sp:List Pt):doErr x ⟨1,sn,sp⟩=if wrongE sp x.houses.length=0 then beginE x.head else wrongE sp x.houses.length:=by unfold doErr;simp
theorem doA1 (x:AW) (sn:Int) (sp:List Pt):doA x ⟨1,sn,sp⟩=if wrongE sp x.houses.length=0 then { x with head:=beginH x.head sp,net:=sendA x.net (beginM x.head sp) } else x:=by unfold doA;simp
theorem doErr5 (x:AW) (sn:Int) (sp:List Pt):doErr x ⟨5,sn,sp⟩=if sn=3 then fallE x.head else if hereN x sn=true then 0 else 6:=by unfold doErr;simp
theorem doA5 (x:AW) (sn:Int) (sp:List Pt):doA x ⟨5,sn,sp⟩=if sn=3 then { x with head:=fallH x.head } else x:=by unfold doA;simp
theorem doErr6 (x:AW) (sn:Int) (sp:List Pt):doErr x ⟨6,sn,sp⟩=if sn=3∨hereN x sn=true then 0 else 6:=by unfold doErr;simp
theorem doA6 (x:AW) (sn:Int) (sp:List Pt):doA x ⟨6,sn,sp⟩=if sn=3∨hereN x sn=true then tickA x sn.toNat else x:=by unfold doA;simp
theorem OwnC.same {α:Type} {T:Ty α} {c:CM} {w:World} {base e:Nat} {v:Value} {l:List α} {j:Nat} {x:α} (hj:l[j]? =some x) (h:OwnC T c w base e v (l.set j x)):OwnC T c w base e v l:=by
 obtain⟨hlt,rfl⟩:=List.getElem?_eq_some_iff.1 hj
 rwa [List.set_getElem_self] at h
set_option maxRecDepth 100000 in
set_option maxHeartbeats 4000000 in
theorem world_begin {w W:World} {B k:Nat} {vl vo vh vn vp:Value} {x:AW} {sp:List Pt} (sn:Int) (hb:WBox w W B vl vo vh vn x) (hk:WK k x) (hp:Pts W.cell? vp sp):
  Calls Tryz.prog 36 #[.pointer (some ⟨B,0,none⟩),vp] W fun e W'=>e=.returned (.int .i64 (doErr x ⟨1,sn,sp⟩))∧SP w W B vh (doA x ⟨1,sn,sp⟩) W':=by
 obtain⟨al,cl,ao,co,ah,ch,an,cn,rfl,rfl,rfl,rfl⟩:=hb.form
 obtain⟨n,G,hwi⟩:=hk.wi
 have HWI:=η hwi
 have HBX:=η hb
 have HWK:=η hk
 have hl3:=hk.len3
 have hn24:x.net.length≤24:=hwi.len
 have HLN:Hid (x.houses.length=n):=η hwi.core.len
 have HP:=η hp
 obtain⟨ap,cp,rfl,-⟩:=hp
 clear hb hk hwi
 rw [doErr1,doA1]
 by_cases hw:wrongE sp x.houses.length=0
 rotate_left
 ·have hwb:(wrongE sp x.houses.length !=0)=true:=by simp [hw]
  rw [if_neg hw,if_neg hw]
  clear hw
  go_enter Tryz.func36,Tryz.ntmps36
  obtain⟨b0,b1,b2,b3,b4,b5⟩:=cells6 HBX.o.row
  have zB:B<W.heap.size:=HBX.o.lt
  go_wp2_with fail
  refine(part_wrong (h:=x.houses.length) W HP.o).mono ?_
  rintro e W1 ⟨rfl,hb1⟩
  have HG:=η hb1
  clear hb1 b0 b1 b2 b3 b4 b5 zB
  go_wp2
  go_ret
  exact⟨rfl,_,_,_,HBX.o.later HG.o,HG.o.size⟩
 have hwb:(wrongE sp x.houses.length !=0)=false:=by simp [hw]
 rw [if_pos hw,if_pos hw]
 have HW:Hid (wrongE sp n=0):=η (by rw [←HLN.o];exact hw)
 have HPR:Hid (PtsR sp):=η (ptsR_of hl3.2 hw)
 have HSY:Hid (∀q∈beginM x.head sp,wrongM q=0):=η (by
  by_cases hf:fullE x.head=true
  ·rw [(begin_full hf).2.1];simp
  ·exact WI.says (HWI.o.core.begin HW.o (by simpa using hf)).2.2)
 clear hw
 go_enter Tryz.func36,Tryz.ntmps36
 obtain⟨b0,b1,b2,b3,b4,b5⟩:=cells6 HBX.o.row
 have zB:B<W.heap.size:=HBX.o.lt
 go_wp2_with fail
 refine(part_wrong (h:=x.houses.length) W HP.o).mono ?_
 rintro e W1 ⟨rfl,hb1⟩
 have HG1:=η hb1
 have HB1:=η (HBX.o.later hb1)
 clear hb1 b0 b1 b2 b3 b4 b5 zB
 obtain⟨b0,b1,b2,b3,b4,b5⟩:=cells6 HB1.o.row
 have zB:B<W1.heap.size:=HB1.o.lt
 go_wp2_with fail
 refine(whead_begin W1 HB1.o.headR (HP.o.mono HG1.o.sub) HWK.o.hdok HWK.o.hdinv.logp HPR.o).mono ?_
 rintro e W2 ⟨v1,v2,rfl,hx2,hm2,hb2⟩
 have HX2:=η (hx2.mono HB1.o.new)
 have HM2:=η (hm2.mono (ov_none_sub _ _))
 have HB2:=η (HB1.o.later hb2)
 have HS2:Hid (W.heap.size≤W2.heap.size):=η (by have:=HG1.o.size;have:=hb2.size;omega)
 clear hx2 hb2 b0 b1 b2 b3 b4 b5 zB hwb
 generalize hq1:beginH x.head sp=hd2 at*
 generalize hq2:beginM x.head sp=ms at*
 generalize hq3:beginE x.head=be at*
 have HQ1:=η hq1
 have HQ2:=η hq2
 have HQ3:=η hq3
 clear hq1 hq2 hq3
 obtain⟨al2,cl2,ao2,co2,rfl⟩:=HX2.o.hd_form
 obtain⟨asl,cs,rfl,-⟩:=hm2
 obtain⟨W3,hW3⟩:∃zq:World,zq=W2.alloc (.cells #[.slice al2 hd2.log.length cl2,.int .i64 hd2.boot,.int .i64 hd2.next,.slice ao2 hd2.opn.length co2] 35):=⟨_,rfl⟩
 obtain⟨BH,hBH⟩:∃zq,zq=W2.heap.size:=⟨_,rfl⟩
 have G23:Hid (Grow W2 W3):=η (by rw [hW3];exact(Grow.refl _).alloc _)
 have RH3:Hid (W3.heap[BH]? =some (.cells #[.slice al2 hd2.log.length cl2,.int .i64 hd2.boot,.int .i64 hd2.next,.slice ao2 hd2.opn.length co2] 35 (0,0))):=η (by rw [hW3,hBH];exact row_new _ _)
 have HNB:Hid (BH≠B):=η (fun e=>by have:=HB2.o.lt;omega)
 go_upto_region 5 with fail
 rw [←hW3,←hBH]
 clear hW3 hBH
 have HB3:=η (HB2.o.later G23.o)
 have HX3:=η (HX2.o.mono (fr_grow G23.o))
 have HM3:=η (HM2.o.mono G23.o.sub)
 have HS3:Hid (W.heap.size≤W3.heap.size):=η (by have:=HS2.o;have:=G23.o.size;omega)
 clear HX2 HM2 HB2 HS2
 have HS:Hid (∀W',Grow W3 W'→W'.cell? ⟨BH,0,none⟩=some (.slice al2 hd2.log.length cl2)∧W'.cell? ⟨BH,1,none⟩=some (.int .i64 hd2.boot)∧W'.cell? ⟨BH,2,none⟩=some (.int .i64 hd2.next)∧W'.cell? ⟨BH,3,none⟩=some (.slice ao2 hd2.opn.length co2)∧W'.cell? ⟨B,5,none⟩=some (.slice an x.net.length cn)):=fun W' hW=>by
  obtain⟨n0,n1,n2,n3⟩:=cells4 (row_grow RH3.o hW)
  obtain⟨-,-,-,-,-,q5⟩:=cells6 (row_grow HB3.o.row hW)
  exact⟨n0,n1,n2,n3,q5⟩
 refine bSc (fun w'=>w'.cell? ⟨BH,0,none⟩=some (.slice al2 hd2.log.length cl2)∧w'.cell? ⟨BH,1,none⟩=some (.int .i64 hd2.boot)∧w'.cell? ⟨BH,2,none⟩=some (.int .i64 hd2.next)∧w'.cell? ⟨BH,3,none⟩=some (.slice ao2 hd2.opn.length co2)∧w'.cell? ⟨B,5,none⟩=some (.slice an x.net.length cn)) [14] (by kernel_rfl) ?_
 intro wd GD zD
 have ZD:=η zD
 clear zD
 refine bLc [0,1,2,3,4,5,6,7] 17 (by kernel_rfl) (fun _ _ _ _ _ h=>h) (HS.o _ GD) ?_
 repeat (refine tNc (v:=?_) rfl (by rfl) ?_ ?_;rotate_left;(· (intro w' hSw;(try dsimp only at hSw);obtain⟨hs0,hs1,hs2,hs3,hs4⟩:=hSw;go_simp<;>with_reducible rfl));try simp only [Act.put,lzA,lzB,lzC,lzD,lzE,lzF])
 refine tEc ?_
 refine bOc 8 (by kernel_rfl) rfl ?_
 intro K HK
 try simp only [lzA,lzB,lzC]
 go_simp
 go_at_call 43
 refine(net_send (l:=x.net.map bytesM) (ms:=ms) wd (Sl.mono (fr_sub _ _ _) (HB3.o.later GD).net) (HM3.o.mono (Grow.sub GD)) HSY.o (by rw [List.length_map];omega) (fun b hb=>by
  obtain⟨q,hq,rfl⟩:=List.mem_map.1 hb
  have:=bytesM_le (HWI.o.right q hq)
  omega)).mono ?_
 rintro e W5 ⟨v5,rfl,ho5,hb5⟩
 obtain⟨a5,c5,hv5⟩:=ho5.form
 rw [show(sendB (x.net.map bytesM) ms).length=(sendA x.net ms).length by rw [send_map,List.length_map]] at hv5
 subst hv5
 have HB4:=η (HB3.o.later GD)
 have HO5:=η ho5
 have GS5:=η hb5
 have G5:=η (Grow.trans GD hb5)
 have HB5:=η (HB4.o.later hb5)
 clear ho5 hb5
 refine HK.o _ _ ⟨.inr (HS.o _ G5.o),?_⟩
 clear HK K
 try simp only [Act.put,lzA,lzB,lzC,lzD,lzE,lzF]
 refine bLc [9,10] 17 (by kernel_rfl) (fun _ _ _ _ _ h=>h) (HS.o _ G5.o) ?_
 repeat (refine tNc (v:=?_) rfl (by rfl) ?_ ?_;rotate_left;(· (intro w' hSw;(try dsimp only at hSw);obtain⟨hs0,hs1,hs2,hs3,hs4⟩:=hSw;go_simp<;>with_reducible rfl));try simp only [Act.put,lzA,lzB,lzC,lzD,lzE,lzF])
 refine tEc ?_
 refine bOc 11 (by kernel_rfl) rfl ?_
 intro K HK
 refine wanted_go rfl ?_
 try simp only [lzA,lzB,lzC]
 refine wp_store_part (.tmp 39) (.tmp 31) (new:=#[.slice al2 hd2.log.length cl2,.int .i64 hd2.boot,.int .i64 hd2.next,.slice ao2 hd2.opn.length co2,.slice ah x.houses.length ch,.slice an x.net.length cn]) rfl rfl rfl HB5.o.row info_hd (by simp) (by rfl) (by rfl) ?_
 intro W6 r6 g6
 have HB6:=η (HB5.o.putH g6 r6 (HX3.o.mono (fr_grow G5.o)))
 have HLB:Hid (B<wd.heap.size):=η HB4.o.lt
 have R6:=η r6
 have S6:Hid (W.heap.size≤W6.heap.size):=η (by have:=HS3.o;have:=G5.o.size;have:=g6.size;omega)
 have HN6:Hid (Nts (fr w W6 (wro B (.slice ah x.houses.length ch))) (.slice a5 (sendA x.net ms).length c5) ((sendA x.net ms).map bytesM)):=η (by
  have h9:=((OwnC.ovn (by decide) HO5.o).mono HB4.o.new).mono (HB5.o.keeps g6)
  rw [send_map] at h9
  exact h9)
 have RH6:=η (row_by (row_grow RH3.o G5.o) g6 (fun e=>HNB.o (Option.some.inj e)))
 clear r6 g6
 refine HK.o _ _ ⟨.inr (by obtain⟨n0,n1,n2,n3⟩:=cells4 RH6.o;obtain⟨-,-,-,-,-,q5⟩:=cells6 R6.o;exact⟨n0,n1,n2,n3,q5⟩),?_⟩
 clear HK K
 try simp only [Act.put]
 refine bLc [12,13] 17 (by kernel_rfl) (fun _ _ _ _ _ h=>h) (by obtain⟨n0,n1,n2,n3⟩:=cells4 RH6.o;obtain⟨-,-,-,-,-,q5⟩:=cells6 R6.o;exact⟨n0,n1,n2,n3,q5⟩) ?_
 repeat (refine tNc (v:=?_) rfl (by rfl) ?_ ?_;rotate_left;(· (intro w' hSw;(try dsimp only at hSw);obtain⟨hs0,hs1,hs2,hs3,hs4⟩:=hSw;go_simp<;>with_reducible rfl));try simp only [Act.put,lzA,lzB,lzC,lzD,lzE,lzF])
 refine tEc ?_
 refine bOc 14 (by kernel_rfl) rfl ?_
 intro K HK
 refine wanted_go rfl ?_
 try simp only [lzA,lzB,lzC]
 refine wp_store_cell (.tmp 41) (.tmp 37) (v:=.slice a5 (sendA x.net ms).length c5) (new:=#[.slice al2 hd2.log.length cl2,.int .i64 hd2.boot,.int .i64 hd2.next,.slice ao2 hd2.opn.length co2,.slice ah x.houses.length ch,.slice a5 (sendA x.net ms).length c5]) rfl rfl (by rfl) (by rfl) R6.o info_bss (by simp) (by rfl) (by rfl) ?_
 intro W7 r7 g7
 have HB7:=η (HB6.o.putN g7 r7 HN6.o)
 have S7:Hid (W.heap.size≤W7.heap.size):=η (by have:=S6.o;have:=g7.size;omega)
 clear r7 g7
 refine HK.o _ _ ⟨.inl (by decide),?_⟩
 clear HK K
 try simp only [Act.put]
 refine bDc (by kernel_rfl) ?_
 go_wp2
 go_ret
 exact⟨ret_int HQ3.o.symm,_,_,_,by rw [HQ1.o,HQ2.o];exact HB7.o,S7.o⟩
set_option maxRecDepth 100000 in
set_option maxHeartbeats 4000000 in
theorem world_fall {w W:World} {B k:Nat} {vl vo vh vn:Value} {x:AW} {sn:Int} (sp:List Pt) (hb:WBox w W B vl vo vh vn x) (hk:WK k x):
  Calls Tryz.prog 40 #[.pointer (some ⟨B,0,none⟩),.int .i64 sn] W fun e W'=>e=.returned (.int .i64 (doErr x ⟨5,sn,sp⟩))∧SP w W B vh (doA x ⟨5,sn,sp⟩) W':=by
 obtain⟨al,cl,ao,co,ah,ch,an,cn,rfl,rfl,rfl,rfl⟩:=hb.form
 obtain⟨n,G,hwi⟩:=hk.wi
 have HWI:=η hwi
 have HBX:=η hb
 have HWK:=η hk
 have hl3:=hk.len3
 have hn24:x.net.length≤24:=hwi.len
 have HLN:Hid (x.houses.length=n):=η hwi.core.len
 clear hb hk hwi
 rw [doErr5,doA5]
 by_cases h3:sn=3
 ·rw [if_pos h3,if_pos h3]
  have t3:(sn==3)=true:=by simp [h3]
  clear h3
  go_enter Tryz.func40,Tryz.ntmps40
  obtain⟨b0,b1,b2,b3,b4,b5⟩:=cells6 HBX.o.row
  have zB:B<W.heap.size:=HBX.o.lt
  go_wp2_with fail
  refine(whead_fall W HBX.o.headR HWK.o.hdok HWK.o.hdinv.logp).mono ?_
  rintro e W1 ⟨v1,rfl,hx1,hb1⟩
  have HX1:=η (hx1.mono HBX.o.new)
  have HB1:=η (HBX.o.later hb1)
  have HS1:=η hb1.size
  clear hx1 hb1 b0 b1 b2 b3 b4 b5 zB t3
  generalize hq1:fallH x.head=hd2 at*
  generalize hq2:fallE x.head=fe at*
  have HQ1:=η hq1
  have HQ2:=η hq2
  clear hq1 hq2
  obtain⟨al2,cl2,ao2,co2,rfl⟩:=HX1.o.hd_form
  obtain⟨W3,hW3⟩:∃zq:World,zq=W1.alloc (.cells #[.slice al2 hd2.log.length cl2,.int .i64 hd2.boot,.int .i64 hd2.next,.slice ao2 hd2.opn.length co2] 35):=⟨_,rfl⟩
  obtain⟨BH,hBH⟩:∃zq,zq=W1.heap.size:=⟨_,rfl⟩
  have G23:Hid (Grow W1 W3):=η (by rw [hW3];exact(Grow.refl _).alloc _)
  have RH3:Hid (W3.heap[BH]? =some (.cells #[.slice al2 hd2.log.length cl2,.int .i64 hd2.boot,.int .i64 hd2.next,.slice ao2 hd2.opn.length co2] 35 (0,0))):=η (by rw [hW3,hBH];exact row_new _ _)
  go_upto_region 3 with fail
  rw [←hW3,←hBH]
  clear hW3 hBH
  have HB3:=η (HB1.o.later G23.o)
  have HX3:=η (HX1.o.mono (fr_grow G23.o))
  have HS3:Hid (W.heap.size≤W3.heap.size):=η (by have:=HS1.o;have:=G23.o.size;omega)
  obtain⟨n0,n1,n2,n3⟩:=cells4 RH3.o
  have zH:BH<W3.heap.size:=(γ RH3.o)
  go_wp2_with (first|(refine wpList_store_part rfl (.tmp 21) (.tmp 19) (new:=#[.slice al2 hd2.log.length cl2,.int .i64 hd2.boot,.int .i64 hd2.next,.slice ao2 hd2.opn.length co2,.slice ah x.houses.length ch,.slice an x.net.length cn]) rfl rfl rfl HB3.o.row info_hd (by simp) (by rfl) (by rfl) ?_))
  intro W4 r4 g4
  have HB4:=η (HB3.o.putH g4 r4 HX3.o)
  have HS4:Hid (W.heap.size≤W4.heap.size):=η (by have:=HS3.o;have:=g4.size;omega)
  clear r4 g4 n0 n1 n2 n3 zH
  go_wp2
  go_ret
  exact⟨ret_int HQ2.o.symm,_,_,_,by rw [HQ1.o];exact HB4.o,HS4.o⟩
 have t3:(sn==3)=false:=by simp [h3]
 rw [if_neg h3,if_neg h3]
 clear h3
 by_cases hh:hereN x sn=true
 rotate_left
 ·have hn:¬(0≤sn∧sn<x.houses.length):=fun e=>hh (by unfold hereN;exact decide_eq_true e)
  rw [if_neg hh]
  clear hh
  go_enter Tryz.func40,Tryz.ntmps40
  obtain⟨b0,b1,b2,b3,b4,b5⟩:=cells6 HBX.o.row
  have zB:B<W.heap.size:=HBX.o.lt
  by_cases h0:sn<0
  ·clear hn
   go_wp2
   go_ret
   exact⟨rfl,_,_,_,HBX.o,Nat.le_refl _⟩
  ·have h1:(x.houses.length:Int)≤sn:=by omega
   clear hn
   go_wp2
   go_ret
   exact⟨rfl,_,_,_,HBX.o,Nat.le_refl _⟩
 rw [if_pos hh]
 have hn:0≤sn∧sn<x.houses.length:=of_decide_eq_true hh
 obtain⟨j,rfl⟩:∃j:Nat,sn=(j:Int):=⟨sn.toNat,by omega⟩
 have hlt:j<x.houses.length:=by omega
 have hz0:¬(j:Int)<0:=by omega
 have hz1:¬(x.houses.length:Int)≤(j:Int):=by omega
 have hz2:(j:Int)<(x.houses.length:Int):=by omega
 have HHO:=η (HWK.o.hs (List.getElem?_eq_getElem hlt))
 obtain⟨gh,cs0,rfl,hRh,hAh⟩:=HBX.o.hs.get (by decide) j hlt
 obtain⟨il,jl,ir,jr,id9,jd,rfl⟩:=hs_cells hRh
 have HRH:=η hRh
 have HAH:=η hAh
 clear hRh hAh
 obtain⟨h,hh9⟩:∃q,q=x.houses[j]:=⟨_,rfl⟩
 rw [←hh9] at HHO HRH HAH
 have HJ2:Hid (x.houses[j]? =some h):=η (by rw [hh9];exact List.getElem?_eq_getElem hlt)
 clear hh9
 clear hh hn
 go_enter Tryz.func40,Tryz.ntmps40
 obtain⟨b0,b1,b2,b3,b4,b5⟩:=cells6 HBX.o.row
 have zB:B<W.heap.size:=HBX.o.lt
 go_upto_region 7 with fail
 clear b0 b1 b2 b3 b4 b5 zB
 have HS:Hid (∀W',Grow W W'→W'.cell? ⟨B,4,none⟩=some (.slice (some ⟨gh,0,none⟩) x.houses.length ch)∧W'.cell? ⟨gh,j*7,none⟩=some (.slice il h.log.length jl)):=fun W' hW=>by
  obtain⟨-,-,-,-,q4,-⟩:=cells6 (row_grow HBX.o.row hW)
  exact⟨q4,by have h9:=HAH.o 0 _ rfl;simp only [show Ty.hs.size=7 from rfl,Nat.add_zero] at h9;exact hW.sub _ _ h9⟩
 refine bSc (fun w'=>w'.cell? ⟨B,4,none⟩=some (.slice (some ⟨gh,0,none⟩) x.houses.length ch)∧w'.cell? ⟨gh,j*7,none⟩=some (.slice il h.log.length jl)) [15] (by kernel_rfl) ?_
 intro wd GD zD
 have ZD:=η zD
 clear zD
 refine bLc [0,1,2,3,4,5,6,7,8,9,10,11,12] 18 (by kernel_rfl) (fun _ _ _ _ _ h=>h) (HS.o _ GD) ?_
 repeat (refine tNc (v:=?_) rfl (by rfl) ?_ ?_;rotate_left;(· (intro w' hSw;(try dsimp only at hSw);obtain⟨hs0,hs1⟩:=hSw;go_simp<;>with_reducible rfl));try simp only [Act.put,lzA,lzB,lzC,lzD,lzE,lzF])
 refine tEc ?_
 refine bOc 13 (by kernel_rfl) rfl ?_
 intro K HK
 try simp only [lzA,lzB,lzC]
 go_simp
 go_at_call 35
 refine(wlog_house wd (l:=h.log) (by obtain⟨v1,v2,v3,he,hr,-⟩:=HRH.o;cases he;exact hr.mono ((fr_sub _ _ _).trans (Grow.sub GD))) HHO.o.keys (by have:=HHO.o.len;have:=HWK.o.le;omega) HHO.o.parts).mono ?_
 rintro e W5 ⟨v5,rfl,ho5,hb5⟩
 rw [←show h=houseR h.log from HHO.o.made] at ho5
 obtain⟨il2,jl2,ir2,jr2,id2,jd2,rfl⟩:=ho5.hs_form
 have HBD:=η (HBX.o.later GD)
 have HO5:=η (ho5.mono HBD.o.new)
 have G5:=η (Grow.trans GD hb5)
 have HB5:=η (HBD.o.later hb5)
 clear ho5 hb5
 refine HK.o _ _ ⟨.inr (HS.o _ G5.o),?_⟩
 clear HK K
 try simp only [Act.put,lzA,lzB,lzC,lzD,lzE,lzF]
 refine bLc [14] 18 (by kernel_rfl) (fun _ _ _ _ _ h=>h) (HS.o _ G5.o) ?_
 repeat (refine tNc (v:=?_) rfl (by rfl) ?_ ?_;rotate_left;(· (intro w' hSw;(try dsimp only at hSw);obtain⟨hs0,hs1⟩:=hSw;go_simp<;>with_reducible rfl));try simp only [Act.put,lzA,lzB,lzC,lzD,lzE,lzF])
 refine tEc ?_
 refine bOc 15 (by kernel_rfl) rfl ?_
 intro K HK
 refine wanted_go rfl ?_
 try simp only [lzA,lzB,lzC]
 refine wp_store_el (.tmp 49) (.tmp 48) (i:=j) (x:=h) rfl rfl rfl (by rfl) HB5.o.hs hlt info_hs (by obtain⟨cs9,he9,hR9⟩:=HO5.o;cases he9;exact hR9) (by rfl) ?_
 intro W6 ho6 g6
 have HB6:=η (HB5.o.putK g6 (ho6.same HJ2.o))
 have S6:Hid (W.heap.size≤W6.heap.size):=η (by have:=G5.o.size;have:=g6.size;omega)
 clear ho6 g6
 refine HK.o _ _ ⟨.inl (by decide),?_⟩
 clear HK K
 try simp only [Act.put]
 refine bDc (by kernel_rfl) ?_
 go_wp2
 go_ret
 exact⟨rfl,_,_,_,HB6.o,S6.o⟩
set_option maxRecDepth 100000 in
set_option maxHeartbeats 4000000 in
theorem world_tick {w W:World} {B k:Nat} {vl vo vh vn:Value} {x:AW} {sn:Int} (sp:List Pt) (hb:WBox w W B vl vo vh vn x) (hk:WK k x):
  Calls Tryz.prog 41 #[.pointer (some ⟨B,0,none⟩),.int .i64 sn] W fun e W'=>e=.returned (.int .i64 (doErr x ⟨6,sn,sp⟩))∧SP w W B vh (doA x ⟨6,sn,sp⟩) W':=by
 obtain⟨al,cl,ao,co,ah,ch,an,cn,rfl,rfl,rfl,rfl⟩:=hb.form
 obtain⟨n,G,hwi⟩:=hk.wi
 have HWI:=η hwi
 have HBX:=η hb
 have HWK:=η hk
 have hl3:=hk.len3
 have hn24:x.net.length≤24:=hwi.len
 have HLN:Hid (x.houses.length=n):=η hwi.core.len
 clear hb hk hwi
 rw [doErr6,doA6]
 by_cases h3:sn=3
 ·rw [if_pos (.inl h3),if_pos (.inl h3)]
  have HT:Hid (tickA x sn.toNat={ x with net:=sendA x.net (tickE x.head) }):=η (by rw [h3];rfl)
  have HSY:Hid (∀q∈tickE x.head,wrongM q=0):=η (WI.says (tickE_ok HWI.o.core))
  have t3:(sn==3)=true:=by simp [h3]
  rw [HT.o]
  clear h3 HT
  have HB3:=η HBX.o
  have HS:Hid (∀W',Grow W W'→W'.cell? ⟨B,0,none⟩=some (.slice al x.head.log.length cl)∧W'.cell? ⟨B,1,none⟩=some (.int .i64 x.head.boot)∧W'.cell? ⟨B,2,none⟩=some (.int .i64 x.head.next)∧W'.cell? ⟨B,3,none⟩=some (.slice ao x.head.opn.length co)∧W'.cell? ⟨B,5,none⟩=some (.slice an x.net.length cn)):=fun W' hW=>by
   obtain⟨q0,q1,q2,q3,-,q5⟩:=cells6 (row_grow HBX.o.row hW)
   exact⟨q0,q1,q2,q3,q5⟩
  go_enter Tryz.func41,Tryz.ntmps41
  go_upto_region 3 with fail
  clear t3
  refine bSc (fun w'=>w'.cell? ⟨B,0,none⟩=some (.slice al x.head.log.length cl)∧w'.cell? ⟨B,1,none⟩=some (.int .i64 x.head.boot)∧w'.cell? ⟨B,2,none⟩=some (.int .i64 x.head.next)∧w'.cell? ⟨B,3,none⟩=some (.slice ao x.head.opn.length co)∧w'.cell? ⟨B,5,none⟩=some (.slice an x.net.length cn)) [13] (by kernel_rfl) ?_
  intro wd GD zD
  have ZD:=η zD
  clear zD
  refine bLc [0,1,2,3,4,5,6,7,8] 16 (by kernel_rfl) (fun _ _ _ _ _ h=>h) (HS.o _ GD) ?_
  repeat (refine tNc (v:=?_) rfl (by rfl) ?_ ?_;rotate_left;(· (intro w' hSw;(try dsimp only at hSw);obtain⟨hs0,hs1,hs2,hs3,hs4⟩:=hSw;go_simp<;>with_reducible rfl));try simp only [Act.put,lzA,lzB,lzC,lzD,lzE,lzF])
  refine tEc ?_
  refine bOc 9 (by kernel_rfl) rfl ?_
  intro K HK
  try simp only [lzA,lzB,lzC]
  go_simp
  go_at_call 74
  refine(whead_tick wd (Of.mono (Grow.sub GD) HBX.o.headR) HWK.o.hdok HWK.o.hdinv.parts).mono ?_
  rintro e W4 ⟨v4,rfl,ho4,hb4⟩
  obtain⟨asl,cs,rfl⟩:=ho4.form
  have HM4:=η ((OwnC.ovn (by decide) ho4).mono (ov_none_sub _ _))
  have G4:=η (Grow.trans GD hb4)
  clear ho4 hb4
  refine HK.o _ _ ⟨.inr (HS.o _ G4.o),?_⟩
  clear HK K
  try simp only [Act.put,lzA,lzB,lzC,lzD,lzE,lzF]
  refine bOc 10 (by kernel_rfl) rfl ?_
  intro K HK
  try simp only [lzA,lzB,lzC]
  go_simp
  go_at_call 43
  refine(net_send (l:=x.net.map bytesM) (ms:=(tickE x.head)) W4 (Sl.mono (fr_sub _ _ _) (HB3.o.later G4.o).net) HM4.o HSY.o (by rw [List.length_map];omega) (fun b hb=>by
   obtain⟨q,hq,rfl⟩:=List.mem_map.1 hb
   have:=bytesM_le (HWI.o.right q hq)
   omega)).mono ?_
  rintro e W5 ⟨v5,rfl,ho5,hb5⟩
  obtain⟨a5,c5,hv5⟩:=ho5.form
  rw [show(sendB (x.net.map bytesM) (tickE x.head)).length=(sendA x.net (tickE x.head)).length by rw [send_map,List.length_map]] at hv5
  subst hv5
  have HB4:=η (HB3.o.later G4.o)
  have HO5:=η ho5
  have GS5:=η hb5
  have G5:=η (Grow.trans G4.o hb5)
  have HB5:=η (HB4.o.later hb5)
  clear ho5 hb5
  refine HK.o _ _ ⟨.inr (HS.o _ G5.o),?_⟩
  clear HK K
  try simp only [Act.put,lzA,lzB,lzC,lzD,lzE,lzF]
  refine bLc [11,12] 16 (by kernel_rfl) (fun _ _ _ _ _ h=>h) (HS.o _ G5.o) ?_
  repeat (refine tNc (v:=?_) rfl (by rfl) ?_ ?_;rotate_left;(· (intro w' hSw;(try dsimp only at hSw);obtain⟨hs0,hs1,hs2,hs3,hs4⟩:=hSw;go_simp<;>with_reducible rfl));try simp only [Act.put,lzA,lzB,lzC,lzD,lzE,lzF])
  refine tEc ?_
  refine bOc 13 (by kernel_rfl) rfl ?_
  intro K HK
  refine wanted_go rfl ?_
  try simp only [lzA,lzB,lzC]
  refine wp_store_cell (.tmp 37) (.tmp 35) (v:=.slice a5 (sendA x.net (tickE x.head)).length c5) (new:=#[.slice al x.head.log.length cl,.int .i64 x.head.boot,.int .i64 x.head.next,.slice ao x.head.opn.length co,.slice ah x.houses.length ch,.slice a5 (sendA x.net (tickE x.head)).length c5]) rfl rfl (by rfl) (by rfl) HB5.o.row info_bss (by simp) (by rfl) (by rfl) ?_
  intro W7 r7 g7
  have HB7:=η (HB4.o.sent HO5.o GS5.o g7 r7)
  have S7:Hid (W.heap.size≤W7.heap.size):=η (by have:=G5.o.size;have:=g7.size;omega)
  clear r7 g7
  refine HK.o _ _ ⟨.inl (by decide),?_⟩
  clear HK K
  try simp only [Act.put]
  refine bDc (by kernel_rfl) ?_
  go_wp2
  go_ret
  exact⟨rfl,_,_,_,HB7.o,S7.o⟩
 have t3:(sn==3)=false:=by simp [h3]
 by_cases hh:hereN x sn=true
 rotate_left
 ·have hn:¬(0≤sn∧sn<x.houses.length):=fun e=>hh (by unfold hereN;exact decide_eq_true e)
  rw [if_neg (by rintro(e|e);exact h3 e;exact hh e),if_neg (by rintro(e|e);exact h3 e;exact hh e)]
  clear hh h3
  go_enter Tryz.func41,Tryz.ntmps41
  obtain⟨b0,b1,b2,b3,b4,b5⟩:=cells6 HBX.o.row
  have zB:B<W.heap.size:=HBX.o.lt
  by_cases h0:sn<0
  ·clear hn
   go_wp2
   go_ret
   exact⟨rfl,_,_,_,HBX.o,Nat.le_refl _⟩
  ·have h1:(x.houses.length:Int)≤sn:=by omega
   clear hn
   go_wp2
   go_ret
   exact⟨rfl,_,_,_,HBX.o,Nat.le_refl _⟩
 rw [if_pos (.inr hh),if_pos (.inr hh)]
 have hn:0≤sn∧sn<x.houses.length:=of_decide_eq_true hh
 obtain⟨j,rfl⟩:∃j:Nat,sn=(j:Int):=⟨sn.toNat,by omega⟩
 have hlt:j<x.houses.length:=by omega
 have hz0:¬(j:Int)<0:=by omega
 have hz1:¬(x.houses.length:Int)≤(j:Int):=by omega
 have hz2:(j:Int)<(x.houses.length:Int):=by omega
 have HHO:=η (HWK.o.hs (List.getElem?_eq_getElem hlt))
 obtain⟨gh,cs0,rfl,hRh,hAh⟩:=HBX.o.hs.get (by decide) j hlt
 obtain⟨il,jl,ir,jr,id9,jd,rfl⟩:=hs_cells hRh
 have HRH:=η hRh
 have HAH:=η hAh
 clear hRh hAh
 obtain⟨h,hh9⟩:∃q,q=x.houses[j]:=⟨_,rfl⟩
 rw [←hh9] at HHO HRH HAH
 have HJ2:Hid (x.houses[j]? =some h):=η (by rw [hh9];exact List.getElem?_eq_getElem hlt)
 clear hh9
 have HT:Hid (tickA x ((j:Int)).toNat={ x with net:=sendA x.net (hTickE h j) }):=η (by
  unfold tickA
  rw [if_neg (by omega)]
  simp only [Int.toNat_natCast]
  rw [HJ2.o])
 have HSY:Hid (∀q∈hTickE h j,wrongM q=0):=η (WI.says (ticks_ok HWI.o.core HJ2.o))
 rw [HT.o]
 clear hh hn h3 HT
 have HB3:=η HBX.o
 have HS:Hid (∀W',Grow W W'→W'.cell? ⟨B,4,none⟩=some (.slice (some ⟨gh,0,none⟩) x.houses.length ch)∧W'.cell? ⟨B,5,none⟩=some (.slice an x.net.length cn)∧W'.cell? ⟨gh,j*7,none⟩=some (.slice il h.log.length jl)∧W'.cell? ⟨gh,j*7+1,none⟩=some (.int .i64 h.sums.a)∧W'.cell? ⟨gh,j*7+2,none⟩=some (.int .i64 h.sums.b)∧W'.cell? ⟨gh,j*7+3,none⟩=some (.int .i64 h.sums.c)∧W'.cell? ⟨gh,j*7+4,none⟩=some (.int .i64 h.sums.d)∧W'.cell? ⟨gh,j*7+5,none⟩=some (.slice ir h.ready.length jr)∧W'.cell? ⟨gh,j*7+6,none⟩=some (.slice id9 h.done.length jd)):=fun W' hW=>by
  obtain⟨-,-,-,-,q4,q5⟩:=cells6 (row_grow HBX.o.row hW)
  exact⟨q4,q5,by have h9:=HAH.o 0 _ rfl;simp only [show Ty.hs.size=7 from rfl,Nat.add_zero] at h9;exact hW.sub _ _ h9,by have h9:=HAH.o 1 _ rfl;simp only [show Ty.hs.size=7 from rfl] at h9;exact hW.sub _ _ h9,by have h9:=HAH.o 2 _ rfl;simp only [show Ty.hs.size=7 from rfl] at h9;exact hW.sub _ _ h9,by have h9:=HAH.o 3 _ rfl;simp only [show Ty.hs.size=7 from rfl] at h9;exact hW.sub _ _ h9,by have h9:=HAH.o 4 _ rfl;simp only [show Ty.hs.size=7 from rfl] at h9;exact hW.sub _ _ h9,by have h9:=HAH.o 5 _ rfl;simp only [show Ty.hs.size=7 from rfl] at h9;exact hW.sub _ _ h9,by have h9:=HAH.o 6 _ rfl;simp only [show Ty.hs.size=7 from rfl] at h9;exact hW.sub _ _ h9⟩
 go_enter Tryz.func41,Tryz.ntmps41
 obtain⟨b0,b1,b2,b3,b4,b5⟩:=cells6 HBX.o.row
 have zB:B<W.heap.size:=HBX.o.lt
 go_upto_region 1 with fail
 clear b0 b1 b2 b3 b4 b5 zB t3
 refine bSc (fun w'=>w'.cell? ⟨B,4,none⟩=some (.slice (some ⟨gh,0,none⟩) x.houses.length ch)∧w'.cell? ⟨B,5,none⟩=some (.slice an x.net.length cn)∧w'.cell? ⟨gh,j*7,none⟩=some (.slice il h.log.length jl)∧w'.cell? ⟨gh,j*7+1,none⟩=some (.int .i64 h.sums.a)∧w'.cell? ⟨gh,j*7+2,none⟩=some (.int .i64 h.sums.b)∧w'.cell? ⟨gh,j*7+3,none⟩=some (.int .i64 h.sums.c)∧w'.cell? ⟨gh,j*7+4,none⟩=some (.int .i64 h.sums.d)∧w'.cell? ⟨gh,j*7+5,none⟩=some (.slice ir h.ready.length jr)∧w'.cell? ⟨gh,j*7+6,none⟩=some (.slice id9 h.done.length jd)) [17] (by kernel_rfl) ?_
 intro wd GD zD
 have ZD:=η zD
 clear zD
 refine bLc [0,1,2,3,4,5,6,7,8,9,10,11,12] 20 (by kernel_rfl) (fun _ _ _ _ _ h=>h) (HS.o _ GD) ?_
 repeat (refine tNc (v:=?_) rfl (by rfl) ?_ ?_;rotate_left;(· (intro w' hSw;(try dsimp only at hSw);obtain⟨hs0,hs1,hs2,hs3,hs4,hs5,hs6,hs7,hs8⟩:=hSw;go_simp<;>with_reducible rfl));try simp only [Act.put,lzA,lzB,lzC,lzD,lzE,lzF])
 refine tEc ?_
 refine bOc 13 (by kernel_rfl) rfl ?_
 intro K HK
 try simp only [lzA,lzB,lzC]
 go_simp
 go_at_call 75
 refine(house_tick (h:=h) (me:=(j:Int)) wd ⟨_,rfl,Ty.hs.mono ((fr_sub _ _ _).trans (Grow.sub GD)) HRH.o⟩ (i64_of (by omega) (by omega)) (by have:=HHO.o.ready;omega)).mono ?_
 rintro e W4 ⟨v4,rfl,ho4,hb4⟩
 obtain⟨asl,cs,rfl⟩:=ho4.form
 have HM4:=η (OwnC.sl (by decide) (fun _ _ e=>by cases e) ho4)
 have G4:=η (Grow.trans GD hb4)
 clear ho4 hb4
 refine HK.o _ _ ⟨.inr (HS.o _ G4.o),?_⟩
 clear HK K
 try simp only [Act.put,lzA,lzB,lzC,lzD,lzE,lzF]
 refine bOc 14 (by kernel_rfl) rfl ?_
 intro K HK
 try simp only [lzA,lzB,lzC]
 go_simp
 go_at_call 43
 refine(net_send (l:=x.net.map bytesM) (ms:=(hTickE h j)) W4 (Sl.mono (fr_sub _ _ _) (HB3.o.later G4.o).net) HM4.o HSY.o (by rw [List.length_map];omega) (fun b hb=>by
  obtain⟨q,hq,rfl⟩:=List.mem_map.1 hb
  have:=bytesM_le (HWI.o.right q hq)
  omega)).mono ?_
 rintro e W5 ⟨v5,rfl,ho5,hb5⟩
 obtain⟨a5,c5,hv5⟩:=ho5.form
 rw [show(sendB (x.net.map bytesM) (hTickE h j)).length=(sendA x.net (hTickE h j)).length by rw [send_map,List.length_map]] at hv5
 subst hv5
 have HB4:=η (HB3.o.later G4.o)
 have HO5:=η ho5
 have GS5:=η hb5
 have G5:=η (Grow.trans G4.o hb5)
 have HB5:=η (HB4.o.later hb5)
 clear ho5 hb5
 refine HK.o _ _ ⟨.inr (HS.o _ G5.o),?_⟩
 clear HK K
 try simp only [Act.put,lzA,lzB,lzC,lzD,lzE,lzF]
 refine bLc [15,16] 20 (by kernel_rfl) (fun _ _ _ _ _ h=>h) (HS.o _ G5.o) ?_
 repeat (refine tNc (v:=?_) rfl (by rfl) ?_ ?_;rotate_left;(· (intro w' hSw;(try dsimp only at hSw);obtain⟨hs0,hs1,hs2,hs3,hs4,hs5,hs6,hs7,hs8⟩:=hSw;go_simp<;>with_reducible rfl));try simp only [Act.put,lzA,lzB,lzC,lzD,lzE,lzF])
 refine tEc ?_
 refine bOc 17 (by kernel_rfl) rfl ?_
 intro K HK
 refine wanted_go rfl ?_
 try simp only [lzA,lzB,lzC]
 refine wp_store_cell (.tmp 21) (.tmp 19) (v:=.slice a5 (sendA x.net (hTickE h j)).length c5) (new:=#[.slice al x.head.log.length cl,.int .i64 x.head.boot,.int .i64 x.head.next,.slice ao x.head.opn.length co,.slice (some ⟨gh,0,none⟩) x.houses.length ch,.slice a5 (sendA x.net (hTickE h j)).length c5]) rfl rfl (by rfl) (by rfl) HB5.o.row info_bss (by simp) (by rfl) (by rfl) ?_
 intro W7 r7 g7
 have HB7:=η (HB4.o.sent HO5.o GS5.o g7 r7)
 have S7:Hid (W.heap.size≤W7.heap.size):=η (by have:=G5.o.size;have:=g7.size;omega)
 clear r7 g7
 refine HK.o _ _ ⟨.inl (by decide),?_⟩
 clear HK K
 try simp only [Act.put]
 refine bDc (by kernel_rfl) ?_
 go_wp2
 go_ret
 exact⟨rfl,_,_,_,HB7.o,S7.o⟩
theorem doErr3 (x:AW) (sn:Int) (sp:List Pt):doErr x ⟨3,sn,sp⟩=if there x sn=true then 0 else 6:=by unfold doErr;simp
theorem doA3 (x:AW) (sn:Int) (sp:List Pt):doA x ⟨3,sn,sp⟩=if there x sn=true then { x with net:=x.net.eraseIdx sn.toNat } else x:=by unfold doA;simp
theorem doErr4 (x:AW) (sn:Int) (sp:List Pt):doErr x ⟨4,sn,sp⟩=if there x sn=true then 0 else 6:=by unfold doErr;simp
theorem doA4 (x:AW) (sn:Int) (sp:List Pt):doA x ⟨4,sn,sp⟩=if there x sn=true∧x.net.length<24 then { x with net:=x.net++ [x.net.getD sn.toNat ⟨0,0,0,[]⟩] } else x:=by unfold doA;simp
theorem doErr7 (x:AW) (sn:Int) (sp:List Pt):doErr x ⟨7,sn,sp⟩=0:=by unfold doErr;simp
theorem doA7 (x:AW) (sn:Int) (sp:List Pt):doA x ⟨7,sn,sp⟩={ x with head:=quitH x.head,net:=sendA x.net (quitM x.head) }:=by unfold doA;simp
theorem doErr0 (x:AW) {kd:Int} (sn:Int) (sp:List Pt) (h:kd≠1∧kd≠2∧kd≠3∧kd≠4∧kd≠5∧kd≠6∧kd≠7):doErr x ⟨kd,sn,sp⟩=1∧doA x ⟨kd,sn,sp⟩=x:=by
 obtain⟨h1,h2,h3,h4,h5,h6,h7⟩:=h
 unfold doErr doA
 simp [h1,h2,h3,h4,h5,h6,h7]
theorem twice_map (x:AW) (sn:Int) (sp:List Pt):twiceB (x.net.map bytesM) sn=((doA x ⟨4,sn,sp⟩).net.map bytesM,doErr x ⟨4,sn,sp⟩)∧(doA x ⟨4,sn,sp⟩)={ x with net:=(doA x ⟨4,sn,sp⟩).net }:=by
 rw [doA4,doErr4]
 unfold twiceB
 rw [List.length_map]
 by_cases h:there x sn=true
 ·have hh:0≤sn∧sn<x.net.length:=of_decide_eq_true h
  have hlt:sn.toNat<x.net.length:=by omega
  rw [if_pos hh,if_pos h]
  by_cases h2:x.net.length<24
  ·rw [if_pos h2,if_pos ⟨h,h2⟩]
   refine⟨?_,rfl⟩
   rw [List.getD_eq_getElem?_getD,List.getElem?_map,List.getElem?_eq_getElem hlt,List.getD_eq_getElem?_getD,List.getElem?_eq_getElem hlt]
   simp
  ·rw [if_neg h2,if_neg (fun e=>h2 e.2)]
   exact⟨rfl,rfl⟩
 ·have hh:¬(0≤sn∧sn<x.net.length):=fun e=>h (decide_eq_true e)
  rw [if_neg hh,if_neg h,if_neg (fun e=>h e.1)]
  exact⟨rfl,rfl⟩
set_option maxRecDepth 100000 in
set_option maxHeartbeats 8000000 in
theorem world_do {v vs:Value} {x:AW} {s:St} {k:Nat} (w:World) (hv:Of Ty.wd w.cell? v x) (hs:Of Ty.st w.cell? vs s) (hk:WK k x):
  Calls Tryz.prog 24 #[v,vs] w fun e w'=>∃v',e=.returned (.tuple #[v',.int .i64 (doErr x s)])∧Of Ty.wd (ov (fun _=>none) w w') v' (doA x s)∧Grow w w':=by
 obtain⟨kd,sn,sp⟩:=s
 have HOW:=η (fun(W:World) (hW:Grow w W)=>world_own W (hv.mono hW.sub) hk)
 obtain⟨al,cl,ao,co,ah,ch,an,cn,rfl⟩:=hv.wd_form
 obtain⟨ap,cp,rfl⟩:=hs.st_form
 have HSP:=η hs.st_parts.2
 have HWK:=η hk
 obtain⟨n,G,hwi⟩:=hk.wi
 have hn24:x.net.length≤24:=hwi.len
 have HWI:=η hwi
 clear hv hs hk hwi
 obtain⟨wa,hwa⟩:∃y:World,y=w.alloc (.cells #[.slice al x.head.log.length cl,.int .i64 x.head.boot,.int .i64 x.head.next,.slice ao x.head.opn.length co,.slice ah x.houses.length ch,.slice an x.net.length cn] 39):=⟨_,rfl⟩
 obtain⟨wb,hwb⟩:∃y:World,y=wa.alloc (.cells #[.int .i64 kd,.int .i64 sn,.slice ap sp.length cp] 28):=⟨_,rfl⟩
 obtain⟨wz,hwz⟩:∃y:World,y=wb.alloc (.cells #[.slice none 0 0,.int .i64 0,.int .i64 0,.slice none 0 0,.slice none 0 0,.slice none 0 0] 39):=⟨_,rfl⟩
 have hsa:wa.heap.size=w.heap.size+1:=by rw [hwa];simp
 have hsb:wb.heap.size=w.heap.size+2:=by rw [hwb];simp [hsa]
 have R2:Hid (wz.heap[w.heap.size]? =some (.cells #[.slice al x.head.log.length cl,.int .i64 x.head.boot,.int .i64 x.head.next,.slice ao x.head.opn.length co,.slice ah x.houses.length ch,.slice an x.net.length cn] 39 (0,0))):=η (by rw [hwz,hwb,hwa];exact heap_later (heap_later (row_new _ _) _) _)
 have R3:Hid (wz.heap[w.heap.size+1]? =some (.cells #[.int .i64 kd,.int .i64 sn,.slice ap sp.length cp] 28 (0,0))):=η (by rw [hwz,hwb,←hsa];exact heap_later (row_new _ _) _)
 have R4:Hid (wz.heap[w.heap.size+2]? =some (.cells #[.slice none 0 0,.int .i64 0,.int .i64 0,.slice none 0 0,.slice none 0 0,.slice none 0 0] 39 (0,0))):=η (by rw [hwz,←hsb];exact row_new _ _)
 have G1:Hid (Grow w wz):=η (by rw [hwz,hwb,hwa];exact(((Grow.refl w).alloc _).alloc _).alloc _)
 have HZ:Hid (wz.heap.size=w.heap.size+3):=η (by rw [hwz];simp [hsb])
 go_enter Tryz.func24,Tryz.ntmps24
 go_upto_region 1 with fail
 rw [←hwa]
 try rw [hsa]
 rw [←hwb]
 try rw [hsb]
 rw [←hwz]
 clear hwa hwb hwz hsa hsb
 obtain⟨c0,c1,c2,c3,c4,c5⟩:=cells6 R2.o
 have z1:w.heap.size<wz.heap.size:=(γ R2.o)
 go_wp2_with fail
 refine(HOW.o _ G1.o).mono ?_
 rintro e w1 ⟨vl,vo,vh,vn,B0,rfl,hbx⟩
 obtain⟨al6,cl6,ao6,co6,ah6,ch6,an6,cn6,rfl,rfl,rfl,rfl⟩:=hbx.form
 have HB1:=η hbx
 clear hbx c0 c1 c2 c3 c4 c5 z1
 obtain⟨w2,hw2⟩:∃y:World,y=w1.alloc (.cells #[.slice al6 x.head.log.length cl6,.int .i64 x.head.boot,.int .i64 x.head.next,.slice ao6 x.head.opn.length co6,.slice ah6 x.houses.length ch6,.slice an6 x.net.length cn6] 39):=⟨_,rfl⟩
 obtain⟨B,hB⟩:∃y,y=w1.heap.size:=⟨_,rfl⟩
 have HBX:Hid (WBox wz w2 B (.slice al6 x.head.log.length cl6) (.slice ao6 x.head.opn.length co6) (.slice ah6 x.houses.length ch6) (.slice an6 x.net.length cn6) x):=η (HB1.o.rebox (by rw [hw2];exact(Grow.refl _).alloc _) (by omega) (by rw [hw2,hB];exact row_new _ _))
 go_upto_region 3 with fail
 rw [←hw2,←hB]
 clear hw2 hB
 have R32:=η (row_grow R3.o HBX.o.grow)
 have R42:=η (row_grow R4.o HBX.o.grow)
 obtain⟨s0,s1,s2⟩:=cells3 R32.o
 have zs:w.heap.size+1<w2.heap.size:=(γ R32.o)
 go_upto_block 0 with fail
 go_cut [7] from 8 to 78 (fun s7 wc=>∃vl2 vo2 vn2,s7=.int .i64 (doErr x ⟨kd,sn,sp⟩)∧WBox wz wc B vl2 vo2 (.slice ah6 x.houses.length ch6) vn2 (doA x ⟨kd,sn,sp⟩))
 case rest=>
  obtain⟨vl2,vo2,vn2,rfl,hbx⟩:=hcut
  obtain⟨w3,rfl⟩:∃zq:World,zq=wc:=⟨_,rfl⟩
  generalize hq1:doErr x ⟨kd,sn,sp⟩=er at*
  generalize hq2:doA x ⟨kd,sn,sp⟩=y at*
  have HQ1:=η hq1
  have HQ2:=η hq2
  clear hq1 hq2
  obtain⟨al7,cl7,ao7,co7,ah7,ch7,an7,cn7,rfl,rfl,hvh,rfl⟩:=hbx.form
  rw [hvh] at hbx
  have HB3:=η hbx
  have R43:=η (row_grow R4.o hbx.grow)
  clear hbx hvh s0 s1 s2 zs
  obtain⟨b0,b1,b2,b3,b4,b5⟩:=cells6 HB3.o.row
  have zB:B<w3.heap.size:=HB3.o.lt
  have zr:w.heap.size+2<w3.heap.size:=(γ R43.o)
  go_wp2_with (first|(refine wpList_store_row rfl (.tmp 4) (.tmp 79) rfl rfl rfl R43.o info_wd rfl rfl ?_))
  intro wf rf gf
  obtain⟨p0,p1,p2,p3,p4,p5⟩:=cells6 rf
  go_wp2
  refine bodyPost_ret (v:=.tuple #[.agg #[.slice al7 y.head.log.length cl7,.int .i64 y.head.boot,.int .i64 y.head.next,.slice ao7 y.head.opn.length co7,.slice ah7 y.houses.length ch7,.slice an7 y.net.length cn7],.int .i64 er]) (by simp [results,Tryz.results24,go_sem,p0,p1,p2,p3,p4,p5]) rfl ?_
  have h9:=HB3.o.past G1.o gf (by have:=HZ.o;omega)
  exact⟨_,by rw [HQ1.o],by rw [HQ2.o];exact h9.of,h9.grow⟩
 case first=>
  obtain⟨b0,b1,b2,b3,b4,b5⟩:=cells6 HBX.o.row
  have zB:B<w2.heap.size:=HBX.o.lt
  by_cases h1:kd=1
  ·have t1:(kd==1)=true:=by simp [h1]
   have HBN:=η (world_begin (sp:=sp) sn HBX.o HWK.o (HSP.o.mono (G1.o.trans HBX.o.grow).sub))
   rw [←h1] at HBN
   clear h1
   go_wp2_with fail
   refine HBN.o.mono ?_
   rintro e w3 ⟨rfl,vl3,vo3,vn3,hb3,-⟩
   have HB3:=η hb3
   clear hb3
   go_wp2
   go_meet
   case rel=>exact⟨_,_,_,rfl,HB3.o⟩
  have t1:(kd==1)=false:=by simp [h1]
  by_cases h2:kd=2
  ·have t2:(kd==2)=true:=by simp [h2]
   have HBN:=η (world_come (sn:=sn) sp HBX.o HWK.o)
   rw [←h2] at HBN
   clear h1 h2
   go_wp2_with fail
   refine HBN.o.mono ?_
   rintro e w3 ⟨rfl,vl3,vo3,vn3,hb3,-⟩
   have HB3:=η hb3
   clear hb3
   go_wp2
   go_meet
   case rel=>exact⟨_,_,_,rfl,HB3.o⟩
  have t2:(kd==2)=false:=by simp [h2]
  by_cases h3:kd=3
  ·have t3:(kd==3)=true:=by simp [h3]
   have HE:Hid (doErr x ⟨kd,sn,sp⟩=if there x sn=true then 0 else 6):=η (by rw [h3];exact doErr3 x sn sp)
   have HD:Hid (doA x ⟨kd,sn,sp⟩=if there x sn=true then { x with net:=x.net.eraseIdx sn.toNat } else x):=η (by rw [h3];exact doA3 x sn sp)
   clear h1 h2 h3
   go_wp2_with fail
   refine(net_take (n:=sn) w2 HBX.o.netR HWK.o.net.1 HWK.o.net.2).mono ?_
   rintro e w3 ⟨v1,v2,rfl,ho,hm,hg⟩
   by_cases hth:there x sn=true
   ·rw [if_pos hth] at HE HD
    rw [take_there HWI.o.right hth] at ho hm ⊢
    obtain⟨a1,c1,hv1⟩:=ho.form
    rw [List.length_map] at hv1
    subst hv1
    generalize x.net.getD sn.toNat ⟨0,0,0,[]⟩=m at*
    obtain⟨apm,cpm,rfl⟩:=hm.ms_form
    have HON:=η ((OwnC.ovn (by decide) ho).mono HBX.o.new)
    have HB3:=η (HBX.o.later hg)
    clear ho hm hg b0 b1 b2 b3 b4 b5 zB s0 s1 s2 zs
    obtain⟨w4,hw4⟩:∃zq:World,zq=w3.alloc (.cells #[.int .i64 m.kind,.int .i64 m.deed,.int .i64 m.house,.slice apm m.parts.length cpm] 95):=⟨_,rfl⟩
    have G34:Hid (Grow w3 w4):=η (by rw [hw4];exact(Grow.refl _).alloc _)
    go_upto_region 11 with fail
    rw [←hw4]
    clear hw4
    have HB4:=η (HB3.o.later G34.o)
    go_wp2_with (first|(refine wpList_store_cell rfl (.tmp 39) (.tmp 38) (v:=.slice a1 (x.net.eraseIdx sn.toNat).length c1) (new:=#[.slice al6 x.head.log.length cl6,.int .i64 x.head.boot,.int .i64 x.head.next,.slice ao6 x.head.opn.length co6,.slice ah6 x.houses.length ch6,.slice a1 (x.net.eraseIdx sn.toNat).length c1]) rfl rfl (by rfl) (by rfl) HB4.o.row info_bss (by simp) (by rfl) (by rfl) ?_))
    intro w5 r5 g5
    have HB5:=η (HB4.o.putN g5 r5 (HON.o.mono (fr_grow G34.o)))
    clear r5 g5
    go_wp2
    go_meet
    case rel=>exact⟨_,_,_,by rw [HE.o],by rw [HD.o];exact HB5.o⟩
   ·have hth2:there x sn=false:=by simpa using hth
    rw [if_neg hth] at HE HD
    rw [take_not hth2] at ho hm ⊢
    obtain⟨a1,c1,hv1⟩:=ho.form
    rw [List.length_map] at hv1
    subst hv1
    generalize ms0=m at*
    obtain⟨apm,cpm,rfl⟩:=hm.ms_form
    have HON:=η ((OwnC.ovn (by decide) ho).mono HBX.o.new)
    have HB3:=η (HBX.o.later hg)
    clear ho hm hg b0 b1 b2 b3 b4 b5 zB s0 s1 s2 zs
    obtain⟨w4,hw4⟩:∃zq:World,zq=w3.alloc (.cells #[.int .i64 m.kind,.int .i64 m.deed,.int .i64 m.house,.slice apm m.parts.length cpm] 95):=⟨_,rfl⟩
    have G34:Hid (Grow w3 w4):=η (by rw [hw4];exact(Grow.refl _).alloc _)
    go_upto_region 11 with fail
    rw [←hw4]
    clear hw4
    have HB4:=η (HB3.o.later G34.o)
    go_wp2_with (first|(refine wpList_store_cell rfl (.tmp 39) (.tmp 38) (v:=.slice a1 x.net.length c1) (new:=#[.slice al6 x.head.log.length cl6,.int .i64 x.head.boot,.int .i64 x.head.next,.slice ao6 x.head.opn.length co6,.slice ah6 x.houses.length ch6,.slice a1 x.net.length c1]) rfl rfl (by rfl) (by rfl) HB4.o.row info_bss (by simp) (by rfl) (by rfl) ?_))
    intro w5 r5 g5
    have HB5:=η (HB4.o.putN g5 r5 (HON.o.mono (fr_grow G34.o)))
    clear r5 g5
    go_wp2
    go_meet
    case rel=>exact⟨_,_,_,by rw [HE.o],by rw [HD.o];exact HB5.o⟩
  have t3:(kd==3)=false:=by simp [h3]
  by_cases h4:kd=4
  ·have t4:(kd==4)=true:=by simp [h4]
   have HTM:Hid (twiceB (x.net.map bytesM) sn=((doA x ⟨kd,sn,sp⟩).net.map bytesM,doErr x ⟨kd,sn,sp⟩)∧(doA x ⟨kd,sn,sp⟩)={ x with net:=(doA x ⟨kd,sn,sp⟩).net }):=η (by rw [h4];exact twice_map x sn sp)
   clear h1 h2 h3 h4
   go_wp2_with fail
   refine(net_twice (n:=sn) w2 HBX.o.netR HWK.o.net.1 HWK.o.net.2).mono ?_
   rintro e w3 ⟨v1,rfl,ho,hg⟩
   rw [HTM.o.1] at ho ⊢
   obtain⟨a1,c1,hv1⟩:=ho.form
   rw [List.length_map] at hv1
   subst hv1
   have HON:=η ((OwnC.ovn (by decide) ho).mono HBX.o.new)
   have HB3:=η (HBX.o.later hg)
   clear ho hg b0 b1 b2 b3 b4 b5 zB s0 s1 s2 zs
   go_wp2_with (first|(refine wpList_store_cell rfl (.tmp 53) (.tmp 51) (v:=.slice a1 (doA x ⟨kd,sn,sp⟩).net.length c1) (new:=#[.slice al6 x.head.log.length cl6,.int .i64 x.head.boot,.int .i64 x.head.next,.slice ao6 x.head.opn.length co6,.slice ah6 x.houses.length ch6,.slice a1 (doA x ⟨kd,sn,sp⟩).net.length c1]) rfl rfl (by rfl) (by rfl) HB3.o.row info_bss (by simp) (by rfl) (by rfl) ?_))
   intro w4 r4 g4
   have HB4:=η (HB3.o.putN g4 r4 HON.o)
   rw [←HTM.o.2] at HB4
   clear r4 g4
   go_wp2
   go_meet
   case rel=>exact⟨_,_,_,rfl,HB4.o⟩
  have t4:(kd==4)=false:=by simp [h4]
  by_cases h5:kd=5
  ·have t5:(kd==5)=true:=by simp [h5]
   have HBN:=η (world_fall (sn:=sn) sp HBX.o HWK.o)
   rw [←h5] at HBN
   clear h1 h2 h3 h4 h5
   go_wp2_with fail
   refine HBN.o.mono ?_
   rintro e w3 ⟨rfl,vl3,vo3,vn3,hb3,-⟩
   have HB3:=η hb3
   clear hb3
   go_wp2
   go_meet
   case rel=>exact⟨_,_,_,rfl,HB3.o⟩
  have t5:(kd==5)=false:=by simp [h5]
  by_cases h6:kd=6
  ·have t6:(kd==6)=true:=by simp [h6]
   have HBN:=η (world_tick (sn:=sn) sp HBX.o HWK.o)
   rw [←h6] at HBN
   clear h1 h2 h3 h4 h5 h6
   go_wp2_with fail
   refine HBN.o.mono ?_
   rintro e w3 ⟨rfl,vl3,vo3,vn3,hb3,-⟩
   have HB3:=η hb3
   clear hb3
   go_wp2
   go_meet
   case rel=>exact⟨_,_,_,rfl,HB3.o⟩
  have t6:(kd==6)=false:=by simp [h6]
  by_cases h7:kd=7
  ·have t7:(kd==7)=true:=by simp [h7]
   have HE:Hid (doErr x ⟨kd,sn,sp⟩=0):=η (by rw [h7];exact doErr7 x sn sp)
   have HD:Hid (doA x ⟨kd,sn,sp⟩={ x with head:=quitH x.head,net:=sendA x.net (quitM x.head) }):=η (by rw [h7];exact doA7 x sn sp)
   have HSY:Hid (∀q∈quitM x.head,wrongM q=0):=η (WI.says HWI.o.core.quit.2.2)
   clear h1 h2 h3 h4 h5 h6 h7
   go_wp2_with fail
   refine(whead_quit w2 HBX.o.headR HWK.o.hdok HWK.o.hdinv.logp HWK.o.hdinv.parts).mono ?_
   rintro e w3 ⟨v1,v2,rfl,hx3,hm3,hb3⟩
   have HX3:=η (hx3.mono HBX.o.new)
   have HM3:=η (hm3.mono (ov_none_sub _ _))
   have HB3a:=η (HBX.o.later hb3)
   clear hx3 hb3 b0 b1 b2 b3 b4 b5 zB s0 s1 s2 zs
   generalize hq1:quitH x.head=hd2 at*
   generalize hq2:quitM x.head=ms at*
   clear hq1 hq2
   obtain⟨al2,cl2,ao2,co2,rfl⟩:=HX3.o.hd_form
   obtain⟨asl,cs,rfl,-⟩:=hm3
   obtain⟨w4,hw4⟩:∃zq:World,zq=w3.alloc (.cells #[.slice al2 hd2.log.length cl2,.int .i64 hd2.boot,.int .i64 hd2.next,.slice ao2 hd2.opn.length co2] 35):=⟨_,rfl⟩
   obtain⟨BH,hBH⟩:∃zq,zq=w3.heap.size:=⟨_,rfl⟩
   have G34:Hid (Grow w3 w4):=η (by rw [hw4];exact(Grow.refl _).alloc _)
   have RH4:Hid (w4.heap[BH]? =some (.cells #[.slice al2 hd2.log.length cl2,.int .i64 hd2.boot,.int .i64 hd2.next,.slice ao2 hd2.opn.length co2] 35 (0,0))):=η (by rw [hw4,hBH];exact row_new _ _)
   go_upto_region 22 with fail
   rw [←hw4,←hBH]
   clear hw4 hBH
   have HB3:=η (HB3a.o.later G34.o)
   have HX4:=η (HX3.o.mono (fr_grow G34.o))
   have HM4:=η (HM3.o.mono G34.o.sub)
   have HS:Hid (∀W',Grow w4 W'→W'.cell? ⟨BH,0,none⟩=some (.slice al2 hd2.log.length cl2)∧W'.cell? ⟨BH,1,none⟩=some (.int .i64 hd2.boot)∧W'.cell? ⟨BH,2,none⟩=some (.int .i64 hd2.next)∧W'.cell? ⟨BH,3,none⟩=some (.slice ao2 hd2.opn.length co2)∧W'.cell? ⟨B,5,none⟩=some (.slice an6 x.net.length cn6)):=fun W' hW=>by
    obtain⟨n0,n1,n2,n3⟩:=cells4 (row_grow RH4.o hW)
    obtain⟨-,-,-,-,-,q5⟩:=cells6 (row_grow HB3.o.row hW)
    exact⟨n0,n1,n2,n3,q5⟩
   refine bSc (fun w'=>w'.cell? ⟨BH,0,none⟩=some (.slice al2 hd2.log.length cl2)∧w'.cell? ⟨BH,1,none⟩=some (.int .i64 hd2.boot)∧w'.cell? ⟨BH,2,none⟩=some (.int .i64 hd2.next)∧w'.cell? ⟨BH,3,none⟩=some (.slice ao2 hd2.opn.length co2)∧w'.cell? ⟨B,5,none⟩=some (.slice an6 x.net.length cn6)) [6,7,8] (by kernel_rfl) ?_
   intro wd GD zD
   have ZD:=η zD
   clear zD
   refine bLc [0,1,2,3] 11 (by kernel_rfl) (fun _ _ _ _ _ h=>h) (HS.o _ GD) ?_
   repeat (refine tNc (v:=?_) rfl (by rfl) ?_ ?_;rotate_left;(· (intro w' hSw;(try dsimp only at hSw);obtain⟨hs0,hs1,hs2,hs3,hs4⟩:=hSw;go_simp<;>with_reducible rfl));try simp only [Act.put,lzA,lzB,lzC,lzD,lzE,lzF])
   refine tEc ?_
   refine bOc 4 (by kernel_rfl) rfl ?_
   intro K HK
   try simp only [lzA,lzB,lzC]
   go_simp
   go_at_call 43
   refine(net_send (l:=x.net.map bytesM) (ms:=ms) wd (Sl.mono (fr_sub _ _ _) (HB3.o.later GD).net) (HM4.o.mono (Grow.sub GD)) HSY.o (by rw [List.length_map];omega) (fun b hb=>by
    obtain⟨q,hq,rfl⟩:=List.mem_map.1 hb
    have:=bytesM_le (HWI.o.right q hq)
    omega)).mono ?_
   rintro e w5 ⟨v5,rfl,ho5,hb5⟩
   obtain⟨a5,c5,hv5⟩:=ho5.form
   rw [show(sendB (x.net.map bytesM) ms).length=(sendA x.net ms).length by rw [send_map,List.length_map]] at hv5
   subst hv5
   have HB4:=η (HB3.o.later GD)
   have HO5:=η ho5
   have G5:=η (Grow.trans GD hb5)
   have HB5:=η (HB4.o.later hb5)
   clear ho5 hb5
   refine HK.o _ _ ⟨.inr (HS.o _ G5.o),?_⟩
   clear HK K
   try simp only [Act.put,lzA,lzB,lzC,lzD,lzE,lzF]
   refine bLc [5] 11 (by kernel_rfl) (fun _ _ _ _ _ h=>h) (HS.o _ G5.o) ?_
   repeat (refine tNc (v:=?_) rfl (by rfl) ?_ ?_;rotate_left;(· (intro w' hSw;(try dsimp only at hSw);obtain⟨hs0,hs1,hs2,hs3,hs4⟩:=hSw;go_simp<;>with_reducible rfl));try simp only [Act.put,lzA,lzB,lzC,lzD,lzE,lzF])
   refine tEc ?_
   refine bOc 6 (by kernel_rfl) rfl ?_
   intro K HK
   refine wanted_go rfl ?_
   try simp only [lzA,lzB,lzC]
   refine wp_store_part (.tmp 77) (.tmp 72) (new:=#[.slice al2 hd2.log.length cl2,.int .i64 hd2.boot,.int .i64 hd2.next,.slice ao2 hd2.opn.length co2,.slice ah6 x.houses.length ch6,.slice an6 x.net.length cn6]) rfl rfl rfl HB5.o.row info_hd (by simp) (by rfl) (by rfl) ?_
   intro w6 r6 g6
   have HB6:=η (HB5.o.putH g6 r6 (HX4.o.mono (fr_grow G5.o)))
   have R6:=η r6
   have HN6:Hid (Nts (fr wz w6 (wro B (.slice ah6 x.houses.length ch6))) (.slice a5 (sendA x.net ms).length c5) ((sendA x.net ms).map bytesM)):=η (by
    have h9:=((OwnC.ovn (by decide) HO5.o).mono HB4.o.new).mono (HB5.o.keeps g6)
    rw [send_map] at h9
    exact h9)
   clear r6 g6
   refine HK.o _ _ ⟨.inl (by decide),?_⟩
   clear HK K
   try simp only [Act.put]
   refine bOc 7 (by kernel_rfl) rfl ?_
   intro K HK
   try simp only [lzA,lzB,lzC]
   go_simp
   refine HK.o _ _ ⟨.inl (by decide),?_⟩
   clear HK K
   try simp only [Act.put,lzA,lzB,lzC,lzD,lzE,lzF]
   refine bOc 8 (by kernel_rfl) rfl ?_
   intro K HK
   refine wanted_go rfl ?_
   try simp only [lzA,lzB,lzC]
   refine wp_store_cell (.tmp 78) (.tmp 76) (v:=.slice a5 (sendA x.net ms).length c5) (new:=#[.slice al2 hd2.log.length cl2,.int .i64 hd2.boot,.int .i64 hd2.next,.slice ao2 hd2.opn.length co2,.slice ah6 x.houses.length ch6,.slice a5 (sendA x.net ms).length c5]) rfl rfl (by rfl) (by rfl) R6.o info_bss (by simp) (by rfl) (by rfl) ?_
   intro w7 r7 g7
   have HB7:=η (HB6.o.putN g7 r7 HN6.o)
   clear r7 g7
   refine HK.o _ _ ⟨.inl (by decide),?_⟩
   clear HK K
   try simp only [Act.put]
   refine bDc (by kernel_rfl) ?_
   go_wp2
   go_meet
   case rel=>exact⟨_,_,_,by rw [HE.o],by rw [HD.o];exact HB7.o⟩
  have t7:(kd==7)=false:=by simp [h7]
  obtain⟨e1,e2⟩:=doErr0 x sn sp ⟨h1,h2,h3,h4,h5,h6,h7⟩
  have HE:=η e1
  have HD:=η e2
  clear e1 e2 h1 h2 h3 h4 h5 h6 h7
  go_wp2
  go_meet
  case rel=>exact⟨_,_,_,by rw [HE.o],by rw [HD.o];exact HBX.o⟩
set_option maxRecDepth 100000 in
set_option maxHeartbeats 4000000 in
theorem world_new {n:Nat} (w:World) (hn:1≤n∧n≤3):
  Calls Tryz.prog 23 #[.int .i64 n] w fun e w'=>∃v',e=.returned (.tuple #[v',.int .i64 0])∧Of Ty.wd (ov (fun _=>none) w w') v' (newA n)∧Grow w w':=by
 have t1:decide ((n:Int)<1)=false:=by simp;omega
 have t2:decide ((3:Int)<(n:Int))=false:=by simp;omega
 obtain⟨h,hh⟩:∃h:Hs,h=hs0:=⟨_,rfl⟩
 have HH:=η hh
 have hl3:=hn.2
 clear hh
 obtain⟨wz,hwz⟩:∃y:World,y=w.alloc (.cells #[.slice none 0 0,.int .i64 0,.int .i64 0,.slice none 0 0,.slice none 0 0,.slice none 0 0] 39):=⟨_,rfl⟩
 have R2:Hid (wz.heap[w.heap.size]? =some (.cells #[.slice none 0 0,.int .i64 0,.int .i64 0,.slice none 0 0,.slice none 0 0,.slice none 0 0] 39 (0,0))):=η (by rw [hwz];exact row_new _ _)
 have G1:Hid (Grow w wz):=η (by rw [hwz];exact(Grow.refl w).alloc _)
 have HZ:Hid (wz.heap.size=w.heap.size+1):=η (by rw [hwz];simp)
 go_enter Tryz.func23,Tryz.ntmps23
 go_upto_region 1 with fail
 rw [←hwz]
 clear hwz
 go_wp2_with fail
 refine(whead_new wz).mono ?_
 rintro e w1 ⟨v1,rfl,hx,hb1⟩
 obtain⟨al,cl,ao,co,rfl⟩:=hx.hd_form
 obtain⟨q,hq⟩:∃q:Hd,q=headR [⟨4,0,[]⟩]:=⟨_,rfl⟩
 rw [←hq] at hx ⊢
 have HQ:=η hq
 have HX:=η hx
 have GB:=η hb1
 clear hx hb1 hq
 obtain⟨w2,hw2⟩:∃y:World,y=w1.alloc (.cells #[.slice none 0 0,.int .i64 0,.int .i64 0,.slice none 0 0,.slice none 0 0,.slice none 0 0] 39):=⟨_,rfl⟩
 obtain⟨B,hB⟩:∃y,y=w1.heap.size:=⟨_,rfl⟩
 have RB:Hid (w2.heap[B]? =some (.cells #[.slice none 0 0,.int .i64 0,.int .i64 0,.slice none 0 0,.slice none 0 0,.slice none 0 0] 39 (0,0))):=η (by rw [hw2,hB];exact row_new _ _)
 have G2:Hid (Grow w1 w2):=η (by rw [hw2];exact(Grow.refl _).alloc _)
 have HBE:Hid (B=w1.heap.size):=η hB
 go_wp2_with (first|(rw [←hw2,←hB];clear hw2 hB;refine wpList_store_row rfl (.tmp 4) (.tmp 13) rfl rfl rfl RB.o info_wd rfl rfl ?_))
 intro w3 r3 g3
 have HB3:Hid (WBox wz w3 B (.slice al q.log.length cl) (.slice ao q.opn.length co) (.slice none 0 0) (.slice none 0 0) ⟨q,[],[]⟩):=η (by
  have hs:=GB.o.size
  have hb:=HBE.o
  refine WBox.start r3 (by omega) (HX.o.mono ?_) (Sl.nil _ _) ((GB.o.trans G2.o).grown g3 (fun q hq=>by have:=Option.some.inj hq;omega))
  intro a v e
  unfold ov at e
  split at e
  ·cases e
  ·have hl:=World.block_lt_of_cell? w1 a e
   rw [fr_new (by omega) (fun hm=>by have:=Option.some.inj (List.mem_singleton.1 hm);omega)]
   exact cell_past (G2.o.sub _ _ e) g3 (by omega))
 clear r3 g3
 go_wp2
 go_loopw [15] (fun i wr=>∃(k:Nat) (av:Option Addr) (cv:Nat),k≤n∧i=.int .i64 k∧WBox wz wr B (.slice al q.log.length cl) (.slice ao q.opn.length co) (.slice av k cv) (.slice none 0 0) ⟨q,List.replicate k h,[]⟩) (fun i _=>n - (intOf i).toNat)
 case atStart=>exact⟨0,none,0,by omega,rfl,HB3.o⟩
 case round=>
  obtain⟨j,av,cv,hj',rfl,hbx⟩:=hrel
  have HBK:=η hbx
  clear hbx
  by_cases hlt:j<n
  ·have HTK:Hid (List.replicate (j+1) h=List.replicate j h++ [h]):=η List.replicate_succ'
   have HS:Hid (∀W,Grow wr W→W.cell? ⟨B,4,none⟩=some (.slice av j cv)):=fun W hW=>by
    obtain⟨-,-,-,-,b4,-⟩:=cells6 (row_grow HBK.o.row hW)
    exact b4
   go_upto_region 6 with fail
   refine bSc (fun w'=>w'.cell? ⟨B,4,none⟩=some (.slice av j cv)) [6] (by kernel_rfl) ?_
   intro wd GD zD
   have ZD:=η zD
   clear zD
   refine bLc [0,1] 9 (by kernel_rfl) (fun _ _ _ _ _ h=>h) (HS.o _ GD) ?_
   repeat (refine tNc (v:=?_) rfl (by rfl) ?_ ?_;rotate_left;(· (intro w' hSw;(try dsimp only at hSw);go_simp<;>with_reducible rfl));try simp only [Act.put,lzA,lzB,lzC,lzD,lzE,lzF])
   refine tEc ?_
   refine bOc 2 (by kernel_rfl) rfl ?_
   intro K HK
   try simp only [lzA,lzB,lzC]
   go_simp
   go_at_call 35
   refine(wlog_house _ (l:=[]) (Sl.nil _ _) (by simp) (by simp) (by simp)).mono ?_
   rintro e w5 ⟨v5,rfl,ho5,hb5⟩
   rw [show houseR []=h from HH.o.symm] at ho5
   obtain⟨il2,jl2,ir2,jr2,id2,jd2,rfl⟩:=ho5.hs_form
   have HO5:=η ho5
   have G5:=η (Grow.trans GD hb5)
   have GB5:=η hb5
   have HBX4:=η (HBK.o.later GD)
   clear ho5 hb5
   refine HK.o _ _ ⟨.inr (HS.o _ G5.o),?_⟩
   clear HK K
   try simp only [Act.put,lzA,lzB,lzC,lzD,lzE,lzF]
   refine bOc 3 (by kernel_rfl) rfl ?_
   intro K HK
   try simp only [lzA,lzB,lzC]
   go_simp
   obtain⟨w6,hw6⟩:∃y:World,y=w5.alloc (.cells #[.slice il2 h.log.length jl2,.int .i64 h.sums.a,.int .i64 h.sums.b,.int .i64 h.sums.c,.int .i64 h.sums.d,.slice ir2 h.ready.length jr2,.slice id2 h.done.length jd2] 68):=⟨_,rfl⟩
   have G6:Hid (Grow w5 w6):=η (by rw [hw6];exact(Grow.refl _).alloc _)
   have HBX6:=η (HBX4.o.later (GB5.o.trans G6.o))
   have HSR:Hid (Src Ty.hs (fr wz w6 (wro B (.slice av j cv))) w6 (.slice (some ⟨w5.heap.size,0,none⟩) 1 1) [h]):=η (by
    obtain⟨cs,he,hR⟩:=(HO5.o.mono (HBX4.o.new)).mono (fr_grow G6.o)
    rw [hw6] at hR ⊢
    have hcs:cs=[.slice il2 h.log.length jl2,.int .i64 h.sums.a,.int .i64 h.sums.b,.int .i64 h.sums.c,.int .i64 h.sums.d,.slice ir2 h.ready.length jr2,.slice id2 h.done.length jd2]:=by cases he;rfl
    rw [hcs] at hR
    exact Src.of_new (T:=Ty.hs) (x:=h) (cs:=#[.slice il2 h.log.length jl2,.int .i64 h.sums.a,.int .i64 h.sums.b,.int .i64 h.sums.c,.int .i64 h.sums.d,.slice ir2 h.ready.length jr2,.slice id2 h.done.length jd2]) hR _ _ rfl)
   have GA6:=η (Grow.trans G5.o G6.o)
   rw [←hw6]
   clear hw6
   refine HK.o _ _ ⟨.inr (HS.o _ GA6.o),?_⟩
   clear HK K
   try simp only [Act.put,lzA,lzB,lzC,lzD,lzE,lzF]
   refine bOc 4 (by kernel_rfl) rfl ?_
   intro K HK
   refine wanted_go rfl ?_
   try simp only [lzA,lzB,lzC]
   refine wp_appc (c:=fr wz w6 (wro B (.slice av j cv))) (base:=wz.heap.size) (l:=List.replicate j h) (m:=[h]) (v:=.slice av j cv) ei_hs rfl one_Ths (by decide) (.tmp 18) (.tmp 20) rfl rfl HBX6.o.hs rfl HSR.o (by simp;omega) HBX6.o.grow.size ?_
   intro a8 c8 w8 ho8 hg8 hb8
   have hl8:(List.replicate j h).length+ [h].length=j+1:=by simp
   rw [hl8] at ho8 hb8 ⊢
   have HO8:=η ho8
   have HG8:=η hg8
   have HBB8:=η hb8
   have R38:=η (row_by HBX6.o.row hg8 (fun e=>HBX6.o.ne e.symm))
   clear ho8 hg8 hb8 hl8
   refine HK.o _ _ ⟨.inr (by obtain⟨-,-,-,-,b4,-⟩:=cells6 R38.o;exact b4),?_⟩
   clear HK K
   try simp only [Act.put,lzD,lzE,lzF]
   refine bLc [5] 9 (by kernel_rfl) (fun _ _ _ _ _ h=>h) (by obtain⟨-,-,-,-,b4,-⟩:=cells6 R38.o;exact b4) ?_
   repeat (refine tNc (v:=?_) rfl (by rfl) ?_ ?_;rotate_left;(· (intro w' hSw;(try dsimp only at hSw);go_simp<;>with_reducible rfl));try simp only [Act.put,lzA,lzB,lzC,lzD,lzE,lzF])
   refine tEc ?_
   refine bOc 6 (by kernel_rfl) rfl ?_
   intro K HK
   refine wanted_go rfl ?_
   try simp only [lzA,lzB,lzC]
   refine wp_store_cell (.tmp 22) (.tmp 21) (v:=.slice a8 (j+1) c8) (new:=#[.slice al q.log.length cl,.int .i64 q.boot,.int .i64 q.next,.slice ao q.opn.length co,.slice a8 (j+1) c8,.slice none 0 0]) rfl rfl (by rfl) (by rfl) R38.o info_hss (by simp) (by rfl) (by rfl) ?_
   intro w9 r9 g9
   refine HK.o _ _ ⟨.inl (by decide),?_⟩
   clear HK K
   try simp only [Act.put]
   refine bDc (by kernel_rfl) ?_
   have HB9:=η (HBX6.o.app HG8.o HBB8.o HO8.o g9 r9)
   rw [←HTK.o] at HB9
   clear r9 g9 HS
   go_wp2
   go_roundw
   case rel=>exact⟨j+1,a8,c8,by omega,by go_num,HB9.o⟩
   case measure=>simp [intOf];omega
  ·obtain rfl:j=n:=by omega
   have R2r:=η (row_grow R2.o HBK.o.grow)
   obtain⟨b0,b1,b2,b3,b4,b5⟩:=cells6 HBK.o.row
   have z3:B<wr.heap.size:=HBK.o.lt
   have zr:w.heap.size<wr.heap.size:=(γ R2r.o)
   go_wp2_with (first|(refine wpList_store_row rfl (.tmp 2) (.tmp 24) rfl rfl rfl R2r.o info_wd rfl rfl ?_))
   intro wf rf gf
   obtain⟨p0,p1,p2,p3,p4,p5⟩:=cells6 rf
   go_wp2
   refine bodyPost_ret (v:=.tuple #[.agg #[.slice al q.log.length cl,.int .i64 q.boot,.int .i64 q.next,.slice ao q.opn.length co,.slice av j cv,.slice none 0 0],.int .i64 0]) (by simp [results,Tryz.results23,go_sem,p0,p1,p2,p3,p4,p5]) rfl ?_
   have h9:=HBK.o.past G1.o gf (by have:=HZ.o;omega)
   refine⟨_,rfl,?_,h9.grow⟩
   unfold newA
   rw [←HQ.o,←HH.o]
   exact h9.of
theorem wrongGo_le (h:Int):∀(l:List Pt) (had:List (Int×Int)),0≤wrongGo h had l∧wrongGo h had l≤5
 | [],had=>by simp [wrongGo]
 |p::l,had=>by
  unfold wrongGo
  split
  ·omega
  ·split
   ·omega
   ·exact wrongGo_le h l _
theorem doErr_ok (x:AW) (s:St):I64 (doErr x s):=by
 have h:0≤doErr x s∧doErr x s≤9:=by
  unfold doErr
  split
  ·split
   ·unfold beginE;split<;>omega
   ·unfold wrongE
    split
    ·omega
    ·have:=wrongGo_le x.houses.length s.parts []
     omega
  ·split
   ·split<;>omega
   ·split
    ·split
     ·unfold fallE;split<;>omega
     ·split<;>omega
    ·split
     ·split<;>omega
     ·split<;>omega
 exact i64_of (by omega) (by omega)
theorem WK.up {k k':Nat} {x:AW} (i:WK k x) (h:k≤k') (h9:k'≤99000):WK k' x:=
 ⟨i.wi,⟨by have:=i.few.log;omega,fun y hy=>Nat.le_trans (i.few.logs y hy) h⟩,h9,i.logp⟩
theorem WK.step {k:Nat} {x:AW} (i:WK k x) (s:St) (h9:k+1≤99000):WK (k+1) (doA x s):=by
 obtain⟨n,G,hw⟩:=i.wi
 obtain⟨G',hw',-⟩:=hw.step' s
 exact⟨⟨n,G',hw'⟩,i.few.step s,h9,logP_step i.logp s⟩
theorem WK.zero {n:Nat} (hn:1≤n∧n≤3):WK 0 (newA n):=⟨⟨n,[],WI.zero hn⟩,Few.zero n,by omega,logP_new n⟩
theorem WK.play {n:Nat} (hn:1≤n∧n≤3) (l:List St) (h:l.length≤99000):WK l.length (playA (newA n) l):=by
 obtain⟨G,hw,-⟩:=WI.of_play hn l
 have hf:=Few.play n l (Few.zero n)
 rw [Nat.zero_add] at hf
 exact⟨⟨n,G,hw⟩,hf,h,logP_play l (logP_new n)⟩
theorem fr_last {w wb W W7:World} {X:List (Option Nat)} {A:Nat} (hs:w.heap.size≤wb.heap.size) (g:W.grownBy W7 (some A)) (hA:A<wb.heap.size):Sub (fr wb W X) (ov (fun _=>none) w W7):=fun a v e=>by
 unfold fr at e
 split at e
 ·cases e
 ·rename_i h
  have h2:¬a.block<wb.heap.size:=fun x=>h (.inl x)
  rw [ov_new (by omega)]
  exact cell_past e g (by omega)
theorem fr_app2 {W0 w w':World} {B:Nat} {v v':Value} (hg:w.grownBy w' v.ownBlock) (hb:v'.ownBlock=v.ownBlock∨∃g,v'.ownBlock=some g∧w.heap.size≤g):Sub (fr W0 w [some B,v.ownBlock]) (fr W0 w' [some B,v'.ownBlock]):=fr_step fun k hk _ hx=>by
 simp only [List.mem_cons,List.not_mem_nil,or_false,not_or] at hx ⊢
 refine⟨hg.block k hk hx.2,hx.1,fun e=>?_⟩
 rcases hb with hb|⟨g,hb,hgg⟩
 ·exact hx.2 (hb▸e)
 ·rw [hb] at e;have:=Option.some.inj e;omega
theorem come_first {y:AW} (h:y.net≠ []):drainA y=drainA (doA y ⟨2,0,[]⟩)∧wts (doA y ⟨2,0,[]⟩).net<wts y.net:=by
 cases hn:y.net with
 |nil=>exact absurd hn h
 |cons m l=>
  have hd:doA y ⟨2,0,[]⟩=comeA { y with net:=l } m:=by
   unfold doA there
   simp [hn]
  rw [hd,←hn]
  exact⟨drain_cons hn,drain_step hn⟩
theorem net_wts {k:Nat} {x:AW} (i:WK k x):wts x.net≤192:=by
 obtain⟨n,G,hw⟩:=i.wi
 have h1:=hw.len
 have h2:wts x.net≤x.net.length*8:=wts_all fun m _=>by
  unfold wt
  repeat' split
  all_goals omega
 omega
theorem WK.drain {k:Nat} {x:AW} (i:WK k x) (h9:k+192≤99000):WK (k+192) (drainA x)∧(drainA x).net=[]:=by
 have h1:=net_wts i
 have h:=drain_keeps (p:=fun y=>∃k',WK k' y∧k'+wts y.net≤k+wts x.net) (fun y m l ⟨k',h2,h3⟩ e=>by
  have h4:=drain_step e
  have hd:doA y ⟨2,0,[]⟩=comeA { y with net:=l } m:=by
   unfold doA there
   simp [e]
  rw [←hd] at h4 ⊢
  exact⟨k'+1,h2.step ⟨2,0,[]⟩ (by omega),by omega⟩) _ x (Nat.le_refl _) ⟨k,i,Nat.le_refl _⟩
 obtain⟨⟨k',h2,h3⟩,h5⟩:=h
 exact⟨h2.up (by omega) h9,h5⟩
noncomputable def lst (P:Nat→Prop):Nat:=Classical.epsilon fun m=>P m∧∀j,P j→m≤j
theorem lst_ex {P:Nat→Prop}:∀(f m:Nat),m≤f→P m→∃q,P q∧∀j,P j→q≤j
 |0,m,hm,hp=>⟨m,hp,fun j _=>by omega⟩
 |f+1,m,hm,hp=>by
  by_cases h:∃j,P j∧j<m
  ·obtain⟨j,h1,h2⟩:=h
   exact lst_ex f j (by omega) h1
  ·exact⟨m,hp,fun j hj=>by
    by_cases hl:j<m
    ·exact absurd ⟨j,hj,hl⟩ h
    ·omega⟩
theorem lst_spec {P:Nat→Prop} (h:∃m,P m):P (lst P)∧∀j,P j→lst P≤j:=by
 obtain⟨m,hm⟩:=h
 exact Classical.epsilon_spec (lst_ex m m (Nat.le_refl _) hm)
def dr (c:CM) (w W:World):CM:=fun a=>if a.block<w.heap.size then c a else if a.block≤w.heap.size+1 then none else W.cell? a
theorem dr_in {c:CM} {w W:World} (h:Sub c w.cell?):Sub c (dr c w W):=fun a v e=>by
 have hl:=World.block_lt_of_cell? w a (h a v e)
 unfold dr
 rw [if_pos hl]
 exact e
theorem dr_cell {c:CM} {w W:World} (h:Sub c w.cell?) (hg:Grow w W):Sub (dr c w W) W.cell?:=fun a v e=>by
 unfold dr at e
 split at e
 ·exact hg.sub _ _ (h _ _ e)
 ·split at e
  ·cases e
  ·exact e
theorem dr_new {c:CM} {w wr w3 w5:World} {q:Nat} (h:w.heap.size+2≤wr.heap.size) (g:w3.grownBy w5 (some q)) (hq:q≤w.heap.size+1):Sub (ov (fun _=>none) wr w3) (dr c w w5):=fun a v e=>by
 unfold ov at e
 split at e
 ·cases e
 ·unfold dr
  rw [if_neg (by omega),if_neg (by omega)]
  exact cell_past e g (by omega)
theorem dr_end {c:CM} {w wr w7:World} {q:Nat} (g:wr.grownBy w7 (some q)) (hq:q≤w.heap.size+1):Sub (dr c w wr) (ov c w w7):=fun a v e=>by
 unfold dr at e
 unfold ov
 split at e
 ·rw [if_pos ‹_›];exact e
 ·rw [if_neg ‹_›]
  split at e
  ·cases e
  ·exact cell_past e g (by omega)
def DR (c:CM) (w:World) (x:AW) (k:Nat) (wr:World) (m:Nat):Prop:=
 ∃row y j,wr.heap[w.heap.size]? =some (.cells row 39 (0,0))∧Of Ty.wd (dr c w wr) (.agg row) y∧WK j y∧drainA x=drainA y∧j+wts y.net≤k+wts x.net∧Grow w wr∧w.heap.size+2≤wr.heap.size∧wr.heap[w.heap.size+1]? =some (.cells #[.slice none 0 0,.int .i64 0,.int .i64 0,.slice none 0 0,.slice none 0 0,.slice none 0 0] 39 (0,0))∧wts y.net=m
set_option maxRecDepth 100000 in
set_option maxHeartbeats 4000000 in
theorem fair_drain {c:CM} {v:Value} {x:AW} {k:Nat} (w:World) (hc:Sub c w.cell?) (hv:Of Ty.wd c v x) (hk:WK k x) (h9:k+192≤99000):
  Calls Tryz.prog 46 #[v] w fun e w'=>∃v',e=.returned v'∧Of Ty.wd (ov c w w') v' (drainA x)∧Grow w w':=by
 have HC:=η hc
 have HV:=η hv
 have HK:=η hk
 have HN:=η (net_wts hk)
 have H9:=η h9
 obtain⟨al,cl,ao,co,ah,ch,an,cn,rfl⟩:=hv.wd_form
 clear hc hv hk h9
 obtain⟨wa,hwa⟩:∃y:World,y=w.alloc (.cells #[.slice al x.head.log.length cl,.int .i64 x.head.boot,.int .i64 x.head.next,.slice ao x.head.opn.length co,.slice ah x.houses.length ch,.slice an x.net.length cn] 39):=⟨_,rfl⟩
 obtain⟨wz,hwz⟩:∃y:World,y=wa.alloc (.cells #[.slice none 0 0,.int .i64 0,.int .i64 0,.slice none 0 0,.slice none 0 0,.slice none 0 0] 39):=⟨_,rfl⟩
 have hsz:wa.heap.size=w.heap.size+1:=by rw [hwa];simp
 have R1:Hid (wz.heap[w.heap.size]? =some (.cells #[.slice al x.head.log.length cl,.int .i64 x.head.boot,.int .i64 x.head.next,.slice ao x.head.opn.length co,.slice ah x.houses.length ch,.slice an x.net.length cn] 39 (0,0))):=η (by rw [hwz,hwa];exact heap_later (row_new _ _) _)
 have R2:Hid (wz.heap[w.heap.size+1]? =some (.cells #[.slice none 0 0,.int .i64 0,.int .i64 0,.slice none 0 0,.slice none 0 0,.slice none 0 0] 39 (0,0))):=η (by rw [hwz,←hsz];exact row_new _ _)
 have G1:Hid (Grow w wz):=η (by rw [hwz,hwa];exact((Grow.refl w).alloc _).alloc _)
 have HZ:Hid (wz.heap.size=w.heap.size+2):=η (by rw [hwz,hwa];simp)
 go_enter Tryz.func46,Tryz.ntmps46
 go_wp2
 rw [←hwa]
 try rw [hsz]
 rw [←hwz]
 clear hwa hwz hsz
 go_loopw [] (fun wr=>∃m,DR c w x k wr m) (fun wr=>lst (DR c w x k wr))
 case atStart=>exact⟨_,_,x,k,R1.o,HV.o.mono (dr_in HC.o),HK.o,rfl,Nat.le_refl _,G1.o,by have:=HZ.o;omega,R2.o,rfl⟩
 case round=>
  obtain⟨hsp,-⟩:=lst_spec hrel
  generalize lst (DR c w x k wr)=m at*
  clear hrel
  obtain⟨row,y,j,hrow,hx,hj,hdr,hle,hg,hsz,hrz,hm⟩:=hsp
  obtain⟨al2,cl2,ao2,co2,ah2,ch2,an2,cn2,hrw⟩:=hx.wd_form
  simp only [Value.agg.injEq] at hrw
  subst hrw
  have HROW:=η hrow
  have HX:=η hx
  have HJ:=η hj
  have HDR:=η hdr
  have HLE:=η hle
  have HG:=η hg
  have HSZ:=η hsz
  have HRZ:=η hrz
  have HM:=η hm
  obtain⟨x1,x2,x3,x4,x5,x6⟩:=cells6 hrow
  have zX:w.heap.size<wr.heap.size:=(γ hrow)
  clear hrow hx hj hdr hle hg hsz hrz hm
  by_cases hn:y.net=[]
  ·have t:decide (0<y.net.length)=false:=by rw [hn];rfl
   have HE:Hid (drainA x=y):=η (by rw [HDR.o,drain_nil hn])
   clear hn
   have zr:w.heap.size+1<wr.heap.size:=(γ HRZ.o)
   go_wp2_with (first|(refine wpList_store_row rfl (.tmp 2) (.tmp 13) rfl rfl rfl HRZ.o info_wd rfl rfl ?_))
   intro w7 r7 g7
   obtain⟨p0,p1,p2,p3,p4,p5⟩:=cells6 r7
   go_wp2
   refine bodyPost_ret (v:=.agg #[.slice al2 y.head.log.length cl2,.int .i64 y.head.boot,.int .i64 y.head.next,.slice ao2 y.head.opn.length co2,.slice ah2 y.houses.length ch2,.slice an2 y.net.length cn2]) (by simp [results,Tryz.results46,go_sem,p0,p1,p2,p3,p4,p5]) rfl ?_
   rw [HE.o]
   exact⟨_,rfl,HX.o.mono (dr_end g7 (by omega)),HG.o.grown g7 (fun q hq=>by have:=Option.some.inj hq;omega)⟩
  ·have t:decide (0<y.net.length)=true:=decide_eq_true (List.length_pos_iff.2 hn)
   obtain⟨hc1,hc2⟩:=come_first hn
   have HC1:=η hc1
   have HC2:=η hc2
   clear hn hc1 hc2
   have HDO:=η (world_do (s:=⟨2,0,[]⟩) (vs:=.agg #[.int .i64 2,.int .i64 0,.slice none 0 0]) wr (HX.o.mono (dr_cell HC.o HG.o)) ⟨_,rfl,_,rfl,(show I64 2 by unfold I64;decide),zero_ok,Sl.nil _ _⟩ HJ.o)
   go_wp2_with fail
   refine HDO.o.mono ?_
   rintro e w3 ⟨v3,rfl,hx3,hb3⟩
   have HJ3:=η (HJ.o.step ⟨2,0,[]⟩ (by have:=HLE.o;have:=HN.o;have:=H9.o;have:=HC2.o;omega))
   generalize doA y ⟨2,0,[]⟩=y3 at*
   generalize doErr y ⟨2,0,[]⟩=er at*
   obtain⟨al3,cl3,ao3,co3,ah3,ch3,an3,cn3,rfl⟩:=hx3.wd_form
   have HX3:=η hx3
   have RW3:=η (row_grow HROW.o hb3)
   have RZ3:=η (row_grow HRZ.o hb3)
   have G3:=η (HG.o.trans hb3)
   clear hx3 hb3 HDO x1 x2 x3 x4 x5 x6 zX
   go_wp2_with (first|(refine wpList_store_row rfl (.tmp 1) (.tmp 11) rfl rfl rfl RW3.o info_wd rfl rfl ?_))
   intro w5 r5 g5
   have HEND:Hid (DR c w x k w5 (wts y3.net)):=η ⟨_,y3,j+1,r5,HX3.o.mono (dr_new HSZ.o g5 (by omega)),HJ3.o,HDR.o.trans HC1.o,by have:=HLE.o;have:=HC2.o;omega,G3.o.grown g5 (fun q hq=>by have:=Option.some.inj hq;omega),by have:=g5.size;have:=(γ RZ3.o);omega,row_by RZ3.o g5 (by intro e;have:=Option.some.inj e;omega),rfl⟩
   clear r5 g5
   go_wp2
   go_roundw
   case rel=>exact⟨_,HEND.o⟩
   case measure=>
    have h1:=(lst_spec ⟨_,HEND.o⟩).2 _ HEND.o
    have h2:=HC2.o
    have h3:=HM.o
    omega
theorem tick_do (y:AW) (k:Nat):doA y ⟨6,(k:Int),[]⟩=tickA y k:=by
 unfold doA hereN
 simp only [show¬(6:Int)=1 by decide,show¬(6:Int)=2 by decide,show¬(6:Int)=3 by decide,show¬(6:Int)=4 by decide,show¬(6:Int)=5 by decide,if_false,if_true,Int.toNat_natCast]
 by_cases h:(k:Int)=3∨decide (0≤(k:Int)∧(k:Int)<(y.houses.length:Int))=true
 ·rw [if_pos h]
 ·rw [if_neg h]
  have h3:¬k=3:=fun e=>h (.inl (by omega))
  have h4:¬k<y.houses.length:=fun e=>h (.inr (by simp;omega))
  unfold tickA
  rw [if_neg h3,List.getElem?_eq_none (by omega)]
def rd (x:AW):Nat→AW
 |0=>drainA x
 |r+1=>tickD (rd x r) (3 - r)
theorem rd_four (x:AW):rd x 4=roundA x:=rfl
theorem WK.rd {k:Nat} {x:AW} (i:WK k x) (h9:k+1100≤99000):∀r,r≤4→WK (k+192+r*193) (rd x r)
 |0,_=>(i.drain (by omega)).1.up (by omega) (by omega)
 |r+1,h=>by
  have h1:=(i.rd h9 r (by omega)).step ⟨6,((3 - r:Nat):Int),[]⟩ (by omega)
  rw [tick_do] at h1
  exact(h1.drain (by omega)).1.up (by omega) (by omega)
theorem WK.round {k:Nat} {x:AW} (i:WK k x) (h9:k+1100≤99000):WK (k+1100) (roundA x):=by
 rw [←rd_four]
 exact(i.rd h9 4 (Nat.le_refl _)).up (by omega) h9
theorem fr_two {wz w1 w2 w3:World} {X:List (Option Nat)} (g1:Grow wz w1) (g2:Grow w1 w2) (hX:∀q,some q∈X→w2.heap.size≤q) (h3:∀(a:Addr) (v:Value),a.block<w2.heap.size→w2.cell? a=some v→w3.cell? a=some v):Sub (ov (ov (fun _=>none) wz w1) w1 w2) (fr wz w3 X):=fun a v e=>by
 have hs:=g1.size
 have key:wz.heap.size≤a.block∧w2.cell? a=some v:=by
  unfold ov at e
  split at e
  ·split at e
   ·cases e
   ·exact⟨by omega,g2.sub _ _ e⟩
  ·exact⟨by omega,e⟩
 have hl:=World.block_lt_of_cell? w2 a key.2
 rw [fr_new key.1 (fun hm=>by have:=hX _ hm;omega)]
 exact h3 a v hl key.2
theorem fr_call {w W W':World} {X:List (Option Nat)} (hg:Grow W W') (hs:w.heap.size≤W.heap.size) (hX:∀k,some k∈X→k<W.heap.size):Sub (ov (fr w W X) W W') (fr w W' X):=fun a v e=>by
 unfold ov at e
 split at e
 ·exact fr_grow hg a v e
 ·rw [fr_new (by omega) (fun hm=>by have:=hX _ hm;omega)];exact e
set_option maxRecDepth 100000 in
set_option maxHeartbeats 4000000 in
theorem fair_round {v:Value} {x:AW} {k:Nat} (w:World) (hv:Of Ty.wd w.cell? v x) (hk:WK k x) (h9:k+1100≤99000):
  Calls Tryz.prog 26 #[v] w fun e w'=>∃v',e=.returned v'∧Of Ty.wd (ov (fun _=>none) w w') v' (roundA x)∧Grow w w':=by
 have HV:=η hv
 have HK:=η hk
 have H9:=η h9
 obtain⟨al,cl,ao,co,ah,ch,an,cn,rfl⟩:=hv.wd_form
 clear hv hk h9
 obtain⟨wa,hwa⟩:∃y:World,y=w.alloc (.cells #[.slice al x.head.log.length cl,.int .i64 x.head.boot,.int .i64 x.head.next,.slice ao x.head.opn.length co,.slice ah x.houses.length ch,.slice an x.net.length cn] 39):=⟨_,rfl⟩
 obtain⟨wz,hwz⟩:∃y:World,y=wa.alloc (.cells #[.slice none 0 0,.int .i64 0,.int .i64 0,.slice none 0 0,.slice none 0 0,.slice none 0 0] 39):=⟨_,rfl⟩
 have hsz:wa.heap.size=w.heap.size+1:=by rw [hwa];simp
 have R1:Hid (wz.heap[w.heap.size]? =some (.cells #[.slice al x.head.log.length cl,.int .i64 x.head.boot,.int .i64 x.head.next,.slice ao x.head.opn.length co,.slice ah x.houses.length ch,.slice an x.net.length cn] 39 (0,0))):=η (by rw [hwz,hwa];exact heap_later (row_new _ _) _)
 have R2:Hid (wz.heap[w.heap.size+1]? =some (.cells #[.slice none 0 0,.int .i64 0,.int .i64 0,.slice none 0 0,.slice none 0 0,.slice none 0 0] 39 (0,0))):=η (by rw [hwz,←hsz];exact row_new _ _)
 have G1:Hid (Grow w wz):=η (by rw [hwz,hwa];exact((Grow.refl w).alloc _).alloc _)
 have HZ:Hid (wz.heap.size=w.heap.size+2):=η (by rw [hwz,hwa];simp)
 go_enter Tryz.func26,Tryz.ntmps26
 go_upto_region 1 with fail
 rw [←hwa]
 try rw [hsz]
 rw [←hwz]
 clear hwa hwz hsz
 obtain⟨x1,x2,x3,x4,x5,x6⟩:=cells6 R1.o
 have zX:w.heap.size<wz.heap.size:=(γ R1.o)
 go_wp2_with fail
 refine(world_own wz (HV.o.mono G1.o.sub) HK.o).mono ?_
 rintro e w1 ⟨vl,vo,vh,vn,B0,rfl,hbx⟩
 have HO1:=η hbx.of
 have GO:=η hbx.grow
 clear hbx x1 x2 x3 x4 x5 x6 zX
 go_wp2_with fail
 refine(fair_drain (c:=ov (fun _=>none) wz w1) w1 (ov_none_sub _ _) HO1.o HK.o (by have:=H9.o;omega)).mono ?_
 rintro e w2 ⟨v2,rfl,hx2,hb2⟩
 obtain⟨x0,hx0⟩:∃q,q=drainA x:=⟨_,rfl⟩
 rw [←hx0] at hx2
 have HX0:=η hx0
 clear hx0
 obtain⟨al0,cl0,ao0,co0,ah0,ch0,an0,cn0,rfl⟩:=hx2.wd_form
 have HX2:=η hx2
 have GD:=η hb2
 clear hx2 hb2
 obtain⟨w3,hw3⟩:∃y:World,y=w2.alloc (.cells #[.slice none 0 0,.int .i64 0,.int .i64 0,.slice none 0 0,.slice none 0 0,.slice none 0 0] 39):=⟨_,rfl⟩
 obtain⟨B,hB⟩:∃y,y=w2.heap.size:=⟨_,rfl⟩
 have RB:Hid (w3.heap[B]? =some (.cells #[.slice none 0 0,.int .i64 0,.int .i64 0,.slice none 0 0,.slice none 0 0,.slice none 0 0] 39 (0,0))):=η (by rw [hw3,hB];exact row_new _ _)
 have G3:Hid (Grow w2 w3):=η (by rw [hw3];exact(Grow.refl _).alloc _)
 have HBE:Hid (B=w2.heap.size):=η hB
 go_wp2_with (first|(rw [←hw3,←hB];clear hw3 hB;refine wpList_store_row rfl (.tmp 3) (.tmp 7) rfl rfl rfl RB.o info_wd rfl rfl ?_))
 intro w4 r4 g4
 have HX4:Hid (Of Ty.wd (fr wz w4 [some B]) (.agg #[.slice al0 x0.head.log.length cl0,.int .i64 x0.head.boot,.int .i64 x0.head.next,.slice ao0 x0.head.opn.length co0,.slice ah0 x0.houses.length ch0,.slice an0 x0.net.length cn0]) x0):=η (HX2.o.mono (fr_two GO.o GD.o (fun q hq=>by have:=Option.some.inj (List.mem_singleton.1 hq);have:=HBE.o;omega) (fun a9 v9 hl e9=>cell_past (G3.o.sub _ _ e9) g4 (by have:=HBE.o;omega))))
 have R4:=η r4
 have HBW:Hid (wz.heap.size≤B):=η (by have:=GO.o.size;have:=GD.o.size;have:=HBE.o;omega)
 have G4:Hid (Grow wz w4):=η (((GO.o.trans GD.o).trans G3.o).grown g4 (fun q hq=>by have:=Option.some.inj hq;have:=HBW.o;omega))
 have HR0:Hid (rd x 0=x0):=η HX0.o.symm
 clear r4 g4 RB G3 HBE HO1
 go_wp2
 go_loopw [4] (fun i wr=>∃(r:Nat) (j:Int) (row:Array Value),i=.int .i64 j∧r≤4∧j=3 - (r:Int)∧wr.heap[B]? =some (.cells row 39 (0,0))∧Of Ty.wd (fr wz wr [some B]) (.agg row) (rd x r)∧Grow wz wr) (fun i _=>(intOf i+1).toNat)
 case atStart=>exact⟨0,3,_,rfl,by omega,by omega,R4.o,by rw [HR0.o];exact HX4.o,G4.o⟩
 case round=>
  obtain⟨r,j,row,rfl,hr4,hjr,hrow,hx,hg⟩:=hrel
  have hj1:-1≤j:=by omega
  have hj2:j≤3:=by omega
  have HJR:=η hjr
  clear hjr
  have HJ:=η (HK.o.rd H9.o r hr4)
  have HNX:Hid (r<4→rd x (r+1)=drainA (tickA (rd x r) (3 - r))):=η (fun _=>rfl)
  have HEN:Hid (r=4→rd x r=roundA x):=η (fun e=>by rw [e];rfl)
  obtain⟨y,hy⟩:∃y,y=rd x r:=⟨_,rfl⟩
  rw [←hy] at hx HJ HNX HEN
  clear hy
  obtain⟨al2,cl2,ao2,co2,ah2,ch2,an2,cn2,hrw⟩:=hx.wd_form
  simp only [Value.agg.injEq] at hrw
  subst hrw
  have HROW:=η hrow
  have HX:=η hx
  have HG:=η hg
  have HR4:=η hr4
  obtain⟨x1,x2,x3,x4,x5,x6⟩:=cells6 hrow
  have zX:B<wr.heap.size:=(γ hrow)
  clear hrow hx hg hr4
  by_cases hn:0≤j
  ·have t:decide (0≤j)=true:=decide_eq_true hn
   have HN:=η hn
   clear hn
   have HTD:Hid (doA y ⟨6,j,[]⟩=tickA y (3 - r)):=η (by
    have e:j=((3 - r:Nat):Int):=by have:=HJR.o;have:=HN.o;omega
    rw [e];exact tick_do y (3 - r))
   have HDO:=η (world_do (s:=⟨6,j,[]⟩) (vs:=.agg #[.int .i64 6,.int .i64 j,.slice none 0 0]) wr (HX.o.mono (fr_sub _ _ _)) ⟨_,rfl,_,rfl,(show I64 6 by unfold I64;decide),(show I64 j from i64_of (by omega) (by omega)),Sl.nil _ _⟩ HJ.o)
   go_wp2_with fail
   refine HDO.o.mono ?_
   rintro e w5 ⟨v5,rfl,hx5,hb5⟩
   have HJ5:=η (HJ.o.step ⟨6,j,[]⟩ (by have:=H9.o;have:=HR4.o;omega))
   rw [HTD.o] at hx5 HJ5
   generalize doErr y ⟨6,j,[]⟩=er at*
   obtain⟨y5,hy5⟩:∃q,q=tickA y (3 - r):=⟨_,rfl⟩
   rw [←hy5] at hx5 HJ5 HNX
   clear hy5
   obtain⟨al5,cl5,ao5,co5,ah5,ch5,an5,cn5,rfl⟩:=hx5.wd_form
   have HX5:Hid (Of Ty.wd (fr wz w5 [some B]) (.agg #[.slice al5 y5.head.log.length cl5,.int .i64 y5.head.boot,.int .i64 y5.head.next,.slice ao5 y5.head.opn.length co5,.slice ah5 y5.houses.length ch5,.slice an5 y5.net.length cn5]) y5):=η (hx5.mono (ov_frs HG.o (fun q hq=>by have:=Option.some.inj (List.mem_singleton.1 hq);omega)))
   have RW5:=η (row_grow HROW.o hb5)
   have G5:=η (HG.o.trans hb5)
   clear hx5 hb5 HDO x1 x2 x3 x4 x5 x6 zX
   go_wp2_with (first|(refine wpList_store_row rfl (.tmp 3) (.tmp 17) rfl rfl rfl RW5.o info_wd rfl rfl ?_))
   intro w6 r6 g6
   have R6:=η r6
   have HX6:=η (HX5.o.mono (fr_by g6 (by simp)))
   have G6:=η (G5.o.grown g6 (fun q hq=>by have:=Option.some.inj hq;have:=HBW.o;omega))
   clear r6 g6
   obtain⟨x1,x2,x3,x4,x5,x6⟩:=cells6 R6.o
   have zX:B<w6.heap.size:=(γ R6.o)
   go_wp2_with fail
   refine(fair_drain (c:=fr wz w6 [some B]) w6 (fr_sub _ _ _) HX6.o HJ5.o (by have:=H9.o;have:=HR4.o;have:=HJR.o;have:=HN.o;omega)).mono ?_
   rintro e w7 ⟨v7,rfl,hx7,hb7⟩
   rw [←HNX.o (by have:=HJR.o;have:=HN.o;omega)] at hx7
   have HX7:Hid (Of Ty.wd (fr wz w7 [some B]) v7 (rd x (r+1))):=η (hx7.mono (fr_call hb7 (by have:=G6.o.size;omega) (fun q hq=>by have:=Option.some.inj (List.mem_singleton.1 hq);omega)))
   obtain⟨y7,hy7⟩:∃q,q=rd x (r+1):=⟨_,rfl⟩
   rw [←hy7] at hx7 HX7
   have HY7:=η hy7
   clear hy7
   obtain⟨al7,cl7,ao7,co7,ah7,ch7,an7,cn7,rfl⟩:=hx7.wd_form
   have RW7:=η (row_grow R6.o hb7)
   have G7:=η (G6.o.trans hb7)
   clear hx7 hb7 x1 x2 x3 x4 x5 x6 zX
   go_wp2_with (first|(refine wpList_store_row rfl (.tmp 3) (.tmp 20) rfl rfl rfl RW7.o info_wd rfl rfl ?_))
   intro w8 r8 g8
   have R8:=η r8
   have HX8:=η (HX7.o.mono (fr_by g8 (by simp)))
   have G8:=η (G7.o.grown g8 (fun q hq=>by have:=Option.some.inj hq;have:=HBW.o;omega))
   clear r8 g8
   go_wp2
   go_roundw
   case rel=>exact⟨r+1,j - 1,_,by go_num,by have:=HJR.o;have:=HN.o;omega,by have:=HJR.o;omega,R8.o,by rw [←HY7.o];exact HX8.o,G8.o⟩
   case measure=>have:=HN.o;simp [intOf];omega
  ·have t:decide (0≤j)=false:=decide_eq_false hn
   have HE:Hid (y=roundA x):=η (HEN.o (by have:=HJR.o;have:=HR4.o;omega))
   clear hn
   have RZ:=η (row_grow R2.o HG.o)
   have zr:w.heap.size+1<wr.heap.size:=(γ RZ.o)
   go_wp2_with (first|(refine wpList_store_row rfl (.tmp 2) (.tmp 21) rfl rfl rfl RZ.o info_wd rfl rfl ?_))
   intro w7 r7 g7
   obtain⟨p0,p1,p2,p3,p4,p5⟩:=cells6 r7
   go_wp2
   refine bodyPost_ret (v:=.agg #[.slice al2 y.head.log.length cl2,.int .i64 y.head.boot,.int .i64 y.head.next,.slice ao2 y.head.opn.length co2,.slice ah2 y.houses.length ch2,.slice an2 y.net.length cn2]) (by simp [results,Tryz.results26,go_sem,p0,p1,p2,p3,p4,p5]) rfl ?_
   rw [←HE.o]
   exact⟨_,rfl,HX.o.mono (fr_last (by have:=HZ.o;omega) g7 (by have:=HZ.o;omega)),(G1.o.trans HG.o).grown g7 (fun q hq=>by have:=Option.some.inj hq;omega)⟩
theorem flat_short' {α β:Type} {f:α→List β} {b:Nat}:∀(l:List α),(∀x∈l,(f x).length≤b)→(l.flatMap f).length≤l.length*b
 | [],_=>by simp
 |x::l,h=>by
  rw [List.flatMap_cons,List.length_append,List.length_cons,Nat.add_mul,Nat.one_mul]
  have:=h x List.mem_cons_self
  have:=flat_short' l fun y hy=>h y (List.mem_cons_of_mem _ hy)
  omega
structure OpnIn (x:AW) (O:List Int):Prop where
 len:x.houses.length≤3
 log:x.head.log.length≤100000
 logp:∀r∈x.head.log,r.parts.length≤4
 ready:∀h∈x.houses,h.ready.length≤4
 dec:∀r∈decidedR x.head.log,r.parts.length≤4∧r.parts≠ []∧(∀p∈r.parts,0≤p.h∧p.h<3)∧∀q∈housesE r.parts,0≤q∧q<(x.houses.length:Int)
 eq:Lib.compact ((openReady x.houses++openDec x.houses (decidedR x.head.log)).mergeSort fun x y=>decide (x≤y))=O
 small:∀d∈O,I64 d
theorem WI.opnIn {n:Nat} {G:Reg} {x:AW} (hi:WI n G x) (hg:x.head.log.length≤100000) (hlp:LogP x.head.log):OpnIn x (opensE x) where
 len:=by rw [hi.core.len];exact hi.core.n3.2
 log:=hg
 logp:=logP_len hi hlp
 ready:=fun h hh=>by obtain⟨j,hj⟩:=List.mem_iff_getElem?.1 hh;exact ready_len hi.core hj
 dec:=fun r hr=>by
  have hw:wrongE r.parts n=0:=(hi.core.reg.ok _ (hi.core.dec.reg r hr)).2
  have h9:=wrong_ok hw
  have hn:=hi.core.n3
  refine⟨h9.2.1,fun e=>by rw [e] at hw;simp [wrongE] at hw,fun p hp=>by have:=h9.2.2.1 p hp;omega,fun q hq=>?_⟩
  have hq2:=houses_lt hw hq
  have hq3:=houses_mem.1 hq
  rw [hi.core.len]
  omega
 eq:=open_all hi
 small:=fun y hy=>by
  unfold opensE at hy
  obtain⟨d,hd,rfl⟩:=List.mem_map.1 (List.mem_filter.1 hy).1
  have:=List.mem_range.1 hd
  exact i64_of (by omega) (by omega)
set_option maxRecDepth 100000 in
set_option maxHeartbeats 4000000 in
theorem look_openX {v:Value} {x:AW} {O:List Int} (w:World) (hv:Of Ty.wd w.cell? v x) (hi:OpnIn x O):
  Calls Tryz.prog 27 #[v] w fun e w'=>∃v',e=.returned v'∧OwnC Ty.int (fun _=>none) w' w.heap.size 3 v' O∧Grow w w':=by
 obtain⟨al,cl,ao,co,ah,ch,an,cn,rfl⟩:=hv.wd_form
 obtain⟨q1,q2,-⟩:=hv.wd_parts
 have HLG:=η (Of.hd_log q1).1
 obtain⟨ah',ch',he9,h1,h2,-,hel⟩:=q2
 simp only [Value.slice.injEq,true_and] at he9
 obtain⟨rfl,rfl⟩:=he9
 unfold maxLen at h2
 have HEL:=η hel
 have HOQ:=η hi.eq
 have HSM:=η hi.small
 have HGG:=η hi.log
 have HLL:=η hi.logp
 have hl:x.houses.length≤3:=hi.len
 have HRL:=η hi.ready
 have HRB:Hid (∀k,(openReady (x.houses.take k)).length≤12):=η (fun k=>by
  have h9:=flat_short' (f:=fun h:Hs=>h.ready.map (·.deed)) (b:=4) (x.houses.take k) (fun h hh=>by rw [List.length_map];exact HRL.o h (List.mem_of_mem_take hh))
  rw [List.length_take] at h9
  unfold openReady
  omega)
 have HDP:=η hi.dec
 clear hv q1 hel hi
 obtain⟨wa,hwa⟩:∃y:World,y=w.alloc (.cells #[.slice al x.head.log.length cl,.int .i64 x.head.boot,.int .i64 x.head.next,.slice ao x.head.opn.length co,.slice ah x.houses.length ch,.slice an x.net.length cn] 39):=⟨_,rfl⟩
 have R1:Hid (wa.heap[w.heap.size]? =some (.cells #[.slice al x.head.log.length cl,.int .i64 x.head.boot,.int .i64 x.head.next,.slice ao x.head.opn.length co,.slice ah x.houses.length ch,.slice an x.net.length cn] 39 (0,0))):=η (by rw [hwa];exact row_new _ _)
 have G1:Hid (Grow w wa):=η (by rw [hwa];exact(Grow.refl w).alloc _)
 have HZ:Hid (wa.heap.size=w.heap.size+1):=η (by rw [hwa];simp)
 have HWA:=η hwa
 clear hwa
 go_enter Tryz.func27,Tryz.ntmps27
 go_upto_region 1 with fail
 rw [←HWA.o]
 clear HWA
 obtain⟨c0,c1,c2,c3,c4,c5⟩:=cells6 R1.o
 have z1:w.heap.size<wa.heap.size:=(γ R1.o)
 go_wp2
 clear c0 c1 c2 c3 c4 c5 z1
 go_loopw [3,15] (fun s3 i wr=>∃k:Nat,k≤x.houses.length∧i=.int .i64 k∧Grow w wr∧wr.heap[w.heap.size]? =some (.cells #[.slice al x.head.log.length cl,.int .i64 x.head.boot,.int .i64 x.head.next,.slice ao x.head.opn.length co,.slice ah x.houses.length ch,.slice an x.net.length cn] 39 (0,0))∧OwnC Ty.int (fun _=>none) wr (w.heap.size+1) 3 s3 (openReady (x.houses.take k))∧w.heap.size+1≤wr.heap.size) (fun _ i _=>x.houses.length - (intOf i).toNat)
 case atStart=>exact⟨0,by omega,rfl,G1.o,R1.o,OwnC.nil _ _ _ _ _,by have:=HZ.o;omega⟩
 case round=>
  obtain⟨k,hk',rfl,hb,hrow,how,hsz⟩:=hrel
  by_cases hlt:k<x.houses.length
  ·obtain⟨bh,oh,vl,vr,vd,rfl,e0,e1,e2,e3,e4,e5,e6,hH1,-,-,-,-,hH2,hH3⟩:=Hss.at_ HEL.o k hlt
   obtain⟨il,jl,rfl,-⟩:=id hH1
   obtain⟨id9,jd,rfl,-⟩:=id hH3
   obtain⟨ir,jr,rfl,hr1,hr2,-,hrel9⟩:=hH2
   unfold maxLen at hr2
   have HNX:Hid (openReady (x.houses.take (k+1))=openReady (x.houses.take k)++x.houses[k].ready.map (·.deed)):=η (flat_next _ hlt)
   have HLK:=η (HRB.o k)
   have HRK:=η (HRL.o _ (List.getElem_mem hlt))
   have HRE:=η hrel9
   have HO:=η how
   have HROW:=η hrow
   have HB:=η hb
   have HSZ:=η hsz
   obtain⟨a3,p3,rfl⟩:=how.form
   replace e0:=hb.sub _ _ e0
   replace e1:=hb.sub _ _ e1
   replace e2:=hb.sub _ _ e2
   replace e3:=hb.sub _ _ e3
   replace e4:=hb.sub _ _ e4
   replace e5:=hb.sub _ _ e5
   replace e6:=hb.sub _ _ e6
   clear hH1 hH3 hrel9 how hrow hb hsz
   generalize x.houses[k]=h at*
   generalize openReady (x.houses.take k)=ls at*
   go_upto_region 5 with fail
   obtain⟨wo,hwo⟩:∃y:World,y=wr.alloc (.cells #[.slice il h.log.length jl,.int .i64 h.sums.a,.int .i64 h.sums.b,.int .i64 h.sums.c,.int .i64 h.sums.d,.slice ir h.ready.length jr,.slice id9 h.done.length jd] 68):=⟨_,rfl⟩
   obtain⟨BO,hBO⟩:∃y,y=wr.heap.size:=⟨_,rfl⟩
   have GO:Hid (Grow wr wo):=η (by rw [hwo];exact(Grow.refl _).alloc _)
   have RO:Hid (wo.heap[BO]? =some (.cells #[.slice il h.log.length jl,.int .i64 h.sums.a,.int .i64 h.sums.b,.int .i64 h.sums.c,.int .i64 h.sums.d,.slice ir h.ready.length jr,.slice id9 h.done.length jd] 68 (0,0))):=η (by rw [hwo,hBO];exact row_new _ _)
   rw [←hwo,←hBO]
   clear hwo hBO e0 e1 e2 e3 e4 e5 e6
   obtain⟨f0,f1,f2,f3,f4,f5,f6⟩:=cells7 RO.o
   have zO:BO<wo.heap.size:=(γ RO.o)
   go_wp2
   clear f0 f1 f2 f3 f4 f5 f6 zO
   obtain⟨wx,hwx⟩:∃y:World,y=wr:=⟨_,rfl⟩
   rw [←hwx] at GO HROW HB HO HSZ
   clear hwx
   go_loopw [3,22] (fun s3 i2 wr=>∃j:Nat,j≤h.ready.length∧i2=.int .i64 j∧Grow w wr∧wr.heap[w.heap.size]? =some (.cells #[.slice al x.head.log.length cl,.int .i64 x.head.boot,.int .i64 x.head.next,.slice ao x.head.opn.length co,.slice (some ⟨bh,oh,none⟩) x.houses.length ch,.slice an x.net.length cn] 39 (0,0))∧OwnC Ty.int (fun _=>none) wr (w.heap.size+1) 3 s3 (ls++(h.ready.take j).map (·.deed))∧w.heap.size+1≤wr.heap.size) (fun _ i2 _=>h.ready.length - (intOf i2).toNat)
   case atStart=>exact⟨0,by omega,rfl,HB.o.trans GO.o,row_grow HROW.o GO.o,by simpa using HO.o.grow GO.o,Nat.le_trans HSZ.o GO.o.size⟩
   case round=>
    obtain⟨j,hj',rfl,hb2,hrow2,how2,hsz2⟩:=hrel
    obtain⟨a4,p4,rfl⟩:=how2.form
    have HR2:=η hrow2
    have HB2:=η hb2
    have HO2:=η how2
    have HS2:=η hsz2
    clear hrow2 how2 hsz2
    by_cases hjl:j<h.ready.length
    ·obtain⟨br,orr,vp,rfl,t0,t1,ti,hP⟩:=Rds.at_ HRE.o j hjl
     obtain⟨ap,cp,rfl,-⟩:=id hP
     have HN2:=η (map_next (fun r:Rd=>r.deed) hjl)
     have HL2:Hid ((ls++(h.ready.take j).map (·.deed)).length≤16):=η (by rw [List.length_append,List.length_map,List.length_take];have:=HLK.o;have:=HRK.o;omega)
     have HTI:=η ti
     replace t0:=hb2.sub _ _ t0
     replace t1:=hb2.sub _ _ t1
     clear hP hb2 ti
     generalize h.ready[j]=r at*
     generalize (h.ready.take j).map (·.deed)=ms at*
     generalize hlm:ls++ms=lm at*
     have HLM:=η hlm
     clear hlm
     go_wp2_with (first|(at_builtin;refine wpList_appc (c:=fun _=>none) (base:=w.heap.size+1) (l:=lm) (m:=[r.deed]) ei_int rfl one_Tint (by decide) rfl (.tmp 26) (.tmp 29) rfl rfl (HO2.o.grow (((Grow.refl _).alloc _).alloc _)) rfl (Src.of_new (T:=Ty.int) (x:=r.deed) (cs:=#[.int .i64 r.deed]) ⟨rfl,HTI.o⟩ _ _ ?d1) ?d2 ?d3 ?_))
     case d1=>first|rfl|simp
     case d2=>have:=HL2.o;simp;omega
     case d3=>have:=HS2.o;simp;omega
     intro a9 c9 w9 ho9 hg9 hb9
     have HLT:=HO2.o.lt
     have HG9:Hid (Grow w w9):=η (((HB2.o.alloc _).alloc _).grown hg9 (fun q hq=>by have:=(HLT q hq).1;omega))
     have HR9:=η (row_by (row_grow HR2.o (((Grow.refl wr).alloc (.cells #[.int .i64 r.deed,.slice ap r.parts.length cp] 77)).alloc (.cells #[.int .i64 r.deed] 3))) hg9 (by intro e;have:=(HLT _ e.symm).1;omega))
     have HO9:=η ho9
     have HS9:Hid (w.heap.size+1≤w9.heap.size):=η (by have h8:=hg9.size;simp at h8;have:=HS2.o;omega)
     clear ho9 hg9 hb9 HLT
     go_wp2
     go_roundw
     case rel=>exact⟨j+1,by omega,by go_num,HG9.o,HR9.o,by rw [HN2.o,←List.append_assoc,HLM.o];exact HO9.o,HS9.o⟩
     case measure=>simp [intOf];omega
    ·have hTL:h.ready.take j=h.ready:=List.take_of_length_le (by omega)
     rw [hTL] at HO2 ⊢
     clear hTL hb2
     generalize hlm:ls++h.ready.map (·.deed)=lm at*
     have HLM:=η hlm
     clear hlm
     go_wp2
     go_roundw
     case rel=>exact⟨k+1,by omega,by go_num,HB2.o,HR2.o,by rw [HNX.o];exact HO2.o,HS2.o⟩
     case measure=>simp [intOf];omega
  ·have hTL:x.houses.take k=x.houses:=List.take_of_length_le (by omega)
   obtain⟨a3,p3,rfl⟩:=how.form
   have HO:=η how
   have HROW:=η hrow
   have HB:=η hb
   have HSZ:=η hsz
   have HLK:Hid ((openReady x.houses).length≤12):=η (by have:=HRB.o x.houses.length;rw [List.take_length] at this;exact this)
   have HOA:=η HOQ.o
   clear how hrow hb hsz
   rw [hTL] at HO ⊢
   clear hTL
   generalize openReady x.houses=ls at*
   obtain⟨D,hD⟩:∃y,y=decidedR x.head.log:=⟨_,rfl⟩
   rw [←hD] at HOA HDP
   have HDD:=η hD
   have hdl:D.length≤100000:=by rw [hD];unfold decidedR;rw [List.length_map];exact Nat.le_trans (List.length_filter_le _ _) HGG.o
   clear hD
   obtain⟨c0,c1,c2,c3,c4,c5⟩:=cells6 HROW.o
   have z1:w.heap.size<wr.heap.size:=(γ HROW.o)
   go_wp2_with fail
   refine(wlog_decided (l:=x.head.log) _ (HLG.o.mono HB.o.sub) (by have:=HGG.o;omega) (fun r hr=>by have:=HLL.o r hr;omega)).mono ?_
   rintro e w5 ⟨v5,rfl,ho5,hb5⟩
   rw [←HDD.o] at ho5
   have hsl5:=ho5.ovn (by decide)
   obtain⟨a5,p5,rfl,hd1,hd2,-,held⟩:=hsl5
   have HLD:=η held
   have HB5:=η (HB.o.trans hb5)
   have HR5:=η (row_grow HROW.o hb5)
   have HO5:=η (HO.o.grow hb5)
   have HX5:=η (ov_none_sub wr w5)
   have HQ5:=η HO.o.lt
   have HS5:=η hb5.size
   clear ho5 hb5 held c0 c1 c2 c3 c4 c5 z1
   obtain⟨wB,hwB⟩:∃y:World,y=wr:=⟨_,rfl⟩
   rw [←hwB] at HLD HX5 HQ5 HS5 HSZ
   clear hwB
   go_wp2
   go_loopw [3,38] (fun s3 i wr=>∃k:Nat,k≤D.length∧i=.int .i64 k∧Grow w wr∧wr.heap[w.heap.size]? =some (.cells #[.slice al x.head.log.length cl,.int .i64 x.head.boot,.int .i64 x.head.next,.slice ao x.head.opn.length co,.slice ah x.houses.length ch,.slice an x.net.length cn] 39 (0,0))∧OwnC Ty.int (fun _=>none) wr (w.heap.size+1) 3 s3 (ls++openDec x.houses (D.take k))∧Sub (ov (fun _=>none) wB w5) wr.cell?∧(∀q,s3.ownBlock=some q→q<wB.heap.size∨w5.heap.size≤q)∧w5.heap.size≤wr.heap.size) (fun _ i _=>D.length - (intOf i).toNat)
   case atStart=>exact⟨0,by omega,rfl,HB5.o,HR5.o,by simpa [openDec] using HO5.o,HX5.o,fun q hq=>.inl (HQ5.o q hq).2,Nat.le_refl _⟩
   case round=>
    obtain⟨k3,hk3,rfl,hb3,hrow3,how3,hx3,hq3,hs3⟩:=hrel
    obtain⟨a6,p6,rfl⟩:=how3.form
    have HO3:=η how3
    have HR3:=η hrow3
    have HB3:=η hb3
    have HX3:=η hx3
    have HQ3:=η hq3
    have HS3:=η hs3
    clear how3 hrow3 hb3 hx3 hq3 hs3
    by_cases hlt3:k3<D.length
    ·have HRP:=η (HDP.o _ (List.getElem_mem hlt3))
     have HDX:Hid (openDec x.houses (D.take (k3+1))=openDec x.houses (D.take k3)++openAt x.houses D[k3]):=η (flat_next _ hlt3)
     have HLA:Hid ((ls++openDec x.houses (D.take k3)).length≤300012):=η (by
      rw [List.length_append]
      have h9:=flat_short (f:=openAt x.houses) (b:=3) (fun r=>by unfold openAt;rw [List.length_map];exact Nat.le_trans (List.length_filter_le _ _) (houses_short _)) (D.take k3)
      rw [List.length_take] at h9
      unfold openDec
      have:=HLK.o
      omega)
     obtain⟨bd,od,vp,rfl,t0,t1,ti,hP⟩:=Rds.at_ HLD.o k3 hlt3
     obtain⟨ap,cp,rfl,-⟩:=id hP
     have HTI:=η ti
     have HPR:=η hP
     replace t0:=HX3.o _ _ t0
     replace t1:=HX3.o _ _ t1
     clear hP ti
     generalize D[k3]=r at*
     generalize hlm:ls++openDec x.houses (D.take k3)=lm at*
     have HLM:=η hlm
     clear hlm
     go_upto_region 14 with fail
     obtain⟨wq,hwq⟩:∃y:World,y=wr.alloc (.cells #[.int .i64 r.deed,.slice ap r.parts.length cp] 77):=⟨_,rfl⟩
     obtain⟨BR,hBR⟩:∃y,y=wr.heap.size:=⟨_,rfl⟩
     have GQ:Hid (Grow wr wq):=η (by rw [hwq];exact(Grow.refl _).alloc _)
     have RQ:Hid (wq.heap[BR]? =some (.cells #[.int .i64 r.deed,.slice ap r.parts.length cp] 77 (0,0))):=η (by rw [hwq,hBR];exact row_new _ _)
     have HBR:Hid (BR=wr.heap.size):=η hBR
     have HQL:Hid (wq.heap.size=BR+1):=η (by rw [hwq,hBR];simp)
     rw [←hwq,←hBR]
     clear hwq hBR t0 t1
     obtain⟨s0,s1⟩:=cells2 RQ.o
     have zR:BR<wq.heap.size:=(γ RQ.o)
     go_wp2_with fail
     refine(part_houses _ (HPR.o.mono (HX3.o.trans GQ.o.sub)) (by have:=HRP.o.1;omega) HRP.o.2.1 HRP.o.2.2.1).mono ?_
     rintro e w6 ⟨v6,rfl,ho6,hb6⟩
     obtain⟨a7,c7,rfl⟩:=owns_form ho6
     have hn6:=(OwnC.ints (c:=fun _=>none) ho6 (houses_ok r.parts)).slc (d:=ov (fun _=>none) wq w6) (by decide) (fun _ _ e9=>by cases e9) fun a ha=>ov_new ha
     obtain⟨a7',c7',he7,-,-,-,heln⟩:=hn6
     simp only [Value.slice.injEq,true_and] at he7
     obtain⟨rfl,rfl⟩:=he7
     have HNS:=η heln
     have HRQ:=η HRP.o.2.2.2
     have HAT:Hid (openAt x.houses r=((housesE r.parts).filter (fun n9:Int=>!decide (r.deed∈(x.houses.getD n9.toNat hs0).done))).map fun _=>r.deed):=η rfl
     have hns:=houses_short r.parts
     have HB6:=η (HB3.o.trans (GQ.o.trans hb6))
     have HR6:=η (row_grow HR3.o (GQ.o.trans hb6))
     have HO6:=η (HO3.o.grow (GQ.o.trans hb6))
     have HX6:=η (HX3.o.trans (GQ.o.trans hb6).sub)
     have HY6:=η (ov_none_sub wq w6)
     have RQ6:=η (row_grow RQ.o hb6)
     have HQ6:=η (fun q (hq:(Value.slice a6 lm.length p6).ownBlock=some q)=>And.intro (HQ3.o q hq) ((HO3.o.lt q hq).2))
     have HLW:Hid (BR<w6.heap.size):=η (by have:=hb6.size;have:=HQL.o;omega)
     have HS6:Hid (w5.heap.size≤w6.heap.size∧w5.heap.size≤BR):=η (by have:=HS3.o;have:=HBR.o;have:=hb6.size;have:=HQL.o;omega)
     clear ho6 hb6 heln s0 s1 zR HX3 HR3 HB3 HO3
     generalize housesE r.parts=ns at*
     have HBQ:=η HBR.o
     clear HBR
     rw [←HBQ.o] at HQ6
     clear HBQ HS3 HQ3
     clear GQ
     go_wp2
     go_loopw [3,46] (fun s3 i2 wr=>∃j:Nat,j≤ns.length∧i2=.int .i64 j∧Grow w wr∧wr.heap[w.heap.size]? =some (.cells #[.slice al x.head.log.length cl,.int .i64 x.head.boot,.int .i64 x.head.next,.slice ao x.head.opn.length co,.slice ah x.houses.length ch,.slice an x.net.length cn] 39 (0,0))∧OwnC Ty.int (fun _=>none) wr (w.heap.size+1) 3 s3 (lm++((ns.take j).filter (fun n9:Int=>!decide (r.deed∈(x.houses.getD n9.toNat hs0).done))).map fun _=>r.deed)∧Sub (ov (fun _=>none) wB w5) wr.cell?∧Sub (ov (fun _=>none) wq w6) wr.cell?∧wr.heap[BR]? =some (.cells #[.int .i64 r.deed,.slice ap r.parts.length cp] 77 (0,0))∧(∀q,s3.ownBlock=some q→(q<wB.heap.size∨w5.heap.size≤q)∧(q<BR∨w6.heap.size≤q))∧w6.heap.size≤wr.heap.size) (fun _ i2 _=>ns.length - (intOf i2).toNat)
     case atStart=>exact⟨0,by omega,rfl,HB6.o,HR6.o,by simpa using HO6.o,HX6.o,HY6.o,RQ6.o,fun q hq=>⟨(HQ6.o q hq).1,.inl (HQ6.o q hq).2⟩,Nat.le_refl _⟩
     case round=>
      obtain⟨j,hj',rfl,hb7,hrow7,how7,hx7,hy7,hrq7,hq7,hs7⟩:=hrel
      obtain⟨a8,p8,rfl⟩:=how7.form
      have HO7:=η how7
      have HR7:=η hrow7
      have HB7:=η hb7
      have HX7:=η hx7
      have HY7:=η hy7
      have HW7:=η hrq7
      have HQ7:=η hq7
      have HS7:=η hs7
      clear how7 hrow7 hb7 hx7 hy7 hrq7 hq7 hs7
      by_cases hjl:j<ns.length
      ·obtain⟨hn0,hn1⟩:=HRQ.o _ (List.getElem_mem hjl)
       obtain⟨m,hm⟩:∃m:Nat,ns[j]=(m:Int):=⟨ns[j].toNat,by omega⟩
       have hml:m<x.houses.length:=by omega
       have HQM:Hid ((fun n9:Int=>!decide (r.deed∈(x.houses.getD n9.toNat hs0).done)) ns[j]=!decide (r.deed∈x.houses[m].done)):=η (by
        show(!decide (r.deed∈(x.houses.getD (ns[j]).toNat hs0).done))=_
        rw [hm,Int.toNat_natCast,List.getD_eq_getElem?_getD,List.getElem?_eq_getElem hml]
        rfl)
       have HFN:Hid (((ns.take (j+1)).filter (fun n9:Int=>!decide (r.deed∈(x.houses.getD n9.toNat hs0).done))).map (fun _=>r.deed)=if(!decide (r.deed∈x.houses[m].done))=true then((ns.take j).filter (fun n9:Int=>!decide (r.deed∈(x.houses.getD n9.toNat hs0).done))).map (fun _=>r.deed)++ [r.deed] else((ns.take j).filter (fun n9:Int=>!decide (r.deed∈(x.houses.getD n9.toNat hs0).done))).map (fun _=>r.deed)):=η (by
        have h9:=fmap_next (fun n9:Int=>!decide (r.deed∈(x.houses.getD n9.toNat hs0).done)) (fun _=>r.deed) hjl
        rw [←HQM.o]
        exact h9)
       obtain⟨bx,ox,rfl,x0,hni⟩:=intAt HNS.o j hjl
       replace x0:=HY7.o _ _ x0
       rw [hm] at x0
       have HL8:Hid ((lm++((ns.take j).filter (fun n9:Int=>!decide (r.deed∈(x.houses.getD n9.toNat hs0).done))).map fun _=>r.deed).length≤300015):=η (by
        rw [List.length_append,List.length_map]
        have h9:=List.length_filter_le (fun n9:Int=>!decide (r.deed∈(x.houses.getD n9.toNat hs0).done)) (ns.take j)
        rw [List.length_take] at h9
        have:=HLA.o
        omega)
       obtain⟨bh,oh,vl,vr,vd,rfl,e0,e1,e2,e3,e4,e5,e6,hH1,-,-,-,-,hH2,hH3⟩:=Hss.at_ HEL.o m hml
       obtain⟨id9,jd,rfl,-⟩:=id hH3
       have HDI:=η hH3
       have HE6:=η e6
       have hm0:(0:Int)≤(m:Int):=by omega
       have hm1:(m:Int)<(x.houses.length:Int):=by omega
       clear e0 e1 e2 e3 e4 e5 e6 hH1 hH2 hH3 hni hn0 hn1 hm
       generalize x.houses[m]=h at*
       generalize ns[j]=nj at*
       generalize ((ns.take j).filter (fun n9:Int=>!decide (r.deed∈(x.houses.getD n9.toNat hs0).done))).map (fun _=>r.deed)=ms at*
       generalize hlr:lm++ms=lr at*
       have HLR:=η hlr
       clear hlr
       go_upto_region 17 with fail
       clear x0
       have HS:Hid (∀W,Grow wr W→W.cell? ⟨w.heap.size,4,none⟩=some (.slice (some ⟨bh,oh,none⟩) x.houses.length ch)∧W.cell? ⟨bh,oh+m*7+6,none⟩=some (.slice id9 h.done.length jd)∧W.cell? ⟨BR,0,none⟩=some (.int .i64 r.deed)):=fun W hW=>by
        obtain⟨-,-,-,-,j4,-⟩:=cells6 (row_grow HR7.o hW)
        obtain⟨k0,-⟩:=cells2 (row_grow HW7.o hW)
        exact⟨j4,(HB7.o.trans hW).sub _ _ HE6.o,k0⟩
       refine but_start (fun w'=>w'.cell? ⟨w.heap.size,4,none⟩=some (.slice (some ⟨bh,oh,none⟩) x.houses.length ch)∧w'.cell? ⟨bh,oh+m*7+6,none⟩=some (.slice id9 h.done.length jd)∧w'.cell? ⟨BR,0,none⟩=some (.int .i64 r.deed)) 9 (by kernel_rfl) ?_
       obtain⟨wd,hWd⟩:∃x:World,x=wr.drew:=⟨_,rfl⟩
       rw [←hWd]
       have GD:Grow wr wd:=by rw [hWd];exact(Grow.refl _).drew
       have zD:wr.heap.size=wd.heap.size:=by rw [hWd];rfl
       have ZD:=η zD
       clear hWd zD
       refine bLm [0,1,2,3,4,5,6,7] 12 (by kernel_rfl) (fun _ _ _ _ _ h=>h) (HS.o _ GD) ?_
       repeat (refine tNm (v:=?_) rfl (by rfl) ?_ ?_;rotate_left;(· (intro w' hSw;(try dsimp only at hSw);obtain⟨hs0,hs1,hs2⟩:=hSw;go_simp<;>with_reducible rfl));try simp only [Act.put,lzA,lzB,lzC,lzD,lzE,lzF])
       refine tEm ?_
       refine bO 8 (by kernel_rfl) rfl ?_
       intro K HK
       try simp only [lzA,lzB,lzC]
       go_simp
       go_at_call 48
       refine(contains_int (n:=r.deed) _ (HDI.o.mono (HB7.o.trans GD).sub)).mono ?_
       rintro e8 w8 ⟨rfl,hb8⟩
       have G8:=η (Grow.trans GD hb8)
       clear hb8
       obtain⟨tn,htn⟩:∃b:Bool,b=decide (r.deed∈h.done):=⟨_,rfl⟩
       rw [←htn]
       have HTN:=η htn
       clear htn
       refine HK.o _ _ ⟨fun _=>HS.o _ G8.o,?_⟩
       clear HK K
       try simp only [Act.put,lzA,lzB,lzC,lzD,lzE,lzF]
       refine bO 9 (by kernel_rfl) rfl ?_
       intro K HK
       try simp only [lzA,lzB,lzC]
       go_simp
       refine HK.o _ _ ⟨fun h=>absurd rfl h,?_⟩
       clear HK K
       try simp only [Act.put,lzA,lzB,lzC,lzD,lzE,lzF]
       refine but_done (by kernel_rfl) ?_
       have HO8:=η (HO7.o.grow G8.o)
       have HR8:=η (row_grow HR7.o G8.o)
       have HB8:=η (HB7.o.trans G8.o)
       have HX8:=η (HX7.o.trans G8.o.sub)
       have HY8:=η (HY7.o.trans G8.o.sub)
       have HW8:=η (row_grow HW7.o G8.o)
       have HS8:=η (Nat.le_trans HS7.o G8.o.size)
       cases tn with
       |true=>
        rw [←HTN.o,if_neg (by simp)] at HFN
        go_wp2
        go_roundw
        case rel=>exact⟨j+1,by omega,by go_num,HB8.o,HR8.o,by rw [HFN.o,HLR.o];exact HO8.o,HX8.o,HY8.o,HW8.o,HQ7.o,HS8.o⟩
        case measure=>simp [intOf];omega
       |false=>
        rw [←HTN.o,if_pos (by simp)] at HFN
        obtain⟨s0,s1⟩:=cells2 HW8.o
        have zR:BR<w8.heap.size:=(γ HW8.o)
        go_wp2_with (first|(at_builtin;refine wpList_appc (c:=fun _=>none) (base:=w.heap.size+1) (l:=lr) (m:=[r.deed]) ei_int rfl one_Tint (by decide) rfl (.tmp 60) (.tmp 63) rfl rfl (HO8.o.grow ((Grow.refl _).alloc _)) rfl (Src.of_new (T:=Ty.int) (x:=r.deed) (cs:=#[.int .i64 r.deed]) ⟨rfl,HTI.o⟩ _ _ ?d1) ?d2 ?d3 ?_))
        case d1=>first|rfl|simp
        case d2=>have:=HL8.o;simp;omega
        case d3=>have:=HO8.o;have h8:=HS8.o;have h9:=HS6.o;have:=HSZ.o;have:=HS5.o;simp;omega
        intro a9 c9 w9 ho9 hg9 hb9
        have HLT:=HO8.o.lt
        have HG9:Hid (Grow w w9):=η ((HB8.o.alloc _).grown hg9 (fun q hq=>by have:=(HLT q hq).1;omega))
        have ha8:Grow w8 (w8.alloc (.cells #[.int .i64 r.deed] 3)):=(Grow.refl _).alloc _
        have HR9:=η (row_by (row_grow HR8.o ha8) hg9 (by intro e;have:=(HLT _ e.symm).1;omega))
        have HW9:=η (row_by (row_grow HW8.o ha8) hg9 (by intro e;have h5:=(HQ7.o _ e.symm).2;have h6:=HLW.o;omega))
        have HX9:=η (keep_rg (HX8.o.trans ha8.sub) hg9 (fun q hq=>(HQ7.o q hq).1))
        have HY9:=η (keep_rg (HY8.o.trans ha8.sub) hg9 (fun q hq=>by have h5:=(HQ7.o q hq).2;have:=HQL.o;omega))
        have HO9:=η ho9
        have HQ9:Hid (∀q,(Value.slice a9 (lr.length+ [r.deed].length) c9).ownBlock=some q→(q<wB.heap.size∨w5.heap.size≤q)∧(q<BR∨w6.heap.size≤q)):=η (fun q hq=>by
         rcases hb9 with hb9|⟨g,hb9,hge⟩
         ·exact HQ7.o q (hb9.symm.trans hq)
         ·obtain rfl:=Option.some.inj (hb9.symm.trans hq)
          have h1:=HS8.o;have h2:=HS6.o;(try simp at hge);exact⟨.inr (by omega),.inr (by omega)⟩)
        have HS9:Hid (w6.heap.size≤w9.heap.size):=η (by have h8:=hg9.size;simp at h8;have:=HS8.o;omega)
        clear ho9 hg9 hb9 HLT s0 s1 zR ha8
        go_wp2
        go_roundw
        case rel=>exact⟨j+1,by omega,by go_num,HG9.o,HR9.o,by rw [HFN.o,←List.append_assoc,HLR.o];exact HO9.o,HX9.o,HY9.o,HW9.o,HQ9.o,HS9.o⟩
        case measure=>simp [intOf];omega
      ·have hTL:ns.take j=ns:=List.take_of_length_le (by omega)
       rw [hTL,←HAT.o] at HO7 HQ7 ⊢
       clear hTL
       generalize hl9:lm++openAt x.houses r=l9 at*
       have HL9:=η hl9
       clear hl9
       go_wp2
       go_roundw
       case rel=>exact⟨k3+1,by omega,by go_num,HB7.o,HR7.o,by rw [HDX.o,←List.append_assoc,HLM.o,HL9.o];exact HO7.o,HX7.o,fun q hq=>(HQ7.o q hq).1,Nat.le_trans HS6.o.1 HS7.o⟩
       case measure=>simp [intOf];omega
    ·have hTL:D.take k3=D:=List.take_of_length_le (by omega)
     have HLZ:Hid ((ls++openDec x.houses D).length≤300012):=η (by
      rw [List.length_append]
      have h9:=flat_short (f:=openAt x.houses) (b:=3) (fun r=>by unfold openAt;rw [List.length_map];exact Nat.le_trans (List.length_filter_le _ _) (houses_short _)) D
      unfold openDec
      have:=HLK.o
      omega)
     rw [hTL] at HO3 ⊢
     clear hTL
     generalize ls++openDec x.houses D=lm at*
     have HLT:=η HO3.o.lt
     go_wp2_with fail
     refine(own_sort' HO3.o.toInts (by have:=HLZ.o;omega)).mono ?_
     rintro e w8 ⟨rfl,ho8,hg8⟩
     have HO8:=η ho8
     have HG8:=η (HB3.o.grown hg8 (fun q hq=>by have:=(HLT.o q hq).1;omega))
     have hml:(lm.mergeSort fun x y=>decide (x≤y)).length=lm.length:=List.length_mergeSort _
     have HML:=η hml
     clear ho8 hg8 hml
     go_wp2_with fail
     refine(own_compact HO8.o (by rw [HML.o];have:=HLZ.o;omega)).mono ?_
     rintro e w9 ⟨v9,rfl,ho9,hg9⟩
     rw [HOA.o] at ho9
     have HO9:=η ho9
     have HG9:=η (HG8.o.grown hg9 (fun q hq=>by have:=(HLT.o q hq).1;omega))
     clear ho9 hg9
     go_wp2
     go_ret
     exact⟨_,rfl,(OwnC.ints HO9.o HSM.o).base (Nat.le_succ _),HG9.o⟩
theorem look_open {v:Value} {x:AW} {n:Nat} {G:Reg} (w:World) (hv:Of Ty.wd w.cell? v x) (hi:WI n G x) (hg:x.head.log.length≤100000) (hlp:LogP x.head.log):
  Calls Tryz.prog 27 #[v] w fun e w'=>∃v',e=.returned v'∧OwnC Ty.int (fun _=>none) w' w.heap.size 3 v' (opensE x)∧Grow w w':=look_openX w hv (hi.opnIn hg hlp)
theorem idle_len (x:AW):idleA x=(((x.net.length:Int)==0)&&((x.head.opn.length:Int)==0)&&(((opensE x).length:Int)==0)):=by
 unfold idleA
 cases x.net<;>cases x.head.opn<;>cases opensE x<;>simp<;>omega
set_option maxRecDepth 100000 in
set_option maxHeartbeats 4000000 in
theorem fair_idle {v:Value} {x:AW} {k:Nat} (w:World) (hv:Of Ty.wd w.cell? v x) (hk:WK k x):
  Calls Tryz.prog 16 #[v] w fun e w'=>e=.returned (.bool (idleA x))∧Grow w w':=by
 have HV:=η hv
 obtain⟨n,G,hwi⟩:=hk.wi
 have HOP:=η (fun(W:World) (hW:Grow w W)=>look_open W (hv.mono hW.sub) hwi (by have:=hk.few.log;have:=hk.le;omega) hk.logp)
 have HLEN:=η (idle_len x)
 obtain⟨al,cl,ao,co,ah,ch,an,cn,rfl⟩:=hv.wd_form
 clear hv hk hwi
 obtain⟨wz,hwz⟩:∃y:World,y=w.alloc (.cells #[.slice al x.head.log.length cl,.int .i64 x.head.boot,.int .i64 x.head.next,.slice ao x.head.opn.length co,.slice ah x.houses.length ch,.slice an x.net.length cn] 39):=⟨_,rfl⟩
 have R1:Hid (wz.heap[w.heap.size]? =some (.cells #[.slice al x.head.log.length cl,.int .i64 x.head.boot,.int .i64 x.head.next,.slice ao x.head.opn.length co,.slice ah x.houses.length ch,.slice an x.net.length cn] 39 (0,0))):=η (by rw [hwz];exact row_new _ _)
 have G1:Hid (Grow w wz):=η (by rw [hwz];exact(Grow.refl w).alloc _)
 obtain⟨b1,h1⟩:∃b,b=((x.net.length:Int)==0):=⟨_,rfl⟩
 obtain⟨b2,h2⟩:∃b,b=((x.head.opn.length:Int)==0):=⟨_,rfl⟩
 rw [←h1,←h2] at HLEN
 go_enter Tryz.func16,Tryz.ntmps16
 go_upto_region 1 with fail
 rw [←hwz]
 clear hwz
 obtain⟨x1,x2,x3,x4,x5,x6⟩:=cells6 R1.o
 have zX:w.heap.size<wz.heap.size:=(γ R1.o)
 cases b1 with
 |false=>
  have t1:((x.net.length:Int)==0)=false:=h1.symm
  clear h1 h2
  go_wp2
  go_ret
  exact⟨by rw [HLEN.o];rfl,G1.o⟩
 |true=>
  have t1:((x.net.length:Int)==0)=true:=h1.symm
  clear h1
  cases b2 with
  |false=>
   have t2:((x.head.opn.length:Int)==0)=false:=h2.symm
   clear h2
   go_wp2
   go_ret
   exact⟨by rw [HLEN.o];rfl,G1.o⟩
  |true=>
   have t2:((x.head.opn.length:Int)==0)=true:=h2.symm
   clear h2
   go_wp2_with fail
   refine(HOP.o _ G1.o).mono ?_
   rintro e w1 ⟨v1,rfl,ho,hg⟩
   obtain⟨a1,c1,rfl⟩:=ho.form
   obtain⟨b3,h3⟩:∃b,b=(((opensE x).length:Int)==0):=⟨_,rfl⟩
   rw [←h3] at HLEN
   generalize opensE x=os at*
   have t3:((os.length:Int)==0)=b3:=h3.symm
   have G2:=η (G1.o.trans hg)
   clear ho hg h3
   go_wp2
   go_ret
   exact⟨by rw [HLEN.o];rfl,G2.o⟩
theorem fr_one {wz w1 w3:World} {X:List (Option Nat)} (hX:∀q,some q∈X→w1.heap.size≤q) (h3:∀(a:Addr) (v:Value),a.block<w1.heap.size→w1.cell? a=some v→w3.cell? a=some v):Sub (ov (fun _=>none) wz w1) (fr wz w3 X):=fun a v e=>by
 unfold ov at e
 split at e
 ·cases e
 ·have hl:=World.block_lt_of_cell? w1 a e
  rw [fr_new (by omega) (fun hm=>by have:=hX _ hm;omega)]
  exact h3 a v hl e
theorem WK.settleN:∀(f:Nat) {k:Nat} {x:AW},WK k x→k+f*1100≤99000→WK (k+f*1100) (settleN f x).1
 |0,k,x,i,h=>i.up (by omega) h
 |f+1,k,x,i,h=>by
  unfold Go.Proofs.YthfgeelcbcgahaaGreatDoor.settleN
  split
  ·exact i.up (by omega) h
  ·have h2:=(i.round (by omega)).settleN f (by omega)
   rw [show k+(f+1)*1100=k+1100+f*1100 by omega]
   exact h2
theorem WK.settle {k:Nat} {x:AW} (i:WK k x) (h:k+33000≤99000):WK (k+33000) (settleA x).1:=i.settleN 30 h
set_option maxRecDepth 100000 in
set_option maxHeartbeats 4000000 in
theorem fair_settle {v:Value} {x:AW} {k:Nat} (w:World) (hv:Of Ty.wd w.cell? v x) (hk:WK k x) (h9:k+33000≤99000):
  Calls Tryz.prog 15 #[v] w fun e w'=>∃v',e=.returned (.tuple #[v',.int .i64 (settleA x).2])∧Of Ty.wd (ov (fun _=>none) w w') v' (settleA x).1∧Grow w w':=by
 have HV:=η hv
 have HK:=η hk
 have H9:=η h9
 obtain⟨al,cl,ao,co,ah,ch,an,cn,rfl⟩:=hv.wd_form
 clear hv hk h9
 obtain⟨wa,hwa⟩:∃y:World,y=w.alloc (.cells #[.slice al x.head.log.length cl,.int .i64 x.head.boot,.int .i64 x.head.next,.slice ao x.head.opn.length co,.slice ah x.houses.length ch,.slice an x.net.length cn] 39):=⟨_,rfl⟩
 obtain⟨wz,hwz⟩:∃y:World,y=wa.alloc (.cells #[.slice none 0 0,.int .i64 0,.int .i64 0,.slice none 0 0,.slice none 0 0,.slice none 0 0] 39):=⟨_,rfl⟩
 have hsz:wa.heap.size=w.heap.size+1:=by rw [hwa];simp
 have R1:Hid (wz.heap[w.heap.size]? =some (.cells #[.slice al x.head.log.length cl,.int .i64 x.head.boot,.int .i64 x.head.next,.slice ao x.head.opn.length co,.slice ah x.houses.length ch,.slice an x.net.length cn] 39 (0,0))):=η (by rw [hwz,hwa];exact heap_later (row_new _ _) _)
 have R2:Hid (wz.heap[w.heap.size+1]? =some (.cells #[.slice none 0 0,.int .i64 0,.int .i64 0,.slice none 0 0,.slice none 0 0,.slice none 0 0] 39 (0,0))):=η (by rw [hwz,←hsz];exact row_new _ _)
 have G1:Hid (Grow w wz):=η (by rw [hwz,hwa];exact((Grow.refl w).alloc _).alloc _)
 have HZ:Hid (wz.heap.size=w.heap.size+2):=η (by rw [hwz,hwa];simp)
 go_enter Tryz.func15,Tryz.ntmps15
 go_upto_region 1 with fail
 rw [←hwa]
 try rw [hsz]
 rw [←hwz]
 clear hwa hwz hsz
 obtain⟨x1,x2,x3,x4,x5,x6⟩:=cells6 R1.o
 have zX:w.heap.size<wz.heap.size:=(γ R1.o)
 go_wp2_with fail
 refine(world_own wz (HV.o.mono G1.o.sub) HK.o).mono ?_
 rintro e w1 ⟨vl,vo,vh,vn,B0,rfl,hbx⟩
 have HO1:=η hbx.of
 have GO:=η hbx.grow
 clear hbx x1 x2 x3 x4 x5 x6 zX
 obtain⟨al0,cl0,ao0,co0,ah0,ch0,an0,cn0,he0⟩:=HO1.o.wd_form
 simp only [Value.agg.injEq,Array.mk.injEq,List.cons.injEq,and_true,true_and] at he0
 obtain⟨rfl,rfl,rfl,rfl⟩:=he0
 obtain⟨w3,hw3⟩:∃y:World,y=w1.alloc (.cells #[.slice none 0 0,.int .i64 0,.int .i64 0,.slice none 0 0,.slice none 0 0,.slice none 0 0] 39):=⟨_,rfl⟩
 obtain⟨B,hB⟩:∃y,y=w1.heap.size:=⟨_,rfl⟩
 have RB:Hid (w3.heap[B]? =some (.cells #[.slice none 0 0,.int .i64 0,.int .i64 0,.slice none 0 0,.slice none 0 0,.slice none 0 0] 39 (0,0))):=η (by rw [hw3,hB];exact row_new _ _)
 have G3:Hid (Grow w1 w3):=η (by rw [hw3];exact(Grow.refl _).alloc _)
 have HBE:Hid (B=w1.heap.size):=η hB
 go_wp2_with (first|(rw [←hw3,←hB];clear hw3 hB;refine wpList_store_row rfl (.tmp 4) (.tmp 7) rfl rfl rfl RB.o info_wd rfl rfl ?_))
 intro w4 r4 g4
 have HX4:Hid (Of Ty.wd (fr wz w4 [some B]) (.agg #[.slice al0 x.head.log.length cl0,.int .i64 x.head.boot,.int .i64 x.head.next,.slice ao0 x.head.opn.length co0,.slice ah0 x.houses.length ch0,.slice an0 x.net.length cn0]) x):=η (HO1.o.mono (fr_one (fun q hq=>by have:=Option.some.inj (List.mem_singleton.1 hq);have:=HBE.o;omega) (fun a9 v9 hl e9=>cell_past (G3.o.sub _ _ e9) g4 (by have:=HBE.o;omega))))
 have R4:=η r4
 have HBW:Hid (wz.heap.size≤B):=η (by have:=GO.o.size;have:=HBE.o;omega)
 have G4:Hid (Grow wz w4):=η ((GO.o.trans G3.o).grown g4 (fun q hq=>by have:=Option.some.inj hq;have:=HBW.o;omega))
 clear r4 g4 RB G3 HBE HO1
 go_wp2
 go_loopw [5] (fun i wr=>∃(r:Nat) (y:AW) (row:Array Value),i=.int .i64 (r:Int)∧r≤30∧wr.heap[B]? =some (.cells row 39 (0,0))∧Of Ty.wd (fr wz wr [some B]) (.agg row) y∧Grow wz wr∧WK (k+r*1100) y∧settleA x=((settleN (30 - r) y).1,(settleN (30 - r) y).2+r)) (fun i _=>30 - (intOf i).toNat)
 case atStart=>exact⟨0,x,_,rfl,by omega,R4.o,HX4.o,G4.o,HK.o.up (by omega) (by have:=H9.o;omega),rfl⟩
 case round=>
  obtain⟨r,y,row,rfl,hr,hrow,hx,hg,hj,hs⟩:=hrel
  obtain⟨al2,cl2,ao2,co2,ah2,ch2,an2,cn2,hrw⟩:=hx.wd_form
  simp only [Value.agg.injEq] at hrw
  subst hrw
  have HROW:=η hrow
  have HX:=η hx
  have HG:=η hg
  have HJ:=η hj
  have HS:=η hs
  clear hrow hx hg hj hs
  by_cases hi:r<30
  ·have ti:decide ((r:Int)<30)=true:=decide_eq_true (by omega)
   obtain⟨x1,x2,x3,x4,x5,x6⟩:=cells6 HROW.o
   have zX:B<wr.heap.size:=(γ HROW.o)
   go_wp2_with fail
   refine(fair_idle wr (HX.o.mono (fr_sub _ _ _)) HJ.o).mono ?_
   rintro e w5 ⟨rfl,hg5⟩
   have HX5:=η (HX.o.mono (fr_grow hg5))
   have RW5:=η (row_grow HROW.o hg5)
   have G5:=η (HG.o.trans hg5)
   clear hg5 x1 x2 x3 x4 x5 x6 zX
   obtain⟨b,hb⟩:∃b,b=idleA y:=⟨_,rfl⟩
   rw [←hb]
   have HBI:=η hb
   clear hb
   cases b with
   |true=>
    have HE:Hid (settleA x=(y,r)):=η (by
     obtain⟨f,hf⟩:∃f,30 - r=f+1:=⟨29 - r,by omega⟩
     have e2:Go.Proofs.YthfgeelcbcgahaaGreatDoor.settleN (f+1) y=(y,0):=by
      show(if idleA y=true then(y,0) else _)=_
      rw [if_pos HBI.o.symm]
     rw [HS.o,hf,e2]
     simp)
    obtain⟨x1,x2,x3,x4,x5,x6⟩:=cells6 RW5.o
    have zX:B<w5.heap.size:=(γ RW5.o)
    have RZ:=η (row_grow R2.o G5.o)
    have zr:w.heap.size+1<w5.heap.size:=(γ RZ.o)
    go_wp2_with (first|(refine wpList_store_row rfl (.tmp 2) (.tmp 19) rfl rfl rfl RZ.o info_wd rfl rfl ?_))
    intro w7 r7 g7
    obtain⟨p0,p1,p2,p3,p4,p5⟩:=cells6 r7
    go_wp2
    refine bodyPost_ret (v:=.tuple #[.agg #[.slice al2 y.head.log.length cl2,.int .i64 y.head.boot,.int .i64 y.head.next,.slice ao2 y.head.opn.length co2,.slice ah2 y.houses.length ch2,.slice an2 y.net.length cn2],.int .i64 r]) (by simp [results,Tryz.results15,go_sem,p0,p1,p2,p3,p4,p5]) rfl ?_
    rw [HE.o]
    exact⟨_,rfl,HX5.o.mono (fr_last (by have:=HZ.o;omega) g7 (by have:=HZ.o;omega)),(G1.o.trans G5.o).grown g7 (fun q hq=>by have:=Option.some.inj hq;omega)⟩
   |false=>
    have HSN:Hid (settleA x=((settleN (30 - (r+1)) (roundA y)).1,(settleN (30 - (r+1)) (roundA y)).2+(r+1))):=η (by
     obtain⟨f,hf⟩:∃f,30 - r=f+1:=⟨29 - r,by omega⟩
     have hf2:30 - (r+1)=f:=by omega
     rw [HS.o,hf,settle_step f HBI.o.symm,hf2]
     simp only [Prod.mk.injEq,true_and]
     omega)
    have HJ2:Hid (WK (k+(r+1)*1100) (roundA y)):=η ((HJ.o.round (by have:=H9.o;omega)).up (by omega) (by have:=H9.o;omega))
    obtain⟨x1,x2,x3,x4,x5,x6⟩:=cells6 RW5.o
    have zX:B<w5.heap.size:=(γ RW5.o)
    go_wp2_with fail
    refine(fair_round w5 (HX5.o.mono (fr_sub _ _ _)) HJ.o (by have:=H9.o;omega)).mono ?_
    rintro e w6 ⟨v6,rfl,hx6,hg6⟩
    generalize roundA y=y6 at*
    obtain⟨al6,cl6,ao6,co6,ah6,ch6,an6,cn6,rfl⟩:=hx6.wd_form
    have HX6:Hid (Of Ty.wd (fr wz w6 [some B]) _ y6):=η (hx6.mono (ov_frs G5.o (fun q hq=>by have:=Option.some.inj (List.mem_singleton.1 hq);omega)))
    have RW6:=η (row_grow RW5.o hg6)
    have G6:=η (G5.o.trans hg6)
    clear hx6 hg6 x1 x2 x3 x4 x5 x6 zX
    go_wp2_with (first|(refine wpList_store_row rfl (.tmp 4) (.tmp 16) rfl rfl rfl RW6.o info_wd rfl rfl ?_))
    intro w8 r8 g8
    have R8:=η r8
    have HX8:=η (HX6.o.mono (fr_by g8 (by simp)))
    have G8:=η (G6.o.grown g8 (fun q hq=>by have:=Option.some.inj hq;have:=HBW.o;omega))
    clear r8 g8
    go_wp2
    go_roundw
    case rel=>exact⟨r+1,y6,_,by go_num,by omega,R8.o,HX8.o,G8.o,HJ2.o,HSN.o⟩
    case measure=>simp [intOf];omega
  ·have ti:decide ((r:Int)<30)=false:=decide_eq_false (by omega)
   have HE:Hid (settleA x=(y,r)):=η (by
    have e:30 - r=0:=by omega
    rw [HS.o,e]
    show(y,0+r)=(y,r)
    rw [Nat.zero_add])
   obtain⟨x1,x2,x3,x4,x5,x6⟩:=cells6 HROW.o
   have zX:B<wr.heap.size:=(γ HROW.o)
   have RZ:=η (row_grow R2.o HG.o)
   have zr:w.heap.size+1<wr.heap.size:=(γ RZ.o)
   go_wp2_with (first|(refine wpList_store_row rfl (.tmp 2) (.tmp 19) rfl rfl rfl RZ.o info_wd rfl rfl ?_))
   intro w7 r7 g7
   obtain⟨p0,p1,p2,p3,p4,p5⟩:=cells6 r7
   go_wp2
   refine bodyPost_ret (v:=.tuple #[.agg #[.slice al2 y.head.log.length cl2,.int .i64 y.head.boot,.int .i64 y.head.next,.slice ao2 y.head.opn.length co2,.slice ah2 y.houses.length ch2,.slice an2 y.net.length cn2],.int .i64 r]) (by simp [results,Tryz.results15,go_sem,p0,p1,p2,p3,p4,p5]) rfl ?_
   rw [HE.o]
   exact⟨_,rfl,HX.o.mono (fr_last (by have:=HZ.o;omega) g7 (by have:=HZ.o;omega)),(G1.o.trans HG.o).grown g7 (fun q hq=>by have:=Option.some.inj hq;omega)⟩
set_option maxRecDepth 100000 in
set_option maxHeartbeats 4000000 in
theorem fair_play {v:Value} {l:List St} {n:Nat} (w:World) (hn:1≤n∧n≤3) (hv:Sl Ty.st w.cell? v l) (h150:l.length≤150):
  Calls Tryz.prog 14 #[.int .i64 n,v] w fun e w'=>∃v1 v2,e=.returned (.tuple #[v1,v2,.int .i64 0])∧Of Ty.wd (ov (fun _=>none) w w') v1 (playA (newA n) l)∧Sl Ty.int (ov (fun _=>none) w w') v2 (playE (newA n) l)∧Grow w w':=by
 obtain⟨a,cap,rfl,h1,h2,-,hel⟩:=hv
 unfold maxLen at h2
 have HN:=η hn
 have t9:decide ((150:Int)<(l.length:Int))=false:=by simp;omega
 clear hn
 obtain⟨wb,hwb⟩:∃y:World,y=w.alloc (.cells #[.slice none 0 0,.int .i64 0,.int .i64 0,.slice none 0 0,.slice none 0 0,.slice none 0 0] 39):=⟨_,rfl⟩
 have RB:Hid (wb.heap[w.heap.size]? =some (.cells #[.slice none 0 0,.int .i64 0,.int .i64 0,.slice none 0 0,.slice none 0 0,.slice none 0 0] 39 (0,0))):=η (by rw [hwb];exact row_new _ _)
 have GB0:Hid (Grow w wb):=η (by rw [hwb];exact(Grow.refl w).alloc _)
 have HSB:Hid (wb.heap.size=w.heap.size+1):=η (by rw [hwb];simp)
 go_enter Tryz.func14,Tryz.ntmps14
 go_upto_region 1 with fail
 rw [←hwb]
 clear hwb
 go_wp2_with fail
 refine(world_new wb HN.o).mono ?_
 rintro e w2 ⟨v2,rfl,hx2,hb2⟩
 obtain⟨al,cl,ao,co,ah,ch,an,cn,rfl⟩:=hx2.wd_form
 have HX2:=η hx2
 have G2:=η hb2
 clear hx2 hb2
 obtain⟨x0,hx0⟩:∃y,y=newA n:=⟨_,rfl⟩
 rw [←hx0] at HX2 ⊢
 have HX0:=η hx0
 clear hx0
 obtain⟨wz,hwz⟩:∃y:World,y=w2.alloc (.cells #[.slice al x0.head.log.length cl,.int .i64 x0.head.boot,.int .i64 x0.head.next,.slice ao x0.head.opn.length co,.slice ah x0.houses.length ch,.slice an x0.net.length cn] 39):=⟨_,rfl⟩
 obtain⟨B6,hB6⟩:∃y,y=w2.heap.size:=⟨_,rfl⟩
 have GZ:Hid (Grow wb wz):=η (by rw [hwz];exact G2.o.alloc _)
 have GZ2:Hid (Grow w2 wz):=η (by rw [hwz];exact(Grow.refl _).alloc _)
 have R6:Hid (wz.heap[B6]? =some (.cells #[.slice al x0.head.log.length cl,.int .i64 x0.head.boot,.int .i64 x0.head.next,.slice ao x0.head.opn.length co,.slice ah x0.houses.length ch,.slice an x0.net.length cn] 39 (0,0))):=η (by rw [hwz,hB6];exact row_new _ _)
 have HZB:Hid (wz.heap.size=B6+1∧wb.heap.size≤B6):=η (by rw [hwz,hB6];have:=G2.o.size;simp;omega)
 have HXZ:Hid (Of Ty.wd (fr wb wz [some B6,none]) (.agg #[.slice al x0.head.log.length cl,.int .i64 x0.head.boot,.int .i64 x0.head.next,.slice ao x0.head.opn.length co,.slice ah x0.houses.length ch,.slice an x0.net.length cn]) x0):=η (HX2.o.mono fun a9 v9 e9=>by
  unfold ov at e9
  split at e9
  ·cases e9
  ·have hl:=World.block_lt_of_cell? w2 a9 e9
   rw [fr_new (by omega) (fun hm=>by simp at hm;omega)]
   exact GZ2.o.sub _ _ e9)
 go_upto_region 2 with fail
 rw [←hwz,←hB6]
 clear hwz hB6
 go_wp2
 go_loopw [9,29] (fun s8 i wr=>∃(k:Nat) (row:Array Value),k≤l.length∧i=.int .i64 k∧wr.heap[B6]? =some (.cells row 39 (0,0))∧Of Ty.wd (fr wb wr [some B6,s8.ownBlock]) (.agg row) (playA x0 (l.take k))∧OwnC Ty.int (fun _=>none) wr (B6+1) 55 s8 (playE x0 (l.take k))∧Grow wb wr) (fun _ i _=>l.length - (intOf i).toNat)
 case atStart=>exact⟨0,_,by omega,rfl,R6.o,HXZ.o,OwnC.nil _ _ _ _ _,GZ.o⟩
 case round=>
  obtain⟨k,row,hk',rfl,hrow,hx,how,hb⟩:=hrel
  obtain⟨a8,c8,rfl⟩:=how.form
  obtain⟨al2,cl2,ao2,co2,ah2,ch2,an2,cn2,hrw⟩:=hx.wd_form
  simp only [Value.agg.injEq] at hrw
  subst hrw
  have HPL:Hid ((playE x0 (l.take k)).length≤150):=η (by rw [playE_len,List.length_take];omega)
  have HWK:Hid (WK k (playA x0 (l.take k))):=η (by rw [HX0.o];have h9:=WK.play HN.o (l.take k) (by rw [List.length_take];omega);rw [List.length_take,Nat.min_eq_left hk'] at h9;exact h9)
  have HROW:=η hrow
  have HX:=η hx
  have HOW:=η how
  have HB:=η hb
  have RZR:=η (row_grow RB.o hb)
  have hBr:B6<wr.heap.size:=(γ hrow)
  have HLT8:Hid (∀q,(Value.slice a8 (playE x0 (l.take k)).length c8).ownBlock=some q→B6+1≤q∧q<wr.heap.size):=η how.lt
  clear hrow hx how hb
  by_cases hlt:k<l.length
  ·obtain⟨b,o,vp,rfl,c0,c1,c2,i0,i1,hP⟩:=Sts.at_ hel k hlt
   obtain⟨ap,cp,rfl,-⟩:=id hP
   have HST:Hid (Of Ty.st w.cell? (.agg #[.int .i64 l[k].kind,.int .i64 l[k].n,.slice ap l[k].parts.length cp]) l[k]):=η ⟨_,rfl,_,rfl,i0,i1,hP⟩
   have HNA:Hid (playA x0 (l.take (k+1))=doA (playA x0 (l.take k)) l[k]):=η (playA_next hlt x0)
   have HNE:Hid (playE x0 (l.take (k+1))=playE x0 (l.take k)++ [doErr (playA x0 (l.take k)) l[k]]):=η (playE_next hlt x0)
   have gs:=GB0.o.trans HB.o
   replace c0:=gs.sub _ _ c0
   replace c1:=gs.sub _ _ c1
   replace c2:=gs.sub _ _ c2
   clear hel hP i0 i1 gs
   generalize l[k]=st at*
   generalize playA x0 (l.take k)=x at*
   generalize playE x0 (l.take k)=es at*
   go_upto_region 10 with fail
   obtain⟨ws,hws⟩:∃y:World,y=wr.alloc (.cells #[.int .i64 st.kind,.int .i64 st.n,.slice ap st.parts.length cp] 28):=⟨_,rfl⟩
   obtain⟨BS,hBS⟩:∃y,y=wr.heap.size:=⟨_,rfl⟩
   have GS:Hid (Grow wr ws):=η (by rw [hws];exact(Grow.refl _).alloc _)
   have RS:Hid (ws.heap[BS]? =some (.cells #[.int .i64 st.kind,.int .i64 st.n,.slice ap st.parts.length cp] 28 (0,0))):=η (by rw [hws,hBS];exact row_new _ _)
   rw [←hws,←hBS]
   clear hws hBS c0 c1 c2
   have RWS:=η (row_grow HROW.o GS.o)
   have RZS:=η (row_grow RZR.o GS.o)
   have GBS:=η (HB.o.trans GS.o)
   have HOS:=η (HOW.o.grow GS.o)
   obtain⟨x1,x2,x3,x4,x5,x6⟩:=cells6 RWS.o
   obtain⟨s0,s1,s2⟩:=cells3 RS.o
   have zX:B6<ws.heap.size:=(γ RWS.o)
   have zS:BS<ws.heap.size:=(γ RS.o)
   have HDO:=η (world_do (s:=st) ws ((HX.o.mono (fr_grow GS.o)).mono (fr_sub _ _ _)) (HST.o.mono (GB0.o.trans GBS.o).sub) HWK.o)
   clear HWK
   go_wp2_with fail
   refine HDO.o.mono ?_
   rintro e w3 ⟨v3,rfl,hx3,hb3⟩
   obtain⟨al3,cl3,ao3,co3,ah3,ch3,an3,cn3,rfl⟩:=hx3.wd_form
   have HX3:Hid (Of Ty.wd (fr wb w3 [some B6,(Value.slice a8 es.length c8).ownBlock]) (.agg #[.slice al3 (doA x st).head.log.length cl3,.int .i64 (doA x st).head.boot,.int .i64 (doA x st).head.next,.slice ao3 (doA x st).head.opn.length co3,.slice ah3 (doA x st).houses.length ch3,.slice an3 (doA x st).net.length cn3]) (doA x st)):=η (hx3.mono (ov_frs GBS.o (fun q hq=>by
    simp only [List.mem_cons,List.not_mem_nil,or_false] at hq
    rcases hq with e9|e9
    ·have:=Option.some.inj e9;have:=GS.o.size;omega
    ·have:=(HLT8.o _ e9.symm).2;have:=GS.o.size;omega)))
   have RW3:=η (row_grow RWS.o hb3)
   have GB3:=η (GBS.o.trans hb3)
   have HO3:=η (HOS.o.grow hb3)
   have HEI:=η (doErr_ok x st)
   clear hx3 hb3 HDO x1 x2 x3 x4 x5 x6 s0 s1 s2 zX zS
   generalize doA x st=y at*
   generalize doErr x st=er at*
   obtain⟨w4,hw4⟩:∃y9:World,y9=w3.alloc (.cells #[.slice al3 y.head.log.length cl3,.int .i64 y.head.boot,.int .i64 y.head.next,.slice ao3 y.head.opn.length co3,.slice ah3 y.houses.length ch3,.slice an3 y.net.length cn3] 39):=⟨_,rfl⟩
   obtain⟨BX,hBX⟩:∃y9,y9=w3.heap.size:=⟨_,rfl⟩
   have G34:Hid (Grow w3 w4):=η (by rw [hw4];exact(Grow.refl _).alloc _)
   have RX4:Hid (w4.heap[BX]? =some (.cells #[.slice al3 y.head.log.length cl3,.int .i64 y.head.boot,.int .i64 y.head.next,.slice ao3 y.head.opn.length co3,.slice ah3 y.houses.length ch3,.slice an3 y.net.length cn3] 39 (0,0))):=η (by rw [hw4,hBX];exact row_new _ _)
   go_upto_region 11 with fail
   rw [←hw4,←hBX]
   clear hw4 hBX
   have RW4:=η (row_grow RW3.o G34.o)
   obtain⟨x1,x2,x3,x4,x5,x6⟩:=cells6 RX4.o
   have zX:BX<w4.heap.size:=(γ RX4.o)
   go_wp2_with (first|(refine wpList_store_row rfl (.tmp 7) (.tmp 39) rfl rfl rfl RW4.o info_wd rfl rfl ?_))
   intro w5 r5 g5
   have R65:=η r5
   have GB5:=η ((GB3.o.trans G34.o).grown g5 (fun q hq=>by have:=Option.some.inj hq;have:=HZB.o;omega))
   have HX5:=η ((HX3.o.mono (fr_grow G34.o)).mono (fr_by g5 (by simp)))
   have HO5:=η ((HO3.o.grow G34.o).kept g5 (own_apart HO3.o (by omega)))
   have HS5:Hid (B6+1≤w5.heap.size):=η (by have:=(γ r5);omega)
   clear r5 g5 x1 x2 x3 x4 x5 x6 zX
   go_wp2_with (first|(at_builtin;refine wpList_appc (c:=fun _=>none) (base:=B6+1) (l:=es) (m:=[er]) ei_errno rfl one_Tint (by decide) rfl (.tmp 40) (.tmp 42) rfl rfl (HO5.o.grow ((Grow.refl _).alloc _)) rfl (Src.of_new (T:=Ty.int) (x:=er) (cs:=#[.int .i64 er]) ⟨rfl,HEI.o⟩ _ _ ?d1) ?d2 ?d3 ?_))
   case d1=>first|rfl|simp
   case d2=>have:=HPL.o;simp;omega
   case d3=>have:=HS5.o;simp;omega
   intro a9 c9 w9 ho9 hg9 hb9
   have HLT5:=HO5.o.lt
   have HX9:=η ((HX5.o.mono (fr_grow ((Grow.refl w5).alloc (.cells #[.int .i64 er] 55)))).mono (fr_app2 hg9 (hb9.imp_right fun⟨g,e,hge⟩=>⟨g,e,by simpa using hge⟩)))
   have R69:=η (row_by (row_grow R65.o ((Grow.refl w5).alloc (.cells #[.int .i64 er] 55))) hg9 (by intro e;have:=(HLT5 _ e.symm).1;omega))
   have GB9:=η ((GB5.o.alloc (.cells #[.int .i64 er] 55)).grown hg9 (fun q hq=>by have:=(HLT5 q hq).1;have:=HZB.o;omega))
   have HO9:=η ho9
   clear ho9 hg9 hb9 HLT5
   go_wp2
   go_roundw
   case rel=>exact⟨k+1,_,by omega,by go_num,R69.o,by rw [HNA.o];exact HX9.o,by rw [HNE.o];exact HO9.o,GB9.o⟩
   case measure=>simp [intOf];omega
  ·have HEA:Hid (playA x0 l=playA x0 (l.take k)):=η (by rw [List.take_of_length_le (by omega)])
   have HEE:Hid (playE x0 l=playE x0 (l.take k)):=η (by rw [List.take_of_length_le (by omega)])
   clear hel
   generalize playA x0 (l.take k)=x at*
   generalize playE x0 (l.take k)=es at*
   obtain⟨x1,x2,x3,x4,x5,x6⟩:=cells6 HROW.o
   go_wp2_with (first|(refine wpList_store_row rfl (.tmp 4) (.tmp 45) rfl rfl rfl RZR.o info_wd rfl rfl ?_))
   intro w7 r7 g7
   obtain⟨p0,p1,p2,p3,p4,p5⟩:=cells6 r7
   clear x1 x2 x3 x4 x5 x6
   go_wp2
   refine bodyPost_ret (v:=.tuple #[.agg #[.slice al2 x.head.log.length cl2,.int .i64 x.head.boot,.int .i64 x.head.next,.slice ao2 x.head.opn.length co2,.slice ah2 x.houses.length ch2,.slice an2 x.net.length cn2],.slice a8 es.length c8,.int .i64 0]) (by simp [results,Tryz.results14,go_sem,p0,p1,p2,p3,p4,p5]) rfl ?_
   have hs1:=HSB.o
   have hs2:=HZB.o
   have G7:Grow w w7:=(GB0.o.trans HB.o).grown g7 (fun q hq=>by have:=Option.some.inj hq;omega)
   rw [←HX0.o,HEA.o,HEE.o]
   exact⟨_,_,rfl,HX.o.mono (fr_last (by omega) g7 (by omega)),(HOW.o.kept g7 (own_apart HOW.o (by omega))).slc (by decide) (fun _ _ e9=>by cases e9) fun a9 h9=>ov_new (by omega),G7⟩
theorem spl_len:∀(l:List UInt8),∀w∈spl l,w.length≤l.length
 | [],w,h=>by simp [spl] at h;subst h;simp
 |c::l,w,h=>by
  by_cases hc:c=32
  ·subst hc
   rw [spl_space] at h
   rcases List.mem_cons.1 h with rfl|h
   ·simp
   ·have:=spl_len l w h
    simp only [List.length_cons];omega
  ·obtain⟨x,r,e1,e2⟩:=spl_cons hc l
   rw [e2] at h
   rcases List.mem_cons.1 h with rfl|h
   ·have:=spl_len l x (by rw [e1];exact List.mem_cons_self)
    simp only [List.length_cons];omega
   ·have:=spl_len l w (by rw [e1];exact List.mem_cons_of_mem _ h)
    simp only [List.length_cons];omega
theorem split_call (s:ByteArray) {w:World} (hV:Vars w) (hs:s.size<4294967281):∃ws:List ByteArray,ws.map (·.data.toList)=spl s.data.toList∧ws.length≤s.size+1∧(∀x∈ws,x.size<4294967281)∧
  ∀W,Grow w W→Calls Tryz.prog 31 #[.string s,.string ⟨#[32]⟩] W fun e w'=>e=.returned (.slice (some ⟨W.heap.size,0,none⟩) ws.length ws.length)∧w'=W.alloc (.cells (ws.map Value.string).toArray 9):=by
 obtain⟨m,hm⟩:=hV.len
 have hc:Lib.countB s ⟨#[32]⟩=s.data.toList.count 32:=Lib.count_one 32 _
 have hl:=Lib.splitB_all ⟨#[32]⟩ (Nat.le_refl 1) 0 _ s rfl
 have hd:(Lib.splitB ⟨#[32]⟩ 0 (Lib.countB s ⟨#[32]⟩) s).map (·.data.toList)=spl s.data.toList:=by
  rw [Lib.splitB_data,hc]
  exact splitK_spl _
 refine⟨Lib.splitB ⟨#[32]⟩ 0 (Lib.countB s ⟨#[32]⟩) s,hd,?_,fun x hx=>?_,fun W hW=>?_⟩
 ·rw [hl,hc,Lib.size_eq]
  have:=List.count_le_length (a:=(32:UInt8)) (l:=s.data.toList)
  omega
 ·have h1:=spl_len s.data.toList x.data.toList (by rw [←hd];exact List.mem_map.2 ⟨x,hx,rfl⟩)
  rw [Lib.size_eq] at hs ⊢
  omega
 ·rw [hl]
  exact Tryz.strings_Split s ⟨#[32]⟩ m W hs (hW.sub _ _ hm) (Nat.le_refl 1)
theorem words_snoc:∀{ws:List (List UInt8)} {acc:List Pt} {w:List UInt8} {p:Pt},wordsE ws=some acc→wordE w=some p→wordsE (ws++ [w])=some (acc++ [p])
 | [],acc,w,p,h,hw=>by
  simp [wordsE] at h
  subst h
  simp [wordsE,hw]
 |x::ws,acc,w,p,h,hw=>by
  rw [wordsE] at h
  rw [List.cons_append,wordsE]
  cases hx:wordE x with
  |none=>rw [hx] at h;cases h
  |some q=>
   rw [hx] at h
   dsimp only at h ⊢
   cases e:wordsE ws with
   |none=>rw [e] at h;cases h
   |some l=>
    rw [e] at h
    rw [words_snoc e hw]
    simp at h
    subst h
    rfl
theorem words_none:∀{ws:List (List UInt8)} {w:List UInt8},w∈ws→wordE w=none→wordsE ws=none
 |x::ws,w,h,hw=>by
  rw [wordsE]
  rcases List.mem_cons.1 h with rfl|h
  ·rw [hw]
  ·cases wordE x with
   |none=>rfl
   |some q=>dsimp only;rw [words_none h hw];rfl
theorem words_len:∀{ws:List (List UInt8)} {acc:List Pt},wordsE ws=some acc→acc.length=ws.length:=fun {ws acc} h=>by rw [←words_back h,List.length_map]
set_option maxRecDepth 100000 in
set_option maxHeartbeats 2000000 in
theorem text_parseN (s:ByteArray) (w:World) (hV:Vars w) (hs:s.size<4294967281):
  Calls Tryz.prog 22 #[.string s] w fun e w'=>∃v,e=.returned (.tuple #[v,.int .i64 (parseE s.data.toList).2])∧Pts (ov (fun _=>none) w w') v (parseE s.data.toList).1∧Grow w w':=by
 obtain⟨ws,hd,hln,hsz,hsp⟩:=split_call s hV hs
 have HSP:=η hsp
 have HD:=η hd
 have HSZ:=η hsz
 have HV:=η hV
 clear hd hsp hsz hV
 go_enter Tryz.func22,Tryz.ntmps22
 go_wp2_with fail
 refine(HSP.o _ (Grow.refl w)).mono ?_
 rintro e wz ⟨rfl,hwz⟩
 have GZ:Hid (Grow w wz):=η (by rw [hwz];exact(Grow.refl w).alloc _)
 have RZ:Hid (wz.heap[w.heap.size]? =some (.cells (ws.map Value.string).toArray 9 (0,0))):=η (by rw [hwz];exact row_new _ _)
 clear hwz HSP
 go_wp2
 go_loopw [4,6,7,8,13] (fun s4 _ _ _ i wr=>∃(k:Nat) (acc:List Pt),k≤ws.length∧i=.int .i64 k∧Grow wz wr∧OwnC Ty.pt (fun _=>none) wr wz.heap.size 31 s4 acc∧wordsE ((ws.take k).map (·.data.toList))=some acc) (fun _ _ _ _ i _=>ws.length - (intOf i).toNat)
 case atStart=>exact⟨0,[],by omega,rfl,Grow.refl _,OwnC.nil _ _ _ _ _,rfl⟩
 case round=>
  obtain⟨k,acc,hk',rfl,hb,hown,hws⟩:=hrel
  have HWS:=η hws
  have HOWN:=η hown
  have HB:=η hb
  obtain⟨av,cv,rfl⟩:=hown.form
  by_cases hlt:k<ws.length
  ·have HAL:Hid (acc.length=k):=η (by rw [words_len hws];simp;omega)
   have HON:=η (text_one ws[k] wr (HV.o.grow (GZ.o.trans hb)) (HSZ.o _ (List.getElem_mem hlt)))
   have HNX:Hid (∀p,wordE ws[k].data.toList=some p→wordsE ((ws.take (k+1)).map (·.data.toList))=some (acc++ [p])∧I64 p.h∧I64 p.k∧I64 p.n):=η (fun p hp=>⟨by
    rw [List.take_succ_eq_append_getElem hlt,List.map_append]
    exact words_snoc hws hp,word_ok hp⟩)
   have HNN:Hid (wordE ws[k].data.toList=none→parseE s.data.toList=([],2)):=η (fun hp=>by
    unfold parseE
    rw [←HD.o,words_none (List.mem_map.2 ⟨ws[k],List.getElem_mem hlt,rfl⟩) hp])
   have c0:wr.cell? ⟨w.heap.size,k,none⟩=some (.string ws[k]):=by
    have:=row_grow RZ.o hb
    simp [World.cell?,this,hlt]
   have hzz:wr.cell? ⟨w.heap.size,0+k,none⟩=some (.string ws[k]):=by rw [Nat.zero_add];exact c0
   clear hws hown hb
   generalize wordE ws[k].data.toList=o at*
   generalize ws[k]=x at*
   go_wp2_with fail
   refine HON.o.mono ?_
   rintro e w1 ⟨rfl,g1⟩
   have R9:=row_new w1 (.cells #[.int .i64 0,.int .i64 0,.int .i64 0] 31)
   have G1:=η g1
   clear c0 hzz g1
   cases o with
   |none=>
    have HE:=η (HNN.o rfl)
    clear HNN HNX
    dsimp only [Option.getD_none,Option.isSome_none]
    go_wp2_with (first|(refine wpList_store_row rfl (.tmp 7) (.tmp 20) rfl rfl rfl R9 info_pt0 rfl rfl ?_))
    clear R9
    intro w2 r2 g2
    go_wp2
    go_ret2
    rw [HE.o]
    exact⟨_,rfl,Sl.nil _ _,((GZ.o.trans HB.o).trans (G1.o.alloc _)).grown g2 (fun q hq=>by simp at hq;have:=((GZ.o.trans HB.o).trans G1.o).size;omega)⟩
   |some p=>
    obtain⟨hw2,i0,i1,i2⟩:=HNX.o p rfl
    have HW2:=η hw2
    have HI:=η (And.intro i0 (And.intro i1 i2))
    clear HNN HNX hw2 i0 i1 i2
    dsimp only [Option.getD_some,Option.isSome_some,Pt.cells]
    go_wp2_with (first|(refine wpList_store_row rfl (.tmp 7) (.tmp 20) rfl rfl rfl R9 info_pt0 rfl rfl ?_))
    clear R9
    intro w2 r2 g2
    have G2:Hid (Grow wr w2):=η ((G1.o.alloc _).grown g2 (fun q hq=>by simp at hq;have:=G1.o.size;omega))
    obtain⟨p0,p1,p2⟩:=cells3t (show w2.heap[w1.heap.size]? =some (.cells #[.int .i64 p.h,.int .i64 p.k,.int .i64 p.n] 31 (0,0)) from r2)
    clear r2 g2
    go_wp2_with (first|(at_builtin;refine wpList_appc (c:=fun _=>none) (base:=wz.heap.size) (l:=acc) (m:=[p]) ei_pt rfl one_Tpt (by decide) rfl (.tmp 24) (.tmp 26) rfl rfl ?own rfl (Src.of_new (T:=Ty.pt) (x:=p) (cs:=#[.int .i64 p.h,.int .i64 p.k,.int .i64 p.n]) ⟨rfl,HI.o⟩ _ _ ?d1) ?d2 ?d3 ?_))
    case own=>exact HOWN.o.grow (G2.o.alloc _)
    case d1=>first|rfl|simp
    case d2=>have:=HAL.o;simp;omega
    case d3=>have:=(HB.o.trans G2.o).size;simp;omega
    intro a9 c9 w9 ho9 hg9 hb9
    have G9:Hid (Grow wz w9):=η (grow_by (w0:=wz) ((HB.o.trans G2.o).alloc _) hg9 (fun q hq=>(HOWN.o.lt q hq).1))
    have HO9:=η ho9
    clear ho9 hg9 hb9 p0 p1 p2
    go_wp2
    go_roundw
    case rel=>exact⟨k+1,acc++ [p],by omega,by go_num,G9.o,HO9.o,HW2.o⟩
    case measure=>simp [intOf];omega
  ·have HE:Hid (parseE s.data.toList=if wrongE acc 3=0 then(acc,0) else([],wrongE acc 3)):=η (by
    rw [List.take_of_length_le (by omega)] at hws
    unfold parseE
    rw [←HD.o,hws])
   have HP:Hid (Pts wr.cell? (.slice av acc.length cv) acc):=η (hown.slc (by decide) (fun a v h=>by cases h) (fun a _=>rfl))
   clear hws hown hb HWS
   go_wp2_with fail
   refine(part_wrong (h:=3) _ HP.o).mono ?_
   rintro e w1 ⟨rfl,g1⟩
   have G1:=η g1
   clear g1
   by_cases h0:wrongE acc 3=0
   ·have HR:Hid (parseE s.data.toList=(acc,0)):=η (by rw [HE.o,if_pos h0])
    clear HE
    rw [h0]
    clear h0
    go_wp2
    go_ret2
    rw [HR.o]
    exact⟨_,rfl,(HOWN.o.grow G1.o).slc (by decide) (fun a v h=>by cases h) (fun a ha=>ov_new (by have:=GZ.o.size;omega)),(GZ.o.trans HB.o).trans G1.o⟩
   ·have HR:Hid (parseE s.data.toList=([],wrongE acc 3)):=η (by rw [HE.o,if_neg h0])
    have ht:(wrongE acc 3 !=0)=true:=by simpa using h0
    clear HE h0
    generalize wrongE acc 3=q at*
    go_wp2
    go_ret2
    rw [HR.o]
    exact⟨_,rfl,Sl.nil _ _,(GZ.o.trans HB.o).trans G1.o⟩
theorem ov_cell (w w':World):Sub (ov (fun _=>none) w w') w'.cell?:=fun a v e=>by
 unfold ov at e
 split at e
 ·cases e
 ·exact e
def settledA (l:List St):AW:=(settleA (playA (newA 3) l)).1
theorem ov_keep {w3 w4 w6 w7:World} {B:Nat} (g:Grow w4 w6) (s:w6.grownBy w7 (some B)) (hB:B<w3.heap.size):Sub (ov (fun _=>none) w3 w4) w7.cell?:=fun a v e=>by
 have h6:=g.sub a v (ov_cell _ _ a v e)
 have hlt:w3.heap.size≤a.block:=by
  unfold ov at e
  split at e
  ·cases e
  ·omega
 exact cell_past h6 s (by omega)
theorem settled_ok {l:List St} (h:l.length≤150):WK l.length (playA (newA 3) l)∧WK (l.length+33000) (settledA l)∧idleA (settledA l)=true∧(settledA l).houses.length=3:=by
 have hp:=WK.play (n:=3) (by omega) l (by omega)
 have hs:=hp.settle (by omega)
 obtain⟨G,hw,-⟩:=WI.of_play (n:=3) (by omega) l
 obtain⟨hq,hi,-⟩:=hw.settle
 exact⟨hp,hs,(idle_iff hi).2 hq,hi.core.len⟩
set_option maxRecDepth 100000 in
set_option maxHeartbeats 4000000 in
theorem top_settled {v:Value} {l:List St} (w:World) (hv:Sl Ty.st w.cell? v l) (h150:l.length≤150):
  Calls Tryz.prog 9 #[v] w fun e w'=>∃v',e=.returned (.tuple #[v',.bool true])∧Of Ty.wd w'.cell? v' (settledA l)∧Grow w w':=by
 obtain⟨hk1,hk2,hid,hl3⟩:=settled_ok h150
 have HPL:=η (fun(W:World) (hW:Grow w W)=>fair_play (n:=3) W (by omega) (hv.mono hW.sub) h150)
 have HK1:=η hk1
 have HK2:=η hk2
 have HID:=η hid
 have HL3:=η hl3
 have HH:=η h150
 clear hv hk1 hk2 hid hl3 h150
 obtain⟨B2,hB2⟩:∃B,B=w.heap.size:=⟨_,rfl⟩
 obtain⟨wa,hwa⟩:∃y:World,y=w.alloc (.cells #[.slice none 0 0,.int .i64 0,.int .i64 0,.slice none 0 0,.slice none 0 0,.slice none 0 0] 39):=⟨_,rfl⟩
 have R2:Hid (wa.heap[B2]? =some (.cells #[.slice none 0 0,.int .i64 0,.int .i64 0,.slice none 0 0,.slice none 0 0,.slice none 0 0] 39 (0,0))):=η (by rw [hwa,hB2];exact row_new _ _)
 have G1:Hid (Grow w wa):=η (by rw [hwa];exact(Grow.refl w).alloc _)
 have HB2:=η hB2
 go_enter Tryz.func9,Tryz.ntmps9
 go_wp2_with fail
 rw [←hwa,←hB2]
 clear hwa hB2
 refine(HPL.o _ G1.o).mono ?_
 rintro e w1 ⟨v1,v2,rfl,hx,hes,g1⟩
 have HX:Hid (Of Ty.wd w1.cell? v1 (playA (newA 3) l)):=η (hx.mono (ov_cell _ _))
 obtain⟨al,cl,ao,co,ah,ch,an,cn,rfl⟩:=hx.wd_form
 obtain⟨ae,ce,rfl,-⟩:=hes
 have G2:=η (G1.o.trans g1)
 have GA:=η g1
 clear hx g1 HPL
 generalize (playE (newA 3) l).length=ne at*
 obtain⟨x,hxe⟩:∃x,x=playA (newA 3) l:=⟨_,rfl⟩
 have HSE:Hid (settledA l=(settleA x).1):=η (by rw [hxe];rfl)
 rw [←hxe]
 rw [←hxe] at HX HK1
 clear hxe
 have R4:=row_new w1 (.cells #[.slice none 0 0,.int .i64 0,.int .i64 0,.slice none 0 0,.slice none 0 0,.slice none 0 0] 39)
 go_wp2_with (first|(refine wpList_store_row rfl (.tmp 4) (.tmp 12) rfl rfl rfl R4 info_wd rfl rfl ?_))
 clear R4
 intro w3 r3 g3
 obtain⟨B4,hB4⟩:∃B,B=w1.heap.size:=⟨_,rfl⟩
 rw [←hB4] at r3
 rw [←hB4]
 have G3:Hid (Grow w1 w3):=η (((Grow.refl w1).alloc _).grown g3 (fun q hq=>by simp at hq;omega))
 obtain⟨x1,x2,x3,x4,x5,x6⟩:=cells6 r3
 have zX:B4<w3.heap.size:=(γ r3)
 clear r3 g3 hB4
 have HST:=η (fair_settle w3 (HX.o.mono G3.o.sub) HK1.o (by have:=HH.o;omega))
 go_wp2_with fail
 refine HST.o.mono ?_
 rintro e w4 ⟨v4,rfl,hy,g4⟩
 rw [←HSE.o] at hy
 clear x1 x2 x3 x4 x5 x6 zX HST HX
 have HYO:=η hy
 have HB3:Hid (B2<w3.heap.size):=η (Array.getElem?_eq_some_iff.1 (row_grow R2.o (GA.o.trans G3.o))).1
 have HB27:Hid (B2<w4.heap.size):=η (Nat.lt_of_lt_of_le HB3.o g4.size)
 have HY:Hid (Of Ty.wd w4.cell? v4 (settledA l)):=η (hy.mono (ov_cell _ _))
 obtain⟨al2,cl2,ao2,co2,ah2,ch2,an2,cn2,rfl⟩:=hy.wd_form
 have G4:=η ((G2.o.trans G3.o).trans g4)
 have GB:=η ((GA.o.trans G3.o).trans g4)
 clear hy g4 HSE
 generalize (settleA x).2=ns at*
 obtain⟨y,hye⟩:∃y,y=settledA l:=⟨_,rfl⟩
 have HYE:=η hye
 rw [←hye] at HY HYO HK2 HID HL3 ⊢
 clear hye
 have R7:=row_new w4 (.cells #[.slice none 0 0,.int .i64 0,.int .i64 0,.slice none 0 0,.slice none 0 0,.slice none 0 0] 39)
 go_wp2_with (first|(refine wpList_store_row rfl (.tmp 7) (.tmp 21) rfl rfl rfl R7 info_wd rfl rfl ?_))
 clear R7
 intro w5 r5 g5
 obtain⟨B7,hB7⟩:∃B,B=w4.heap.size:=⟨_,rfl⟩
 rw [←hB7] at r5
 rw [←hB7]
 have G5:Hid (Grow w4 w5):=η (((Grow.refl w4).alloc _).grown g5 (fun q hq=>by simp at hq;omega))
 have R7:Hid (w5.heap[B7]? =some (.cells #[.slice al2 y.head.log.length cl2,.int .i64 y.head.boot,.int .i64 y.head.next,.slice ao2 y.head.opn.length co2,.slice ah2 y.houses.length ch2,.slice an2 y.net.length cn2] 39 (0,0))):=η r5
 have HB7:=η hB7
 have R2:=η (row_grow R2.o (GB.o.trans G5.o))
 clear r5 g5 hB7
 have tl:((y.houses.length:Int)==3)=true:=by rw [HL3.o];rfl
 have HS:Hid (∀W,Grow w5 W→W.cell? ⟨B7,0,none⟩=some (.slice al2 y.head.log.length cl2)∧W.cell? ⟨B7,1,none⟩=some (.int .i64 y.head.boot)∧W.cell? ⟨B7,2,none⟩=some (.int .i64 y.head.next)∧W.cell? ⟨B7,3,none⟩=some (.slice ao2 y.head.opn.length co2)∧W.cell? ⟨B7,4,none⟩=some (.slice ah2 y.houses.length ch2)∧W.cell? ⟨B7,5,none⟩=some (.slice an2 y.net.length cn2)):=fun W hW=>cells6 (row_grow R7.o hW)
 have HIX:=η (fun(W:World) (hW:Grow w4 W)=>fair_idle W (HY.o.mono hW.sub) HK2.o)
 rw [HID.o] at HIX
 go_upto_region 5 with fail
 refine bSc (fun w'=>w'.cell? ⟨B7,0,none⟩=some (.slice al2 y.head.log.length cl2)∧w'.cell? ⟨B7,1,none⟩=some (.int .i64 y.head.boot)∧w'.cell? ⟨B7,2,none⟩=some (.int .i64 y.head.next)∧w'.cell? ⟨B7,3,none⟩=some (.slice ao2 y.head.opn.length co2)∧w'.cell? ⟨B7,4,none⟩=some (.slice ah2 y.houses.length ch2)∧w'.cell? ⟨B7,5,none⟩=some (.slice an2 y.net.length cn2)) [] (by kernel_rfl) ?_
 intro wd GD zD
 have ZD:=η zD
 clear zD
 refine bLc [0,1] 13 (by kernel_rfl) (fun _ _ _ _ _ h=>h) (HS.o _ GD) ?_
 repeat (refine tNc (v:=?_) rfl (by rfl) ?_ ?_;rotate_left;(· (intro w' hSw;(try dsimp only at hSw);obtain⟨hs0,hs1,hs2,hs3,hs4,hs5⟩:=hSw;go_simp<;>with_reducible rfl));try simp only [Act.put,lzA,lzB,lzC,lzD,lzE,lzF])
 refine tEc ?_
 refine bOc 2 (by kernel_rfl) rfl ?_
 intro K HK
 try simp only [lzA,lzB,lzC]
 go_simp
 go_at_call 16
 refine(HIX.o _ (G5.o.trans GD)).mono ?_
 rintro e w6 ⟨rfl,g6⟩
 have G6:=η (Grow.trans GD g6)
 clear g6
 refine HK.o _ _ ⟨.inr (HS.o _ G6.o),?_⟩
 clear HK K
 try simp only [Act.put,lzA,lzB,lzC,lzD,lzE,lzF]
 refine bLc [3,4,5,6,7,8] 13 (by kernel_rfl) (fun _ _ _ _ _ h=>h) (HS.o _ G6.o) ?_
 repeat (refine tNc (v:=?_) rfl (by rfl) ?_ ?_;rotate_left;(· (intro w' hSw;(try dsimp only at hSw);obtain⟨hs0,hs1,hs2,hs3,hs4,hs5⟩:=hSw;go_simp<;>with_reducible rfl));try simp only [Act.put,lzA,lzB,lzC,lzD,lzE,lzF])
 refine tEc ?_
 refine bOc 9 (by kernel_rfl) rfl ?_
 intro K HK
 refine wanted_go rfl ?_
 try simp only [lzA,lzB,lzC]
 refine wp_store_row (.tmp 2) (.tmp 23) rfl rfl rfl (row_grow R2.o G6.o) info_wd rfl rfl ?_
 intro w7 r7 g7
 have R8:=η r7
 have G8:=η ((G4.o.trans (G5.o.trans G6.o)).grown g7 (fun q hq=>by have:=HB2.o;have:=Option.some.inj hq;omega))
 have HY8:Hid (Of Ty.wd w7.cell? (.agg #[.slice al2 y.head.log.length cl2,.int .i64 y.head.boot,.int .i64 y.head.next,.slice ao2 y.head.opn.length co2,.slice ah2 y.houses.length ch2,.slice an2 y.net.length cn2]) y):=η (HYO.o.mono (ov_keep (G5.o.trans G6.o) g7 HB3.o))
 have R77:=η (row_by (row_grow R7.o G6.o) g7 (by intro e;have:=Option.some.inj e;have:=HB27.o;have:=HB7.o;omega))
 clear r7 g7
 refine HK.o _ _ ⟨.inr (cells6 R77.o),?_⟩
 clear HK K
 try simp only [Act.put]
 refine bOc 10 (by kernel_rfl) rfl ?_
 intro K HK
 try simp only [lzA,lzB,lzC]
 go_simp
 refine HK.o _ _ ⟨.inr (cells6 R77.o),?_⟩
 clear HK K
 try simp only [Act.put,lzA,lzB,lzC,lzD,lzE,lzF]
 refine bDc (by kernel_rfl) ?_
 obtain⟨p0,p1,p2,p3,p4,p5⟩:=cells6 R8.o
 go_wp2
 refine bodyPost_ret (v:=.tuple #[.agg #[.slice al2 y.head.log.length cl2,.int .i64 y.head.boot,.int .i64 y.head.next,.slice ao2 y.head.opn.length co2,.slice ah2 y.houses.length ch2,.slice an2 y.net.length cn2],.bool true]) (by simp [results,Tryz.results9,go_sem,p0,p1,p2,p3,p4,p5]) rfl ?_
 refine⟨_,rfl,?_,G8.o⟩
 rw [←HYE.o]
 exact HY8.o
set_option maxHeartbeats 400000 in
theorem equal_sums {v v':Value} {l l':List Sm} (w:World) (hv:Sl Ty.sm w.cell? v l) (hv':Sl Ty.sm w.cell? v' l'):
  Calls Tryz.prog 19 #[v,v'] w fun e w'=>e=.returned (.bool (decide (l=l')))∧Grow w w':=by
 obtain⟨a,cap,rfl,h1,h2,-,hel⟩:=hv
 obtain⟨a',cap',rfl,h1',h2',-,hel'⟩:=hv'
 unfold maxLen at h2 h2'
 by_cases hlen:l.length=l'.length
 ·have hb:((l.length:Int) !=l'.length)=false:=by simp [hlen]
  have HL:=η hlen
  clear hlen
  go_enter Tryz.func19,Tryz.ntmps19
  go_wp2
  go_loopw [4,5,13] (fun _ _ i wr=>∃k:Nat,k≤l.length∧i=.int .i64 k∧Grow w wr∧∀j,j<k→l[j]? =l'[j]?) (fun _ _ i _=>l.length - (intOf i).toNat)
  case atStart=>exact⟨0,by omega,rfl,grA,fun j h=>by omega⟩
  case round=>
   obtain⟨k,hk',rfl,hb,hE⟩:=hrel
   by_cases hlt:k<l.length
   ·have hlt':k<l'.length:=by have:=HL.o;omega
    have H1:=η (same_next hlt hlt' hE)
    have H2:Hid (¬l[k]=l'[k]→decide (l=l')=false):=fun h=>same_not hlt hlt' h
    clear hE
    obtain⟨b,o,rfl,c0,c1,c2,c3,-,-,-,-⟩:=smAt hel k hlt
    obtain⟨b',o',rfl,c0',c1',c2',c3',-,-,-,-⟩:=smAt hel' k hlt'
    replace c0:=hb.sub _ _ c0
    replace c1:=hb.sub _ _ c1
    replace c2:=hb.sub _ _ c2
    replace c3:=hb.sub _ _ c3
    replace c0':=hb.sub _ _ c0'
    replace c1':=hb.sub _ _ c1'
    replace c2':=hb.sub _ _ c2'
    replace c3':=hb.sub _ _ c3'
    clear hel hel'
    generalize l[k]=p at*
    generalize l'[k]=p' at*
    have hg:=guard_sm
    have HN:∀w,(binOp .neq 48 (.agg #[.int .i64 p.a,.int .i64 p.b,.int .i64 p.c,.int .i64 p.d]) (.agg #[.int .i64 p'.a,.int .i64 p'.b,.int .i64 p'.c,.int .i64 p'.d])).run Tryz.prog w=.ok (.bool (!decide (p=p'))) w:=fun w=>neq_sm p p' w
    by_cases hpp:p=p'
    ·simp only [hpp,decide_true,Bool.not_true] at HN
     have HQ:=η hpp
     subst hpp
     go_wp2_with (go_quiet (fail))
     go_roundw
     case rel=>exact⟨k+1,by omega,by go_num,grA,H1.o rfl⟩
     case measure=>simp [intOf];omega
    ·simp only [hpp,decide_false,Bool.not_false] at HN
     have HQ:=η (H2.o hpp)
     clear hpp H2 H1
     go_wp2_with (go_quiet (fail))
     go_ret
     exact⟨ret_bool HQ.o.symm,grA⟩
   ·clear hel hel'
    have HE:=η (same_all HL.o (by omega) hE)
    go_wp2
    go_ret
    exact⟨ret_bool (decide_eq_true HE.o).symm,hb⟩
 ·have hb:((l.length:Int) !=l'.length)=true:=by simp;omega
  have hE:decide (l=l')=false:=by rw [decide_eq_false_iff_not];rintro rfl;exact hlen rfl
  have HE:=η hE
  clear hlen hE hel hel'
  go_enter Tryz.func19,Tryz.ntmps19
  go_wp2
  go_ret
  exact⟨ret_bool HE.o.symm,grA⟩
set_option maxRecDepth 100000 in
set_option maxHeartbeats 2000000 in
theorem look_sums {v:Value} {x:AW} (w:World) (hv:Of Ty.wd w.cell? v x) (hl:x.houses.length≤3):
  Calls Tryz.prog 12 #[v] w fun e w'=>∃v',e=.returned v'∧OwnC Ty.sm (fun _=>none) w' w.heap.size 48 v' (x.houses.map (·.sums))∧Grow w w':=by
 obtain⟨al,cl,ao,co,ah,ch,an,cn,rfl⟩:=hv.wd_form
 obtain⟨-,q2,-⟩:=hv.wd_parts
 obtain⟨ah',ch',he9,h1,h2,-,hel⟩:=q2
 simp only [Value.slice.injEq,true_and] at he9
 obtain⟨rfl,rfl⟩:=he9
 unfold maxLen at h2
 clear hv
 obtain⟨wa,hwa⟩:∃y:World,y=w.alloc (.cells #[.slice al x.head.log.length cl,.int .i64 x.head.boot,.int .i64 x.head.next,.slice ao x.head.opn.length co,.slice ah x.houses.length ch,.slice an x.net.length cn] 39):=⟨_,rfl⟩
 have R1:Hid (wa.heap[w.heap.size]? =some (.cells #[.slice al x.head.log.length cl,.int .i64 x.head.boot,.int .i64 x.head.next,.slice ao x.head.opn.length co,.slice ah x.houses.length ch,.slice an x.net.length cn] 39 (0,0))):=η (by rw [hwa];exact row_new _ _)
 have G1:Hid (Grow w wa):=η (by rw [hwa];exact(Grow.refl w).alloc _)
 have HZ:Hid (wa.heap.size=w.heap.size+1):=η (by rw [hwa];simp)
 have HWA:=η hwa
 clear hwa
 go_enter Tryz.func12,Tryz.ntmps12
 go_upto_region 1 with fail
 rw [←HWA.o]
 clear HWA
 obtain⟨c0,c1,c2,c3,c4,c5⟩:=cells6 R1.o
 have z1:w.heap.size<wa.heap.size:=(γ R1.o)
 go_wp2
 clear c0 c1 c2 c3 c4 c5
 go_loopw [3,9] (fun s3 i wr=>∃k:Nat,k≤x.houses.length∧i=.int .i64 k∧Grow wa wr∧OwnC Ty.sm (fun _=>none) wr (w.heap.size+1) 48 s3 ((x.houses.take k).map (·.sums))) (fun _ i _=>x.houses.length - (intOf i).toNat)
 case atStart=>exact⟨0,by omega,rfl,Grow.refl _,OwnC.nil _ _ _ _ _⟩
 case round=>
  obtain⟨k,hk',rfl,hb,how⟩:=hrel
  obtain⟨a3,cap3,rfl⟩:=how.form
  have HO:=η how
  have HB:=η hb
  have GB:=η (G1.o.trans hb)
  clear how hb
  by_cases hlt:k<x.houses.length
  ·obtain⟨bh,oh,vl,vr,vd,rfl,e0,e1,e2,e3,e4,e5,e6,hH1,s1,s2,s3,s4,hH2,hH3⟩:=Hss.at_ hel k hlt
   obtain⟨il,jl,rfl,-⟩:=id hH1
   obtain⟨ir,jr,rfl,-⟩:=id hH2
   obtain⟨id9,jd,rfl,-⟩:=id hH3
   have HNX:=η (map_next (fun h:Hs=>h.sums) hlt)
   have HSI:=η (And.intro s1 (And.intro s2 (And.intro s3 s4)))
   have HLL:Hid (((x.houses.take k).map (·.sums)).length≤3):=η (by rw [List.length_map,List.length_take];omega)
   replace e0:=GB.o.sub _ _ e0
   replace e1:=GB.o.sub _ _ e1
   replace e2:=GB.o.sub _ _ e2
   replace e3:=GB.o.sub _ _ e3
   replace e4:=GB.o.sub _ _ e4
   replace e5:=GB.o.sub _ _ e5
   replace e6:=GB.o.sub _ _ e6
   clear hel hH1 hH2 hH3 s1 s2 s3 s4
   generalize x.houses[k]=h at*
   generalize (x.houses.take k).map (·.sums)=ss at*
   go_upto_region 5 with fail
   obtain⟨wo,hwo⟩:∃y:World,y=wr.alloc (.cells #[.slice il h.log.length jl,.int .i64 h.sums.a,.int .i64 h.sums.b,.int .i64 h.sums.c,.int .i64 h.sums.d,.slice ir h.ready.length jr,.slice id9 h.done.length jd] 68):=⟨_,rfl⟩
   obtain⟨BO,hBO⟩:∃y,y=wr.heap.size:=⟨_,rfl⟩
   have GO:Hid (Grow wr wo):=η (by rw [hwo];exact(Grow.refl _).alloc _)
   have RO:Hid (wo.heap[BO]? =some (.cells #[.slice il h.log.length jl,.int .i64 h.sums.a,.int .i64 h.sums.b,.int .i64 h.sums.c,.int .i64 h.sums.d,.slice ir h.ready.length jr,.slice id9 h.done.length jd] 68 (0,0))):=η (by rw [hwo,hBO];exact row_new _ _)
   rw [←hwo,←hBO]
   clear hwo hBO e0 e1 e2 e3 e4 e5 e6
   obtain⟨f0,f1,f2,f3,f4,f5,f6⟩:=cells7 RO.o
   have zO:BO<wo.heap.size:=(γ RO.o)
   go_wp2_with (first|(at_builtin;refine wpList_appc (c:=fun _=>none) (base:=w.heap.size+1) (l:=ss) (m:=[h.sums]) ei_sm rfl one_Tsm (by decide) rfl (.tmp 13) (.tmp 16) rfl rfl ((HO.o.grow GO.o).grow ((Grow.refl _).alloc _)) rfl (Src.of_new (T:=Ty.sm) (x:=h.sums) (cs:=#[.int .i64 h.sums.a,.int .i64 h.sums.b,.int .i64 h.sums.c,.int .i64 h.sums.d]) ⟨rfl,HSI.o.1,HSI.o.2.1,HSI.o.2.2.1,HSI.o.2.2.2⟩ _ _ ?d1) ?d2 ?d3 ?_))
   case d1=>first|rfl|simp
   case d2=>have:=HLL.o;simp;omega
   case d3=>have:=HB.o.size;have:=GO.o.size;have:=HZ.o;simp;omega
   intro a9 c9 w9 ho9 hg9 hb9
   have HG9:Hid (Grow wa w9):=η (grow_by (w0:=wa) ((HB.o.trans GO.o).alloc _) hg9 (fun q hq=>by have:=(HO.o.lt q hq).1;have:=HZ.o;omega))
   have HO9:=η ho9
   clear ho9 hg9 hb9 f0 f1 f2 f3 f4 f5 f6 zO
   go_wp2
   go_roundw
   case rel=>exact⟨k+1,by omega,by go_num,HG9.o,by rw [HNX.o];exact HO9.o⟩
   case measure=>simp [intOf];omega
  ·have HTL:Hid ((x.houses.take k).map (·.sums)=x.houses.map (·.sums)):=η (by rw [List.take_of_length_le (by omega)])
   clear hel
   obtain⟨ss,hss⟩:∃y,y=x.houses.map (·.sums):=⟨_,rfl⟩
   rw [HTL.o,←hss] at HO ⊢
   have HSS:=η hss
   clear HTL hss
   go_wp2
   go_ret
   exact⟨_,rfl,by rw [←HSS.o];exact HO.o.base (Nat.le_succ _),GB.o⟩
theorem even_tells (w:World) (l:List Int):Tells Tryz.prog Ty.int oneOf w 21 #[] l (fun e=>e !=0) where
 ent:=fun args w=>by kernel_rfl
 say:=fun wx cs x hg _ hR=>by
  obtain⟨rfl,-⟩:=hR
  show Calls _ _ #[.int .i64 x] _ _
  go_enter Tryz.func21,Tryz.ntmps21
  go_wp2
  go_ret
  exact⟨rfl,grA⟩
def evenE (x:AW):Bool:=decide ((allE (List.replicate x.houses.length ⟨0,0,0,0⟩) (decidedR x.head.log)).1=x.houses.map (·.sums))&& !((allE (List.replicate x.houses.length ⟨0,0,0,0⟩) (decidedR x.head.log)).2.any fun e=>e !=0)
set_option maxRecDepth 100000 in
set_option maxHeartbeats 8000000 in
theorem look_even {v:Value} {x:AW} (w:World) (hv:Of Ty.wd w.cell? v x) (hl:1≤x.houses.length∧x.houses.length≤3) (hg:x.head.log.length≤100000) (hlp:∀r∈x.head.log,r.parts.length*24≤140737488355328)
  (hD:∀r∈decidedR x.head.log,wrongE r.parts x.houses.length=0):
  Calls Tryz.prog 10 #[v] w fun e w'=>e=.returned (.bool (evenE x))∧Grow w w':=by
 have HSU:=η (fun(W:World) (hW:Grow w W)=>look_sums W (hv.mono hW.sub) hl.2)
 obtain⟨al,cl,ao,co,ah,ch,an,cn,rfl⟩:=hv.wd_form
 obtain⟨q1,q2,-⟩:=hv.wd_parts
 have HLOG:=η (Of.hd_log q1).1
 have HG:=η hg
 have HLP:=η hlp
 have HDD:=η hD
 have HL:=η hl
 clear hv q1 q2 hg hlp hD hl
 obtain⟨wa,hwa⟩:∃y:World,y=w.alloc (.cells #[.slice al x.head.log.length cl,.int .i64 x.head.boot,.int .i64 x.head.next,.slice ao x.head.opn.length co,.slice ah x.houses.length ch,.slice an x.net.length cn] 39):=⟨_,rfl⟩
 have R1:Hid (wa.heap[w.heap.size]? =some (.cells #[.slice al x.head.log.length cl,.int .i64 x.head.boot,.int .i64 x.head.next,.slice ao x.head.opn.length co,.slice ah x.houses.length ch,.slice an x.net.length cn] 39 (0,0))):=η (by rw [hwa];exact row_new _ _)
 have G1:Hid (Grow w wa):=η (by rw [hwa];exact(Grow.refl w).alloc _)
 have HWA:=η hwa
 clear hwa
 obtain⟨D,hD⟩:∃q,q=decidedR x.head.log:=⟨_,rfl⟩
 have HDE:=η hD
 have HDL:Hid (D.length≤100000):=η (by rw [hD];unfold decidedR;rw [List.length_map];exact Nat.le_trans (List.length_filter_le _ _) HG.o)
 rw [←hD] at HDD
 clear hD
 have HS:Hid (∀W,Grow wa W→W.cell? ⟨w.heap.size,0,none⟩=some (.slice al x.head.log.length cl)∧W.cell? ⟨w.heap.size,4,none⟩=some (.slice ah x.houses.length ch)):=fun W hW=>by
  obtain⟨a0,-,-,-,a4,-⟩:=cells6 (row_grow R1.o hW)
  exact⟨a0,a4⟩
 obtain⟨Y,hY⟩:∃q,q=allE (List.replicate x.houses.length ⟨0,0,0,0⟩) D:=⟨_,rfl⟩
 have HY:=η hY
 clear hY
 go_enter Tryz.func10,Tryz.ntmps10
 go_upto_region 1 with fail
 rw [←HWA.o]
 clear HWA
 go_cut [3,4] from 5 (fun s3 s4 wc=>Sms wc.cell? s3 Y.1∧Sl Ty.int wc.cell? s4 Y.2∧Grow wa wc)
 case first=>
  refine bSc (fun w'=>w'.cell? ⟨w.heap.size,0,none⟩=some (.slice al x.head.log.length cl)∧w'.cell? ⟨w.heap.size,4,none⟩=some (.slice ah x.houses.length ch)) [] (by kernel_rfl) ?_
  intro wd GD zD
  have ZD:=η zD
  clear zD
  refine bLc [0,1,2,3,4,5] 15 (by kernel_rfl) (fun _ _ _ _ _ h=>h) (HS.o _ GD) ?_
  repeat (refine tNc (v:=?_) rfl (by rfl) ?_ ?_;rotate_left;(· (intro w' hSw;(try dsimp only at hSw);obtain⟨hs0,hs1⟩:=hSw;go_simp<;>with_reducible rfl));try simp only [Act.put,lzA,lzB,lzC,lzD,lzE,lzF])
  refine tEc ?_
  refine bOc 6 (by kernel_rfl) rfl ?_
  intro K HK
  try simp only [lzA,lzB,lzC]
  go_simp
  go_at_call 18
  refine(wlog_decided wd (HLOG.o.mono (Grow.sub (G1.o.trans GD))) (by have:=HG.o;omega) HLP.o).mono ?_
  rintro eD wD ⟨vD,rfl,hoD,hbD⟩
  rw [←HDE.o] at hoD
  obtain⟨aD,cD,rfl⟩:=hoD.form
  have GD9:=η (Grow.trans GD hbD)
  have HOD:=η (OwnC.sl (by decide) (fr_sub _ _ _) hoD)
  clear hoD hbD
  refine HK.o _ _ ⟨.inr (HS.o _ GD9.o),?_⟩
  clear HK K
  try simp only [Act.put,lzA,lzB,lzC,lzD,lzE,lzF]
  refine bOc 7 (by kernel_rfl) rfl ?_
  intro K HK
  try simp only [lzA,lzB,lzC]
  go_simp
  go_at_call 17
  refine(model_all (n:=x.houses.length) (D:=D) wD HL.o HOD.o HDD.o (by have:=HDL.o;omega)).mono ?_
  rintro eA wA ⟨vA,vB,rfl,hA,hB,hbA⟩
  obtain⟨aA,cA,rfl,-⟩:=id hA
  obtain⟨aB,cB,rfl,-⟩:=id hB
  have GA:=η (Grow.trans GD9.o hbA)
  rw [←HY.o] at hA hB ⊢
  have HA:=η hA
  have HB:=η hB
  clear hA hB hbA
  refine HK.o _ _ ⟨.inr (HS.o _ GA.o),?_⟩
  clear HK K
  try simp only [Act.put,lzA,lzB,lzC,lzD,lzE,lzF]
  refine bLc [8,9,10,11,12] 15 (by kernel_rfl) (fun _ _ _ _ _ h=>h) (HS.o _ GA.o) ?_
  repeat (refine tNc (v:=?_) rfl (by rfl) ?_ ?_;rotate_left;(· (intro w' hSw;(try dsimp only at hSw);obtain⟨hs0,hs1⟩:=hSw;go_simp<;>with_reducible rfl));try simp only [Act.put,lzA,lzB,lzC,lzD,lzE,lzF])
  refine tEc ?_
  refine bDc (by kernel_rfl) ?_
  go_wp2
  go_meet
  case rel=>exact⟨HA.o,HB.o,GA.o⟩
 case rest=>
 obtain⟨hA,hB,hgc⟩:=hcut
 obtain⟨w2,rfl⟩:∃q:World,q=wc:=⟨_,rfl⟩
 have HA:=η hA
 have HB:=η hB
 obtain⟨aA,cA,rfl,-⟩:=hA
 obtain⟨aB,cB,rfl,-⟩:=hB
 have G2:=η (G1.o.trans hgc)
 have R2:=η (row_grow R1.o hgc)
 clear hgc HS
 obtain⟨c0,c1,c2,c3,c4,c5⟩:=cells6 R2.o
 have z1:w.heap.size<w2.heap.size:=(γ R2.o)
 go_wp2_with fail
 refine(HSU.o w2 G2.o).mono ?_
 rintro e w3 ⟨v3,rfl,ho3,hb3⟩
 obtain⟨a3,c3',rfl⟩:=ho3.form
 have HO3:=η (OwnC.sl (by decide) (fun _ _ e9=>by cases e9) ho3)
 have HA3:=η (HA.o.mono hb3.sub)
 have HB3:=η (HB.o.mono hb3.sub)
 have G3:=η (G2.o.trans hb3)
 clear ho3 hb3 c0 c1 c2 c3 c4 c5 z1
 have HEV:Hid (evenE x=(decide (Y.1=x.houses.map (·.sums))&& !(Y.2.any fun e=>e !=0))):=η (by unfold evenE;rw [HY.o,HDE.o])
 generalize x.houses.map (·.sums)=ss at*
 go_wp2_with fail
 refine(equal_sums w3 HA3.o HO3.o).mono ?_
 rintro e w4 ⟨rfl,hb4⟩
 have HB4:=η (HB3.o.mono hb4.sub)
 have G4:=η (G3.o.trans hb4)
 clear hb4
 generalize decide (Y.1=ss)=t at*
 cases t
 ·go_wp2
  go_ret
  exact⟨ret_bool (by rw [HEV.o];rfl),G4.o⟩
 ·go_wp2_with fail
  refine(containsFunc_errno w4 HB4.o (even_tells w4 Y.2)).mono ?_
  rintro e w5 ⟨rfl,hb5⟩
  have G5:=η (G4.o.trans hb5)
  clear hb5
  generalize (Y.2.any fun e=>e !=0)=t at*
  cases t
  ·go_wp2
   go_ret
   exact⟨ret_bool (by rw [HEV.o];rfl),G5.o⟩
  ·go_wp2
   go_ret
   exact⟨ret_bool (by rw [HEV.o];rfl),G5.o⟩
theorem WI.decWrong {n:Nat} {G:Reg} {x:AW} (i:WI n G x):∀r∈decidedR x.head.log,wrongE r.parts x.houses.length=0:=fun r hr=>by
 rw [i.core.len]
 exact(i.core.reg.ok _ (i.core.dec.reg r hr)).2
theorem WI.logLen {n:Nat} {G:Reg} {x:AW} (i:WI n G x) (h:LogP x.head.log):∀r∈x.head.log,r.parts.length*24≤140737488355328:=fun r hr=>by have:=logP_len i h r hr;omega
theorem WI.evenE {n:Nat} {G:Reg} {x:AW} (i:WI n G x) (h:opensE x=[]):evenE x=true:=by
 have hno:∀d:Int,0≤d→d≤1343→isOpen x d=false:=fun d h0 h1=>by
  cases e:isOpen x d with
  |false=>rfl
  |true=>
   have hm:d∈opensE x:=List.mem_filter.2 ⟨List.mem_map.2 ⟨d.toNat,List.mem_range.2 (by omega),by omega⟩,e⟩
   rw [h] at hm;cases hm
 have hall:∀r∈decidedR x.head.log,∀k∈housesE r.parts,dne x.houses k r.deed:=fun r hr k hk=>by
  have hreg:=i.core.dec.reg r hr
  have hw:=(i.core.reg.ok _ hreg).2
  obtain⟨h0,h1⟩:=i.core.deed hreg
  obtain⟨k0,k1⟩:=houses_lt hw hk
  have hlen:=i.core.len
  have hlt:k.toNat<x.houses.length:=by omega
  refine⟨x.houses[k.toNat],List.getElem?_eq_getElem hlt,Classical.byContradiction fun hnd=>?_⟩
  have ho:=hno r.deed h0 h1
  rw [Bool.eq_false_iff] at ho
  refine ho (isOpen_iff.2 (.inr ⟨r,hr,rfl,k.toNat,x.houses[k.toNat],hlt,List.getElem?_eq_getElem hlt,?_,hnd⟩))
  have:=(houses_mem.1 hk).2
  rwa [show((k.toNat:Nat):Int)=k by omega]
 have he:=i.core.even hall
 unfold Go.Proofs.YthfgeelcbcgahaaGreatDoor.evenE
 rw [i.core.len,he]
 simp
theorem info_st:(Tryz.prog.info? 28).map (·.size)=some 3:=by kernel_rfl
set_option maxRecDepth 100000 in
set_option maxHeartbeats 2000000 in
theorem top_begin (s:ByteArray) (w:World) (hV:Vars w) (hs:s.size<4294967281):
  Calls Tryz.prog 13 #[.string s] w fun e w'=>∃v,e=.returned (.agg #[.int .i64 1,.int .i64 0,v])∧Pts w'.cell? v (parseE s.data.toList).1∧Grow w w':=by
 have HP:=η (fun(W:World) (hW:Grow w W)=>text_parseN s W (hV.grow hW) hs)
 clear hV
 generalize parseE s.data.toList=q at*
 obtain⟨l,er⟩:=q
 dsimp only at HP
 obtain⟨B2,hB2⟩:∃B,B=w.heap.size:=⟨_,rfl⟩
 obtain⟨wa,hwa⟩:∃y:World,y=w.alloc (.cells #[.int .i64 0,.int .i64 0,.slice none 0 0] 28):=⟨_,rfl⟩
 have R2:Hid (wa.heap[B2]? =some (.cells #[.int .i64 0,.int .i64 0,.slice none 0 0] 28 (0,0))):=η (by rw [hwa,hB2];exact row_new _ _)
 have G1:Hid (Grow w wa):=η (by rw [hwa];exact(Grow.refl w).alloc _)
 have HB2:=η hB2
 go_enter Tryz.func13,Tryz.ntmps13
 go_wp2_with fail
 rw [←hwa,←hB2]
 clear hwa hB2
 refine(HP.o _ G1.o).mono ?_
 rintro e w1 ⟨v,rfl,hv,g1⟩
 obtain⟨a,c,rfl,-⟩:=id hv
 have HVV:=η hv
 have R3:=η (row_grow R2.o g1)
 have G2:=η (G1.o.trans g1)
 clear hv g1
 go_wp2_with (first|(refine wpList_store_row rfl (.tmp 2) (.tmp 11) rfl rfl rfl R3.o info_st rfl rfl ?_))
 intro w7 r7 g7
 obtain⟨p0,p1,p2⟩:=cells3 r7
 go_wp2
 refine bodyPost_ret (v:=.agg #[.int .i64 1,.int .i64 0,.slice a l.length c]) (by simp [results,Tryz.results13,go_sem,p0,p1,p2]) rfl ?_
 refine⟨_,rfl,?_,G2.o.grown g7 (fun q hq=>by have:=HB2.o;simp at hq;omega)⟩
 exact HVV.o.mono (ov_keep (Grow.refl _) g7 (γ R2.o))
theorem wi_settled (l:List St):∃G,WI 3 G (settledA l)∧Quiet (settledA l):=by
 obtain⟨G,hw,-⟩:=WI.of_play (n:=3) (by omega) l
 obtain⟨hq,hi,-⟩:=hw.settle
 exact⟨G,hi,hq⟩
theorem idle_none {x:AW} (h:idleA x=true):opensE x=[]:=by
 unfold idleA at h
 simp only [Bool.and_eq_true,List.isEmpty_iff] at h
 exact h.2
theorem top_even {v:Value} {l:List St} (h150:l.length≤150) (w:World) (hv:Of Ty.wd w.cell? v (settledA l)):
  Calls Tryz.prog 10 #[v] w fun e w'=>e=.returned (.bool true)∧Grow w w':=by
 obtain⟨-,hk,hid,hl⟩:=settled_ok h150
 obtain⟨G,hi,-⟩:=wi_settled l
 have h:=look_even w hv (by omega) (by have:=hk.few.log;have:=hk.le;omega) (hi.logLen hk.logp) hi.decWrong
 rw [hi.evenE (idle_none hid)] at h
 exact h
theorem sums_right (l:List St):∀s∈(settledA l).houses.map (·.sums),rightS s=true:=fun s hs=>by
 obtain⟨h,hh,rfl⟩:=List.mem_map.1 hs
 obtain⟨k,hk,rfl⟩:=List.mem_iff_getElem.1 hh
 obtain⟨G,hi,-⟩:=wi_settled l
 exact(hi.core.house k _ (List.getElem?_eq_getElem hk)).right
theorem top_sums {v:Value} {l:List St} (h150:l.length≤150) (w:World) (hv:Of Ty.wd w.cell? v (settledA l)):
  Calls Tryz.prog 12 #[v] w fun e w'=>∃v',e=.returned v'∧Sms w'.cell? v' ((settledA l).houses.map (·.sums))∧Grow w w':=by
 obtain⟨-,-,-,hl⟩:=settled_ok h150
 refine(look_sums w hv (by omega)).mono ?_
 rintro e w' ⟨v',rfl,ho,hg⟩
 exact⟨v',rfl,ho.sl (by decide) (fun a v h=>by cases h),hg⟩
theorem top_total {v:Value} {l:List St} (h150:l.length≤150) (w:World) (hv:Sms w.cell? v ((settledA l).houses.map (·.sums))):
  Calls Tryz.prog 11 #[v] w fun e w'=>e=.returned (.int .i64 (totalE ((settledA l).houses.map (·.sums))))∧Grow w w':=by
 obtain⟨-,-,-,hl⟩:=settled_ok h150
 exact model_total w hv (sums_right l) (by rw [List.length_map];omega)
theorem dec_small {u:Nat} (h:u<10):Lib.decDigits u=[UInt8.ofNat (48+u)]:=by rw [Lib.decDigits,dif_pos h]
def P8:List Pt:=[⟨0,0,7⟩,⟨2,1,8⟩]
def S8b:List UInt8:=[48,46,48,43,55,32,50,46,49,43,56]
theorem print8:printE P8=S8b:=by
 unfold printE P8 S8b wordOf
 have h:∀n:Nat,n<10→Lib.itoa (n:Int)=[UInt8.ofNat (48+n)]:=fun n hn=>by rw [Lib.itoa_nonneg,dec_small hn]
 have e0:Lib.itoa 0=[48]:=h 0 (by decide)
 have e1:Lib.itoa 1=[49]:=h 1 (by decide)
 have e2:Lib.itoa 2=[50]:=h 2 (by decide)
 have e7:Lib.itoa 7=[55]:=h 7 (by decide)
 have e8:Lib.itoa 8=[56]:=h 8 (by decide)
 simp only [List.map_cons,List.map_nil]
 rw [e0,e1,e2,e7,e8]
 decide
theorem parse8:parseE S8b=(P8,0):=by
 rw [←print8]
 exact parse_print (by decide)
theorem total8:totalE ((settledA [⟨1,0,P8⟩]).houses.map (·.sums))=15:=by kernel_rfl
set_option maxRecDepth 100000 in
set_option maxHeartbeats 2000000 in
theorem alive_top (w:World) (hV:Vars w):Calls Tryz.prog 7 #[] w fun e w'=>e=.returned (.bool true)∧Grow w w':=by
 have hp:=top_begin ⟨#[48,46,48,43,55,32,50,46,49,43,56]⟩ w hV (by show 11<4294967281;omega)
 have e8:(⟨#[48,46,48,43,55,32,50,46,49,43,56]⟩:ByteArray).data.toList=S8b:=rfl
 rw [e8,parse8] at hp
 have HP:=η hp
 clear hp e8
 go_enter Tryz.func7,Tryz.ntmps7
 go_wp2_with fail
 refine HP.o.mono ?_
 rintro e w1 ⟨v,rfl,hv,g1⟩
 have G1:=η g1
 obtain⟨wb,hwb⟩:∃y:World,y=w1.alloc (.cells #[.int .i64 1,.int .i64 0,v] 28):=⟨_,rfl⟩
 have HS:Hid (Sl Ty.st wb.cell? (.slice (some ⟨w1.heap.size,0,none⟩) 1 1) [⟨1,0,P8⟩]):=η (Sl.lit w1 [[.int .i64 1,.int .i64 0,v]] (by decide) (by rw [hwb];exact Grow.refl _) rfl rfl (by decide) rfl ⟨⟨v,rfl,by unfold I64;decide,by unfold I64;decide,hv⟩,trivial⟩)
 have G2:Hid (Grow w wb):=η (by rw [hwb];exact g1.alloc _)
 clear hv g1
 obtain⟨st,hst⟩:∃l:List St,l=[⟨1,0,P8⟩]:=⟨_,rfl⟩
 have hl:st.length≤150:=by rw [hst];decide
 have HT:Hid (totalE ((settledA st).houses.map (·.sums))=15):=η (by rw [hst];exact total8)
 rw [←hst] at HS
 clear hst
 have HSE:=η (top_settled wb HS.o hl)
 have HL:=η hl
 clear hl
 go_wp2_with fail
 rw [←hwb]
 clear hwb
 refine HSE.o.mono ?_
 rintro e w3 ⟨v3,rfl,hx,g3⟩
 have HX:=η hx
 obtain⟨al,cl,ao,co,ah,ch,an,cn,rfl⟩:=hx.wd_form
 have G3:=η (G2.o.trans g3)
 clear hx g3
 have R1:=row_new w3 (.cells #[.slice none 0 0,.int .i64 0,.int .i64 0,.slice none 0 0,.slice none 0 0,.slice none 0 0] 39)
 go_wp2_with (first|(refine wpList_store_row rfl (.tmp 1) (.tmp 7) rfl rfl rfl R1 info_wd rfl rfl ?_))
 clear R1
 intro w5 r5 g5
 obtain⟨B,hB⟩:∃B,B=w3.heap.size:=⟨_,rfl⟩
 rw [←hB] at r5
 rw [←hB]
 have G5:Hid (Grow w3 w5):=η (((Grow.refl w3).alloc _).grown g5 (fun q hq=>by simp at hq;omega))
 have R5:=η r5
 obtain⟨x1,x2,x3,x4,x5,x6⟩:=cells6 r5
 have zX:B<w5.heap.size:=(γ r5)
 clear r5 g5 hB
 have HE:=η (fun(W:World) (hW:Grow w3 W)=>top_even HL.o W (HX.o.mono hW.sub))
 have HU:=η (fun(W:World) (hW:Grow w3 W)=>top_sums HL.o W (HX.o.mono hW.sub))
 have HO:=η (fun(W:World) (v:Value) (hv:Sms W.cell? v ((settledA st).houses.map (·.sums)))=>top_total HL.o W hv)
 rw [HT.o] at HO
 go_wp2_with fail
 refine(HE.o _ G5.o).mono ?_
 rintro e w6 ⟨rfl,g6⟩
 have G6:=η (G5.o.trans g6)
 obtain⟨y1,y2,y3,y4,y5,y6⟩:=cells6 (row_grow R5.o g6)
 have zY:B<w6.heap.size:=(Array.getElem?_eq_some_iff.1 (row_grow R5.o g6)).1
 clear x1 x2 x3 x4 x5 x6 zX g6
 go_wp2_with fail
 refine(HU.o _ G6.o).mono ?_
 rintro e w7 ⟨v7,rfl,hv7,g7⟩
 go_wp2_with fail
 refine(HO.o _ _ hv7).mono ?_
 rintro e w8 ⟨rfl,g8⟩
 go_wp2
 go_ret
 exact⟨rfl,((G3.o.trans G6.o).trans g7).trans g8⟩
end Go.Proofs.YthfgeelcbcgahaaGreatDoor
