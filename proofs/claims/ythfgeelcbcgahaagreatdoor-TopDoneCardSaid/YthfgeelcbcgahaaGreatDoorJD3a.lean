/- The parts that laws are proved of, joined: M5, M6, M7, M8, V3, V5. No condition beside those that each theorem names. -/
import Derived.Test.YthfgeelcbcgahaaGreatDoorJD1b
import Derived.Test.YthfgeelcbcgahaaGreatDoorJD2a
namespace Go.Proofs.YthfgeelcbcgahaaGreatDoor
open Go.RowKit
theorem frag_own {W0 w w':World} {v:Value} (hg:Grow w w'):Sub (fr W0 w [v.ownBlock]) (frag w' v.ownBlock):=fun a u e=>by
 unfold fr at e
 split at e
 ·cases e
 ·rename_i hn
  have h2:some a.block≠v.ownBlock:=fun e=>hn (.inr (by simp [e]))
  unfold frag
  rw [if_neg h2]
  exact hg.sub _ _ e
theorem frag_app {w w':World} {row:Option Nat} (hg:w.grownBy w' row):Sub (frag w row) w'.cell?:=fun a u e=>by
 unfold frag at e
 split at e
 ·cases e
 ·rename_i hn
  rw [World.cell?_of_block (hg.block a.block (World.block_lt_of_cell? w a e) hn)]
  exact e
set_option maxRecDepth 100000 in
set_option maxHeartbeats 2000000 in
theorem wlog_note {v vr:Value} {h:Hs} {r:Rc} (w:World) (hv:Of Ty.hs w.cell? v h) (hr:Of Ty.rc w.cell? vr r) (hk:∀x∈h.log,KeysOk x.parts) (hkr:KeysOk r.parts) (hm:(h.log.length+1)*40≤140737488351232)
  (hp:∀x∈h.log,x.parts.length*24≤140737488355328) (hpr:r.parts.length*24≤140737488355328):
  Calls Tryz.prog 102 #[v,vr] w fun e w'=>∃v',e=.returned v'∧Of Ty.hs (ov (fun _=>none) w w') v' (noteE h r)∧Grow w w':=by
 obtain⟨al,cl,ar,cr,ad,cd,rfl⟩:=hv.hs_form
 obtain⟨ap,cp,rfl⟩:=hr.rc_form
 have hl:=(Of.hs_log hv).1
 have hr3:Ty.rc.R w.cell? #[.int .i64 r.kind,.int .i64 r.deed,.slice ap r.parts.length cp].toList r:=Of.cells hr
 have HR:=η hr3
 have HOWN:=η (fun(W:World) (hW:Grow w W)=>log_own W (hl.mono hW.sub) (by omega) hp)
 have hkk:∀x∈h.log++ [r],KeysOk x.parts:=by
  intro x hx
  rcases List.mem_append.1 hx with hx|hx
  ·exact hk x hx
  ·rw [List.mem_singleton.1 hx];exact hkr
 have hpp:∀x∈h.log++ [r],x.parts.length*24≤140737488355328:=by
  intro x hx
  rcases List.mem_append.1 hx with hx|hx
  ·exact hp x hx
  ·rw [List.mem_singleton.1 hx];exact hpr
 have HHS:=η (fun(v':Value) (W:World) (hv':Rcs W.cell? v' (h.log++ [r]))=>wlog_house W hv' hkk (by simpa using hm) hpp)
 have HM:=η hm
 have HG0:Hid (Grow w (((w.alloc (.cells #[.slice al h.log.length cl,.int .i64 h.sums.a,.int .i64 h.sums.b,.int .i64 h.sums.c,.int .i64 h.sums.d,.slice ar h.ready.length cr,.slice ad h.done.length cd] 68)).alloc (.cells #[.int .i64 r.kind,.int .i64 r.deed,.slice ap r.parts.length cp] 81)).alloc (.cells zrow 68))):=η ((((Grow.refl w).alloc _).alloc _).alloc _)
 have HR2:Hid ((((w.alloc (.cells #[.slice al h.log.length cl,.int .i64 h.sums.a,.int .i64 h.sums.b,.int .i64 h.sums.c,.int .i64 h.sums.d,.slice ar h.ready.length cr,.slice ad h.done.length cd] 68)).alloc (.cells #[.int .i64 r.kind,.int .i64 r.deed,.slice ap r.parts.length cp] 81)).alloc (.cells zrow 68)).heap[w.heap.size]? =some (.cells #[.slice al h.log.length cl,.int .i64 h.sums.a,.int .i64 h.sums.b,.int .i64 h.sums.c,.int .i64 h.sums.d,.slice ar h.ready.length cr,.slice ad h.done.length cd] 68 (0,0))):=η (heap_later (heap_later (row_new _ _) _) _)
 have HR3:Hid ((((w.alloc (.cells #[.slice al h.log.length cl,.int .i64 h.sums.a,.int .i64 h.sums.b,.int .i64 h.sums.c,.int .i64 h.sums.d,.slice ar h.ready.length cr,.slice ad h.done.length cd] 68)).alloc (.cells #[.int .i64 r.kind,.int .i64 r.deed,.slice ap r.parts.length cp] 81)).alloc (.cells zrow 68)).heap[w.heap.size+1]? =some (.cells #[.int .i64 r.kind,.int .i64 r.deed,.slice ap r.parts.length cp] 81 (0,0))):=η (heap_later (by simpa using row_new (w.alloc (.cells #[.slice al h.log.length cl,.int .i64 h.sums.a,.int .i64 h.sums.b,.int .i64 h.sums.c,.int .i64 h.sums.d,.slice ar h.ready.length cr,.slice ad h.done.length cd] 68)) _) _)
 have HR4:Hid ((((w.alloc (.cells #[.slice al h.log.length cl,.int .i64 h.sums.a,.int .i64 h.sums.b,.int .i64 h.sums.c,.int .i64 h.sums.d,.slice ar h.ready.length cr,.slice ad h.done.length cd] 68)).alloc (.cells #[.int .i64 r.kind,.int .i64 r.deed,.slice ap r.parts.length cp] 81)).alloc (.cells zrow 68)).heap[w.heap.size+1+1]? =some (.cells zrow 68 (0,0))):=η (by simpa using row_new ((w.alloc (.cells #[.slice al h.log.length cl,.int .i64 h.sums.a,.int .i64 h.sums.b,.int .i64 h.sums.c,.int .i64 h.sums.d,.slice ar h.ready.length cr,.slice ad h.done.length cd] 68)).alloc (.cells #[.int .i64 r.kind,.int .i64 r.deed,.slice ap r.parts.length cp] 81)) _)
 clear hv hr hk hkr hm hp hpr hl hr3 hkk hpp
 go_enter Tryz.func102,Tryz.ntmps102
 go_wp2
 obtain⟨w3,hWE⟩:∃x:World,x=(((w.alloc (.cells #[.slice al h.log.length cl,.int .i64 h.sums.a,.int .i64 h.sums.b,.int .i64 h.sums.c,.int .i64 h.sums.d,.slice ar h.ready.length cr,.slice ad h.done.length cd] 68)).alloc (.cells #[.int .i64 r.kind,.int .i64 r.deed,.slice ap r.parts.length cp] 81)).alloc (.cells zrow 68)):=⟨_,rfl⟩
 rw [←hWE] at HG0 HR2 HR3 HR4
 rw [←hWE]
 clear hWE
 obtain⟨g0,-,-,-,-,-,-⟩:=cells7 HR2.o
 obtain⟨g1,g2,g3⟩:=cells3 HR3.o
 have HS:Hid (∀W,Grow w3 W→W.cell? ⟨w.heap.size,0,none⟩=some (.slice al h.log.length cl)∧W.cell? ⟨w.heap.size+1,0,none⟩=some (.int .i64 r.kind)∧W.cell? ⟨w.heap.size+1,1,none⟩=some (.int .i64 r.deed)∧W.cell? ⟨w.heap.size+1,2,none⟩=some (.slice ap r.parts.length cp)):=fun W hW=>⟨hW.sub _ _ g0,hW.sub _ _ g1,hW.sub _ _ g2,hW.sub _ _ g3⟩
 have hz4:w.heap.size+1+1<w3.heap.size:=(γ HR4.o)
 clear g0 g1 g2 g3
 refine but_start (fun w'=>w'.cell? ⟨w.heap.size,0,none⟩=some (.slice al h.log.length cl)∧w'.cell? ⟨w.heap.size+1,0,none⟩=some (.int .i64 r.kind)∧w'.cell? ⟨w.heap.size+1,1,none⟩=some (.int .i64 r.deed)∧w'.cell? ⟨w.heap.size+1,2,none⟩=some (.slice ap r.parts.length cp)) 7 (by kernel_rfl) ?_
 obtain⟨wd,hWd⟩:∃x:World,x=w3.drew:=⟨_,rfl⟩
 rw [←hWd]
 have GD:Grow w3 wd:=by rw [hWd];exact(Grow.refl _).drew
 have zD:w3.heap.size=wd.heap.size:=by rw [hWd];rfl
 have ZD:=η zD
 clear hWd zD
 refine bLm [0,1,3] 8 (by kernel_rfl) (fun _ _ _ _ _ h=>h) (HS.o _ GD) ?_
 repeat (refine tNm (v:=?_) rfl (by rfl) ?_ ?_;rotate_left;(· (intro w' hSw;(try dsimp only at hSw);obtain⟨hs0,hs1,hs2,hs3⟩:=hSw;go_simp<;>with_reducible rfl));try simp only [Act.put,lzA,lzB,lzC,lzD,lzE,lzF])
 refine tEm ?_
 refine bP 2 4 (by kernel_rfl) rfl rfl ?_ ?_
 ·intro K HK
  try simp only [lzA,lzB,lzC]
  go_simp
  go_at_call 64
  refine(HOWN.o _ (HG0.o.trans GD)).mono ?_
  rintro e wo ⟨vo,rfl,ho,hbo⟩
  obtain⟨ao,co,rfl⟩:=ho.form
  have HO:=η ho
  have GO:=GD.trans hbo
  have HBO:=η hbo
  have ZO:Hid (w3.heap.size≤(wd).heap.size):=η GD.size
  clear ho hbo
  refine HK.o _ _ ⟨fun _=>HS.o _ GO,?_⟩
  clear HK K
  try simp only [Act.put,lzA,lzB,lzC,lzD,lzE,lzF]
  refine bO 4 (by kernel_rfl) rfl ?_
  intro K HK
  try simp only [lzA,lzB,lzC]
  go_simp
  refine HK.o _ _ ⟨fun _=>HS.o _ (GO.alloc _),?_⟩
  clear HK K
  try simp only [Act.put,lzA,lzB,lzC,lzD,lzE,lzF]
  refine bO 5 (by kernel_rfl) rfl ?_
  intro K HK
  refine wanted_go rfl ?_
  try simp only [lzA,lzB,lzC]
  have HFR:Hid (Sub w.cell? (frag (wo.alloc (.cells #[.int .i64 r.kind,.int .i64 r.deed,.slice ap r.parts.length cp] 81)) (Value.slice ao h.log.length co).ownBlock)):=η (frag_of_lt (HG0.o.trans (GO.alloc _)) fun q hq=>by have:=(HO.o.lt q hq).1;have:=ZO.o;have:=HG0.o.size;omega)
  refine wp_appc (c:=(frag (wo.alloc (.cells #[.int .i64 r.kind,.int .i64 r.deed,.slice ap r.parts.length cp] 81)) (Value.slice ao h.log.length co).ownBlock)) (base:=wd.heap.size) (l:=h.log) (m:=[r]) ei_rc rfl one_Trc (by decide) (.tmp 7) (.tmp 9) rfl rfl ((HO.o.mono (frag_own ((Grow.refl wo).alloc _))).grow ((Grow.refl wo).alloc _)) rfl (Src.of_new (T:=Ty.rc) (cs:=#[.int .i64 r.kind,.int .i64 r.deed,.slice ap r.parts.length cp]) (Ty.rc.mono HFR.o HR.o) _ _ rfl) (by have:=HM.o;simp;omega) (by have:=HBO.o.size;(try simp at this ⊢);omega) ?_
  intro a5 c5 w5 ho5 hg5 hb5
  have HR5:=η (ho5.sl (by decide) (frag_app hg5))
  have G5:Grow w3 w5:=grow_by (w0:=w3) (GO.alloc _) hg5 (fun q hq=>by have:=(HO.o.lt q hq).1;have:=ZO.o;omega)
  clear ho5 hg5 hb5
  refine HK.o _ _ ⟨fun _=>HS.o _ G5,?_⟩
  clear HK K
  try simp only [Act.put,lzD,lzE,lzF]
  refine bO 6 (by kernel_rfl) rfl ?_
  intro K HK
  try simp only [lzA,lzB,lzC]
  go_simp
  go_at_call 35
  refine(HHS.o _ w5 HR5.o).mono ?_
  rintro e w6 ⟨vx,rfl,hX,hb6⟩
  change Of Ty.hs _ _ (noteE h r) at hX
  obtain⟨x,hx⟩:∃x,x=noteE h r:=⟨_,rfl⟩
  rw [←hx] at hX
  have HXE:=η hx
  clear hx
  obtain⟨al2,cl2,ar2,cr2,ad2,cd2,rfl⟩:=hX.hs_form
  have HX:=η hX
  have G6:=G5.trans hb6
  have HB6:=η hb6
  clear hX hb6
  refine HK.o _ _ ⟨fun _=>HS.o _ G6,?_⟩
  clear HK K
  try simp only [Act.put,lzA,lzB,lzC,lzD,lzE,lzF]
  refine bO 7 (by kernel_rfl) rfl ?_
  intro K HK
  refine wanted_go rfl ?_
  try simp only [lzA,lzB,lzC]
  refine wp_store_row (.tmp 4) (.tmp 11) rfl rfl rfl (row_grow HR4.o G6) info_hs rfl rfl ?_
  intro w7 r7 g7
  refine HK.o _ _ ⟨fun h=>absurd rfl h,?_⟩
  clear HK K
  try simp only [Act.put]
  refine but_done (by kernel_rfl) ?_
  obtain⟨p0,p1,p2,p3,p4,p5,p6⟩:=cells7 r7
  go_wp2
  refine bodyPost_ret (v:=.agg #[.slice al2 x.log.length cl2,.int .i64 x.sums.a,.int .i64 x.sums.b,.int .i64 x.sums.c,.int .i64 x.sums.d,.slice ar2 x.ready.length cr2,.slice ad2 x.done.length cd2]) (by simp [results,Tryz.results102,go_sem,p0,p1,p2,p3,p4,p5,p6]) rfl ?_
  rw [←HXE.o]
  refine⟨_,rfl,HX.o.mono fun a u e=>?_,(HG0.o.trans G6).grown g7 (fun k hk=>by simp at hk;omega)⟩
  have z1:=G5.size
  have z2:=HG0.o.size
  unfold ov at e ⊢
  split at e
  ·cases e
  ·rw [if_neg (by omega),by_cell g7 (World.block_lt_of_cell? w6 a e) (by omega)];exact e
 ·intro K HK
  try simp only [lzA,lzB,lzC]
  go_simp
  refine HK.o _ _ ⟨fun _=>HS.o _ (GD.alloc _),?_⟩
  clear HK K
  try simp only [Act.put,lzA,lzB,lzC,lzD,lzE,lzF]
  refine bO 2 (by kernel_rfl) rfl ?_
  intro K HK
  try simp only [lzA,lzB,lzC]
  go_simp
  go_at_call 64
  refine(HOWN.o _ (HG0.o.trans (GD.alloc _))).mono ?_
  rintro e wo ⟨vo,rfl,ho,hbo⟩
  obtain⟨ao,co,rfl⟩:=ho.form
  have HO:=η ho
  have GO:=(GD.alloc _).trans hbo
  have HBO:=η hbo
  have ZO:Hid (w3.heap.size≤((wd.alloc (.cells #[.int .i64 r.kind,.int .i64 r.deed,.slice ap r.parts.length cp] 81))).heap.size):=η (GD.alloc _).size
  clear ho hbo
  refine HK.o _ _ ⟨fun _=>HS.o _ GO,?_⟩
  clear HK K
  try simp only [Act.put,lzA,lzB,lzC,lzD,lzE,lzF]
  refine bO 5 (by kernel_rfl) rfl ?_
  intro K HK
  refine wanted_go rfl ?_
  try simp only [lzA,lzB,lzC]
  have HFR:Hid (Sub w.cell? (frag wo (Value.slice ao h.log.length co).ownBlock)):=η (frag_of_lt (HG0.o.trans GO) fun q hq=>by have:=(HO.o.lt q hq).1;have:=ZO.o;have:=HG0.o.size;omega)
  refine wp_appc (c:=(frag wo (Value.slice ao h.log.length co).ownBlock)) (base:=(wd.alloc (.cells #[.int .i64 r.kind,.int .i64 r.deed,.slice ap r.parts.length cp] 81)).heap.size) (l:=h.log) (m:=[r]) ei_rc rfl one_Trc (by decide) (.tmp 7) (.tmp 9) rfl rfl (HO.o.mono (frag_own (Grow.refl wo))) rfl ((Src.of_new (T:=Ty.rc) (cs:=#[.int .i64 r.kind,.int .i64 r.deed,.slice ap r.parts.length cp]) (Ty.rc.mono HFR.o HR.o) wd 81 rfl).grow HBO.o) (by have:=HM.o;simp;omega) (by have:=HBO.o.size;(try simp at this ⊢);omega) ?_
  intro a5 c5 w5 ho5 hg5 hb5
  have HR5:=η (ho5.sl (by decide) (frag_app hg5))
  have G5:Grow w3 w5:=grow_by (w0:=w3) GO hg5 (fun q hq=>by have:=(HO.o.lt q hq).1;have:=ZO.o;omega)
  clear ho5 hg5 hb5
  refine HK.o _ _ ⟨fun _=>HS.o _ G5,?_⟩
  clear HK K
  try simp only [Act.put,lzD,lzE,lzF]
  refine bO 6 (by kernel_rfl) rfl ?_
  intro K HK
  try simp only [lzA,lzB,lzC]
  go_simp
  go_at_call 35
  refine(HHS.o _ w5 HR5.o).mono ?_
  rintro e w6 ⟨vx,rfl,hX,hb6⟩
  change Of Ty.hs _ _ (noteE h r) at hX
  obtain⟨x,hx⟩:∃x,x=noteE h r:=⟨_,rfl⟩
  rw [←hx] at hX
  have HXE:=η hx
  clear hx
  obtain⟨al2,cl2,ar2,cr2,ad2,cd2,rfl⟩:=hX.hs_form
  have HX:=η hX
  have G6:=G5.trans hb6
  have HB6:=η hb6
  clear hX hb6
  refine HK.o _ _ ⟨fun _=>HS.o _ G6,?_⟩
  clear HK K
  try simp only [Act.put,lzA,lzB,lzC,lzD,lzE,lzF]
  refine bO 7 (by kernel_rfl) rfl ?_
  intro K HK
  refine wanted_go rfl ?_
  try simp only [lzA,lzB,lzC]
  refine wp_store_row (.tmp 4) (.tmp 11) rfl rfl rfl (row_grow HR4.o G6) info_hs rfl rfl ?_
  intro w7 r7 g7
  refine HK.o _ _ ⟨fun h=>absurd rfl h,?_⟩
  clear HK K
  try simp only [Act.put]
  refine but_done (by kernel_rfl) ?_
  obtain⟨p0,p1,p2,p3,p4,p5,p6⟩:=cells7 r7
  go_wp2
  refine bodyPost_ret (v:=.agg #[.slice al2 x.log.length cl2,.int .i64 x.sums.a,.int .i64 x.sums.b,.int .i64 x.sums.c,.int .i64 x.sums.d,.slice ar2 x.ready.length cr2,.slice ad2 x.done.length cd2]) (by simp [results,Tryz.results102,go_sem,p0,p1,p2,p3,p4,p5,p6]) rfl ?_
  rw [←HXE.o]
  refine⟨_,rfl,HX.o.mono fun a u e=>?_,(HG0.o.trans G6).grown g7 (fun k hk=>by simp at hk;omega)⟩
  have z1:=G5.size
  have z2:=HG0.o.size
  unfold ov at e ⊢
  split at e
  ·cases e
  ·rw [if_neg (by omega),by_cell g7 (World.block_lt_of_cell? w6 a e) (by omega)];exact e
theorem dec_len (l:List Rc):(decidedR l).length≤l.length:=by
 unfold decidedR
 rw [List.length_map]
 exact List.length_filter_le _ _
set_option maxRecDepth 100000 in
set_option maxHeartbeats 2000000 in
theorem wlog_decided {v:Value} {l:List Rc} (w:World) (hv:Rcs w.cell? v l) (hm:l.length*40≤140737488355328) (hp:∀r∈l,r.parts.length*24≤140737488355328):
  Calls Tryz.prog 18 #[v] w fun e w'=>∃v',e=.returned v'∧OwnC Ty.rd (fr w w' [v'.ownBlock]) w' w.heap.size 77 v' (decidedR l)∧Grow w w':=by
 obtain⟨a,cap,rfl,h1,h2,-,hel⟩:=hv
 unfold maxLen at h2
 have HM:=η hm
 have HP:=η hp
 clear hm hp
 go_enter Tryz.func18,Tryz.ntmps18
 go_wp2
 go_loopw [3,8] (fun s3 i wr=>∃k:Nat,k≤l.length∧i=.int .i64 k∧Grow w wr∧OwnC Ty.rd (fr w wr [s3.ownBlock]) wr w.heap.size 77 s3 (decidedR (l.take k))) (fun _ i _=>l.length - (intOf i).toNat)
 case atStart=>exact⟨0,by omega,rfl,Grow.refl _,OwnC.nil _ _ _ _ _⟩
 case round=>
  obtain⟨k,hk',rfl,hb,hown⟩:=hrel
  by_cases hlt:k<l.length
  ·obtain⟨b,o,vp,rfl,c0,c1,c2,i0,i1,hP⟩:=Rcs.at_ hel k hlt
   obtain⟨ap,cp,rfl,-⟩:=id hP
   replace c0:=hb.sub _ _ c0
   replace c1:=hb.sub _ _ c1
   replace c2:=hb.sub _ _ c2
   have htk:decidedR (l.take (k+1))=if l[k].kind=5 then decidedR (l.take k)++ [⟨l[k].deed,l[k].parts⟩] else decidedR (l.take k):=by rw [List.take_succ_eq_append_getElem hlt,dec_snoc]
   have HTK:=η htk
   have hpl:=HP.o l[k] (List.getElem_mem _)
   have hok:=Pts.ok (c:=w.cell?) hP
   have HCL:=η (fun(W:World) (hW:Grow wr W)=>clone_pt W (hP.mono (hb.trans hW).sub) hpl)
   have hlk:(decidedR (l.take k)).length≤l.length:=Nat.le_trans (dec_len _) (by simp;omega)
   have HOWN:=η hown
   have HI:=η (And.intro i0 (And.intro i1 hok))
   obtain⟨av,cv,rfl⟩:=hown.form
   have HLK:=η hlk
   clear hel hP htk hpl hok hown i0 i1 hlk
   generalize l[k]=r at*
   generalize decidedR (l.take k)=ds at*
   by_cases h5:r.kind=5
   ·have b5:(r.kind==5)=true:=by simp [h5]
    have HK5:=η h5
    clear h5
    go_wp2
    obtain⟨w2,hWE⟩:∃x:World,x=wr.alloc (.cells #[.int .i64 r.kind,.int .i64 r.deed,.slice ap r.parts.length cp] 81):=⟨_,rfl⟩
    rw [←hWE]
    have HG2:Hid (Grow wr w2):=η (by rw [hWE];exact(Grow.refl wr).alloc _)
    have r5:w2.heap[wr.heap.size]? =some (.cells #[.int .i64 r.kind,.int .i64 r.deed,.slice ap r.parts.length cp] 81 (0,0)):=by rw [hWE];exact row_new _ _
    clear hWE
    obtain⟨-,q1,q2⟩:=cells3 r5
    have l5:wr.heap.size<w2.heap.size:=(γ r5)
    have n5:(Value.slice av ds.length cv).ownBlock≠some wr.heap.size:=fun e=>by have:=(HOWN.o.lt _ e).2;omega
    have HS:Hid (∀W,w2.grownBy W (Value.slice av ds.length cv).ownBlock→W.cell? ⟨wr.heap.size,1,none⟩=some (.int .i64 r.deed)∧W.cell? ⟨wr.heap.size,2,none⟩=some (.slice ap r.parts.length cp)):=fun W hW=>⟨by rw [World.cell?_of_block (hW.block wr.heap.size l5 (fun e=>n5 e.symm))];exact q1,by rw [World.cell?_of_block (hW.block wr.heap.size l5 (fun e=>n5 e.symm))];exact q2⟩
    clear q1 q2 r5
    refine but_start (fun w'=>w'.cell? ⟨wr.heap.size,1,none⟩=some (.int .i64 r.deed)∧w'.cell? ⟨wr.heap.size,2,none⟩=some (.slice ap r.parts.length cp)) 9 (by kernel_rfl) ?_
    obtain⟨wd,hWd⟩:∃x:World,x=w2.drew:=⟨_,rfl⟩
    rw [←hWd]
    have GD:Grow w2 wd:=by rw [hWd];exact(Grow.refl _).drew
    have zD:w2.heap.size=wd.heap.size:=by rw [hWd];rfl
    have ZD:=η zD
    clear hWd zD
    refine bLm [0,1,2,3,4] 8 (by kernel_rfl) (fun _ _ _ _ _ h=>h) (HS.o _ (grownBy_of_grow GD _)) ?_
    repeat (refine tNm (v:=?_) rfl (by rfl) ?_ ?_;rotate_left;(· (intro w' hSw;(try dsimp only at hSw);obtain⟨hs0,hs1⟩:=hSw;go_simp<;>with_reducible rfl));try simp only [Act.put,lzA,lzB,lzC,lzD,lzE,lzF])
    refine tEm ?_
    refine bO 5 (by kernel_rfl) rfl ?_
    intro K HK
    try simp only [lzA,lzB,lzC]
    go_simp
    go_at_call 29
    refine(HCL.o _ (HG2.o.trans GD)).mono ?_
    rintro e w3 ⟨v3,rfl,ho3,hb3⟩
    obtain⟨a3,c3,rfl⟩:=owns_form ho3
    have HO3:=η ho3
    have G3:=GD.trans hb3
    clear ho3 hb3
    refine HK.o _ _ ⟨fun _=>HS.o _ (grownBy_of_grow G3 _),?_⟩
    clear HK K
    try simp only [Act.put,lzA,lzB,lzC,lzD,lzE,lzF]
    refine bO 6 (by kernel_rfl) rfl ?_
    intro K HK
    try simp only [lzA,lzB,lzC]
    go_simp
    refine HK.o _ _ ⟨fun _=>HS.o _ (grownBy_of_grow G3 _),?_⟩
    clear HK K
    try simp only [Act.put,lzA,lzB,lzC,lzD,lzE,lzF]
    refine bO 7 (by kernel_rfl) rfl ?_
    intro K HK
    try simp only [lzA,lzB,lzC]
    go_simp
    refine HK.o _ _ ⟨fun _=>HS.o _ (grownBy_of_grow (G3.alloc _) _),?_⟩
    clear HK K
    try simp only [Act.put,lzA,lzB,lzC,lzD,lzE,lzF]
    refine bO 8 (by kernel_rfl) rfl ?_
    intro K HK
    refine wanted_go rfl ?_
    try simp only [lzA,lzB,lzC]
    have hR9:Ty.rd.R (fr w (w3.alloc (.cells #[.int .i64 r.deed,.slice a3 r.parts.length c3] 77)) [(Value.slice av ds.length cv).ownBlock]) (#[.int .i64 r.deed,.slice a3 r.parts.length c3]:Array Value).toList ⟨r.deed,r.parts⟩:=by
     refine⟨_,rfl,HI.o.2.1,pts_fr (w1:=wd) ((HO3.o).kept (grownBy_of_grow ((Grow.refl _).alloc _) none) (by cases (Value.slice a3 r.parts.length c3).ownBlock<;>simp)) HI.o.2.2 (by have:=hb.size;have:=HG2.o.size;have:=GD.size;omega) fun q hq=>?_⟩
     have z1:=HOWN.o.lt
     have z4:=HG2.o.size
     have z6:=GD.size
     simp only [List.mem_cons,List.not_mem_nil,or_false]
     exact fun e=>by have:=(z1 q e.symm).2;omega
    have HR9:=η hR9
    clear hR9
    refine wp_appc (c:=(fr w (w3.alloc (.cells #[.int .i64 r.deed,.slice a3 r.parts.length c3] 77)) [(Value.slice av ds.length cv).ownBlock])) (base:=w.heap.size) (l:=ds) (m:=[⟨r.deed,r.parts⟩]) ei_rd rfl one_Trd (by decide) (.tmp 15) (.tmp 22) rfl rfl ((HOWN.o.mono (fr_grow (HG2.o.trans (G3.alloc _)))).grow (HG2.o.trans (G3.alloc _))) rfl (Src.of_new (T:=Ty.rd) (cs:=#[.int .i64 r.deed,.slice a3 r.parts.length c3]) HR9.o _ _ rfl) (by have:=HM.o;have:=HLK.o;simp;omega) (by have:=hb.size;have:=HG2.o.size;have:=G3.size;(try simp);omega) ?_
    intro a9 c9 w9 ho9 hg9 hb9
    have HO9:=η (ho9.mono (fr_app hg9 (hb9.imp_right fun⟨g,e,hge⟩=>⟨g,e,by simpa using hge⟩)))
    have GB9:=η (grownBy_trans (grownBy_of_grow (G3.alloc _) _) hg9)
    have HG9:Hid (Grow w w9):=η (grow_by (w0:=w) (hb.trans (HG2.o.trans (G3.alloc _))) hg9 (fun q hq=>(HOWN.o.lt q hq).1))
    clear ho9 hg9 hb9
    refine HK.o _ _ ⟨fun _=>HS.o _ GB9.o,?_⟩
    clear HK K
    try simp only [Act.put,lzD,lzE,lzF]
    refine bO 9 (by kernel_rfl) rfl ?_
    intro K HK
    try simp only [lzA,lzB,lzC]
    go_simp
    refine HK.o _ _ ⟨fun h=>absurd rfl h,?_⟩
    clear HK K
    try simp only [Act.put,lzA,lzB,lzC,lzD,lzE,lzF]
    refine but_done (by kernel_rfl) ?_
    go_wp2
    go_roundw
    case rel=>exact⟨k+1,by omega,by go_num,HG9.o,by rw [HTK.o,if_pos HK5.o];exact HO9.o⟩
    case measure=>simp [intOf];omega
   ·have b5:(r.kind==5)=false:=by simp [h5]
    have HK5:=η h5
    clear h5
    go_wp2
    go_roundw
    case rel=>exact⟨k+1,by omega,by go_num,hb.alloc _,by rw [HTK.o,if_neg HK5.o];exact(HOWN.o.mono (fr_grow ((Grow.refl _).alloc _))).grow ((Grow.refl _).alloc _)⟩
    case measure=>simp [intOf];omega
  ·clear hel
   go_wp2
   go_ret
   have h9:=hown
   rw [List.take_of_length_le (by omega)] at h9
   exact⟨_,rfl,h9,hb⟩
theorem info_hd:(Tryz.prog.info? 35).map (·.size)=some 4:=by kernel_rfl
abbrev zhead:Array Value:=#[.slice none 0 0,.int .i64 0,.int .i64 0,.slice none 0 0]
def kmem (w w1 wr:World) (vl vo:Value):CM:=fr w wr [vl.ownBlock,vo.ownBlock,some w.heap.size,some w1.heap.size]
structure KBox (w w1 wr:World) (vl vo:Value) (l:List Rc) (h:Hd):Prop where
 res:wr.heap[w.heap.size]? =some (.cells zhead 35 (0,0))
 row:wr.heap[w1.heap.size]? =some (.cells #[vl,.int .i64 h.boot,.int .i64 h.next,vo] 35 (0,0))
 log:OwnC Ty.rc (kmem w w1 wr vl vo) wr (w.heap.size+1) 81 vl l
 opn:OwnC Ty.opn (kmem w w1 wr vl vo) wr (w1.heap.size+1) 147 vo h.opn
 grow:Grow w wr
 size:w1.heap.size+1≤wr.heap.size
 lt:∀k,vl.ownBlock=some k→k<w1.heap.size
 w1:w.heap.size+1≤w1.heap.size
structure KChg (w1 wr w':World) (vo vo':Value):Prop where
 size:wr.heap.size≤w'.heap.size
 block:∀k,k<wr.heap.size→k≠w1.heap.size→vo.ownBlock≠some k→w'.heap[k]? =wr.heap[k]?
 opn:vo'.ownBlock=vo.ownBlock∨∃g,vo'.ownBlock=some g∧wr.heap.size≤g
theorem KChg.mem {w w1 wr w':World} {vl vo vo':Value} (c:KChg w1 wr w' vo vo'):Sub (kmem w w1 wr vl vo) (kmem w w1 w' vl vo'):=by
 refine fr_step fun k hk _ hx=>?_
 simp only [List.mem_cons,List.not_mem_nil,or_false,not_or] at hx ⊢
 obtain⟨x1,x2,x4,x5⟩:=hx
 refine⟨c.block k hk (fun e=>x5 (by rw [e])) (fun e=>x2 e.symm),x1,?_,x4,x5⟩
 rcases c.opn with e|⟨g,e,hg⟩
 ·rw [e];exact x2
 ·rw [e];simp;omega
theorem KBox.put {w w1 wr w':World} {vl vo vo':Value} {l:List Rc} {h h':Hd} (b:KBox w w1 wr vl vo l h) (c:KChg w1 wr w' vo vo') (hG:Grow w w')
  (row:w'.heap[w1.heap.size]? =some (.cells #[vl,.int .i64 h'.boot,.int .i64 h'.next,vo'] 35 (0,0))) (opn:OwnC Ty.opn (kmem w w1 w' vl vo') w' (w1.heap.size+1) 147 vo' h'.opn):KBox w w1 w' vl vo' l h' where
 res:=by
  have h1:=b.w1
  have h2:=b.size
  rw [c.block _ (by omega) (by omega) (fun e=>by have:=(b.opn.lt _ e).1;omega)];exact b.res
 row:=row
 log:=by
  refine(b.log.mono c.mem).block fun k hk=>?_
  have h1:=b.lt k hk
  have h2:=b.size
  exact c.block k (by omega) (by omega) (fun e=>by have:=(b.opn.lt _ e).1;omega)
 opn:=opn
 grow:=hG
 size:=Nat.le_trans b.size c.size
 lt:=b.lt
 w1:=b.w1
theorem KBox.later {w w1 wr w':World} {vl vo:Value} {l:List Rc} {h:Hd} (b:KBox w w1 wr vl vo l h) (hg:Grow wr w'):KBox w w1 w' vl vo l h:=
 have c:KChg w1 wr w' vo vo:=⟨hg.size,fun k hk _ _=>hg.block k hk,.inl rfl⟩
 b.put c (b.grow.trans hg) (row_grow b.row hg) ((b.opn.mono c.mem).grow hg)
theorem row_set4_3 {w:World} {B:Nat} {a b c d:Value} {t:TypeId} (h:w.heap[B]? =some (.cells #[a,b,c,d] t (0,0))) (u:Value):(w.setCell ⟨B,3,none⟩ u).heap[B]? =some (.cells #[a,b,c,u] t (0,0)):=by
 simp only [World.setCell,Array.getElem?_modify,h];simp
theorem row_set4_1 {w:World} {B:Nat} {a b c d:Value} {t:TypeId} (h:w.heap[B]? =some (.cells #[a,b,c,d] t (0,0))) (u:Value):(w.setCell ⟨B,1,none⟩ u).heap[B]? =some (.cells #[a,u,c,d] t (0,0)):=by
 simp only [World.setCell,Array.getElem?_modify,h];simp
theorem KBox.opns {w w1 wr wq w':World} {vl vo vo':Value} {l:List Rc} {h:Hd} {os:List Opn} (b:KBox w w1 wr vl vo l h) (hG:Grow wr wq)
  (ho:OwnC Ty.opn (kmem w w1 wq vl vo) w' (w1.heap.size+1) 147 vo' os) (hg:wq.grownBy w' vo.ownBlock) (hb:vo'.ownBlock=vo.ownBlock∨∃g,vo'.ownBlock=some g∧wq.heap.size≤g):
  KBox w w1 (w'.setCell ⟨w1.heap.size,3,none⟩ vo') vl vo' l { h with opn:=os }:=by
 have bq:=b.later hG
 have hs:=hG.size
 have hs1:=b.size
 have hw1:=b.w1
 have hlt:=bq.opn.lt
 have hB:∀k,k≠w1.heap.size→(w'.setCell ⟨w1.heap.size,3,none⟩ vo').heap[k]? =w'.heap[k]?:=fun k hk=>Below.heap_setCell _ _ _ _ (fun e=>hk e)
 have c1:KChg w1 wq (w'.setCell ⟨w1.heap.size,3,none⟩ vo') vo vo':=⟨by simpa using hg.size,fun k hk h1 h2=>by rw [hB k h1,hg.block k hk (fun e=>h2 e.symm)],hb⟩
 have hGw:Grow w (w'.setCell ⟨w1.heap.size,3,none⟩ vo'):=(bq.grow.grown hg (fun k hk=>by have:=(hlt k hk).1;omega)).setCell (by simp;omega) _
 exact bq.put c1 hGw (row_set4_3 (row_by bq.row hg (fun e=>by have:=(hlt _ e.symm).1;omega)) _) ((ho.mono c1.mem).block fun k hk=>hB k (by have:=(ho.lt k hk).1;omega))
theorem KBox.boot {w w1 wr wq:World} {vl vo:Value} {l:List Rc} {h:Hd} (b:KBox w w1 wr vl vo l h) (hG:Grow wr wq) (x:Int):KBox w w1 (wq.setCell ⟨w1.heap.size,1,none⟩ (.int .i64 x)) vl vo l { h with boot:=x }:=by
 have bq:=b.later hG
 have hs:=hG.size
 have hs1:=b.size
 have hw1:=b.w1
 have hB:∀k,k≠w1.heap.size→(wq.setCell ⟨w1.heap.size,1,none⟩ (.int .i64 x)).heap[k]? =wq.heap[k]?:=fun k hk=>Below.heap_setCell _ _ _ _ (fun e=>hk e)
 have c1:KChg w1 wq (wq.setCell ⟨w1.heap.size,1,none⟩ (.int .i64 x)) vo vo:=⟨by simp,fun k hk h1 _=>hB k h1,.inl rfl⟩
 exact bq.put c1 (bq.grow.setCell (by simp;omega) _) (row_set4_1 bq.row _) ((bq.opn.mono c1.mem).block fun k hk=>hB k (by have:=(bq.opn.lt k hk).1;omega))
theorem lhead_tells (w:World) (row:Option Nat) (B:Nat) (d:Int) (l:List Opn) (hc:w.cell? ⟨B,1,none⟩=some (.int .i64 d)) (hB:B<w.heap.size) (hr:row≠some B):TellsG Tryz.prog Ty.opn aggOf w row 95 #[.pointer (some ⟨B,0,none⟩)] l (fun o=>o.deed==d) where
 ent:=fun args w=>by kernel_rfl
 say:=fun wx cs x hg _ hR=>by
  obtain⟨vp,vh,rfl,-,hp,hh⟩:=hR
  obtain⟨ap,cp,rfl,-⟩:=hp
  obtain⟨ah,ch,rfl,-⟩:=hh
  have hBx:B<wx.heap.size:=Nat.lt_of_lt_of_le hB hg.size
  have hc2:wx.cell? ⟨B,1,none⟩=some (.int .i64 d):=by rw [World.cell?_of_block (hg.block B hB (fun e=>hr e.symm))];exact hc
  clear hc
  show Calls _ _ #[.agg #[.int .i64 x.deed,.slice ap x.parts.length cp,.bool x.dec,.slice ah x.heard.length ch],.pointer (some ⟨B,0,none⟩)] _ _
  go_enter Tryz.func95,Tryz.ntmps95
  go_wp2
  go_ret
  exact⟨rfl,grA⟩
structure KOk (h:Hd) (n:Nat):Prop where
 opn:h.opn.length≤n
 boot:I64 h.boot
 next:I64 h.next
theorem kok_step {h:Hd} {n:Nat} (k:KOk h n) (r:Rc):KOk (headStep h r) (n+1):=by
 have h1:=k.opn
 unfold headStep
 split
 ·exact⟨by show h.opn.length≤_;omega,wrap_ok _,k.next⟩
 ·split
  ·exact⟨by simp;omega,k.boot,k.next⟩
  ·split
   ·exact⟨Nat.le_trans (List.length_filter_le _ _) (by omega),k.boot,k.next⟩
   ·exact⟨by omega,k.boot,k.next⟩
set_option maxRecDepth 100000 in
set_option maxHeartbeats 4000000 in
theorem wlog_head {v:Value} {l:List Rc} (w:World) (hv:Rcs w.cell? v l) (hm:l.length*64≤140737488351232) (hp:∀r∈l,r.parts.length*24≤140737488355328):
  Calls Tryz.prog 63 #[v] w fun e w'=>∃v',e=.returned v'∧Of Ty.hd (ov (fun _=>none) w w') v' (headR l)∧Grow w w':=by
 have HOWN:=η (log_own (w.alloc (.cells zhead 35)) (hv.mono ((Grow.refl w).alloc _).sub) (by omega) hp)
 have HM:=η hm
 have HP:=η hp
 obtain⟨al0,cl0,rfl,-⟩:=hv
 have hlm:l.length≤2199023255489:=by omega
 clear hm hp
 go_enter Tryz.func63,Tryz.ntmps63
 go_wp2_with fail
 refine HOWN.o.mono ?_
 rintro e w1 ⟨vl,rfl,hown,hb1⟩
 obtain⟨al,cl,rfl⟩:=hown.form
 have HOW:=η hown
 have HB1:=η hb1
 have z1:w.heap.size+1≤w1.heap.size:=by have:=hb1.size;simpa using this
 clear hown hb1
 go_wp2
 go_loopw [12] (fun i wr=>∃(k:Nat) (h:Hd) (vo:Value),k≤l.length∧i=.int .i64 k∧(l.take k).foldl headStep ⟨l,0,0,[]⟩=h∧KBox w w1 wr (.slice al l.length cl) vo l h∧KOk h k) (fun i _=>l.length - (intOf i).toNat)
 case atStart=>
  refine⟨0,⟨l,0,0,[]⟩,.slice none 0 0,by omega,rfl,rfl,?_,⟨by simp,zero_ok,zero_ok⟩⟩
  have hl:=HOW.o.lt
  refine⟨row_grow (row_new w _) (HB1.o.alloc _),row_new _ _,?_,OwnC.nil _ _ _ _ _,((Grow.refl w).alloc _).trans (HB1.o.alloc _),by simp,fun k hk=>(hl k hk).2,z1⟩
  have hs0:(w.alloc (.cells zhead 35)).heap.size=w.heap.size+1:=by simp
  have h2:=HOW.o
  rw [hs0] at h2
  refine(h2.mono fun a u e=>?_).grow ((Grow.refl _).alloc _)
  unfold fr at e
  split at e
  ·cases e
  ·rename_i hn
   have hlt:=World.block_lt_of_cell? w1 a e
   rw [hs0] at hn
   unfold kmem
   rw [fr_new (by omega)]
   ·exact((Grow.refl w1).alloc _).sub _ _ e
   ·simp only [List.mem_cons,List.not_mem_nil,or_false,not_or]
    refine⟨fun e=>hn (.inr (by simp [e])),by simp [Value.ownBlock],fun e=>?_,fun e=>?_⟩
    ·have:=Option.some.inj e;exact hn (.inl (by omega))
    ·have:=Option.some.inj e;omega
 case round=>
  obtain⟨k,h,vo,hk',rfl,hfold,hbox,hok⟩:=hrel
  obtain⟨ar,cr,rfl⟩:=hbox.opn.form
  have HFD:=η hfold
  have HBX:=η hbox
  have HOK0:=η hok
  have z3:=hbox.size
  have z4:w1.heap.size<wr.heap.size:=by omega
  by_cases hlt:k<l.length
  ·obtain⟨gl,cs,rfl,⟨vp,rfl,i0,i1,hP⟩,hA⟩:=hbox.log.get (by decide) k hlt
   have hP':=hP.mono (fr_sub _ _ _)
   obtain⟨ap,cp,rfl,-⟩:=id hP'
   have c0:=hA 0 _ rfl
   have c1:=hA 1 _ rfl
   have c2:=hA 2 _ rfl
   simp only [Nat.add_zero,Ty.rc] at c0 c1 c2
   have htk:(l.take (k+1)).foldl headStep ⟨l,0,0,[]⟩=headStep h l[k]:=by rw [List.take_succ_eq_append_getElem hlt,List.foldl_append,HFD.o];rfl
   have HTK:=η htk
   have hpl:=HP.o l[k] (List.getElem_mem _)
   have HCL:=η (fun(W:World) (hW:Grow wr W)=>clone_pt W (hP'.mono hW.sub) hpl)
   have HI:=η (And.intro i0 (And.intro i1 (Pts.ok (c:=wr.cell?) hP')))
   have HOK1:=η (kok_step hok l[k])
   have HRL:Hid (h.opn.length<2199023255489):=η (by have:=hok.opn;omega)
   have HLT:Hid (∀q,(Value.slice ar h.opn.length cr).ownBlock=some q→q<wr.heap.size):=fun q hq=>(hbox.opn.lt q hq).2
   clear hfold hok htk hpl hP hP' hA i0 i1 hbox
   generalize l[k]=r at*
   obtain⟨s0,s1,s2,s3⟩:=cells4 HBX.o.row
   have sf:=row_free HBX.o.row
   by_cases k4:r.kind=4
   ·have b4:(r.kind==4)=true:=by simp [k4]
    have b5:(r.kind==5)=false:=by simp [k4]
    have b6:(r.kind==6)=false:=by simp [k4]
    have hst:headStep h r={ h with boot:=wrap64 (h.boot+1) }:=by unfold headStep;rw [if_pos k4]
    have HFO:=η (HTK.o.trans hst)
    have HOK:=η (hst▸HOK1.o)
    clear hst k4
    have HX:=(KBox.boot HBX.o (Grow.refl wr) (wrap64 (h.boot+1))).later ((Grow.refl _).alloc (.cells #[.int .i64 r.kind,.int .i64 r.deed,.slice ap r.parts.length cp] 81))
    go_wp2
    go_roundw
    case rel=>exact⟨k+1,_,_,by omega,by go_num,HFO.o,HX,HOK.o⟩
    case measure=>simp [intOf];omega
   ·have b4:(r.kind==4)=false:=by simp [k4]
    by_cases k5:r.kind=5
    ·have b5:(r.kind==5)=true:=by simp [k5]
     have b6:(r.kind==6)=false:=by simp [k5]
     have hst:headStep h r={ h with opn:=h.opn++ [⟨r.deed,r.parts,true,[]⟩] }:=by unfold headStep;rw [if_neg k4,if_pos k5]
     have HFO:=η (HTK.o.trans hst)
     have HOK:=η (hst▸HOK1.o)
     clear hst k4 k5
     go_wp2
     obtain⟨w2,hWE⟩:∃x:World,x=wr.alloc (.cells #[.int .i64 r.kind,.int .i64 r.deed,.slice ap r.parts.length cp] 81):=⟨_,rfl⟩
     rw [←hWE]
     have HG2:Hid (Grow wr w2):=η (by rw [hWE];exact(Grow.refl wr).alloc _)
     have r5:w2.heap[wr.heap.size]? =some (.cells #[.int .i64 r.kind,.int .i64 r.deed,.slice ap r.parts.length cp] 81 (0,0)):=by rw [hWE];exact row_new _ _
     have HR5:=η r5
     clear hWE r5 s0 s1 s2 s3
     have HB2:=η (HBX.o.later HG2.o)
     obtain⟨s0,s1,s2,s3⟩:=cells4 HB2.o.row
     obtain⟨q0,q1,q2⟩:=cells3 HR5.o
     have l3:w1.heap.size<w2.heap.size:=by have:=HB2.o.size;omega
     have l5:wr.heap.size<w2.heap.size:=(γ HR5.o)
     have n3:(Value.slice ar h.opn.length cr).ownBlock≠some w1.heap.size:=fun e=>by have:=(HB2.o.opn.lt _ e).1;omega
     have n5:(Value.slice ar h.opn.length cr).ownBlock≠some wr.heap.size:=fun e=>by have:=HLT.o _ e;omega
     have HS:Hid (∀W,w2.grownBy W (Value.slice ar h.opn.length cr).ownBlock→W.cell? ⟨w1.heap.size,3,none⟩=some (.slice ar h.opn.length cr)∧W.cell? ⟨wr.heap.size,1,none⟩=some (.int .i64 r.deed)∧W.cell? ⟨wr.heap.size,2,none⟩=some (.slice ap r.parts.length cp)):=fun W hW=>⟨by rw [World.cell?_of_block (hW.block w1.heap.size l3 (fun e=>n3 e.symm))];exact s3,by rw [World.cell?_of_block (hW.block wr.heap.size l5 (fun e=>n5 e.symm))];exact q1,by rw [World.cell?_of_block (hW.block wr.heap.size l5 (fun e=>n5 e.symm))];exact q2⟩
     clear s0 s1 s2 s3 q0 q1 q2
     refine but_start (fun w'=>w'.cell? ⟨w1.heap.size,3,none⟩=some (.slice ar h.opn.length cr)∧w'.cell? ⟨wr.heap.size,1,none⟩=some (.int .i64 r.deed)∧w'.cell? ⟨wr.heap.size,2,none⟩=some (.slice ap r.parts.length cp)) 11 (by kernel_rfl) ?_
     obtain⟨wd,hWd⟩:∃x:World,x=w2.drew:=⟨_,rfl⟩
     rw [←hWd]
     have GD:Grow w2 wd:=by rw [hWd];exact(Grow.refl _).drew
     have zD:w2.heap.size=wd.heap.size:=by rw [hWd];rfl
     have ZD:=η zD
     clear hWd zD
     refine bLm [0,1,2,3,4,5] 8 (by kernel_rfl) (fun _ _ _ _ _ h=>h) (HS.o _ (grownBy_of_grow GD _)) ?_
     repeat (refine tNm (v:=?_) rfl (by rfl) ?_ ?_;rotate_left;(· (intro w' hSw;(try dsimp only at hSw);obtain⟨hs0,hs1,hs2⟩:=hSw;go_simp<;>with_reducible rfl));try simp only [Act.put,lzA,lzB,lzC,lzD,lzE,lzF])
     refine tEm ?_
     refine bO 6 (by kernel_rfl) rfl ?_
     intro K HK
     try simp only [lzA,lzB,lzC]
     go_simp
     go_at_call 29
     refine(HCL.o _ (HG2.o.trans GD)).mono ?_
     rintro e w3 ⟨v3,rfl,ho3,hb3⟩
     obtain⟨a3,c3,rfl⟩:=owns_form ho3
     have HO3:=η ho3
     have G3:=GD.trans hb3
     clear ho3 hb3
     refine HK.o _ _ ⟨fun _=>HS.o _ (grownBy_of_grow G3 _),?_⟩
     clear HK K
     try simp only [Act.put,lzA,lzB,lzC,lzD,lzE,lzF]
     refine bO 7 (by kernel_rfl) rfl ?_
     intro K HK
     try simp only [lzA,lzB,lzC]
     go_simp
     refine HK.o _ _ ⟨fun _=>HS.o _ (grownBy_of_grow G3 _),?_⟩
     clear HK K
     try simp only [Act.put,lzA,lzB,lzC,lzD,lzE,lzF]
     refine bO 8 (by kernel_rfl) rfl ?_
     intro K HK
     try simp only [lzA,lzB,lzC]
     go_simp
     refine HK.o _ _ ⟨fun _=>HS.o _ (grownBy_of_grow (G3.alloc _) _),?_⟩
     clear HK K
     try simp only [Act.put,lzA,lzB,lzC,lzD,lzE,lzF]
     refine bO 9 (by kernel_rfl) rfl ?_
     intro K HK
     refine wanted_go rfl ?_
     try simp only [lzA,lzB,lzC]
     have bA:=HB2.o.later (w':=(w3.alloc (.cells #[.int .i64 r.deed,.slice a3 r.parts.length c3,.bool true,.slice none 0 0] 147))) (G3.alloc _)
     have hR9:Ty.opn.R (kmem w w1 (w3.alloc (.cells #[.int .i64 r.deed,.slice a3 r.parts.length c3,.bool true,.slice none 0 0] 147)) (.slice (some ⟨gl,0,none⟩) l.length cl) (Value.slice ar h.opn.length cr)) (#[.int .i64 r.deed,.slice a3 r.parts.length c3,.bool true,.slice none 0 0]:Array Value).toList ⟨r.deed,r.parts,true,[]⟩:=by
      refine⟨_,_,rfl,HI.o.2.1,pts_fr (w1:=wd) ((HO3.o).kept (grownBy_of_grow ((Grow.refl _).alloc _) none) (by cases (Value.slice a3 r.parts.length c3).ownBlock<;>simp)) HI.o.2.2 (by have:=HB2.o.grow.size;have:=GD.size;omega) fun q hq=>?_,Sl.nil _ _⟩
      have z1:=HB2.o.opn.lt
      have z2:=HB2.o.log.lt
      have z4:=HB2.o.size
      have z5:=HB2.o.w1
      have z6:=GD.size
      simp only [List.mem_cons,List.not_mem_nil,or_false,not_or]
      exact⟨fun e=>by have:=(z2 q e.symm).2;omega,fun e=>by have:=(z1 q e.symm).2;omega,fun e=>by have:=Option.some.inj e;omega,fun e=>by have:=Option.some.inj e;omega⟩
     have HR9:=η hR9
     have HBA:=η bA
     clear hR9 bA
     refine wp_appc (c:=(kmem w w1 (w3.alloc (.cells #[.int .i64 r.deed,.slice a3 r.parts.length c3,.bool true,.slice none 0 0] 147)) (.slice (some ⟨gl,0,none⟩) l.length cl) (Value.slice ar h.opn.length cr))) (base:=w1.heap.size+1) (l:=h.opn) (m:=[⟨r.deed,r.parts,true,[]⟩]) ei_opn rfl one_Topn (by decide) (.tmp 27) (.tmp 34) rfl rfl HBA.o.opn rfl (Src.of_new (T:=Ty.opn) (cs:=#[.int .i64 r.deed,.slice a3 r.parts.length c3,.bool true,.slice none 0 0]) HR9.o _ _ rfl) (by have:=HRL.o;simp;omega) HBA.o.size ?_
     intro a9 c9 w9 ho9 hg9 hb9
     have HO9:=η ho9
     have HG9:=η hg9
     have HB9:=η hb9
     have GB9:=η (grownBy_trans (grownBy_of_grow (G3.alloc _) _) hg9)
     obtain⟨t5,-,-⟩:=HS.o _ GB9.o
     have tf:∀o,w9.frozen? ⟨w1.heap.size,o,none⟩=false:=row_free (row_by HBA.o.row hg9 (fun e=>n3 e.symm))
     have t9:w1.heap.size<w9.heap.size:=World.block_lt_of_cell? w9 _ t5
     clear ho9 hg9 hb9
     refine HK.o _ _ ⟨fun _=>HS.o _ GB9.o,?_⟩
     clear HK K
     try simp only [Act.put,lzD,lzE,lzF]
     refine bO 10 (by kernel_rfl) rfl ?_
     intro K HK
     try simp only [lzA,lzB,lzC]
     go_simp
     refine HK.o _ _ ⟨fun _=>HS.o _ GB9.o,?_⟩
     clear HK K
     try simp only [Act.put,lzA,lzB,lzC,lzD,lzE,lzF]
     refine bO 11 (by kernel_rfl) rfl ?_
     intro K HK
     try simp only [lzA,lzB,lzC]
     go_simp
     refine HK.o _ _ ⟨fun h=>absurd rfl h,?_⟩
     clear HK K
     try simp only [Act.put,lzA,lzB,lzC,lzD,lzE,lzF]
     refine but_done (by kernel_rfl) ?_
     have HX:=KBox.opns HB2.o (G3.alloc _) HO9.o HG9.o (HB9.o.imp_right fun⟨g,e,hge⟩=>⟨g,e,by simpa using hge⟩)
     go_wp2
     go_roundw
     case rel=>exact⟨k+1,_,_,by omega,by go_num,HFO.o,HX,HOK.o⟩
     case measure=>simp [intOf];omega
    ·have b5:(r.kind==5)=false:=by simp [k5]
     by_cases k6:r.kind=6
     ·have b6:(r.kind==6)=true:=by simp [k6]
      have hst:headStep h r={ h with opn:=h.opn.filter fun o=>!(o.deed==r.deed) }:=by unfold headStep;rw [if_neg k4,if_neg k5,if_pos k6]
      have HFO:=η (HTK.o.trans hst)
      have HOK:=η (hst▸HOK1.o)
      clear hst k4 k5 k6
      go_wp2_with fail
      have HG2:Hid (Grow wr (wr.alloc (.cells #[.int .i64 r.kind,.int .i64 r.deed,.slice ap r.parts.length cp] 81))):=η ((Grow.refl wr).alloc _)
      have HB2:=η (HBX.o.later HG2.o)
      have n3:(Value.slice ar h.opn.length cr).ownBlock≠some w1.heap.size:=fun e=>by have:=(HB2.o.opn.lt _ e).1;omega
      refine(deleteFunc_opn_c (p:=fun o=>o.deed==r.deed) (c:=kmem w w1 (wr.alloc (.cells #[.int .i64 r.kind,.int .i64 r.deed,.slice ap r.parts.length cp] 81)) (.slice (some ⟨gl,0,none⟩) l.length cl) (Value.slice ar h.opn.length cr)) ?_ HB2.o.opn (lhead_tells _ _ wr.heap.size r.deed _ (by rw [World.cell?_alloc_new];rfl) (by simp) (fun e=>by have:=HLT.o _ e;omega))).mono ?_
      ·intro a u e
       unfold kmem fr at e
       split at e
       ·cases e
       ·rename_i hn
        unfold frag
        rw [if_neg (fun e=>hn (.inr (by simp [e])))]
        exact e
      rintro e w7 ⟨v7,rfl,ho7,hg7,hb7⟩
      obtain⟨a7,c7,rfl⟩:=ho7.form
      have t7:=row_by HB2.o.row hg7 (fun e=>n3 e.symm)
      have HX:=η (KBox.opns HB2.o (Grow.refl _) ho7 hg7 (.inl hb7))
      clear s0 s1 s2 s3 sf ho7 hg7 hb7
      obtain⟨u0,u1,u2,u3⟩:=cells4 t7
      have uf:=row_free t7
      have u9:w1.heap.size<w7.heap.size:=(γ t7)
      clear t7
      go_wp2
      go_roundw
      case rel=>exact⟨k+1,_,_,by omega,by go_num,HFO.o,HX.o,HOK.o⟩
      case measure=>simp [intOf];omega
     ·have b6:(r.kind==6)=false:=by simp [k6]
      have hst:headStep h r=h:=by unfold headStep;rw [if_neg k4,if_neg k5,if_neg k6]
      have HFO:=η (HTK.o.trans hst)
      have HOK:=η (hst▸HOK1.o)
      clear hst k4 k5 k6
      go_wp2
      go_roundw
      case rel=>exact⟨k+1,_,_,by omega,by go_num,HFO.o,HBX.o.later ((Grow.refl wr).alloc _),HOK.o⟩
      case measure=>simp [intOf];omega
  ·have HH:Hid (h=headR l):=by show h=_;rw [←HFD.o,List.take_of_length_le (by omega)];rfl
   obtain⟨s0,s1,s2,s3⟩:=cells4 hbox.row
   clear hfold hok hbox
   go_wp2_with (first|(refine wpList_store_row rfl (.tmp 2) (.tmp 45) rfl rfl rfl HBX.o.res info_hd rfl rfl ?_))
   intro wf r2 g2
   obtain⟨p0,p1,p2,p3⟩:=cells4 r2
   have pf:=row_free r2
   clear s0 s1 s2 s3
   go_wp2
   refine bodyPost_ret (v:=.agg #[.slice al l.length cl,.int .i64 h.boot,.int .i64 h.next,.slice ar h.opn.length cr]) (by simp [results,Tryz.results63,go_sem,p0,p1,p2,p3]) rfl ?_
   have hlog:h.log=l:=by rw [HH.o];exact(headR_next l).2
   have sub:Sub (kmem w w1 wr (.slice al l.length cl) (.slice ar h.opn.length cr)) (ov (fun _=>none) w wf):=fun a u e=>by
    unfold kmem fr at e
    split at e
    ·cases e
    ·rename_i hn
     have hne:a.block≠w.heap.size:=fun e=>hn (.inr (by simp [e]))
     rw [ov_new (by omega),by_cell g2 (World.block_lt_of_cell? wr a e) hne]
     exact e
   have hb:∀k,w.heap.size+1≤k→k<wr.heap.size→wf.heap[k]? =wr.heap[k]?:=fun k h1 h2=>g2.block k h2 (by simp;omega)
   have hw1:=HBX.o.w1
   have e1:=((HBX.o.log.mono sub).block fun k hk=>hb k (HBX.o.log.lt k hk).1 (HBX.o.log.lt k hk).2).slc (by decide) (Sub.refl _) fun a ha=>ov_new (by omega)
   have e2:=((HBX.o.opn.mono sub).block fun k hk=>hb k (by have:=(HBX.o.opn.lt k hk).1;omega) (HBX.o.opn.lt k hk).2).slc (by decide) (Sub.refl _) fun a ha=>ov_new (by omega)
   rw [←HH.o]
   refine⟨_,rfl,⟨_,rfl,_,_,rfl,?_,HOK0.o.boot,HOK0.o.next,e2⟩,HBX.o.grow.grown g2 (fun k hk=>by simp at hk;omega)⟩
   rw [hlog];exact e1
theorem house_say {B5 B4:Nat} {kind d me:Int} (w:World) (h5:w.cell? ⟨B5,1,none⟩=some (.int .i64 d)) (h4:w.cell? ⟨B4,0,none⟩=some (.int .i64 me)) (_:B5<w.heap.size) (_:B4<w.heap.size) (ik:I64 kind) (id':I64 d) (im:I64 me):
  Calls Tryz.prog 99 #[.int .i64 kind,.pointer (some ⟨B5,0,none⟩),.pointer (some ⟨B4,0,none⟩)] w fun e w'=>∃v',e=.returned v'∧Sl Ty.ms (ov (fun _=>none) w w') v' (sayE kind d me)∧Grow w w':=by
 have HI:=η (And.intro ik (And.intro id' im))
 clear ik id' im
 go_enter Tryz.func99,Tryz.ntmps99
 go_wp2
 go_ret
 refine⟨_,rfl,?_,grA⟩
 exact sl_one (T:=Ty.ms) ⟨_,rfl,HI.o.1,HI.o.2.1,HI.o.2.2,Sl.nil _ _⟩ (at_ov (at_new w #[.int .i64 kind,.int .i64 d,.int .i64 me,.slice none 0 0] 95) (Nat.le_refl _)) (by decide) (by decide)
set_option maxRecDepth 100000 in
set_option maxHeartbeats 2000000 in
theorem house_hear {v vm:Value} {h:Hs} {m:Ms} {me:Int} (w:World) (hv:Of Ty.hs w.cell? v h) (hm:Of Ty.ms w.cell? vm m) (hk:∀x∈h.log,KeysOk x.parts) (hkm:KeysOk m.parts) (hn:(h.log.length+1)*40≤140737488351232)
  (hp:∀x∈h.log,x.parts.length*24≤140737488355328) (hpp:m.parts.length*24≤140737488355328) (hme:I64 me) (hmd:Made h):
  Calls Tryz.prog 68 #[v,.int .i64 me,vm] w fun e w'=>∃v1 v2,e=.returned (.tuple #[v1,v2])∧Of Ty.hs (ov (fun _=>none) w w') v1 (hearH h m)∧Sl Ty.ms (ov (fun _=>none) w w') v2 (hearM h me m)∧Grow w w':=by
 obtain⟨kd,dd,hh,ps⟩:=m
 dsimp only at hkm hpp
 obtain⟨al,cl,ar,cr,ad,cd,rfl⟩:=hv.hs_form
 obtain⟨ap,cp,rfl⟩:∃ap cp,vm=.agg #[.int .i64 kd,.int .i64 dd,.int .i64 hh,.slice ap ps.length cp]:=hm.ms_form
 have hms:Sl Ty.pt w.cell? (.slice ap ps.length cp) ps∧I64 kd∧I64 dd∧I64 hh:=Of.ms_parts hm
 have hlg:=(Of.hs_log hv).1
 have HMS:=η hms
 have HV0:=η hv
 have HME:=η hme
 have HVO:=η (fun(W:World) (hW:Grow w W)=>house_vote (d:=dd) W (hv.mono hW.sub) (hms.1.mono hW.sub) hkm)
 have HIS:=η (fun(W:World) (hW:Grow w W) hb hc=>house_is (B:=w.heap.size) (d:=dd) W hb hc ((Of.hs_log hv).2.1.mono hW.sub))
 have HHS:Hid (∀(W:World),Grow w W→Calls Tryz.prog 35 #[.slice al h.log.length cl] W fun e w'=>∃v',e=.returned v'∧Of Ty.hs (ov (fun _=>none) W w') v' h∧Grow W w'):=η (fun(W:World) (hW:Grow w W)=>by
  have hx:=wlog_house W (hlg.mono hW.sub) hk (by omega) hp
  rw [←(show h=houseR h.log from hmd)] at hx
  exact hx)
 have HNT:=η (fun(r:Rc) (vr:Value) (W:World) (hW:Grow w W) (hr:Of Ty.rc W.cell? vr r) (hkr:KeysOk r.parts) (hpr:r.parts.length*24≤140737488355328)=>wlog_note W (hv.mono hW.sub) hr hk hkr (by omega) hp hpr)
 have HKP:=η (And.intro hkm hpp)
 obtain⟨wz,hwz⟩:∃y:World,y=((((w.alloc (.cells #[.slice al h.log.length cl,.int .i64 h.sums.a,.int .i64 h.sums.b,.int .i64 h.sums.c,.int .i64 h.sums.d,.slice ar h.ready.length cr,.slice ad h.done.length cd] 68)).alloc (.cells #[.int .i64 me] 3)).alloc (.cells #[.int .i64 kd,.int .i64 dd,.int .i64 hh,.slice ap ps.length cp] 95)).alloc (.cells #[.slice none 0 0,.int .i64 0,.int .i64 0,.int .i64 0,.int .i64 0,.slice none 0 0,.slice none 0 0] 68)):=⟨_,rfl⟩
 have HG4:Hid (Grow w wz):=η (by rw [hwz];exact((((Grow.refl w).alloc _).alloc _).alloc _).alloc _)
 have R3_0:Hid (wz.heap[w.heap.size]? =some (.cells #[.slice al h.log.length cl,.int .i64 h.sums.a,.int .i64 h.sums.b,.int .i64 h.sums.c,.int .i64 h.sums.d,.slice ar h.ready.length cr,.slice ad h.done.length cd] 68 (0,0))):=η (by rw [hwz];exact heap_later (heap_later (heap_later (row_new _ _) _) _) _)
 have R4_0:Hid (wz.heap[w.heap.size+1]? =some (.cells #[.int .i64 me] 3 (0,0))):=η (by rw [hwz];exact heap_later (heap_later (by simpa using row_new (w.alloc (.cells #[.slice al h.log.length cl,.int .i64 h.sums.a,.int .i64 h.sums.b,.int .i64 h.sums.c,.int .i64 h.sums.d,.slice ar h.ready.length cr,.slice ad h.done.length cd] 68)) (.cells #[.int .i64 me] 3)) _) _)
 have R5_0:Hid (wz.heap[w.heap.size+1+1]? =some (.cells #[.int .i64 kd,.int .i64 dd,.int .i64 hh,.slice ap ps.length cp] 95 (0,0))):=η (by rw [hwz];exact heap_later (by simpa using row_new ((w.alloc (.cells #[.slice al h.log.length cl,.int .i64 h.sums.a,.int .i64 h.sums.b,.int .i64 h.sums.c,.int .i64 h.sums.d,.slice ar h.ready.length cr,.slice ad h.done.length cd] 68)).alloc (.cells #[.int .i64 me] 3)) (.cells #[.int .i64 kd,.int .i64 dd,.int .i64 hh,.slice ap ps.length cp] 95)) _)
 have R6_0:Hid (wz.heap[w.heap.size+1+1+1]? =some (.cells #[.slice none 0 0,.int .i64 0,.int .i64 0,.int .i64 0,.int .i64 0,.slice none 0 0,.slice none 0 0] 68 (0,0))):=η (by rw [hwz];exact by simpa using row_new (((w.alloc (.cells #[.slice al h.log.length cl,.int .i64 h.sums.a,.int .i64 h.sums.b,.int .i64 h.sums.c,.int .i64 h.sums.d,.slice ar h.ready.length cr,.slice ad h.done.length cd] 68)).alloc (.cells #[.int .i64 me] 3)).alloc (.cells #[.int .i64 kd,.int .i64 dd,.int .i64 hh,.slice ap ps.length cp] 95)) (.cells #[.slice none 0 0,.int .i64 0,.int .i64 0,.int .i64 0,.int .i64 0,.slice none 0 0,.slice none 0 0] 68))
 have HLO0:Hid (w.heap.size+1+1+1<wz.heap.size∧w.heap.size≤wz.heap.size):=η (by rw [hwz];simp;omega)
 have HMD:=η hmd
 clear hv hm hk hkm hn hp hpp hme hmd hms hlg
 go_enter Tryz.func68,Tryz.ntmps68
 go_wp2_with fail
 rw [←hwz]
 clear hwz
 refine(HHS.o _ HG4.o).mono ?_
 rintro e v0 ⟨vx,rfl,hX,hb0⟩
 obtain⟨al2,cl2,ar2,cr2,ad2,cd2,rfl⟩:=hX.hs_form
 have HX0:Hid (Of Ty.hs (win (wz).heap.size v0.heap.size v0) _ h):=η (hX.mono (win_ov _ _))
 have R3_v0:=η (row_grow R3_0.o hb0)
 have R4_v0:=η (row_grow R4_0.o hb0)
 have R5_v0:=η (row_grow R5_0.o hb0)
 have R6_v0:=η (row_grow R6_0.o hb0)
 have G_v0:=η (HG4.o.trans hb0)
 clear hX hb0
 (try clear a0 a1 a2 a3 a4 a5 a6)
 (try clear b0)
 (try clear c0 c1 c2 c3)
 (try clear d0 d1 d2 d3 d4 d5 d6)
 obtain⟨a0,a1,a2,a3,a4,a5,a6⟩:=cells7 R3_v0.o
 obtain⟨c0,c1,c2,c3⟩:=cells4 R5_v0.o
 have R9n:=row_new v0 (.cells #[.slice none 0 0,.int .i64 0,.int .i64 0,.int .i64 0,.int .i64 0,.slice none 0 0,.slice none 0 0] 68)
 go_wp2_with (first|(refine wpList_store_row rfl (.tmp 9) (.tmp 13) rfl rfl rfl R9n info_hs rfl rfl ?_))
 clear R9n
 intro v1 r1 g1
 have R9_v1:=η r1
 have R3_v1:Hid (v1.heap[w.heap.size]? =_):=η (row_by (heap_later R3_v0.o _) g1 (by have:=(γ R3_v0.o);simp;omega))
 have R4_v1:Hid (v1.heap[w.heap.size+1]? =_):=η (row_by (heap_later R4_v0.o _) g1 (by have:=(γ R4_v0.o);simp;omega))
 have R5_v1:Hid (v1.heap[w.heap.size+1+1]? =_):=η (row_by (heap_later R5_v0.o _) g1 (by have:=(γ R5_v0.o);simp;omega))
 have R6_v1:Hid (v1.heap[w.heap.size+1+1+1]? =_):=η (row_by (heap_later R6_v0.o _) g1 (by have:=(γ R6_v0.o);simp;omega))
 have G_v1:=η ((G_v0.o.alloc (.cells #[.slice none 0 0,.int .i64 0,.int .i64 0,.int .i64 0,.int .i64 0,.slice none 0 0,.slice none 0 0] 68)).grown g1 (fun k hk=>by have:=G_v0.o.size;simp at hk;omega))
 have HY_v1:=η ((HX0.o.mono (win_grow ((Grow.refl v0).alloc _) _ _)).mono (win_set g1 (.inr (Nat.le_refl _))))
 have HZ9:Hid (w.heap.size+1+1+1<v0.heap.size):=η (γ R6_v0.o)
 have HLO:Hid (w.heap.size+1+1+1<(wz).heap.size∧w.heap.size≤(wz).heap.size):=HLO0
 have HNB:Hid (w.heap.size+1+1+1≤v1.heap.size):=η (by have:=G_v1.o.size;exact Nat.le_of_lt (γ R6_v1.o))
 clear r1 g1 HX0
 (try clear a0 a1 a2 a3 a4 a5 a6)
 (try clear b0)
 (try clear c0 c1 c2 c3)
 (try clear d0 d1 d2 d3 d4 d5 d6)
 obtain⟨a0,a1,a2,a3,a4,a5,a6⟩:=cells7 R3_v1.o
 obtain⟨c0,c1,c2,c3⟩:=cells4 R5_v1.o
 obtain⟨d0,d1,d2,d3,d4,d5,d6⟩:=cells7 R9_v1.o
 by_cases n1:kd=1
 ·subst n1
  by_cases e10:voteE h dd ps=10
  ·as_aux_lemma=>
    have HEH:Hid (hearH h ⟨1,dd,hh,ps⟩=h):=by
     show hearH h ⟨1,dd,hh,ps⟩=h
     unfold hearH
     rw [if_pos rfl,if_neg (by show¬(voteE h dd ps=0∧_);rw [e10];simp)]
    have HEM:Hid (hearM h me ⟨1,dd,hh,ps⟩=[]):=by
     show hearM h me ⟨1,dd,hh,ps⟩=[]
     unfold hearM
     rw [if_pos rfl,if_pos e10]
    have E10:=η e10
    clear e10
    go_wp2_with fail
    refine(HVO.o _ G_v1.o).mono ?_
    rw [E10.o]
    rintro e v2 ⟨rfl,hbv2⟩
    have R3_v2:=η (row_grow R3_v1.o hbv2)
    have R4_v2:=η (row_grow R4_v1.o hbv2)
    have R5_v2:=η (row_grow R5_v1.o hbv2)
    have R6_v2:=η (row_grow R6_v1.o hbv2)
    have R9_v2:=η (row_grow R9_v1.o hbv2)
    have G_v2:=η (G_v1.o.trans hbv2)
    have HY_v2:=η (HY_v1.o.mono (win_grow hbv2 _ _))
    clear hbv2
    (try clear a0 a1 a2 a3 a4 a5 a6)
    (try clear b0)
    (try clear c0 c1 c2 c3)
    (try clear d0 d1 d2 d3 d4 d5 d6)
    obtain⟨a0,a1,a2,a3,a4,a5,a6⟩:=cells7 R3_v2.o
    obtain⟨c0,c1,c2,c3⟩:=cells4 R5_v2.o
    obtain⟨d0,d1,d2,d3,d4,d5,d6⟩:=cells7 R9_v2.o
    go_wp2_with (first|(refine wpList_store_row rfl (.tmp 6) (.tmp 42) rfl rfl rfl R6_v2.o info_hs rfl rfl ?_))
    intro w7 r7 g7
    obtain⟨p0,p1,p2,p3,p4,p5,p6⟩:=cells7 r7
    (try clear a0 a1 a2 a3 a4 a5 a6)
    (try clear c0 c1 c2 c3)
    (try clear d0 d1 d2 d3 d4 d5 d6)
    go_wp2
    refine bodyPost_ret (v:=.tuple #[.agg #[.slice al2 h.log.length cl2,.int .i64 h.sums.a,.int .i64 h.sums.b,.int .i64 h.sums.c,.int .i64 h.sums.d,.slice ar2 h.ready.length cr2,.slice ad2 h.done.length cd2],.slice none 0 0]) (by simp [results,Tryz.results68,go_sem,p0,p1,p2,p3,p4,p5,p6]) rfl ?_
    rw [HEH.o,HEM.o]
    refine⟨_,_,rfl,(HY_v2.o.mono (win_set g7 (.inl HLO.o.1))).mono (win_ovn HLO.o.2),Sl.nil _ _,G_v2.o.grown g7 (fun k hk=>by simp at hk;omega)⟩
  by_cases e0:voteE h dd ps=0
  ·cases rd:readyE h.ready dd with
   |true=>
    as_aux_lemma=>
     have HEH:Hid (hearH h ⟨1,dd,hh,ps⟩=h):=by
      show hearH h ⟨1,dd,hh,ps⟩=h
      unfold hearH
      rw [if_pos rfl,if_neg (by show¬(_∧readyE h.ready dd=false);rw [rd];simp)]
     have HEM:Hid (hearM h me ⟨1,dd,hh,ps⟩=sayE 2 dd me):=by
      show hearM h me ⟨1,dd,hh,ps⟩=sayE 2 dd me
      unfold hearM
      rw [if_pos rfl,if_neg (by show¬voteE h dd ps=10;omega),if_pos e0]
     have E0:=η e0
     have RD:=η rd
     clear e0 rd e10
     go_wp2_with fail
     refine(HVO.o _ G_v1.o).mono ?_
     rw [E0.o]
     rintro e v2 ⟨rfl,hbv2⟩
     have R3_v2:=η (row_grow R3_v1.o hbv2)
     have R4_v2:=η (row_grow R4_v1.o hbv2)
     have R5_v2:=η (row_grow R5_v1.o hbv2)
     have R6_v2:=η (row_grow R6_v1.o hbv2)
     have R9_v2:=η (row_grow R9_v1.o hbv2)
     have G_v2:=η (G_v1.o.trans hbv2)
     have HY_v2:=η (HY_v1.o.mono (win_grow hbv2 _ _))
     clear hbv2
     (try clear a0 a1 a2 a3 a4 a5 a6)
     (try clear b0)
     (try clear c0 c1 c2 c3)
     (try clear d0 d1 d2 d3 d4 d5 d6)
     obtain⟨a0,a1,a2,a3,a4,a5,a6⟩:=cells7 R3_v2.o
     obtain⟨c0,c1,c2,c3⟩:=cells4 R5_v2.o
     obtain⟨d0,d1,d2,d3,d4,d5,d6⟩:=cells7 R9_v2.o
     go_wp2_with fail
     refine(HIS.o _ G_v2.o (γ R3_v2.o) (cells7 R3_v2.o).2.2.2.2.2.1).mono ?_
     rw [RD.o]
     rintro e v3 ⟨rfl,hbv3⟩
     have R3_v3:=η (row_grow R3_v2.o hbv3)
     have R4_v3:=η (row_grow R4_v2.o hbv3)
     have R5_v3:=η (row_grow R5_v2.o hbv3)
     have R6_v3:=η (row_grow R6_v2.o hbv3)
     have R9_v3:=η (row_grow R9_v2.o hbv3)
     have G_v3:=η (G_v2.o.trans hbv3)
     have HY_v3:=η (HY_v2.o.mono (win_grow hbv3 _ _))
     clear hbv3
     (try clear a0 a1 a2 a3 a4 a5 a6)
     (try clear b0)
     (try clear c0 c1 c2 c3)
     (try clear d0 d1 d2 d3 d4 d5 d6)
     obtain⟨a0,a1,a2,a3,a4,a5,a6⟩:=cells7 R3_v3.o
     obtain⟨c0,c1,c2,c3⟩:=cells4 R5_v3.o
     obtain⟨d0,d1,d2,d3,d4,d5,d6⟩:=cells7 R9_v3.o
     go_wp2_with fail
     have HS:Hid (∀W,v3.grownBy W (some (w.heap.size+1+1+1))→W.cell? ⟨v0.heap.size,0,none⟩=some (.slice al2 h.log.length cl2)∧W.cell? ⟨v0.heap.size,1,none⟩=some (.int .i64 h.sums.a)∧W.cell? ⟨v0.heap.size,2,none⟩=some (.int .i64 h.sums.b)∧W.cell? ⟨v0.heap.size,3,none⟩=some (.int .i64 h.sums.c)∧W.cell? ⟨v0.heap.size,4,none⟩=some (.int .i64 h.sums.d)∧W.cell? ⟨v0.heap.size,5,none⟩=some (.slice ar2 h.ready.length cr2)∧W.cell? ⟨v0.heap.size,6,none⟩=some (.slice ad2 h.done.length cd2)∧W.cell? ⟨w.heap.size+1+1,1,none⟩=some (.int .i64 dd)∧W.cell? ⟨w.heap.size+1,0,none⟩=some (.int .i64 me)):=fun W hW=>by
      have k:∀(b o:Nat) (u:Value),b≠w.heap.size+1+1+1→v3.cell? ⟨b,o,none⟩=some u→W.cell? ⟨b,o,none⟩=some u:=fun b o u hb e=>by
       rw [by_cell hW (World.block_lt_of_cell? v3 _ e) hb];exact e
      obtain⟨d0,d1,d2,d3,d4,d5,d6⟩:=cells7 R9_v3.o
      obtain⟨-,c1,-,-⟩:=cells4 R5_v3.o
      have hz:=HZ9.o
      exact⟨k _ _ _ (by omega) d0,k _ _ _ (by omega) d1,k _ _ _ (by omega) d2,k _ _ _ (by omega) d3,k _ _ _ (by omega) d4,k _ _ _ (by omega) d5,k _ _ _ (by omega) d6,k _ _ _ (by omega) c1,k _ _ _ (by omega) (cell1 R4_v3.o)⟩
     (try clear a0 a1 a2 a3 a4 a5 a6)
     (try clear c0 c1 c2 c3)
     (try clear d0 d1 d2 d3 d4 d5 d6)
     refine but_start (fun w'=>w'.cell? ⟨v0.heap.size,0,none⟩=some (.slice al2 h.log.length cl2)∧w'.cell? ⟨v0.heap.size,1,none⟩=some (.int .i64 h.sums.a)∧w'.cell? ⟨v0.heap.size,2,none⟩=some (.int .i64 h.sums.b)∧w'.cell? ⟨v0.heap.size,3,none⟩=some (.int .i64 h.sums.c)∧w'.cell? ⟨v0.heap.size,4,none⟩=some (.int .i64 h.sums.d)∧w'.cell? ⟨v0.heap.size,5,none⟩=some (.slice ar2 h.ready.length cr2)∧w'.cell? ⟨v0.heap.size,6,none⟩=some (.slice ad2 h.done.length cd2)∧w'.cell? ⟨w.heap.size+1+1,1,none⟩=some (.int .i64 dd)∧w'.cell? ⟨w.heap.size+1,0,none⟩=some (.int .i64 me)) 4 (by kernel_rfl) ?_
     obtain⟨wd,hWd⟩:∃x:World,x=v3.drew:=⟨_,rfl⟩
     rw [←hWd]
     have GD:Grow v3 wd:=by rw [hWd];exact(Grow.refl _).drew
     have zD:v3.heap.size=wd.heap.size:=by rw [hWd];rfl
     have ZD:=η zD
     clear hWd zD
     refine bLm [0,1] 6 (by kernel_rfl) (fun _ _ _ _ _ h=>h) (HS.o _ (grownBy_of_grow GD _)) ?_
     repeat (refine tNm (v:=?_) rfl (by rfl) ?_ ?_;rotate_left;(· (intro w' hSw;(try dsimp only at hSw);obtain⟨hs0,hs1,hs2,hs3,hs4,hs5,hs6,hs7,hs8⟩:=hSw;go_simp<;>with_reducible rfl));try simp only [Act.put,lzA,lzB,lzC,lzD,lzE,lzF])
     refine tEm ?_
     refine bO 2 (by kernel_rfl) rfl ?_
     intro K HK
     try simp only [lzA,lzB,lzC]
     go_simp
     go_at_call 99
     refine(house_say (B5:=w.heap.size+1+1) (B4:=w.heap.size+1) wd (HS.o _ (grownBy_of_grow GD _)).2.2.2.2.2.2.2.1 (HS.o _ (grownBy_of_grow GD _)).2.2.2.2.2.2.2.2 (Nat.lt_of_lt_of_le (γ R5_v3.o) GD.size) (Nat.lt_of_lt_of_le (γ R4_v3.o) GD.size) (show I64 2 from by unfold I64;decide) HMS.o.2.2.1 HME.o).mono ?_
     rintro e wq ⟨vq,rfl,hq,hbq⟩
     have HQ:Hid (Sl Ty.ms (win wd.heap.size wq.heap.size wq) vq (sayE 2 dd me)):=η (hq.mono (win_ov _ _))
     have HBQ:=η hbq
     clear hq hbq
     refine HK.o _ _ ⟨fun _=>HS.o _ (grownBy_of_grow (GD.trans HBQ.o) _),?_⟩
     clear HK K
     try simp only [Act.put,lzA,lzB,lzC,lzD,lzE,lzF]
     refine bO 3 (by kernel_rfl) rfl ?_
     intro K HK
     refine wanted_go rfl ?_
     try simp only [lzA,lzB,lzC]
     refine wp_store_row (.tmp 6) (.tmp 37) rfl rfl rfl (row_grow R6_v3.o (GD.trans HBQ.o)) info_hs rfl rfl ?_
     intro w7 r7 g7
     refine HK.o _ _ ⟨fun _=>HS.o _ (grownBy_trans (grownBy_of_grow (GD.trans HBQ.o) _) g7),?_⟩
     clear HK K
     try simp only [Act.put]
     refine bO 4 (by kernel_rfl) rfl ?_
     intro K HK
     try simp only [lzA,lzB,lzC]
     go_simp
     refine HK.o _ _ ⟨fun h=>absurd rfl h,?_⟩
     clear HK K
     try simp only [Act.put,lzA,lzB,lzC,lzD,lzE,lzF]
     refine but_done (by kernel_rfl) ?_
     obtain⟨p0,p1,p2,p3,p4,p5,p6⟩:=cells7 r7
     go_wp2
     refine bodyPost_ret (v:=.tuple #[.agg #[.slice al2 h.log.length cl2,.int .i64 h.sums.a,.int .i64 h.sums.b,.int .i64 h.sums.c,.int .i64 h.sums.d,.slice ar2 h.ready.length cr2,.slice ad2 h.done.length cd2],vq]) (by simp [results,Tryz.results68,go_sem,p0,p1,p2,p3,p4,p5,p6]) rfl ?_
     rw [HEH.o,HEM.o]
     have hzd:w.heap.size≤wd.heap.size:=(G_v3.o.trans GD).size
     have h6:w.heap.size+1+1+1<wd.heap.size:=Nat.lt_of_lt_of_le (γ R6_v3.o) GD.size
     refine⟨_,_,rfl,(((HY_v3.o.mono (win_grow (GD.trans HBQ.o) _ _)).mono (win_set g7 (.inl HLO.o.1))).mono (win_ovn HLO.o.2)),((HQ.o.mono (win_set g7 (.inl h6))).mono (win_ovn hzd)),((G_v3.o.trans GD).trans HBQ.o).grown g7 (fun k hk=>by simp at hk;omega)⟩
   |false=>
    as_aux_lemma=>
     have HEH:Hid (hearH h ⟨1,dd,hh,ps⟩=noteE h ⟨1,dd,ps⟩):=by
      show hearH h ⟨1,dd,hh,ps⟩=noteE h ⟨1,dd,ps⟩
      unfold hearH
      rw [if_pos rfl,if_pos ⟨e0,rd⟩]
     have HEM:Hid (hearM h me ⟨1,dd,hh,ps⟩=sayE 2 dd me):=by
      show hearM h me ⟨1,dd,hh,ps⟩=sayE 2 dd me
      unfold hearM
      rw [if_pos rfl,if_neg (by show¬voteE h dd ps=10;omega),if_pos e0]
     have E0:=η e0
     have RD:=η rd
     clear e0 rd e10
     go_wp2_with fail
     refine(HVO.o _ G_v1.o).mono ?_
     rw [E0.o]
     rintro e v2 ⟨rfl,hbv2⟩
     have R3_v2:=η (row_grow R3_v1.o hbv2)
     have R4_v2:=η (row_grow R4_v1.o hbv2)
     have R5_v2:=η (row_grow R5_v1.o hbv2)
     have R6_v2:=η (row_grow R6_v1.o hbv2)
     have R9_v2:=η (row_grow R9_v1.o hbv2)
     have G_v2:=η (G_v1.o.trans hbv2)
     have HY_v2:=η (HY_v1.o.mono (win_grow hbv2 _ _))
     clear hbv2
     (try clear a0 a1 a2 a3 a4 a5 a6)
     (try clear b0)
     (try clear c0 c1 c2 c3)
     (try clear d0 d1 d2 d3 d4 d5 d6)
     obtain⟨a0,a1,a2,a3,a4,a5,a6⟩:=cells7 R3_v2.o
     obtain⟨c0,c1,c2,c3⟩:=cells4 R5_v2.o
     obtain⟨d0,d1,d2,d3,d4,d5,d6⟩:=cells7 R9_v2.o
     go_wp2_with fail
     refine(HIS.o _ G_v2.o (γ R3_v2.o) (cells7 R3_v2.o).2.2.2.2.2.1).mono ?_
     rw [RD.o]
     rintro e v3 ⟨rfl,hbv3⟩
     have R3_v3:=η (row_grow R3_v2.o hbv3)
     have R4_v3:=η (row_grow R4_v2.o hbv3)
     have R5_v3:=η (row_grow R5_v2.o hbv3)
     have R6_v3:=η (row_grow R6_v2.o hbv3)
     have R9_v3:=η (row_grow R9_v2.o hbv3)
     have G_v3:=η (G_v2.o.trans hbv3)
     have HY_v3:=η (HY_v2.o.mono (win_grow hbv3 _ _))
     clear hbv3
     (try clear a0 a1 a2 a3 a4 a5 a6)
     (try clear b0)
     (try clear c0 c1 c2 c3)
     (try clear d0 d1 d2 d3 d4 d5 d6)
     obtain⟨a0,a1,a2,a3,a4,a5,a6⟩:=cells7 R3_v3.o
     obtain⟨c0,c1,c2,c3⟩:=cells4 R5_v3.o
     obtain⟨d0,d1,d2,d3,d4,d5,d6⟩:=cells7 R9_v3.o
     go_wp2_with fail
     refine(HNT.o ⟨1,dd,ps⟩ _ _ G_v3.o ⟨_,rfl,_,rfl,HMS.o.2.1,HMS.o.2.2.1,HMS.o.1.mono G_v3.o.sub⟩ HKP.o.1 HKP.o.2).mono ?_
     rintro e v4 ⟨vx,rfl,hX,hbv4⟩
     generalize noteE h ⟨1,dd,ps⟩=x at*
     obtain⟨al3,cl3,ar3,cr3,ad3,cd3,rfl⟩:=hX.hs_form
     have HX1:Hid (Of Ty.hs (win v3.heap.size v4.heap.size v4) _ x):=η (hX.mono (win_ov _ _))
     have HZV:Hid (v0.heap.size<v3.heap.size):=η (γ R9_v3.o)
     have R3_v4:=η (row_grow R3_v3.o hbv4)
     have R4_v4:=η (row_grow R4_v3.o hbv4)
     have R5_v4:=η (row_grow R5_v3.o hbv4)
     have R6_v4:=η (row_grow R6_v3.o hbv4)
     have R9_v4:=η (row_grow R9_v3.o hbv4)
     have G_v4:=η (G_v3.o.trans hbv4)
     clear hX hbv4
     (try clear a0 a1 a2 a3 a4 a5 a6)
     (try clear b0)
     (try clear c0 c1 c2 c3)
     (try clear d0 d1 d2 d3 d4 d5 d6)
     obtain⟨a0,a1,a2,a3,a4,a5,a6⟩:=cells7 R3_v4.o
     obtain⟨c0,c1,c2,c3⟩:=cells4 R5_v4.o
     obtain⟨d0,d1,d2,d3,d4,d5,d6⟩:=cells7 R9_v4.o
     go_wp2_with (first|(refine wpList_store_row rfl (.tmp 9) (.tmp 36) rfl rfl rfl R9_v4.o info_hs rfl rfl ?_))
     intro v5 r2 g2
     have R9_v5:=η r2
     have R3_v5:Hid (v5.heap[w.heap.size]? =_):=η (row_by R3_v4.o g2 (by have:=HZ9.o;simp;omega))
     have R4_v5:Hid (v5.heap[w.heap.size+1]? =_):=η (row_by R4_v4.o g2 (by have:=HZ9.o;simp;omega))
     have R5_v5:Hid (v5.heap[w.heap.size+1+1]? =_):=η (row_by R5_v4.o g2 (by have:=HZ9.o;simp;omega))
     have R6_v5:Hid (v5.heap[w.heap.size+1+1+1]? =_):=η (row_by R6_v4.o g2 (by have:=HZ9.o;simp;omega))
     have G_v5:=η (G_v4.o.grown g2 (fun k hk=>by have:=HZ9.o;simp at hk;omega))
     have HY_v5:=η (HX1.o.mono (win_set g2 (.inl HZV.o)))
     have HLN:Hid (w.heap.size+1+1+1<v3.heap.size∧w.heap.size≤v3.heap.size):=η (by have:=HZ9.o;have:=HZV.o;omega)
     clear r2 g2 HX1
     (try clear a0 a1 a2 a3 a4 a5 a6)
     (try clear b0)
     (try clear c0 c1 c2 c3)
     (try clear d0 d1 d2 d3 d4 d5 d6)
     obtain⟨a0,a1,a2,a3,a4,a5,a6⟩:=cells7 R3_v5.o
     obtain⟨c0,c1,c2,c3⟩:=cells4 R5_v5.o
     obtain⟨d0,d1,d2,d3,d4,d5,d6⟩:=cells7 R9_v5.o
     go_wp2_with fail
     have HS:Hid (∀W,v5.grownBy W (some (w.heap.size+1+1+1))→W.cell? ⟨v0.heap.size,0,none⟩=some (.slice al3 x.log.length cl3)∧W.cell? ⟨v0.heap.size,1,none⟩=some (.int .i64 x.sums.a)∧W.cell? ⟨v0.heap.size,2,none⟩=some (.int .i64 x.sums.b)∧W.cell? ⟨v0.heap.size,3,none⟩=some (.int .i64 x.sums.c)∧W.cell? ⟨v0.heap.size,4,none⟩=some (.int .i64 x.sums.d)∧W.cell? ⟨v0.heap.size,5,none⟩=some (.slice ar3 x.ready.length cr3)∧W.cell? ⟨v0.heap.size,6,none⟩=some (.slice ad3 x.done.length cd3)∧W.cell? ⟨w.heap.size+1+1,1,none⟩=some (.int .i64 dd)∧W.cell? ⟨w.heap.size+1,0,none⟩=some (.int .i64 me)):=fun W hW=>by
      have k:∀(b o:Nat) (u:Value),b≠w.heap.size+1+1+1→v5.cell? ⟨b,o,none⟩=some u→W.cell? ⟨b,o,none⟩=some u:=fun b o u hb e=>by
       rw [by_cell hW (World.block_lt_of_cell? v5 _ e) hb];exact e
      obtain⟨d0,d1,d2,d3,d4,d5,d6⟩:=cells7 R9_v5.o
      obtain⟨-,c1,-,-⟩:=cells4 R5_v5.o
      have hz:=HZ9.o
      exact⟨k _ _ _ (by omega) d0,k _ _ _ (by omega) d1,k _ _ _ (by omega) d2,k _ _ _ (by omega) d3,k _ _ _ (by omega) d4,k _ _ _ (by omega) d5,k _ _ _ (by omega) d6,k _ _ _ (by omega) c1,k _ _ _ (by omega) (cell1 R4_v5.o)⟩
     (try clear a0 a1 a2 a3 a4 a5 a6)
     (try clear c0 c1 c2 c3)
     (try clear d0 d1 d2 d3 d4 d5 d6)
     refine but_start (fun w'=>w'.cell? ⟨v0.heap.size,0,none⟩=some (.slice al3 x.log.length cl3)∧w'.cell? ⟨v0.heap.size,1,none⟩=some (.int .i64 x.sums.a)∧w'.cell? ⟨v0.heap.size,2,none⟩=some (.int .i64 x.sums.b)∧w'.cell? ⟨v0.heap.size,3,none⟩=some (.int .i64 x.sums.c)∧w'.cell? ⟨v0.heap.size,4,none⟩=some (.int .i64 x.sums.d)∧w'.cell? ⟨v0.heap.size,5,none⟩=some (.slice ar3 x.ready.length cr3)∧w'.cell? ⟨v0.heap.size,6,none⟩=some (.slice ad3 x.done.length cd3)∧w'.cell? ⟨w.heap.size+1+1,1,none⟩=some (.int .i64 dd)∧w'.cell? ⟨w.heap.size+1,0,none⟩=some (.int .i64 me)) 4 (by kernel_rfl) ?_
     obtain⟨wd,hWd⟩:∃x:World,x=v5.drew:=⟨_,rfl⟩
     rw [←hWd]
     have GD:Grow v5 wd:=by rw [hWd];exact(Grow.refl _).drew
     have zD:v5.heap.size=wd.heap.size:=by rw [hWd];rfl
     have ZD:=η zD
     clear hWd zD
     refine bLm [0,1] 6 (by kernel_rfl) (fun _ _ _ _ _ h=>h) (HS.o _ (grownBy_of_grow GD _)) ?_
     repeat (refine tNm (v:=?_) rfl (by rfl) ?_ ?_;rotate_left;(· (intro w' hSw;(try dsimp only at hSw);obtain⟨hs0,hs1,hs2,hs3,hs4,hs5,hs6,hs7,hs8⟩:=hSw;go_simp<;>with_reducible rfl));try simp only [Act.put,lzA,lzB,lzC,lzD,lzE,lzF])
     refine tEm ?_
     refine bO 2 (by kernel_rfl) rfl ?_
     intro K HK
     try simp only [lzA,lzB,lzC]
     go_simp
     go_at_call 99
     refine(house_say (B5:=w.heap.size+1+1) (B4:=w.heap.size+1) wd (HS.o _ (grownBy_of_grow GD _)).2.2.2.2.2.2.2.1 (HS.o _ (grownBy_of_grow GD _)).2.2.2.2.2.2.2.2 (Nat.lt_of_lt_of_le (γ R5_v5.o) GD.size) (Nat.lt_of_lt_of_le (γ R4_v5.o) GD.size) (show I64 2 from by unfold I64;decide) HMS.o.2.2.1 HME.o).mono ?_
     rintro e wq ⟨vq,rfl,hq,hbq⟩
     have HQ:Hid (Sl Ty.ms (win wd.heap.size wq.heap.size wq) vq (sayE 2 dd me)):=η (hq.mono (win_ov _ _))
     have HBQ:=η hbq
     clear hq hbq
     refine HK.o _ _ ⟨fun _=>HS.o _ (grownBy_of_grow (GD.trans HBQ.o) _),?_⟩
     clear HK K
     try simp only [Act.put,lzA,lzB,lzC,lzD,lzE,lzF]
     refine bO 3 (by kernel_rfl) rfl ?_
     intro K HK
     refine wanted_go rfl ?_
     try simp only [lzA,lzB,lzC]
     refine wp_store_row (.tmp 6) (.tmp 37) rfl rfl rfl (row_grow R6_v5.o (GD.trans HBQ.o)) info_hs rfl rfl ?_
     intro w7 r7 g7
     refine HK.o _ _ ⟨fun _=>HS.o _ (grownBy_trans (grownBy_of_grow (GD.trans HBQ.o) _) g7),?_⟩
     clear HK K
     try simp only [Act.put]
     refine bO 4 (by kernel_rfl) rfl ?_
     intro K HK
     try simp only [lzA,lzB,lzC]
     go_simp
     refine HK.o _ _ ⟨fun h=>absurd rfl h,?_⟩
     clear HK K
     try simp only [Act.put,lzA,lzB,lzC,lzD,lzE,lzF]
     refine but_done (by kernel_rfl) ?_
     obtain⟨p0,p1,p2,p3,p4,p5,p6⟩:=cells7 r7
     go_wp2
     refine bodyPost_ret (v:=.tuple #[.agg #[.slice al3 x.log.length cl3,.int .i64 x.sums.a,.int .i64 x.sums.b,.int .i64 x.sums.c,.int .i64 x.sums.d,.slice ar3 x.ready.length cr3,.slice ad3 x.done.length cd3],vq]) (by simp [results,Tryz.results68,go_sem,p0,p1,p2,p3,p4,p5,p6]) rfl ?_
     rw [HEH.o,HEM.o]
     have hzd:w.heap.size≤wd.heap.size:=(G_v5.o.trans GD).size
     have h6:w.heap.size+1+1+1<wd.heap.size:=Nat.lt_of_lt_of_le (γ R6_v5.o) GD.size
     refine⟨_,_,rfl,(((HY_v5.o.mono (win_grow (GD.trans HBQ.o) _ _)).mono (win_set g7 (.inl HLN.o.1))).mono (win_ovn HLN.o.2)),((HQ.o.mono (win_set g7 (.inl h6))).mono (win_ovn hzd)),((G_v5.o.trans GD).trans HBQ.o).grown g7 (fun k hk=>by simp at hk;omega)⟩
  ·as_aux_lemma=>
    have HEH:Hid (hearH h ⟨1,dd,hh,ps⟩=h):=by
     show hearH h ⟨1,dd,hh,ps⟩=h
     unfold hearH
     rw [if_pos rfl,if_neg (fun h2=>e0 h2.1)]
    have HEM:Hid (hearM h me ⟨1,dd,hh,ps⟩=sayE 3 dd me):=by
     show hearM h me ⟨1,dd,hh,ps⟩=sayE 3 dd me
     unfold hearM
     rw [if_pos rfl,if_neg e10,if_neg e0]
    have hb10:(voteE h dd ps==10)=false:=by simpa using e10
    have hb0:(voteE h dd ps==0)=false:=by simpa using e0
    clear e0 e10
    generalize voteE h dd ps=ve at*
    go_wp2_with fail
    refine(HVO.o _ G_v1.o).mono ?_
    rintro e v2 ⟨rfl,hbv2⟩
    have R3_v2:=η (row_grow R3_v1.o hbv2)
    have R4_v2:=η (row_grow R4_v1.o hbv2)
    have R5_v2:=η (row_grow R5_v1.o hbv2)
    have R6_v2:=η (row_grow R6_v1.o hbv2)
    have R9_v2:=η (row_grow R9_v1.o hbv2)
    have G_v2:=η (G_v1.o.trans hbv2)
    have HY_v2:=η (HY_v1.o.mono (win_grow hbv2 _ _))
    clear hbv2
    (try clear a0 a1 a2 a3 a4 a5 a6)
    (try clear b0)
    (try clear c0 c1 c2 c3)
    (try clear d0 d1 d2 d3 d4 d5 d6)
    obtain⟨a0,a1,a2,a3,a4,a5,a6⟩:=cells7 R3_v2.o
    obtain⟨c0,c1,c2,c3⟩:=cells4 R5_v2.o
    obtain⟨d0,d1,d2,d3,d4,d5,d6⟩:=cells7 R9_v2.o
    go_wp2_with fail
    have HS:Hid (∀W,v2.grownBy W (some (w.heap.size+1+1+1))→W.cell? ⟨v0.heap.size,0,none⟩=some (.slice al2 h.log.length cl2)∧W.cell? ⟨v0.heap.size,1,none⟩=some (.int .i64 h.sums.a)∧W.cell? ⟨v0.heap.size,2,none⟩=some (.int .i64 h.sums.b)∧W.cell? ⟨v0.heap.size,3,none⟩=some (.int .i64 h.sums.c)∧W.cell? ⟨v0.heap.size,4,none⟩=some (.int .i64 h.sums.d)∧W.cell? ⟨v0.heap.size,5,none⟩=some (.slice ar2 h.ready.length cr2)∧W.cell? ⟨v0.heap.size,6,none⟩=some (.slice ad2 h.done.length cd2)∧W.cell? ⟨w.heap.size+1+1,1,none⟩=some (.int .i64 dd)∧W.cell? ⟨w.heap.size+1,0,none⟩=some (.int .i64 me)):=fun W hW=>by
     have k:∀(b o:Nat) (u:Value),b≠w.heap.size+1+1+1→v2.cell? ⟨b,o,none⟩=some u→W.cell? ⟨b,o,none⟩=some u:=fun b o u hb e=>by
      rw [by_cell hW (World.block_lt_of_cell? v2 _ e) hb];exact e
     obtain⟨d0,d1,d2,d3,d4,d5,d6⟩:=cells7 R9_v2.o
     obtain⟨-,c1,-,-⟩:=cells4 R5_v2.o
     have hz:=HZ9.o
     exact⟨k _ _ _ (by omega) d0,k _ _ _ (by omega) d1,k _ _ _ (by omega) d2,k _ _ _ (by omega) d3,k _ _ _ (by omega) d4,k _ _ _ (by omega) d5,k _ _ _ (by omega) d6,k _ _ _ (by omega) c1,k _ _ _ (by omega) (cell1 R4_v2.o)⟩
    (try clear a0 a1 a2 a3 a4 a5 a6)
    (try clear c0 c1 c2 c3)
    (try clear d0 d1 d2 d3 d4 d5 d6)
    refine but_start (fun w'=>w'.cell? ⟨v0.heap.size,0,none⟩=some (.slice al2 h.log.length cl2)∧w'.cell? ⟨v0.heap.size,1,none⟩=some (.int .i64 h.sums.a)∧w'.cell? ⟨v0.heap.size,2,none⟩=some (.int .i64 h.sums.b)∧w'.cell? ⟨v0.heap.size,3,none⟩=some (.int .i64 h.sums.c)∧w'.cell? ⟨v0.heap.size,4,none⟩=some (.int .i64 h.sums.d)∧w'.cell? ⟨v0.heap.size,5,none⟩=some (.slice ar2 h.ready.length cr2)∧w'.cell? ⟨v0.heap.size,6,none⟩=some (.slice ad2 h.done.length cd2)∧w'.cell? ⟨w.heap.size+1+1,1,none⟩=some (.int .i64 dd)∧w'.cell? ⟨w.heap.size+1,0,none⟩=some (.int .i64 me)) 4 (by kernel_rfl) ?_
    obtain⟨wd,hWd⟩:∃x:World,x=v2.drew:=⟨_,rfl⟩
    rw [←hWd]
    have GD:Grow v2 wd:=by rw [hWd];exact(Grow.refl _).drew
    have zD:v2.heap.size=wd.heap.size:=by rw [hWd];rfl
    have ZD:=η zD
    clear hWd zD
    refine bLm [0,1] 6 (by kernel_rfl) (fun _ _ _ _ _ h=>h) (HS.o _ (grownBy_of_grow GD _)) ?_
    repeat (refine tNm (v:=?_) rfl (by rfl) ?_ ?_;rotate_left;(· (intro w' hSw;(try dsimp only at hSw);obtain⟨hs0,hs1,hs2,hs3,hs4,hs5,hs6,hs7,hs8⟩:=hSw;go_simp<;>with_reducible rfl));try simp only [Act.put,lzA,lzB,lzC,lzD,lzE,lzF])
    refine tEm ?_
    refine bO 2 (by kernel_rfl) rfl ?_
    intro K HK
    try simp only [lzA,lzB,lzC]
    go_simp
    go_at_call 99
    refine(house_say (B5:=w.heap.size+1+1) (B4:=w.heap.size+1) wd (HS.o _ (grownBy_of_grow GD _)).2.2.2.2.2.2.2.1 (HS.o _ (grownBy_of_grow GD _)).2.2.2.2.2.2.2.2 (Nat.lt_of_lt_of_le (γ R5_v2.o) GD.size) (Nat.lt_of_lt_of_le (γ R4_v2.o) GD.size) (show I64 3 from by unfold I64;decide) HMS.o.2.2.1 HME.o).mono ?_
    rintro e wq ⟨vq,rfl,hq,hbq⟩
    have HQ:Hid (Sl Ty.ms (win wd.heap.size wq.heap.size wq) vq (sayE 3 dd me)):=η (hq.mono (win_ov _ _))
    have HBQ:=η hbq
    clear hq hbq
    refine HK.o _ _ ⟨fun _=>HS.o _ (grownBy_of_grow (GD.trans HBQ.o) _),?_⟩
    clear HK K
    try simp only [Act.put,lzA,lzB,lzC,lzD,lzE,lzF]
    refine bO 3 (by kernel_rfl) rfl ?_
    intro K HK
    refine wanted_go rfl ?_
    try simp only [lzA,lzB,lzC]
    refine wp_store_row (.tmp 6) (.tmp 43) rfl rfl rfl (row_grow R6_v2.o (GD.trans HBQ.o)) info_hs rfl rfl ?_
    intro w7 r7 g7
    refine HK.o _ _ ⟨fun _=>HS.o _ (grownBy_trans (grownBy_of_grow (GD.trans HBQ.o) _) g7),?_⟩
    clear HK K
    try simp only [Act.put]
    refine bO 4 (by kernel_rfl) rfl ?_
    intro K HK
    try simp only [lzA,lzB,lzC]
    go_simp
    refine HK.o _ _ ⟨fun h=>absurd rfl h,?_⟩
    clear HK K
    try simp only [Act.put,lzA,lzB,lzC,lzD,lzE,lzF]
    refine but_done (by kernel_rfl) ?_
    obtain⟨p0,p1,p2,p3,p4,p5,p6⟩:=cells7 r7
    go_wp2
    refine bodyPost_ret (v:=.tuple #[.agg #[.slice al2 h.log.length cl2,.int .i64 h.sums.a,.int .i64 h.sums.b,.int .i64 h.sums.c,.int .i64 h.sums.d,.slice ar2 h.ready.length cr2,.slice ad2 h.done.length cd2],vq]) (by simp [results,Tryz.results68,go_sem,p0,p1,p2,p3,p4,p5,p6]) rfl ?_
    rw [HEH.o,HEM.o]
    have hzd:w.heap.size≤wd.heap.size:=(G_v2.o.trans GD).size
    have h6:w.heap.size+1+1+1<wd.heap.size:=Nat.lt_of_lt_of_le (γ R6_v2.o) GD.size
    refine⟨_,_,rfl,(((HY_v2.o.mono (win_grow (GD.trans HBQ.o) _ _)).mono (win_set g7 (.inl HLO.o.1))).mono (win_ovn HLO.o.2)),((HQ.o.mono (win_set g7 (.inl h6))).mono (win_ovn hzd)),((G_v2.o.trans GD).trans HBQ.o).grown g7 (fun k hk=>by simp at hk;omega)⟩
 by_cases n4:kd=4
 ·subst n4
  clear n1
  cases rd:readyE h.ready dd with
  |true=>
   as_aux_lemma=>
    have hin:dd∈(noteE h ⟨2,dd,[]⟩).done:=by rw [(note2 HMD.o rd).2];simp
    have HEH:Hid (hearH h ⟨4,dd,hh,ps⟩=noteE h ⟨2,dd,[]⟩):=by
     show hearH h ⟨4,dd,hh,ps⟩=noteE h ⟨2,dd,[]⟩
     unfold hearH
     rw [if_neg (fun e=>by cases e),if_pos rfl,if_pos rd]
    have HEM:Hid (hearM h me ⟨4,dd,hh,ps⟩=sayE 6 dd me):=by
     show hearM h me ⟨4,dd,hh,ps⟩=sayE 6 dd me
     unfold hearM
     rw [if_neg (fun e=>by cases e),if_pos rfl,HEH.o,if_pos hin]
    have HIN2:=η hin
    have RD:=η rd
    clear hin rd
    go_wp2_with fail
    refine(HIS.o _ G_v1.o (γ R3_v1.o) (cells7 R3_v1.o).2.2.2.2.2.1).mono ?_
    rw [RD.o]
    rintro e v2 ⟨rfl,hbv2⟩
    have R3_v2:=η (row_grow R3_v1.o hbv2)
    have R4_v2:=η (row_grow R4_v1.o hbv2)
    have R5_v2:=η (row_grow R5_v1.o hbv2)
    have R6_v2:=η (row_grow R6_v1.o hbv2)
    have R9_v2:=η (row_grow R9_v1.o hbv2)
    have G_v2:=η (G_v1.o.trans hbv2)
    have HY_v2:=η (HY_v1.o.mono (win_grow hbv2 _ _))
    clear hbv2
    (try clear a0 a1 a2 a3 a4 a5 a6)
    (try clear b0)
    (try clear c0 c1 c2 c3)
    (try clear d0 d1 d2 d3 d4 d5 d6)
    obtain⟨a0,a1,a2,a3,a4,a5,a6⟩:=cells7 R3_v2.o
    obtain⟨c0,c1,c2,c3⟩:=cells4 R5_v2.o
    obtain⟨d0,d1,d2,d3,d4,d5,d6⟩:=cells7 R9_v2.o
    go_wp2_with fail
    refine(HNT.o ⟨2,dd,[]⟩ _ _ G_v2.o ⟨_,rfl,_,rfl,(show I64 2 from by unfold I64;decide),HMS.o.2.2.1,Sl.nil _ _⟩ (by intro p hp;simp at hp) (by simp)).mono ?_
    rintro e v3 ⟨vx,rfl,hX,hbv3⟩
    generalize noteE h ⟨2,dd,[]⟩=x at*
    obtain⟨al3,cl3,ar3,cr3,ad3,cd3,rfl⟩:=hX.hs_form
    have HX1:Hid (Of Ty.hs (win v2.heap.size v3.heap.size v3) _ x):=η (hX.mono (win_ov _ _))
    have HZV:Hid (v0.heap.size<v2.heap.size):=η (γ R9_v2.o)
    have R3_v3:=η (row_grow R3_v2.o hbv3)
    have R4_v3:=η (row_grow R4_v2.o hbv3)
    have R5_v3:=η (row_grow R5_v2.o hbv3)
    have R6_v3:=η (row_grow R6_v2.o hbv3)
    have R9_v3:=η (row_grow R9_v2.o hbv3)
    have G_v3:=η (G_v2.o.trans hbv3)
    clear hX hbv3
    (try clear a0 a1 a2 a3 a4 a5 a6)
    (try clear b0)
    (try clear c0 c1 c2 c3)
    (try clear d0 d1 d2 d3 d4 d5 d6)
    obtain⟨a0,a1,a2,a3,a4,a5,a6⟩:=cells7 R3_v3.o
    obtain⟨c0,c1,c2,c3⟩:=cells4 R5_v3.o
    obtain⟨d0,d1,d2,d3,d4,d5,d6⟩:=cells7 R9_v3.o
    go_wp2_with (first|(refine wpList_store_row rfl (.tmp 9) (.tmp 55) rfl rfl rfl R9_v3.o info_hs rfl rfl ?_))
    intro v4 r2 g2
    have R9_v4:=η r2
    have R3_v4:Hid (v4.heap[w.heap.size]? =_):=η (row_by R3_v3.o g2 (by have:=HZ9.o;simp;omega))
    have R4_v4:Hid (v4.heap[w.heap.size+1]? =_):=η (row_by R4_v3.o g2 (by have:=HZ9.o;simp;omega))
    have R5_v4:Hid (v4.heap[w.heap.size+1+1]? =_):=η (row_by R5_v3.o g2 (by have:=HZ9.o;simp;omega))
    have R6_v4:Hid (v4.heap[w.heap.size+1+1+1]? =_):=η (row_by R6_v3.o g2 (by have:=HZ9.o;simp;omega))
    have G_v4:=η (G_v3.o.grown g2 (fun k hk=>by have:=HZ9.o;simp at hk;omega))
    have HY_v4:=η (HX1.o.mono (win_set g2 (.inl HZV.o)))
    have HLN:Hid (w.heap.size+1+1+1<v2.heap.size∧w.heap.size≤v2.heap.size):=η (by have:=HZ9.o;have:=HZV.o;omega)
    clear r2 g2 HX1
    (try clear a0 a1 a2 a3 a4 a5 a6)
    (try clear b0)
    (try clear c0 c1 c2 c3)
    (try clear d0 d1 d2 d3 d4 d5 d6)
    obtain⟨a0,a1,a2,a3,a4,a5,a6⟩:=cells7 R3_v4.o
    obtain⟨c0,c1,c2,c3⟩:=cells4 R5_v4.o
    obtain⟨d0,d1,d2,d3,d4,d5,d6⟩:=cells7 R9_v4.o
    go_wp2_with fail
    refine(contains_int (n:=dd) v4 ((Of.hs_log (HY_v4.o.mono (win_sub _ _ _))).2.2)).mono ?_
    rw [decide_eq_true HIN2.o]
    rintro e v5 ⟨rfl,hbv5⟩
    have R3_v5:=η (row_grow R3_v4.o hbv5)
    have R4_v5:=η (row_grow R4_v4.o hbv5)
    have R5_v5:=η (row_grow R5_v4.o hbv5)
    have R6_v5:=η (row_grow R6_v4.o hbv5)
    have R9_v5:=η (row_grow R9_v4.o hbv5)
    have G_v5:=η (G_v4.o.trans hbv5)
    have HY_v5:=η (HY_v4.o.mono (win_grow hbv5 _ _))
    clear hbv5
    (try clear a0 a1 a2 a3 a4 a5 a6)
    (try clear b0)
    (try clear c0 c1 c2 c3)
    (try clear d0 d1 d2 d3 d4 d5 d6)
    obtain⟨a0,a1,a2,a3,a4,a5,a6⟩:=cells7 R3_v5.o
    obtain⟨c0,c1,c2,c3⟩:=cells4 R5_v5.o
    obtain⟨d0,d1,d2,d3,d4,d5,d6⟩:=cells7 R9_v5.o
    go_wp2_with fail
    have HS:Hid (∀W,v5.grownBy W (some (w.heap.size+1+1+1))→W.cell? ⟨v0.heap.size,0,none⟩=some (.slice al3 x.log.length cl3)∧W.cell? ⟨v0.heap.size,1,none⟩=some (.int .i64 x.sums.a)∧W.cell? ⟨v0.heap.size,2,none⟩=some (.int .i64 x.sums.b)∧W.cell? ⟨v0.heap.size,3,none⟩=some (.int .i64 x.sums.c)∧W.cell? ⟨v0.heap.size,4,none⟩=some (.int .i64 x.sums.d)∧W.cell? ⟨v0.heap.size,5,none⟩=some (.slice ar3 x.ready.length cr3)∧W.cell? ⟨v0.heap.size,6,none⟩=some (.slice ad3 x.done.length cd3)∧W.cell? ⟨w.heap.size+1+1,1,none⟩=some (.int .i64 dd)∧W.cell? ⟨w.heap.size+1,0,none⟩=some (.int .i64 me)):=fun W hW=>by
     have k:∀(b o:Nat) (u:Value),b≠w.heap.size+1+1+1→v5.cell? ⟨b,o,none⟩=some u→W.cell? ⟨b,o,none⟩=some u:=fun b o u hb e=>by
      rw [by_cell hW (World.block_lt_of_cell? v5 _ e) hb];exact e
     obtain⟨d0,d1,d2,d3,d4,d5,d6⟩:=cells7 R9_v5.o
     obtain⟨-,c1,-,-⟩:=cells4 R5_v5.o
     have hz:=HZ9.o
     exact⟨k _ _ _ (by omega) d0,k _ _ _ (by omega) d1,k _ _ _ (by omega) d2,k _ _ _ (by omega) d3,k _ _ _ (by omega) d4,k _ _ _ (by omega) d5,k _ _ _ (by omega) d6,k _ _ _ (by omega) c1,k _ _ _ (by omega) (cell1 R4_v5.o)⟩
    (try clear a0 a1 a2 a3 a4 a5 a6)
    (try clear c0 c1 c2 c3)
    (try clear d0 d1 d2 d3 d4 d5 d6)
    refine but_start (fun w'=>w'.cell? ⟨v0.heap.size,0,none⟩=some (.slice al3 x.log.length cl3)∧w'.cell? ⟨v0.heap.size,1,none⟩=some (.int .i64 x.sums.a)∧w'.cell? ⟨v0.heap.size,2,none⟩=some (.int .i64 x.sums.b)∧w'.cell? ⟨v0.heap.size,3,none⟩=some (.int .i64 x.sums.c)∧w'.cell? ⟨v0.heap.size,4,none⟩=some (.int .i64 x.sums.d)∧w'.cell? ⟨v0.heap.size,5,none⟩=some (.slice ar3 x.ready.length cr3)∧w'.cell? ⟨v0.heap.size,6,none⟩=some (.slice ad3 x.done.length cd3)∧w'.cell? ⟨w.heap.size+1+1,1,none⟩=some (.int .i64 dd)∧w'.cell? ⟨w.heap.size+1,0,none⟩=some (.int .i64 me)) 4 (by kernel_rfl) ?_
    obtain⟨wd,hWd⟩:∃x:World,x=v5.drew:=⟨_,rfl⟩
    rw [←hWd]
    have GD:Grow v5 wd:=by rw [hWd];exact(Grow.refl _).drew
    have zD:v5.heap.size=wd.heap.size:=by rw [hWd];rfl
    have ZD:=η zD
    clear hWd zD
    refine bLm [0,1] 6 (by kernel_rfl) (fun _ _ _ _ _ h=>h) (HS.o _ (grownBy_of_grow GD _)) ?_
    repeat (refine tNm (v:=?_) rfl (by rfl) ?_ ?_;rotate_left;(· (intro w' hSw;(try dsimp only at hSw);obtain⟨hs0,hs1,hs2,hs3,hs4,hs5,hs6,hs7,hs8⟩:=hSw;go_simp<;>with_reducible rfl));try simp only [Act.put,lzA,lzB,lzC,lzD,lzE,lzF])
    refine tEm ?_
    refine bO 2 (by kernel_rfl) rfl ?_
    intro K HK
    try simp only [lzA,lzB,lzC]
    go_simp
    go_at_call 99
    refine(house_say (B5:=w.heap.size+1+1) (B4:=w.heap.size+1) wd (HS.o _ (grownBy_of_grow GD _)).2.2.2.2.2.2.2.1 (HS.o _ (grownBy_of_grow GD _)).2.2.2.2.2.2.2.2 (Nat.lt_of_lt_of_le (γ R5_v5.o) GD.size) (Nat.lt_of_lt_of_le (γ R4_v5.o) GD.size) (show I64 6 from by unfold I64;decide) HMS.o.2.2.1 HME.o).mono ?_
    rintro e wq ⟨vq,rfl,hq,hbq⟩
    have HQ:Hid (Sl Ty.ms (win wd.heap.size wq.heap.size wq) vq (sayE 6 dd me)):=η (hq.mono (win_ov _ _))
    have HBQ:=η hbq
    clear hq hbq
    refine HK.o _ _ ⟨fun _=>HS.o _ (grownBy_of_grow (GD.trans HBQ.o) _),?_⟩
    clear HK K
    try simp only [Act.put,lzA,lzB,lzC,lzD,lzE,lzF]
    refine bO 3 (by kernel_rfl) rfl ?_
    intro K HK
    refine wanted_go rfl ?_
    try simp only [lzA,lzB,lzC]
    refine wp_store_row (.tmp 6) (.tmp 61) rfl rfl rfl (row_grow R6_v5.o (GD.trans HBQ.o)) info_hs rfl rfl ?_
    intro w7 r7 g7
    refine HK.o _ _ ⟨fun _=>HS.o _ (grownBy_trans (grownBy_of_grow (GD.trans HBQ.o) _) g7),?_⟩
    clear HK K
    try simp only [Act.put]
    refine bO 4 (by kernel_rfl) rfl ?_
    intro K HK
    try simp only [lzA,lzB,lzC]
    go_simp
    refine HK.o _ _ ⟨fun h=>absurd rfl h,?_⟩
    clear HK K
    try simp only [Act.put,lzA,lzB,lzC,lzD,lzE,lzF]
    refine but_done (by kernel_rfl) ?_
    obtain⟨p0,p1,p2,p3,p4,p5,p6⟩:=cells7 r7
    go_wp2
    refine bodyPost_ret (v:=.tuple #[.agg #[.slice al3 x.log.length cl3,.int .i64 x.sums.a,.int .i64 x.sums.b,.int .i64 x.sums.c,.int .i64 x.sums.d,.slice ar3 x.ready.length cr3,.slice ad3 x.done.length cd3],vq]) (by simp [results,Tryz.results68,go_sem,p0,p1,p2,p3,p4,p5,p6]) rfl ?_
    rw [HEH.o,HEM.o]
    have hzd:w.heap.size≤wd.heap.size:=(G_v5.o.trans GD).size
    have h6:w.heap.size+1+1+1<wd.heap.size:=Nat.lt_of_lt_of_le (γ R6_v5.o) GD.size
    refine⟨_,_,rfl,(((HY_v5.o.mono (win_grow (GD.trans HBQ.o) _ _)).mono (win_set g7 (.inl HLN.o.1))).mono (win_ovn HLN.o.2)),((HQ.o.mono (win_set g7 (.inl h6))).mono (win_ovn hzd)),((G_v5.o.trans GD).trans HBQ.o).grown g7 (fun k hk=>by simp at hk;omega)⟩
  |false=>
   by_cases hin:dd∈h.done
   ·as_aux_lemma=>
     have HEH:Hid (hearH h ⟨4,dd,hh,ps⟩=h):=by
      show hearH h ⟨4,dd,hh,ps⟩=h
      unfold hearH
      rw [if_neg (fun e=>by cases e),if_pos rfl,if_neg (by rw [show readyE h.ready (Ms.deed ⟨4,dd,hh,ps⟩)=false from rd];simp)]
     have HEM:Hid (hearM h me ⟨4,dd,hh,ps⟩=sayE 6 dd me):=by
      show hearM h me ⟨4,dd,hh,ps⟩=sayE 6 dd me
      unfold hearM
      rw [if_neg (fun e=>by cases e),if_pos rfl,HEH.o,if_pos hin]
     have HIN2:=η hin
     have RD:=η rd
     clear hin rd
     go_wp2_with fail
     refine(HIS.o _ G_v1.o (γ R3_v1.o) (cells7 R3_v1.o).2.2.2.2.2.1).mono ?_
     rw [RD.o]
     rintro e v2 ⟨rfl,hbv2⟩
     have R3_v2:=η (row_grow R3_v1.o hbv2)
     have R4_v2:=η (row_grow R4_v1.o hbv2)
     have R5_v2:=η (row_grow R5_v1.o hbv2)
     have R6_v2:=η (row_grow R6_v1.o hbv2)
     have R9_v2:=η (row_grow R9_v1.o hbv2)
     have G_v2:=η (G_v1.o.trans hbv2)
     have HY_v2:=η (HY_v1.o.mono (win_grow hbv2 _ _))
     clear hbv2
     (try clear a0 a1 a2 a3 a4 a5 a6)
     (try clear b0)
     (try clear c0 c1 c2 c3)
     (try clear d0 d1 d2 d3 d4 d5 d6)
     obtain⟨a0,a1,a2,a3,a4,a5,a6⟩:=cells7 R3_v2.o
     obtain⟨c0,c1,c2,c3⟩:=cells4 R5_v2.o
     obtain⟨d0,d1,d2,d3,d4,d5,d6⟩:=cells7 R9_v2.o
     go_wp2_with fail
     refine(contains_int (n:=dd) v2 ((Of.hs_log (HY_v2.o.mono (win_sub _ _ _))).2.2)).mono ?_
     rw [decide_eq_true HIN2.o]
     rintro e v3 ⟨rfl,hbv3⟩
     have R3_v3:=η (row_grow R3_v2.o hbv3)
     have R4_v3:=η (row_grow R4_v2.o hbv3)
     have R5_v3:=η (row_grow R5_v2.o hbv3)
     have R6_v3:=η (row_grow R6_v2.o hbv3)
     have R9_v3:=η (row_grow R9_v2.o hbv3)
     have G_v3:=η (G_v2.o.trans hbv3)
     have HY_v3:=η (HY_v2.o.mono (win_grow hbv3 _ _))
     clear hbv3
     (try clear a0 a1 a2 a3 a4 a5 a6)
     (try clear b0)
     (try clear c0 c1 c2 c3)
     (try clear d0 d1 d2 d3 d4 d5 d6)
     obtain⟨a0,a1,a2,a3,a4,a5,a6⟩:=cells7 R3_v3.o
     obtain⟨c0,c1,c2,c3⟩:=cells4 R5_v3.o
     obtain⟨d0,d1,d2,d3,d4,d5,d6⟩:=cells7 R9_v3.o
     go_wp2_with fail
     have HS:Hid (∀W,v3.grownBy W (some (w.heap.size+1+1+1))→W.cell? ⟨v0.heap.size,0,none⟩=some (.slice al2 h.log.length cl2)∧W.cell? ⟨v0.heap.size,1,none⟩=some (.int .i64 h.sums.a)∧W.cell? ⟨v0.heap.size,2,none⟩=some (.int .i64 h.sums.b)∧W.cell? ⟨v0.heap.size,3,none⟩=some (.int .i64 h.sums.c)∧W.cell? ⟨v0.heap.size,4,none⟩=some (.int .i64 h.sums.d)∧W.cell? ⟨v0.heap.size,5,none⟩=some (.slice ar2 h.ready.length cr2)∧W.cell? ⟨v0.heap.size,6,none⟩=some (.slice ad2 h.done.length cd2)∧W.cell? ⟨w.heap.size+1+1,1,none⟩=some (.int .i64 dd)∧W.cell? ⟨w.heap.size+1,0,none⟩=some (.int .i64 me)):=fun W hW=>by
      have k:∀(b o:Nat) (u:Value),b≠w.heap.size+1+1+1→v3.cell? ⟨b,o,none⟩=some u→W.cell? ⟨b,o,none⟩=some u:=fun b o u hb e=>by
       rw [by_cell hW (World.block_lt_of_cell? v3 _ e) hb];exact e
      obtain⟨d0,d1,d2,d3,d4,d5,d6⟩:=cells7 R9_v3.o
      obtain⟨-,c1,-,-⟩:=cells4 R5_v3.o
      have hz:=HZ9.o
      exact⟨k _ _ _ (by omega) d0,k _ _ _ (by omega) d1,k _ _ _ (by omega) d2,k _ _ _ (by omega) d3,k _ _ _ (by omega) d4,k _ _ _ (by omega) d5,k _ _ _ (by omega) d6,k _ _ _ (by omega) c1,k _ _ _ (by omega) (cell1 R4_v3.o)⟩
     (try clear a0 a1 a2 a3 a4 a5 a6)
     (try clear c0 c1 c2 c3)
     (try clear d0 d1 d2 d3 d4 d5 d6)
     refine but_start (fun w'=>w'.cell? ⟨v0.heap.size,0,none⟩=some (.slice al2 h.log.length cl2)∧w'.cell? ⟨v0.heap.size,1,none⟩=some (.int .i64 h.sums.a)∧w'.cell? ⟨v0.heap.size,2,none⟩=some (.int .i64 h.sums.b)∧w'.cell? ⟨v0.heap.size,3,none⟩=some (.int .i64 h.sums.c)∧w'.cell? ⟨v0.heap.size,4,none⟩=some (.int .i64 h.sums.d)∧w'.cell? ⟨v0.heap.size,5,none⟩=some (.slice ar2 h.ready.length cr2)∧w'.cell? ⟨v0.heap.size,6,none⟩=some (.slice ad2 h.done.length cd2)∧w'.cell? ⟨w.heap.size+1+1,1,none⟩=some (.int .i64 dd)∧w'.cell? ⟨w.heap.size+1,0,none⟩=some (.int .i64 me)) 4 (by kernel_rfl) ?_
     obtain⟨wd,hWd⟩:∃x:World,x=v3.drew:=⟨_,rfl⟩
     rw [←hWd]
     have GD:Grow v3 wd:=by rw [hWd];exact(Grow.refl _).drew
     have zD:v3.heap.size=wd.heap.size:=by rw [hWd];rfl
     have ZD:=η zD
     clear hWd zD
     refine bLm [0,1] 6 (by kernel_rfl) (fun _ _ _ _ _ h=>h) (HS.o _ (grownBy_of_grow GD _)) ?_
     repeat (refine tNm (v:=?_) rfl (by rfl) ?_ ?_;rotate_left;(· (intro w' hSw;(try dsimp only at hSw);obtain⟨hs0,hs1,hs2,hs3,hs4,hs5,hs6,hs7,hs8⟩:=hSw;go_simp<;>with_reducible rfl));try simp only [Act.put,lzA,lzB,lzC,lzD,lzE,lzF])
     refine tEm ?_
     refine bO 2 (by kernel_rfl) rfl ?_
     intro K HK
     try simp only [lzA,lzB,lzC]
     go_simp
     go_at_call 99
     refine(house_say (B5:=w.heap.size+1+1) (B4:=w.heap.size+1) wd (HS.o _ (grownBy_of_grow GD _)).2.2.2.2.2.2.2.1 (HS.o _ (grownBy_of_grow GD _)).2.2.2.2.2.2.2.2 (Nat.lt_of_lt_of_le (γ R5_v3.o) GD.size) (Nat.lt_of_lt_of_le (γ R4_v3.o) GD.size) (show I64 6 from by unfold I64;decide) HMS.o.2.2.1 HME.o).mono ?_
     rintro e wq ⟨vq,rfl,hq,hbq⟩
     have HQ:Hid (Sl Ty.ms (win wd.heap.size wq.heap.size wq) vq (sayE 6 dd me)):=η (hq.mono (win_ov _ _))
     have HBQ:=η hbq
     clear hq hbq
     refine HK.o _ _ ⟨fun _=>HS.o _ (grownBy_of_grow (GD.trans HBQ.o) _),?_⟩
     clear HK K
     try simp only [Act.put,lzA,lzB,lzC,lzD,lzE,lzF]
     refine bO 3 (by kernel_rfl) rfl ?_
     intro K HK
     refine wanted_go rfl ?_
     try simp only [lzA,lzB,lzC]
     refine wp_store_row (.tmp 6) (.tmp 61) rfl rfl rfl (row_grow R6_v3.o (GD.trans HBQ.o)) info_hs rfl rfl ?_
     intro w7 r7 g7
     refine HK.o _ _ ⟨fun _=>HS.o _ (grownBy_trans (grownBy_of_grow (GD.trans HBQ.o) _) g7),?_⟩
     clear HK K
     try simp only [Act.put]
     refine bO 4 (by kernel_rfl) rfl ?_
     intro K HK
     try simp only [lzA,lzB,lzC]
     go_simp
     refine HK.o _ _ ⟨fun h=>absurd rfl h,?_⟩
     clear HK K
     try simp only [Act.put,lzA,lzB,lzC,lzD,lzE,lzF]
     refine but_done (by kernel_rfl) ?_
     obtain⟨p0,p1,p2,p3,p4,p5,p6⟩:=cells7 r7
     go_wp2
     refine bodyPost_ret (v:=.tuple #[.agg #[.slice al2 h.log.length cl2,.int .i64 h.sums.a,.int .i64 h.sums.b,.int .i64 h.sums.c,.int .i64 h.sums.d,.slice ar2 h.ready.length cr2,.slice ad2 h.done.length cd2],vq]) (by simp [results,Tryz.results68,go_sem,p0,p1,p2,p3,p4,p5,p6]) rfl ?_
     rw [HEH.o,HEM.o]
     have hzd:w.heap.size≤wd.heap.size:=(G_v3.o.trans GD).size
     have h6:w.heap.size+1+1+1<wd.heap.size:=Nat.lt_of_lt_of_le (γ R6_v3.o) GD.size
     refine⟨_,_,rfl,(((HY_v3.o.mono (win_grow (GD.trans HBQ.o) _ _)).mono (win_set g7 (.inl HLO.o.1))).mono (win_ovn HLO.o.2)),((HQ.o.mono (win_set g7 (.inl h6))).mono (win_ovn hzd)),((G_v3.o.trans GD).trans HBQ.o).grown g7 (fun k hk=>by simp at hk;omega)⟩
   ·as_aux_lemma=>
     have HEH:Hid (hearH h ⟨4,dd,hh,ps⟩=h):=by
      show hearH h ⟨4,dd,hh,ps⟩=h
      unfold hearH
      rw [if_neg (fun e=>by cases e),if_pos rfl,if_neg (by rw [show readyE h.ready (Ms.deed ⟨4,dd,hh,ps⟩)=false from rd];simp)]
     have HEM:Hid (hearM h me ⟨4,dd,hh,ps⟩=[]):=by
      show hearM h me ⟨4,dd,hh,ps⟩=[]
      unfold hearM
      rw [if_neg (fun e=>by cases e),if_pos rfl,HEH.o,if_neg hin]
     have HIN2:=η hin
     have RD:=η rd
     clear hin rd
     go_wp2_with fail
     refine(HIS.o _ G_v1.o (γ R3_v1.o) (cells7 R3_v1.o).2.2.2.2.2.1).mono ?_
     rw [RD.o]
     rintro e v2 ⟨rfl,hbv2⟩
     have R3_v2:=η (row_grow R3_v1.o hbv2)
     have R4_v2:=η (row_grow R4_v1.o hbv2)
     have R5_v2:=η (row_grow R5_v1.o hbv2)
     have R6_v2:=η (row_grow R6_v1.o hbv2)
     have R9_v2:=η (row_grow R9_v1.o hbv2)
     have G_v2:=η (G_v1.o.trans hbv2)
     have HY_v2:=η (HY_v1.o.mono (win_grow hbv2 _ _))
     clear hbv2
     (try clear a0 a1 a2 a3 a4 a5 a6)
     (try clear b0)
     (try clear c0 c1 c2 c3)
     (try clear d0 d1 d2 d3 d4 d5 d6)
     obtain⟨a0,a1,a2,a3,a4,a5,a6⟩:=cells7 R3_v2.o
     obtain⟨c0,c1,c2,c3⟩:=cells4 R5_v2.o
     obtain⟨d0,d1,d2,d3,d4,d5,d6⟩:=cells7 R9_v2.o
     go_wp2_with fail
     refine(contains_int (n:=dd) v2 ((Of.hs_log (HY_v2.o.mono (win_sub _ _ _))).2.2)).mono ?_
     rw [decide_eq_false HIN2.o]
     rintro e v3 ⟨rfl,hbv3⟩
     have R3_v3:=η (row_grow R3_v2.o hbv3)
     have R4_v3:=η (row_grow R4_v2.o hbv3)
     have R5_v3:=η (row_grow R5_v2.o hbv3)
     have R6_v3:=η (row_grow R6_v2.o hbv3)
     have R9_v3:=η (row_grow R9_v2.o hbv3)
     have G_v3:=η (G_v2.o.trans hbv3)
     have HY_v3:=η (HY_v2.o.mono (win_grow hbv3 _ _))
     clear hbv3
     (try clear a0 a1 a2 a3 a4 a5 a6)
     (try clear b0)
     (try clear c0 c1 c2 c3)
     (try clear d0 d1 d2 d3 d4 d5 d6)
     obtain⟨a0,a1,a2,a3,a4,a5,a6⟩:=cells7 R3_v3.o
     obtain⟨c0,c1,c2,c3⟩:=cells4 R5_v3.o
     obtain⟨d0,d1,d2,d3,d4,d5,d6⟩:=cells7 R9_v3.o
     go_wp2_with (first|(refine wpList_store_row rfl (.tmp 6) (.tmp 74) rfl rfl rfl R6_v3.o info_hs rfl rfl ?_))
     intro w7 r7 g7
     obtain⟨p0,p1,p2,p3,p4,p5,p6⟩:=cells7 r7
     (try clear a0 a1 a2 a3 a4 a5 a6)
     (try clear c0 c1 c2 c3)
     (try clear d0 d1 d2 d3 d4 d5 d6)
     go_wp2
     refine bodyPost_ret (v:=.tuple #[.agg #[.slice al2 h.log.length cl2,.int .i64 h.sums.a,.int .i64 h.sums.b,.int .i64 h.sums.c,.int .i64 h.sums.d,.slice ar2 h.ready.length cr2,.slice ad2 h.done.length cd2],.slice none 0 0]) (by simp [results,Tryz.results68,go_sem,p0,p1,p2,p3,p4,p5,p6]) rfl ?_
     rw [HEH.o,HEM.o]
     refine⟨_,_,rfl,(HY_v3.o.mono (win_set g7 (.inl HLO.o.1))).mono (win_ovn HLO.o.2),Sl.nil _ _,G_v3.o.grown g7 (fun k hk=>by simp at hk;omega)⟩
 by_cases n5:kd=5
 ·subst n5
  clear n1 n4
  cases rd:readyE h.ready dd with
  |true=>
   as_aux_lemma=>
    have HEH:Hid (hearH h ⟨5,dd,hh,ps⟩=noteE h ⟨3,dd,[]⟩):=by
     show hearH h ⟨5,dd,hh,ps⟩=noteE h ⟨3,dd,[]⟩
     unfold hearH
     rw [if_neg (fun e=>by cases e),if_neg (fun e=>by cases e),if_pos rfl,if_pos rd]
    have HEM:Hid (hearM h me ⟨5,dd,hh,ps⟩=[]):=by
     show hearM h me ⟨5,dd,hh,ps⟩=[]
     unfold hearM
     rw [if_neg (fun e=>by cases e),if_neg (fun e=>by cases e)]
    have RD:=η rd
    clear rd
    go_wp2_with fail
    refine(HIS.o _ G_v1.o (γ R3_v1.o) (cells7 R3_v1.o).2.2.2.2.2.1).mono ?_
    rw [RD.o]
    rintro e v2 ⟨rfl,hbv2⟩
    have R3_v2:=η (row_grow R3_v1.o hbv2)
    have R4_v2:=η (row_grow R4_v1.o hbv2)
    have R5_v2:=η (row_grow R5_v1.o hbv2)
    have R6_v2:=η (row_grow R6_v1.o hbv2)
    have R9_v2:=η (row_grow R9_v1.o hbv2)
    have G_v2:=η (G_v1.o.trans hbv2)
    have HY_v2:=η (HY_v1.o.mono (win_grow hbv2 _ _))
    clear hbv2
    (try clear a0 a1 a2 a3 a4 a5 a6)
    (try clear b0)
    (try clear c0 c1 c2 c3)
    (try clear d0 d1 d2 d3 d4 d5 d6)
    obtain⟨a0,a1,a2,a3,a4,a5,a6⟩:=cells7 R3_v2.o
    obtain⟨c0,c1,c2,c3⟩:=cells4 R5_v2.o
    obtain⟨d0,d1,d2,d3,d4,d5,d6⟩:=cells7 R9_v2.o
    go_wp2_with fail
    refine(HNT.o ⟨3,dd,[]⟩ _ _ G_v2.o ⟨_,rfl,_,rfl,(show I64 3 from by unfold I64;decide),HMS.o.2.2.1,Sl.nil _ _⟩ (by intro p hp;simp at hp) (by simp)).mono ?_
    rintro e v3 ⟨vx,rfl,hX,hbv3⟩
    generalize noteE h ⟨3,dd,[]⟩=x at*
    obtain⟨al3,cl3,ar3,cr3,ad3,cd3,rfl⟩:=hX.hs_form
    have HX1:Hid (Of Ty.hs (win v2.heap.size v3.heap.size v3) _ x):=η (hX.mono (win_ov _ _))
    have HZV:Hid (v0.heap.size<v2.heap.size):=η (γ R9_v2.o)
    have R3_v3:=η (row_grow R3_v2.o hbv3)
    have R4_v3:=η (row_grow R4_v2.o hbv3)
    have R5_v3:=η (row_grow R5_v2.o hbv3)
    have R6_v3:=η (row_grow R6_v2.o hbv3)
    have R9_v3:=η (row_grow R9_v2.o hbv3)
    have G_v3:=η (G_v2.o.trans hbv3)
    clear hX hbv3
    (try clear a0 a1 a2 a3 a4 a5 a6)
    (try clear b0)
    (try clear c0 c1 c2 c3)
    (try clear d0 d1 d2 d3 d4 d5 d6)
    obtain⟨a0,a1,a2,a3,a4,a5,a6⟩:=cells7 R3_v3.o
    obtain⟨c0,c1,c2,c3⟩:=cells4 R5_v3.o
    obtain⟨d0,d1,d2,d3,d4,d5,d6⟩:=cells7 R9_v3.o
    go_wp2_with (first|(refine wpList_store_row rfl (.tmp 9) (.tmp 73) rfl rfl rfl R9_v3.o info_hs rfl rfl ?_))
    intro v4 r2 g2
    have R9_v4:=η r2
    have R3_v4:Hid (v4.heap[w.heap.size]? =_):=η (row_by R3_v3.o g2 (by have:=HZ9.o;simp;omega))
    have R4_v4:Hid (v4.heap[w.heap.size+1]? =_):=η (row_by R4_v3.o g2 (by have:=HZ9.o;simp;omega))
    have R5_v4:Hid (v4.heap[w.heap.size+1+1]? =_):=η (row_by R5_v3.o g2 (by have:=HZ9.o;simp;omega))
    have R6_v4:Hid (v4.heap[w.heap.size+1+1+1]? =_):=η (row_by R6_v3.o g2 (by have:=HZ9.o;simp;omega))
    have G_v4:=η (G_v3.o.grown g2 (fun k hk=>by have:=HZ9.o;simp at hk;omega))
    have HY_v4:=η (HX1.o.mono (win_set g2 (.inl HZV.o)))
    have HLN:Hid (w.heap.size+1+1+1<v2.heap.size∧w.heap.size≤v2.heap.size):=η (by have:=HZ9.o;have:=HZV.o;omega)
    clear r2 g2 HX1
    (try clear a0 a1 a2 a3 a4 a5 a6)
    (try clear b0)
    (try clear c0 c1 c2 c3)
    (try clear d0 d1 d2 d3 d4 d5 d6)
    obtain⟨a0,a1,a2,a3,a4,a5,a6⟩:=cells7 R3_v4.o
    obtain⟨c0,c1,c2,c3⟩:=cells4 R5_v4.o
    obtain⟨d0,d1,d2,d3,d4,d5,d6⟩:=cells7 R9_v4.o
    go_wp2_with (first|(refine wpList_store_row rfl (.tmp 6) (.tmp 74) rfl rfl rfl R6_v4.o info_hs rfl rfl ?_))
    intro w7 r7 g7
    obtain⟨p0,p1,p2,p3,p4,p5,p6⟩:=cells7 r7
    (try clear a0 a1 a2 a3 a4 a5 a6)
    (try clear c0 c1 c2 c3)
    (try clear d0 d1 d2 d3 d4 d5 d6)
    go_wp2
    refine bodyPost_ret (v:=.tuple #[.agg #[.slice al3 x.log.length cl3,.int .i64 x.sums.a,.int .i64 x.sums.b,.int .i64 x.sums.c,.int .i64 x.sums.d,.slice ar3 x.ready.length cr3,.slice ad3 x.done.length cd3],.slice none 0 0]) (by simp [results,Tryz.results68,go_sem,p0,p1,p2,p3,p4,p5,p6]) rfl ?_
    rw [HEH.o,HEM.o]
    refine⟨_,_,rfl,(HY_v4.o.mono (win_set g7 (.inl HLN.o.1))).mono (win_ovn HLN.o.2),Sl.nil _ _,G_v4.o.grown g7 (fun k hk=>by simp at hk;omega)⟩
  |false=>
   as_aux_lemma=>
    have HEH:Hid (hearH h ⟨5,dd,hh,ps⟩=h):=by
     show hearH h ⟨5,dd,hh,ps⟩=h
     unfold hearH
     rw [if_neg (fun e=>by cases e),if_neg (fun e=>by cases e),if_pos rfl,if_neg (by rw [show readyE h.ready (Ms.deed ⟨5,dd,hh,ps⟩)=false from rd];simp)]
    have HEM:Hid (hearM h me ⟨5,dd,hh,ps⟩=[]):=by
     show hearM h me ⟨5,dd,hh,ps⟩=[]
     unfold hearM
     rw [if_neg (fun e=>by cases e),if_neg (fun e=>by cases e)]
    have RD:=η rd
    clear rd
    go_wp2_with fail
    refine(HIS.o _ G_v1.o (γ R3_v1.o) (cells7 R3_v1.o).2.2.2.2.2.1).mono ?_
    rw [RD.o]
    rintro e v2 ⟨rfl,hbv2⟩
    have R3_v2:=η (row_grow R3_v1.o hbv2)
    have R4_v2:=η (row_grow R4_v1.o hbv2)
    have R5_v2:=η (row_grow R5_v1.o hbv2)
    have R6_v2:=η (row_grow R6_v1.o hbv2)
    have R9_v2:=η (row_grow R9_v1.o hbv2)
    have G_v2:=η (G_v1.o.trans hbv2)
    have HY_v2:=η (HY_v1.o.mono (win_grow hbv2 _ _))
    clear hbv2
    (try clear a0 a1 a2 a3 a4 a5 a6)
    (try clear b0)
    (try clear c0 c1 c2 c3)
    (try clear d0 d1 d2 d3 d4 d5 d6)
    obtain⟨a0,a1,a2,a3,a4,a5,a6⟩:=cells7 R3_v2.o
    obtain⟨c0,c1,c2,c3⟩:=cells4 R5_v2.o
    obtain⟨d0,d1,d2,d3,d4,d5,d6⟩:=cells7 R9_v2.o
    go_wp2_with (first|(refine wpList_store_row rfl (.tmp 6) (.tmp 74) rfl rfl rfl R6_v2.o info_hs rfl rfl ?_))
    intro w7 r7 g7
    obtain⟨p0,p1,p2,p3,p4,p5,p6⟩:=cells7 r7
    (try clear a0 a1 a2 a3 a4 a5 a6)
    (try clear c0 c1 c2 c3)
    (try clear d0 d1 d2 d3 d4 d5 d6)
    go_wp2
    refine bodyPost_ret (v:=.tuple #[.agg #[.slice al2 h.log.length cl2,.int .i64 h.sums.a,.int .i64 h.sums.b,.int .i64 h.sums.c,.int .i64 h.sums.d,.slice ar2 h.ready.length cr2,.slice ad2 h.done.length cd2],.slice none 0 0]) (by simp [results,Tryz.results68,go_sem,p0,p1,p2,p3,p4,p5,p6]) rfl ?_
    rw [HEH.o,HEM.o]
    refine⟨_,_,rfl,(HY_v2.o.mono (win_set g7 (.inl HLO.o.1))).mono (win_ovn HLO.o.2),Sl.nil _ _,G_v2.o.grown g7 (fun k hk=>by simp at hk;omega)⟩
 ·as_aux_lemma=>
   have HEH:Hid (hearH h ⟨kd,dd,hh,ps⟩=h):=by
    show hearH h ⟨kd,dd,hh,ps⟩=h
    unfold hearH
    rw [if_neg n1,if_neg n4,if_neg n5]
   have HEM:Hid (hearM h me ⟨kd,dd,hh,ps⟩=[]):=by
    show hearM h me ⟨kd,dd,hh,ps⟩=[]
    unfold hearM
    rw [if_neg n1,if_neg n4]
   have b1:(kd==1)=false:=by simpa using n1
   have b4:(kd==4)=false:=by simpa using n4
   have b5:(kd==5)=false:=by simpa using n5
   clear n1 n4 n5
   go_wp2_with (first|(refine wpList_store_row rfl (.tmp 6) (.tmp 74) rfl rfl rfl R6_v1.o info_hs rfl rfl ?_))
   intro w7 r7 g7
   obtain⟨p0,p1,p2,p3,p4,p5,p6⟩:=cells7 r7
   (try clear a0 a1 a2 a3 a4 a5 a6)
   (try clear c0 c1 c2 c3)
   (try clear d0 d1 d2 d3 d4 d5 d6)
   go_wp2
   refine bodyPost_ret (v:=.tuple #[.agg #[.slice al2 h.log.length cl2,.int .i64 h.sums.a,.int .i64 h.sums.b,.int .i64 h.sums.c,.int .i64 h.sums.d,.slice ar2 h.ready.length cr2,.slice ad2 h.done.length cd2],.slice none 0 0]) (by simp [results,Tryz.results68,go_sem,p0,p1,p2,p3,p4,p5,p6]) rfl ?_
   rw [HEH.o,HEM.o]
   refine⟨_,_,rfl,(HY_v1.o.mono (win_set g7 (.inl HLO.o.1))).mono (win_ovn HLO.o.2),Sl.nil _ _,G_v1.o.grown g7 (fun k hk=>by simp at hk;omega)⟩
end Go.Proofs.YthfgeelcbcgahaaGreatDoor
