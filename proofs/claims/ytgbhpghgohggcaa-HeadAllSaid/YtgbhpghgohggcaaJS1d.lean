/- The parts that laws are proved of, joined: U16, U17, U18, Z7, Z75, Z8, U19, N610, N6R, N6N, N6F, N64R, N64D, N64N, N65R, N65N, N6O, N7. No condition beside those that each theorem names. -/
import Derived.Deep.DeepCutAuto
import Derived.Test.YtgbhpghgohggcaaJS1c
namespace Go.Proofs.Ytgbhpghgohggcaa
open Go.RowKit
set_option maxRecDepth 100000 in
set_option maxHeartbeats 4000000 in
theorem ref_do_tick3 {c:CM} {v vs:Value} {x:AW} {sn:Int} {sp:List Pt} {n:Nat} {G:Reg} {k:Nat} (w:World) (hc:Sub c w.cell?) (hv:Of Ty.wd c v x) (hs:Of Ty.st c vs ⟨6,sn,sp⟩) (hi:WI n G x) (hf:Few k x) (hk:k≤1000) (h3:sn=3):
  Calls Try.prog 138 #[v,vs] w fun e w'=>∃v',e=.returned (.tuple #[v',.int .i64 (doErr x ⟨6,sn,sp⟩)])∧Of Ty.wd (ov c w w') v' (doA x ⟨6,sn,sp⟩)∧Grow w w':=by
 obtain⟨al,cl,ao,co,ah,ch,an,cn,rfl⟩:=hv.wd_form
 obtain⟨ap,cp,rfl⟩:=hs.st_form
 obtain⟨q1,q2,q3⟩:=hv.wd_parts
 have HQ1:=η q1
 have HQ2:=η q2
 have HQ3:=η q3
 have HSP:=η hs.st_parts
 have HHD:=η (hi.hdok hf hk)
 have HWI:=η hi
 have HV:=η hv
 have HC:=η hc
 have H3:=η h3
 clear h3
 clear hc hv hs q1 q2 q3 hi hf
 obtain⟨wa,hwa⟩:∃y:World,y=w.alloc (.cells #[.slice al x.head.log.length cl,.int .i64 x.head.boot,.int .i64 x.head.next,.slice ao x.head.opn.length co,.slice ah x.houses.length ch,.slice an x.net.length cn] 93):=⟨_,rfl⟩
 obtain⟨wb,hwb⟩:∃y:World,y=wa.alloc (.cells #[.int .i64 6,.int .i64 sn,.slice ap sp.length cp] 164):=⟨_,rfl⟩
 obtain⟨wz,hwz⟩:∃y:World,y=wb.alloc (.cells #[.slice none 0 0,.int .i64 0,.int .i64 0,.slice none 0 0,.slice none 0 0,.slice none 0 0] 93):=⟨_,rfl⟩
 have hsa:wa.heap.size=w.heap.size+1:=by rw [hwa];simp
 have hsb:wb.heap.size=w.heap.size+2:=by rw [hwb];simp [hsa]
 have R2:Hid (wz.heap[w.heap.size]? =some (.cells #[.slice al x.head.log.length cl,.int .i64 x.head.boot,.int .i64 x.head.next,.slice ao x.head.opn.length co,.slice ah x.houses.length ch,.slice an x.net.length cn] 93 (0,0))):=η (by rw [hwz,hwb,hwa];exact heap_later (heap_later (row_new _ _) _) _)
 have R3:Hid (wz.heap[w.heap.size+1]? =some (.cells #[.int .i64 6,.int .i64 sn,.slice ap sp.length cp] 164 (0,0))):=η (by rw [hwz,hwb,←hsa];exact heap_later (row_new _ _) _)
 have R4:Hid (wz.heap[w.heap.size+2]? =some (.cells #[.slice none 0 0,.int .i64 0,.int .i64 0,.slice none 0 0,.slice none 0 0,.slice none 0 0] 93 (0,0))):=η (by rw [hwz,←hsb];exact row_new _ _)
 have G1:Hid (Grow w wz):=η (by rw [hwz,hwb,hwa];exact(((Grow.refl w).alloc _).alloc _).alloc _)
 have HZ:Hid (wz.heap.size=w.heap.size+3):=η (by rw [hwz];simp [hsb])
 go_enter Try.func138,Try.ntmps138
 go_upto_region 1 with fail
 rw [←hwa]
 try rw [hsa]
 rw [←hwb]
 try rw [hsb]
 rw [←hwz]
 clear hwa hwb hwz hsa hsb
 obtain⟨c0,c1,c2,c3,c4,c5⟩:=cells6 R2.o
 obtain⟨d0,d1,d2⟩:=cells3 R3.o
 have z2:w.heap.size<wz.heap.size:=(γ R2.o)
 have z3:w.heap.size+1<wz.heap.size:=(γ R3.o)
 go_cut [6] from 22 (fun s6 wc=>s6=.bool (there x sn)∧wz=wc)
 case first=>
  by_cases h0:0≤sn
  ·by_cases h1:sn<(x.net.length:Int)
   ·go_wp2
    go_meet
    case rel=>exact⟨by first|rfl|(simp [there,h0,h1];done),rfl⟩
   ·go_wp2
    go_meet
    case rel=>exact⟨by first|rfl|(simp [there,h0,h1];done)|(simp [there,h0];omega),rfl⟩
  ·go_wp2
   go_meet
   case rel=>exact⟨by first|rfl|(simp [there];done)|(simp [there];omega),rfl⟩
 case rest=>
 obtain⟨rfl,rfl⟩:=hcut
 have HE:Hid (doA x ⟨6,sn,sp⟩={ x with net:=sendA x.net (tickE x.head) }):=η (by unfold doA tickA;simp [H3.o])
 have HE2:Hid (doErr x ⟨6,sn,sp⟩=0):=η (by unfold doErr;simp [H3.o])
 have hb33:(sn==3)=true:=by simp [H3.o]
 have HRT:Hid (∀m∈tickE x.head,wrongM m=0):=η (WI.says (tickE_ok HWI.o.core))
 have H24:=η HWI.o.len
 clear H3
 go_upto_region 41 with fail
 have HS:Hid (∀W,Grow wz W→W.cell? ⟨w.heap.size,0,none⟩=some (.slice al x.head.log.length cl)∧W.cell? ⟨w.heap.size,1,none⟩=some (.int .i64 x.head.boot)∧W.cell? ⟨w.heap.size,2,none⟩=some (.int .i64 x.head.next)∧W.cell? ⟨w.heap.size,3,none⟩=some (.slice ao x.head.opn.length co)∧W.cell? ⟨w.heap.size,5,none⟩=some (.slice an x.net.length cn)):=fun W hW=>by
  obtain⟨j0,j1,j2,j3,-,j5⟩:=cells6 (row_grow R2.o hW)
  exact⟨j0,j1,j2,j3,j5⟩
 clear c0 c1 c2 c3 c4 c5 d0 d1 d2 z2 z3
 refine but_start (fun w'=>w'.cell? ⟨w.heap.size,0,none⟩=some (.slice al x.head.log.length cl)∧w'.cell? ⟨w.heap.size,1,none⟩=some (.int .i64 x.head.boot)∧w'.cell? ⟨w.heap.size,2,none⟩=some (.int .i64 x.head.next)∧w'.cell? ⟨w.heap.size,3,none⟩=some (.slice ao x.head.opn.length co)∧w'.cell? ⟨w.heap.size,5,none⟩=some (.slice an x.net.length cn)) 7 (by kernel_rfl) ?_
 obtain⟨wd,hWd⟩:∃x:World,x=wz.drew:=⟨_,rfl⟩
 rw [←hWd]
 have GD:Grow wz wd:=by rw [hWd];exact(Grow.refl _).drew
 have zD:wz.heap.size=wd.heap.size:=by rw [hWd];rfl
 have ZD:=η zD
 clear hWd zD
 refine bLm [0] 12 (by kernel_rfl) (fun _ _ _ _ _ h=>h) (HS.o _ GD) ?_
 repeat (refine tNm (v:=?_) rfl (by rfl) ?_ ?_;rotate_left;(· (intro w' hSw;(try dsimp only at hSw);obtain⟨hs0,hs1,hs2,hs3,hs4⟩:=hSw;go_simp<;>with_reducible rfl));try simp only [Act.put,lzA,lzC,lzD,lzE,lzF])
 refine tEm ?_
 refine bLm [1,2,3] 12 (by kernel_rfl) (fun _ _ _ _ _ h=>h) (HS.o _ GD) ?_
 repeat (refine tNm (v:=?_) rfl (by rfl) ?_ ?_;rotate_left;(· (intro w' hSw;(try dsimp only at hSw);obtain⟨hs0,hs1,hs2,hs3,hs4⟩:=hSw;go_simp<;>with_reducible rfl));try simp only [Act.put,lzA,lzB,lzC,lzD,lzE,lzF])
 refine tEm ?_
 refine bO 4 (by kernel_rfl) rfl ?_
 intro K HK
 try simp only [lzA,lzB,lzC]
 go_simp
 go_at_call 109
 refine(ref_headTick _ (HQ1.o.mono (HC.o.trans (G1.o.trans GD).sub)) HHD.o).mono ?_
 rintro e1 w1 ⟨v1,rfl,ho1,hb1⟩
 obtain⟨a1,c1,rfl⟩:=ho1.form
 have HM1:=η (ho1.sl (by decide) (fr_sub _ _ _))
 have GT1:=η (Grow.trans GD hb1)
 clear ho1 hb1
 generalize tickE x.head=qm at*
 refine HK.o _ _ ⟨fun _=>HS.o _ GT1.o,?_⟩
 clear HK K
 try simp only [Act.put,lzA,lzB,lzC,lzD,lzE,lzF]
 refine bO 5 (by kernel_rfl) rfl ?_
 intro K HK
 try simp only [lzA,lzB,lzC]
 go_simp
 go_at_call 70
 refine(ref_sendC (c:=c) (l:=x.net.map bytesM) (ms:=qm) _ (HC.o.trans (G1.o.trans GT1.o).sub) ?nv HM1.o HRT.o (by rw [List.length_map];have:=H24.o;omega)).mono ?_
 case nv=>have h9:=HQ3.o;simpa using h9
 rintro e3 w3 ⟨v3,rfl,hn3,hb3⟩
 obtain⟨a3,c3,rfl,-⟩:=id hn3
 have HN3:=η hn3
 have G3:=η (Grow.trans GT1.o hb3)
 have ZDW:=η (GT1.o).size
 clear hn3 hb3
 rw [send_map,List.length_map]
 refine HK.o _ _ ⟨fun _=>HS.o _ G3.o,?_⟩
 clear HK K
 try simp only [Act.put,lzA,lzB,lzC,lzD,lzE,lzF]
 refine bO 6 (by kernel_rfl) rfl ?_
 intro K HK
 try simp only [lzA,lzB,lzC]
 go_simp
 refine HK.o _ _ ⟨fun _=>HS.o _ G3.o,?_⟩
 clear HK K
 try simp only [Act.put,lzA,lzB,lzC,lzD,lzE,lzF]
 refine bO 7 (by kernel_rfl) rfl ?_
 intro K HK
 refine wanted_go rfl ?_
 try simp only [lzA,lzB,lzC]
 refine wp_store_cell (.tmp 220) (.tmp 219) (v:=.slice a3 (sendA x.net qm).length c3) (new:=#[.slice al x.head.log.length cl,.int .i64 x.head.boot,.int .i64 x.head.next,.slice ao x.head.opn.length co,.slice ah x.houses.length ch,.slice a3 (sendA x.net qm).length c3]) rfl rfl (by rfl) (by rfl) (row_grow R2.o G3.o) info_nets (by simp) (by rfl) (by rfl) ?_
 intro w5 r5 g5
 have R55:=η r5
 have HG5:=η g5
 clear r5 g5
 refine HK.o _ _ ⟨fun h=>absurd rfl h,?_⟩
 clear HK K
 try simp only [Act.put]
 refine but_done (by kernel_rfl) ?_
 have R45:=η (row_by (row_grow R4.o G3.o) HG5.o (by intro e;have:=Option.some.inj e;omega))
 have G5:=η ((G1.o.trans G3.o).grown HG5.o (fun q hq=>by simp at hq;omega))
 obtain⟨c0,c1x,c2,c3x,c4,c5⟩:=cells6 R55.o
 have z2:w.heap.size<w5.heap.size:=(γ R55.o)
 go_wp2_with (first|(refine wpList_store_row rfl (.tmp 4) (.tmp 221) rfl rfl rfl R45.o info_wd rfl rfl ?_))
 intro w7 r7 g7
 obtain⟨p0,p1,p2,p3,p4,p5⟩:=cells6 r7
 clear c0 c1x c2 c3x c4 c5
 go_wp2
 refine bodyPost_ret (v:=.tuple #[.agg #[.slice al x.head.log.length cl,.int .i64 x.head.boot,.int .i64 x.head.next,.slice ao x.head.opn.length co,.slice ah x.houses.length ch,.slice a3 (sendA x.net qm).length c3],.int .i64 0]) (by simp [results,Try.results138,go_sem,p0,p1,p2,p3,p4,p5]) rfl ?_
 have G7:=G5.o.grown g7 (fun q hq=>by simp at hq;omega)
 rw [HE.o,HE2.o]
 refine⟨_,rfl,Of.wd_mk (HQ1.o.mono (ov_in HC.o)) (HQ2.o.mono (ov_in HC.o)) ?_,G7⟩
 have h9:=HN3.o
 rw [send_map] at h9
 refine Sl.mono (fun a u e=>?_) (show Nts _ _ _ from by simpa using h9)
 have hgd:=ZDW.o
 have hz:=HZ.o
 have e5:=ov_past (w:=w) HG5.o (Nat.le_refl _) (by omega) a u e
 have e7:=ov_past (w:=w) g7 (by omega) (by omega) a u e5
 exact ovz_sub HC.o (G1.o.trans GT1.o) a u e7
set_option maxRecDepth 100000 in
set_option maxHeartbeats 4000000 in
theorem ref_do_tickN {c:CM} {v vs:Value} {x:AW} {sn:Int} {sp:List Pt} {n:Nat} {G:Reg} {k:Nat} (w:World) (hc:Sub c w.cell?) (hv:Of Ty.wd c v x) (hs:Of Ty.st c vs ⟨6,sn,sp⟩) (hi:WI n G x) (hf:Few k x) (hk:k≤1000) (h3:¬sn=3) (hh:hereN x sn=false):
  Calls Try.prog 138 #[v,vs] w fun e w'=>∃v',e=.returned (.tuple #[v',.int .i64 (doErr x ⟨6,sn,sp⟩)])∧Of Ty.wd (ov c w w') v' (doA x ⟨6,sn,sp⟩)∧Grow w w':=by
 obtain⟨al,cl,ao,co,ah,ch,an,cn,rfl⟩:=hv.wd_form
 obtain⟨ap,cp,rfl⟩:=hs.st_form
 obtain⟨q1,q2,q3⟩:=hv.wd_parts
 have HQ1:=η q1
 have HQ2:=η q2
 have HQ3:=η q3
 have HSP:=η hs.st_parts
 have HHD:=η (hi.hdok hf hk)
 have HWI:=η hi
 have HV:=η hv
 have HC:=η hc
 clear hc hv hs q1 q2 q3 hi hf
 obtain⟨wa,hwa⟩:∃y:World,y=w.alloc (.cells #[.slice al x.head.log.length cl,.int .i64 x.head.boot,.int .i64 x.head.next,.slice ao x.head.opn.length co,.slice ah x.houses.length ch,.slice an x.net.length cn] 93):=⟨_,rfl⟩
 obtain⟨wb,hwb⟩:∃y:World,y=wa.alloc (.cells #[.int .i64 6,.int .i64 sn,.slice ap sp.length cp] 164):=⟨_,rfl⟩
 obtain⟨wz,hwz⟩:∃y:World,y=wb.alloc (.cells #[.slice none 0 0,.int .i64 0,.int .i64 0,.slice none 0 0,.slice none 0 0,.slice none 0 0] 93):=⟨_,rfl⟩
 have hsa:wa.heap.size=w.heap.size+1:=by rw [hwa];simp
 have hsb:wb.heap.size=w.heap.size+2:=by rw [hwb];simp [hsa]
 have R2:Hid (wz.heap[w.heap.size]? =some (.cells #[.slice al x.head.log.length cl,.int .i64 x.head.boot,.int .i64 x.head.next,.slice ao x.head.opn.length co,.slice ah x.houses.length ch,.slice an x.net.length cn] 93 (0,0))):=η (by rw [hwz,hwb,hwa];exact heap_later (heap_later (row_new _ _) _) _)
 have R3:Hid (wz.heap[w.heap.size+1]? =some (.cells #[.int .i64 6,.int .i64 sn,.slice ap sp.length cp] 164 (0,0))):=η (by rw [hwz,hwb,←hsa];exact heap_later (row_new _ _) _)
 have R4:Hid (wz.heap[w.heap.size+2]? =some (.cells #[.slice none 0 0,.int .i64 0,.int .i64 0,.slice none 0 0,.slice none 0 0,.slice none 0 0] 93 (0,0))):=η (by rw [hwz,←hsb];exact row_new _ _)
 have G1:Hid (Grow w wz):=η (by rw [hwz,hwb,hwa];exact(((Grow.refl w).alloc _).alloc _).alloc _)
 have HZ:Hid (wz.heap.size=w.heap.size+3):=η (by rw [hwz];simp [hsb])
 go_enter Try.func138,Try.ntmps138
 go_upto_region 1 with fail
 rw [←hwa]
 try rw [hsa]
 rw [←hwb]
 try rw [hsb]
 rw [←hwz]
 clear hwa hwb hwz hsa hsb
 obtain⟨c0,c1,c2,c3,c4,c5⟩:=cells6 R2.o
 obtain⟨d0,d1,d2⟩:=cells3 R3.o
 have z2:w.heap.size<wz.heap.size:=(γ R2.o)
 have z3:w.heap.size+1<wz.heap.size:=(γ R3.o)
 go_cut [6] from 22 (fun s6 wc=>s6=.bool (there x sn)∧wz=wc)
 case first=>
  by_cases h0:0≤sn
  ·by_cases h1:sn<(x.net.length:Int)
   ·go_wp2
    go_meet
    case rel=>exact⟨by first|rfl|(simp [there,h0,h1];done),rfl⟩
   ·go_wp2
    go_meet
    case rel=>exact⟨by first|rfl|(simp [there,h0,h1];done)|(simp [there,h0];omega),rfl⟩
  ·go_wp2
   go_meet
   case rel=>exact⟨by first|rfl|(simp [there];done)|(simp [there];omega),rfl⟩
 case rest=>
 obtain⟨rfl,rfl⟩:=hcut
 have HE:Hid (doA x ⟨6,sn,sp⟩=x):=η (by unfold doA;simp [h3,hh])
 have HE2:Hid (doErr x ⟨6,sn,sp⟩=6):=η (by unfold doErr;simp [h3,hh])
 have hb33:(sn==3)=false:=by simp [h3]
 have hor:sn<0∨(x.houses.length:Int)≤sn:=by have:=of_decide_eq_false hh;omega
 clear h3 hh
 by_cases hl:sn<0
 ·clear hor
  go_wp2_with (first|(refine wpList_store_row rfl (.tmp 4) (.tmp 233) rfl rfl rfl R4.o info_wd rfl rfl ?_))
  intro w7 r7 g7
  obtain⟨p0,p1,p2,p3,p4,p5⟩:=cells6 r7
  clear c0 c1 c2 c3 c4 c5
  go_wp2
  refine bodyPost_ret (v:=.tuple #[.agg #[.slice al x.head.log.length cl,.int .i64 x.head.boot,.int .i64 x.head.next,.slice ao x.head.opn.length co,.slice ah x.houses.length ch,.slice an x.net.length cn],.int .i64 6]) (by simp [results,Try.results138,go_sem,p0,p1,p2,p3,p4,p5]) rfl ?_
  have G7:=G1.o.grown g7 (fun q hq=>by simp at hq;omega)
  rw [HE.o,HE2.o]
  exact⟨_,rfl,HV.o.mono (ov_in HC.o),G7⟩
 have hg:(x.houses.length:Int)≤sn:=by omega
 clear hor
 go_wp2_with (first|(refine wpList_store_row rfl (.tmp 4) (.tmp 233) rfl rfl rfl R4.o info_wd rfl rfl ?_))
 intro w7 r7 g7
 obtain⟨p0,p1,p2,p3,p4,p5⟩:=cells6 r7
 clear c0 c1 c2 c3 c4 c5
 go_wp2
 refine bodyPost_ret (v:=.tuple #[.agg #[.slice al x.head.log.length cl,.int .i64 x.head.boot,.int .i64 x.head.next,.slice ao x.head.opn.length co,.slice ah x.houses.length ch,.slice an x.net.length cn],.int .i64 6]) (by simp [results,Try.results138,go_sem,p0,p1,p2,p3,p4,p5]) rfl ?_
 have G7:=G1.o.grown g7 (fun q hq=>by simp at hq;omega)
 rw [HE.o,HE2.o]
 exact⟨_,rfl,HV.o.mono (ov_in HC.o),G7⟩
set_option maxRecDepth 100000 in
set_option maxHeartbeats 4000000 in
theorem ref_do_tickH {c:CM} {v vs:Value} {x:AW} {sn:Int} {sp:List Pt} {n:Nat} {G:Reg} {k:Nat} (w:World) (hc:Sub c w.cell?) (hv:Of Ty.wd c v x) (hs:Of Ty.st c vs ⟨6,sn,sp⟩) (hi:WI n G x) (hf:Few k x) (hk:k≤1000) (hh:hereN x sn=true):
  Calls Try.prog 138 #[v,vs] w fun e w'=>∃v',e=.returned (.tuple #[v',.int .i64 (doErr x ⟨6,sn,sp⟩)])∧Of Ty.wd (ov c w w') v' (doA x ⟨6,sn,sp⟩)∧Grow w w':=by
 obtain⟨al,cl,ao,co,ah,ch,an,cn,rfl⟩:=hv.wd_form
 obtain⟨ap,cp,rfl⟩:=hs.st_form
 obtain⟨q1,q2,q3⟩:=hv.wd_parts
 have HQ1:=η q1
 have HQ2:=η q2
 have HQ3:=η q3
 have HSP:=η hs.st_parts
 have HHD:=η (hi.hdok hf hk)
 have HWI:=η hi
 have HV:=η hv
 have HC:=η hc
 have HH:=η hh
 clear hh
 clear hc hv hs q1 q2 q3 hi hf
 obtain⟨wa,hwa⟩:∃y:World,y=w.alloc (.cells #[.slice al x.head.log.length cl,.int .i64 x.head.boot,.int .i64 x.head.next,.slice ao x.head.opn.length co,.slice ah x.houses.length ch,.slice an x.net.length cn] 93):=⟨_,rfl⟩
 obtain⟨wb,hwb⟩:∃y:World,y=wa.alloc (.cells #[.int .i64 6,.int .i64 sn,.slice ap sp.length cp] 164):=⟨_,rfl⟩
 obtain⟨wz,hwz⟩:∃y:World,y=wb.alloc (.cells #[.slice none 0 0,.int .i64 0,.int .i64 0,.slice none 0 0,.slice none 0 0,.slice none 0 0] 93):=⟨_,rfl⟩
 have hsa:wa.heap.size=w.heap.size+1:=by rw [hwa];simp
 have hsb:wb.heap.size=w.heap.size+2:=by rw [hwb];simp [hsa]
 have R2:Hid (wz.heap[w.heap.size]? =some (.cells #[.slice al x.head.log.length cl,.int .i64 x.head.boot,.int .i64 x.head.next,.slice ao x.head.opn.length co,.slice ah x.houses.length ch,.slice an x.net.length cn] 93 (0,0))):=η (by rw [hwz,hwb,hwa];exact heap_later (heap_later (row_new _ _) _) _)
 have R3:Hid (wz.heap[w.heap.size+1]? =some (.cells #[.int .i64 6,.int .i64 sn,.slice ap sp.length cp] 164 (0,0))):=η (by rw [hwz,hwb,←hsa];exact heap_later (row_new _ _) _)
 have R4:Hid (wz.heap[w.heap.size+2]? =some (.cells #[.slice none 0 0,.int .i64 0,.int .i64 0,.slice none 0 0,.slice none 0 0,.slice none 0 0] 93 (0,0))):=η (by rw [hwz,←hsb];exact row_new _ _)
 have G1:Hid (Grow w wz):=η (by rw [hwz,hwb,hwa];exact(((Grow.refl w).alloc _).alloc _).alloc _)
 have HZ:Hid (wz.heap.size=w.heap.size+3):=η (by rw [hwz];simp [hsb])
 go_enter Try.func138,Try.ntmps138
 go_upto_region 1 with fail
 rw [←hwa]
 try rw [hsa]
 rw [←hwb]
 try rw [hsb]
 rw [←hwz]
 clear hwa hwb hwz hsa hsb
 obtain⟨c0,c1,c2,c3,c4,c5⟩:=cells6 R2.o
 obtain⟨d0,d1,d2⟩:=cells3 R3.o
 have z2:w.heap.size<wz.heap.size:=(γ R2.o)
 have z3:w.heap.size+1<wz.heap.size:=(γ R3.o)
 go_cut [6] from 22 (fun s6 wc=>s6=.bool (there x sn)∧wz=wc)
 case first=>
  by_cases h0:0≤sn
  ·by_cases h1:sn<(x.net.length:Int)
   ·go_wp2
    go_meet
    case rel=>exact⟨by first|rfl|(simp [there,h0,h1];done),rfl⟩
   ·go_wp2
    go_meet
    case rel=>exact⟨by first|rfl|(simp [there,h0,h1];done)|(simp [there,h0];omega),rfl⟩
  ·go_wp2
   go_meet
   case rel=>exact⟨by first|rfl|(simp [there];done)|(simp [there];omega),rfl⟩
 case rest=>
 obtain⟨rfl,rfl⟩:=hcut
 obtain⟨h0,h1⟩:0≤sn∧sn<(x.houses.length:Int):=of_decide_eq_true HH.o
 have hl3:x.houses.length≤3:=by have h8:=HWI.o.core.len;have h9:=HWI.o.core.n3;omega
 have HE:Hid (doA x ⟨6,sn,sp⟩=tickA x sn.toNat):=η (by unfold doA;simp [HH.o])
 have HE2:Hid (doErr x ⟨6,sn,sp⟩=0):=η (by unfold doErr;simp [HH.o])
 have hb33:(sn==3)=false:=by rw [beq_eq_false_iff_ne];omega
 have h0':¬sn<0:=by omega
 have h1':¬(x.houses.length:Int)≤sn:=by omega
 obtain⟨i,hi⟩:∃i:Nat,sn.toNat=i:=⟨_,rfl⟩
 have hin:i<x.houses.length:=by omega
 have HEA:Hid (tickA x sn.toNat={ x with net:=sendA x.net (hTickE x.houses[i] i) }):=η (by
  rw [hi]
  unfold tickA
  rw [if_neg (by omega),List.getElem?_eq_getElem hin])
 have HTO:=η (ticks_ok (k:=i) HWI.o.core (List.getElem?_eq_getElem hin))
 have HRL:=η (ready_len (k:=i) HWI.o.core (List.getElem?_eq_getElem hin))
 have HRT:Hid (∀m∈hTickE x.houses[i] i,wrongM m=0):=η (WI.says HTO.o)
 have H24:=η HWI.o.len
 have HIN:Hid (sn=(i:Int)):=η (by omega)
 have HSI:=η HSP.o.1
 have hq2:=HQ2.o
 obtain⟨ah',ch',he9,-,-,-,hel⟩:=hq2
 simp only [Value.slice.injEq,true_and] at he9
 obtain⟨rfl,rfl⟩:=he9
 obtain⟨bh,oh,vl,vr,vd,rfl,e0,e1,e2,e3,e4,e5,e6,hH1,s1,s2,s3,s4,hH2,hH3⟩:=Hss.at_ hel i hin
 obtain⟨il,jl,rfl,-⟩:=id hH1
 obtain⟨ir,jr,rfl,-⟩:=id hH2
 obtain⟨id9,jd,rfl,-⟩:=id hH3
 have HHS:Hid (Of Ty.hs c (.agg #[.slice il x.houses[i].log.length jl,.int .i64 x.houses[i].sums.a,.int .i64 x.houses[i].sums.b,.int .i64 x.houses[i].sums.c,.int .i64 x.houses[i].sums.d,.slice ir x.houses[i].ready.length jr,.slice id9 x.houses[i].done.length jd]) x.houses[i]):=η ⟨_,rfl,_,_,_,rfl,hH1,s1,s2,s3,s4,hH2,hH3⟩
 have HE7:=η (And.intro e0 (And.intro e1 (And.intro e2 (And.intro e3 (And.intro e4 (And.intro e5 e6))))))
 clear hel hH1 hH2 hH3 s1 s2 s3 s4 e0 e1 e2 e3 e4 e5 e6 HH h0 h1 HTO
 go_upto_region 45 with fail
 have HS:Hid (∀W,Grow wz W→W.cell? ⟨w.heap.size,4,none⟩=some (.slice (some ⟨bh,oh,none⟩) x.houses.length ch)∧W.cell? ⟨w.heap.size,5,none⟩=some (.slice an x.net.length cn)∧W.cell? ⟨w.heap.size+1,1,none⟩=some (.int .i64 sn)∧W.cell? ⟨bh,oh+i*7,none⟩=some (.slice il x.houses[i].log.length jl)∧W.cell? ⟨bh,oh+i*7+1,none⟩=some (.int .i64 x.houses[i].sums.a)∧W.cell? ⟨bh,oh+i*7+2,none⟩=some (.int .i64 x.houses[i].sums.b)∧W.cell? ⟨bh,oh+i*7+3,none⟩=some (.int .i64 x.houses[i].sums.c)∧W.cell? ⟨bh,oh+i*7+4,none⟩=some (.int .i64 x.houses[i].sums.d)∧W.cell? ⟨bh,oh+i*7+5,none⟩=some (.slice ir x.houses[i].ready.length jr)∧W.cell? ⟨bh,oh+i*7+6,none⟩=some (.slice id9 x.houses[i].done.length jd)):=fun W hW=>by
  obtain⟨-,-,-,-,j4,j5⟩:=cells6 (row_grow R2.o hW)
  obtain⟨-,f1,-⟩:=cells3 (row_grow R3.o hW)
  have gs:=HC.o.trans (G1.o.trans hW).sub
  obtain⟨e0,e1,e2,e3,e4,e5,e6⟩:=HE7.o
  exact⟨j4,j5,f1,gs _ _ e0,gs _ _ e1,gs _ _ e2,gs _ _ e3,gs _ _ e4,gs _ _ e5,gs _ _ e6⟩
 have hi0:(0:Int)≤sn:=by omega
 have hi1:sn<(x.houses.length:Int):=by omega
 clear c0 c1 c2 c3 c4 c5 d0 d1 d2 z2 z3
 rw [HEA.o] at HE
 clear HEA HE7
 generalize hgh:x.houses[i]=hh at*
 clear hgh
 refine but_start (fun w'=>w'.cell? ⟨w.heap.size,4,none⟩=some (.slice (some ⟨bh,oh,none⟩) x.houses.length ch)∧w'.cell? ⟨w.heap.size,5,none⟩=some (.slice an x.net.length cn)∧w'.cell? ⟨w.heap.size+1,1,none⟩=some (.int .i64 sn)∧w'.cell? ⟨bh,oh+i*7,none⟩=some (.slice il hh.log.length jl)∧w'.cell? ⟨bh,oh+i*7+1,none⟩=some (.int .i64 hh.sums.a)∧w'.cell? ⟨bh,oh+i*7+2,none⟩=some (.int .i64 hh.sums.b)∧w'.cell? ⟨bh,oh+i*7+3,none⟩=some (.int .i64 hh.sums.c)∧w'.cell? ⟨bh,oh+i*7+4,none⟩=some (.int .i64 hh.sums.d)∧w'.cell? ⟨bh,oh+i*7+5,none⟩=some (.slice ir hh.ready.length jr)∧w'.cell? ⟨bh,oh+i*7+6,none⟩=some (.slice id9 hh.done.length jd)) 13 (by kernel_rfl) ?_
 obtain⟨wd,hWd⟩:∃x:World,x=wz.drew:=⟨_,rfl⟩
 rw [←hWd]
 have GD:Grow wz wd:=by rw [hWd];exact(Grow.refl _).drew
 have zD:wz.heap.size=wd.heap.size:=by rw [hWd];rfl
 have ZD:=η zD
 clear hWd zD
 refine bLm [0] 18 (by kernel_rfl) (fun _ _ _ _ _ h=>h) (HS.o _ GD) ?_
 repeat (refine tNm (v:=?_) rfl (by rfl) ?_ ?_;rotate_left;(· (intro w' hSw;(try dsimp only at hSw);obtain⟨hs0,hs1,hs2,hs3,hs4,hs5,hs6,hs7,hs8,hs9⟩:=hSw;go_simp<;>with_reducible rfl));try simp only [Act.put,lzA,lzC,lzD,lzE,lzF])
 refine tEm ?_
 refine bLm [1,2,3,4,5,6,7,8,9] 18 (by kernel_rfl) (fun _ _ _ _ _ h=>h) (HS.o _ GD) ?_
 repeat (refine tNm (v:=?_) rfl (by rfl) ?_ ?_;rotate_left;(· (intro w' hSw;(try dsimp only at hSw);obtain⟨hs0,hs1,hs2,hs3,hs4,hs5,hs6,hs7,hs8,hs9⟩:=hSw;go_simp<;>with_reducible rfl));try simp only [Act.put,lzA,lzB,lzC,lzD,lzE,lzF])
 refine tEm ?_
 refine bO 10 (by kernel_rfl) rfl ?_
 intro K HK
 try simp only [lzA,lzB,lzC]
 go_simp
 go_at_call 55
 refine(ref_houseTick (h:=hh) _ (HHS.o.mono (HC.o.trans (G1.o.trans GD).sub)) HSI.o (by have:=HRL.o;omega)).mono ?_
 rintro e1 w1 ⟨v1,rfl,ho1,hb1⟩
 obtain⟨a1,c1,rfl⟩:=ho1.form
 have HM1:=η (OwnC.sl (c:=fun _=>none) (by decide) (fun _ _ e=>by cases e) ho1)
 have GT1:=η (Grow.trans GD hb1)
 clear ho1 hb1
 rw [HIN.o] at HM1 ⊢
 generalize hTickE hh i=qm at*
 refine HK.o _ _ ⟨fun _=>HS.o _ GT1.o,?_⟩
 clear HK K
 try simp only [Act.put,lzA,lzB,lzC,lzD,lzE,lzF]
 refine bO 11 (by kernel_rfl) rfl ?_
 intro K HK
 try simp only [lzA,lzB,lzC]
 go_simp
 go_at_call 70
 refine(ref_sendC (c:=c) (l:=x.net.map bytesM) (ms:=qm) _ (HC.o.trans (G1.o.trans GT1.o).sub) ?nv HM1.o HRT.o (by rw [List.length_map];have:=H24.o;omega)).mono ?_
 case nv=>have h9:=HQ3.o;simpa using h9
 rintro e3 w3 ⟨v3,rfl,hn3,hb3⟩
 obtain⟨a3,c3,rfl,-⟩:=id hn3
 have HN3:=η hn3
 have G3:=η (Grow.trans GT1.o hb3)
 have ZDW:=η (GT1.o).size
 clear hn3 hb3
 rw [send_map,List.length_map]
 refine HK.o _ _ ⟨fun _=>HS.o _ G3.o,?_⟩
 clear HK K
 try simp only [Act.put,lzA,lzB,lzC,lzD,lzE,lzF]
 refine bO 12 (by kernel_rfl) rfl ?_
 intro K HK
 try simp only [lzA,lzB,lzC]
 go_simp
 refine HK.o _ _ ⟨fun _=>HS.o _ G3.o,?_⟩
 clear HK K
 try simp only [Act.put,lzA,lzB,lzC,lzD,lzE,lzF]
 refine bO 13 (by kernel_rfl) rfl ?_
 intro K HK
 refine wanted_go rfl ?_
 try simp only [lzA,lzB,lzC]
 refine wp_store_cell (.tmp 246) (.tmp 245) (v:=.slice a3 (sendA x.net qm).length c3) (new:=#[.slice al x.head.log.length cl,.int .i64 x.head.boot,.int .i64 x.head.next,.slice ao x.head.opn.length co,.slice (some ⟨bh,oh,none⟩) x.houses.length ch,.slice a3 (sendA x.net qm).length c3]) rfl rfl (by rfl) (by rfl) (row_grow R2.o G3.o) info_nets (by simp) (by rfl) (by rfl) ?_
 intro w5 r5 g5
 have R55:=η r5
 have HG5:=η g5
 clear r5 g5
 refine HK.o _ _ ⟨fun h=>absurd rfl h,?_⟩
 clear HK K
 try simp only [Act.put]
 refine but_done (by kernel_rfl) ?_
 have R45:=η (row_by (row_grow R4.o G3.o) HG5.o (by intro e;have:=Option.some.inj e;omega))
 have G5:=η ((G1.o.trans G3.o).grown HG5.o (fun q hq=>by simp at hq;omega))
 obtain⟨c0,c1x,c2,c3x,c4,c5⟩:=cells6 R55.o
 have z2:w.heap.size<w5.heap.size:=(γ R55.o)
 go_wp2_with (first|(refine wpList_store_row rfl (.tmp 4) (.tmp 262) rfl rfl rfl R45.o info_wd rfl rfl ?_))
 intro w7 r7 g7
 obtain⟨p0,p1,p2,p3,p4,p5⟩:=cells6 r7
 clear c0 c1x c2 c3x c4 c5
 go_wp2
 refine bodyPost_ret (v:=.tuple #[.agg #[.slice al x.head.log.length cl,.int .i64 x.head.boot,.int .i64 x.head.next,.slice ao x.head.opn.length co,.slice (some ⟨bh,oh,none⟩) x.houses.length ch,.slice a3 (sendA x.net qm).length c3],.int .i64 0]) (by simp [results,Try.results138,go_sem,p0,p1,p2,p3,p4,p5]) rfl ?_
 have G7:=G5.o.grown g7 (fun q hq=>by simp at hq;omega)
 rw [HE.o,HE2.o]
 refine⟨_,rfl,Of.wd_mk (HQ1.o.mono (ov_in HC.o)) (HQ2.o.mono (ov_in HC.o)) ?_,G7⟩
 have h9:=HN3.o
 rw [send_map] at h9
 refine Sl.mono (fun a u e=>?_) (show Nts _ _ _ from by simpa using h9)
 have hgd:=ZDW.o
 have hz:=HZ.o
 have e5:=ov_past (w:=w) HG5.o (Nat.le_refl _) (by omega) a u e
 have e7:=ov_past (w:=w) g7 (by omega) (by omega) a u e5
 exact ovz_sub HC.o (G1.o.trans GT1.o) a u e7
set_option maxRecDepth 100000 in
set_option maxHeartbeats 4000000 in
theorem ref_do_twice {c:CM} {v vs:Value} {x:AW} {sn:Int} {sp:List Pt} {n:Nat} {G:Reg} {k:Nat} (w:World) (hc:Sub c w.cell?) (hv:Of Ty.wd c v x) (hs:Of Ty.st c vs ⟨4,sn,sp⟩) (hi:WI n G x) (hf:Few k x) (hk:k≤1000) (ht:there x sn=true):
  Calls Try.prog 138 #[v,vs] w fun e w'=>∃v',e=.returned (.tuple #[v',.int .i64 (doErr x ⟨4,sn,sp⟩)])∧Of Ty.wd (ov c w w') v' (doA x ⟨4,sn,sp⟩)∧Grow w w':=by
 obtain⟨al,cl,ao,co,ah,ch,an,cn,rfl⟩:=hv.wd_form
 obtain⟨ap,cp,rfl⟩:=hs.st_form
 obtain⟨q1,q2,q3⟩:=hv.wd_parts
 have HQ1:=η q1
 have HQ2:=η q2
 have HQ3:=η q3
 have HSP:=η hs.st_parts
 have HHD:=η (hi.hdok hf hk)
 have HWI:=η hi
 have HV:=η hv
 have HC:=η hc
 have HT:=η ht
 clear hc hv hs q1 q2 q3 hi hf
 obtain⟨wa,hwa⟩:∃y:World,y=w.alloc (.cells #[.slice al x.head.log.length cl,.int .i64 x.head.boot,.int .i64 x.head.next,.slice ao x.head.opn.length co,.slice ah x.houses.length ch,.slice an x.net.length cn] 93):=⟨_,rfl⟩
 obtain⟨wb,hwb⟩:∃y:World,y=wa.alloc (.cells #[.int .i64 4,.int .i64 sn,.slice ap sp.length cp] 164):=⟨_,rfl⟩
 obtain⟨wz,hwz⟩:∃y:World,y=wb.alloc (.cells #[.slice none 0 0,.int .i64 0,.int .i64 0,.slice none 0 0,.slice none 0 0,.slice none 0 0] 93):=⟨_,rfl⟩
 have hsa:wa.heap.size=w.heap.size+1:=by rw [hwa];simp
 have hsb:wb.heap.size=w.heap.size+2:=by rw [hwb];simp [hsa]
 have R2:Hid (wz.heap[w.heap.size]? =some (.cells #[.slice al x.head.log.length cl,.int .i64 x.head.boot,.int .i64 x.head.next,.slice ao x.head.opn.length co,.slice ah x.houses.length ch,.slice an x.net.length cn] 93 (0,0))):=η (by rw [hwz,hwb,hwa];exact heap_later (heap_later (row_new _ _) _) _)
 have R3:Hid (wz.heap[w.heap.size+1]? =some (.cells #[.int .i64 4,.int .i64 sn,.slice ap sp.length cp] 164 (0,0))):=η (by rw [hwz,hwb,←hsa];exact heap_later (row_new _ _) _)
 have R4:Hid (wz.heap[w.heap.size+2]? =some (.cells #[.slice none 0 0,.int .i64 0,.int .i64 0,.slice none 0 0,.slice none 0 0,.slice none 0 0] 93 (0,0))):=η (by rw [hwz,←hsb];exact row_new _ _)
 have G1:Hid (Grow w wz):=η (by rw [hwz,hwb,hwa];exact(((Grow.refl w).alloc _).alloc _).alloc _)
 have HZ:Hid (wz.heap.size=w.heap.size+3):=η (by rw [hwz];simp [hsb])
 go_enter Try.func138,Try.ntmps138
 go_upto_region 1 with fail
 rw [←hwa]
 try rw [hsa]
 rw [←hwb]
 try rw [hsb]
 rw [←hwz]
 clear hwa hwb hwz hsa hsb
 obtain⟨c0,c1,c2,c3,c4,c5⟩:=cells6 R2.o
 obtain⟨d0,d1,d2⟩:=cells3 R3.o
 have z2:w.heap.size<wz.heap.size:=(γ R2.o)
 have z3:w.heap.size+1<wz.heap.size:=(γ R3.o)
 go_cut [6] from 22 (fun s6 wc=>s6=.bool (there x sn)∧wz=wc)
 case first=>
  by_cases h0:0≤sn
  ·by_cases h1:sn<(x.net.length:Int)
   ·go_wp2
    go_meet
    case rel=>exact⟨by first|rfl|(simp [there,h0,h1];done),rfl⟩
   ·go_wp2
    go_meet
    case rel=>exact⟨by first|rfl|(simp [there,h0,h1];done)|(simp [there,h0];omega),rfl⟩
  ·go_wp2
   go_meet
   case rel=>exact⟨by first|rfl|(simp [there];done)|(simp [there];omega),rfl⟩
 case rest=>
 obtain⟨rfl,rfl⟩:=hcut
 obtain⟨h0,h1⟩:0≤sn∧sn<(x.net.length:Int):=of_decide_eq_true HT.o
 have HE2:Hid (doErr x ⟨4,sn,sp⟩=0):=η (by unfold doErr;simp [ht])
 have HE0:Hid (doA x ⟨4,sn,sp⟩=if x.net.length<24 then { x with net:=x.net++ [x.net.getD sn.toNat ⟨0,0,0,[]⟩] } else x):=η (by unfold doA;simp [ht])
 rw [ht]
 obtain⟨i,hi⟩:∃i:Nat,sn=(i:Int):=⟨sn.toNat,by omega⟩
 have hil:i<x.net.length:=by omega
 have hti:sn.toNat=i:=by omega
 obtain⟨an',cn',he9,-,-,-,hel⟩:=HQ3.o
 simp only [Value.slice.injEq] at he9
 obtain⟨rfl,-,rfl⟩:=he9
 obtain⟨bb,o,u,rfl,ci,hbi⟩:=Nts.at_ hel i (by simpa using hil)
 obtain⟨au,cu,rfl,-⟩:=id hbi
 have HBI:=η hbi
 have HCI:=η ci
 have HMI:Hid ((x.net.map bytesM)[i]'(by simpa using hil)=bytesM (x.net.getD sn.toNat ⟨0,0,0,[]⟩)):=η (by rw [hti,List.getD_eq_getElem?_getD,List.getElem?_eq_getElem hil,List.getElem_map];rfl)
 have H24:=η HWI.o.len
 replace ci:=(HC.o.trans G1.o.sub) _ _ ci
 clear hel hbi ht HT
 rw [HMI.o] at HBI ci HCI
 clear HMI
 generalize x.net.getD sn.toNat ⟨0,0,0,[]⟩=m at*
 by_cases h24:x.net.length<24
 ·have HE:=η HE0.o
  rw [if_pos h24] at HE
  have h24':(x.net.length:Int)<24:=by omega
  have hi0:(0:Int)≤sn:=by omega
  have hi9:sn<(x.net.length:Int):=by omega
  clear HE0
  go_wp2_with (first|(at_builtin;refine wpList_appc (c:=c) (base:=w.heap.size+3) (l:=[]) (m:=x.net.map bytesM) (v:=.slice (some ⟨wz.heap.size,0,none⟩) 0 0) ei_bts rfl (one_Tsl Ty.byte) (by decide) rfl (.tmp 86) (.tmp 88) rfl rfl (OwnC.made0 Ty.bs _ _ _ _ ?c1 ?c1') rfl ?src ?c3 ?c4 ?_))
  case c1=>rw [HZ.o];exact Nat.le_refl _
  case c1'=>rfl
  case src=>exact Src.of_sl_c (by decide) (HC.o.trans (G1.o.alloc _).sub) HQ3.o
  case c3=>(try simp);omega
  case c4=>have:=HZ.o;(try simp);omega
  intro a8 c8 w8 ho8 hg8 hb8
  try simp only [List.length_nil,Nat.zero_add,List.nil_append] at ho8
  try simp only [List.length_nil,Nat.zero_add]
  have HO8:=η ho8
  have G8:=η (grow_by (w0:=wz) ((Grow.refl wz).alloc _) hg8 (own_at (Nat.le_refl _)))
  clear ho8 hg8 hb8 c0 c1 c2 c3 c4 c5 d0 d1 d2 ci z2 z3
  go_wp2_with (first|(at_builtin;refine wpList_appc (c:=c) (base:=w.heap.size+3) (l:=x.net.map bytesM) (m:=[bytesM m]) ei_bts rfl (one_Tsl Ty.byte) (by decide) rfl (.tmp 89) (.tmp 91) rfl rfl (HO8.o.grow ((Grow.refl _).alloc _)) rfl (Src.of_new (T:=Ty.bs) (x:=bytesM m) (cs:=#[.slice au (bytesM m).length cu]) ⟨_,rfl,HBI.o⟩ _ _ ?d1) ?d2 ?d3 ?_))
  case d1=>first|rfl|simp
  case d2=>(try simp);omega
  case d3=>have:=G8.o.size;have:=HZ.o;(try simp);omega
  intro a9 c9 w9 ho9 hg9 hb9
  have G9:=η (grow_by (w0:=wz) (G8.o.alloc _) hg9 (fun q hq=>by have:=(HO8.o.lt q hq).1;have:=HZ.o;omega))
  have HO9:=η ho9
  have R29:=η (row_grow R2.o G9.o)
  have R49:=η (row_grow R4.o G9.o)
  clear ho9 hg9 hb9
  try simp only [List.length_map,List.length_singleton]
  go_wp2_with (first|(refine wpList_store_cell rfl (.tmp 93) (.tmp 92) (v:=.slice a9 (x.net.length+1) c9) (new:=#[.slice al x.head.log.length cl,.int .i64 x.head.boot,.int .i64 x.head.next,.slice ao x.head.opn.length co,.slice ah x.houses.length ch,.slice a9 (x.net.length+1) c9]) rfl rfl (by rfl) (by rfl) R29.o info_nets (by simp) (by rfl) (by rfl) ?_))
  intro w5 r5 g5
  have R55:=η r5
  have R45:=η (row_by R49.o g5 (by intro e;have:=Option.some.inj e;omega))
  have G5:=η ((G1.o.trans G9.o).grown g5 (fun q hq=>by simp at hq;omega))
  have HO5:=η (HO9.o.kept g5 (own_apart HO9.o (by omega)))
  clear r5 g5
  obtain⟨c0,c1,c2,c3,c4,c5⟩:=cells6 R55.o
  have z2:w.heap.size<w5.heap.size:=(γ R55.o)
  go_wp2_with (first|(refine wpList_store_row rfl (.tmp 4) (.tmp 94) rfl rfl rfl R45.o info_wd rfl rfl ?_))
  intro w7 r7 g7
  obtain⟨p0,p1,p2,p3,p4,p5⟩:=cells6 r7
  clear c0 c1 c2 c3 c4 c5
  go_wp2
  refine bodyPost_ret (v:=.tuple #[.agg #[.slice al x.head.log.length cl,.int .i64 x.head.boot,.int .i64 x.head.next,.slice ao x.head.opn.length co,.slice ah x.houses.length ch,.slice a9 (x.net.length+1) c9],.int .i64 0]) (by simp [results,Try.results138,go_sem,p0,p1,p2,p3,p4,p5]) rfl ?_
  have G7:=G5.o.grown g7 (fun q hq=>by simp at hq;omega)
  rw [HE.o,HE2.o]
  refine⟨_,rfl,Of.wd_mk (HQ1.o.mono (ov_in HC.o)) (HQ2.o.mono (ov_in HC.o)) ?_,G7⟩
  have h9:=(HO5.o.kept g7 (own_apart HO5.o (by omega))).slc (by decide) (ov_in HC.o) fun a ha=>ov_new (by omega)
  rw [List.map_append]
  simpa using h9
 ·have HE:=η HE0.o
  rw [if_neg h24] at HE
  have h24':¬(x.net.length:Int)<24:=by omega
  have hi0:(0:Int)≤sn:=by omega
  have hi9:sn<(x.net.length:Int):=by omega
  clear HE0
  go_wp2_with (first|(refine wpList_store_row rfl (.tmp 4) (.tmp 94) rfl rfl rfl R4.o info_wd rfl rfl ?_))
  intro w7 r7 g7
  obtain⟨p0,p1,p2,p3,p4,p5⟩:=cells6 r7
  clear c0 c1 c2 c3 c4 c5
  go_wp2
  refine bodyPost_ret (v:=.tuple #[.agg #[.slice al x.head.log.length cl,.int .i64 x.head.boot,.int .i64 x.head.next,.slice ao x.head.opn.length co,.slice ah x.houses.length ch,.slice (some ⟨bb,o,none⟩) x.net.length cn],.int .i64 0]) (by simp [results,Try.results138,go_sem,p0,p1,p2,p3,p4,p5]) rfl ?_
  have G7:=G1.o.grown g7 (fun q hq=>by simp at hq;omega)
  rw [HE.o,HE2.o]
  exact⟨_,rfl,HV.o.mono (ov_in HC.o),G7⟩
end Go.Proofs.Ytgbhpghgohggcaa
namespace Go.Proofs.Ytgbhpghgohggcaa
theorem getN_len:∀{n:Nat} {l:List UInt8} {xs:List Int} {r:List UInt8},getN n l=.inl (xs,r)→xs.length=n
 |0,l,xs,r,h=>by
  simp only [getN,Sum.inl.injEq,Prod.mk.injEq] at h
  rw [←h.1];rfl
 |n+1,l,xs,r,h=>by
  rw [getN] at h
  split at h
  ·cases hn:getN n (l.drop (getB l).2.1.toNat) with
   |inl p=>
    obtain⟨ys,r'⟩:=p
    rw [hn] at h
    simp only [Sum.inl.injEq,Prod.mk.injEq] at h
    rw [←h.1,List.length_cons,getN_len hn]
   |inr e=>rw [hn] at h;cases h
  ·cases h
def thenN (j:Nat):Sum (List Int×List UInt8) Int→Sum (List Int×List UInt8) Int
 | .inl (xs,r)=>match getN j r with
  | .inl (ys,r')=>.inl (xs++ys,r')
  | .inr e=>.inr e
 | .inr e=>.inr e
theorem getN_add (j:Nat):∀(k:Nat) (l:List UInt8),getN (k+j) l=thenN j (getN k l)
 |0,l=>by
  rw [Nat.zero_add]
  show getN j l=thenN j (.inl ([],l))
  unfold thenN
  cases h:getN j l with
  |inl p=>obtain⟨ys,r'⟩:=p;simp [h]
  |inr e=>simp [h]
 |k+1,l=>by
  rw [show k+1+j=(k+j)+1 by omega,getN,getN]
  by_cases h:(getB l).2.2=0
  ·rw [if_pos h,if_pos h,getN_add j k]
   cases hk:getN k (l.drop (getB l).2.1.toNat) with
   |inl p=>
    obtain⟨xs,r⟩:=p
    simp only [thenN]
    cases hj:getN j r with
    |inl q=>obtain⟨ys,r'⟩:=q;simp
    |inr e=>simp
   |inr e=>simp [thenN]
  ·rw [if_neg h,if_neg h];simp [thenN]
structure RdSt (l:List UInt8) (xs:List Int) (r:List UInt8) (want:Int):Prop where
 got:getN xs.length l=.inl (xs,r)
 few:xs.length<3→want=3
 more:3≤xs.length→0≤xs.getD 2 0∧xs.getD 2 0≤4∧want=3+2*xs.getD 2 0
 le:(xs.length:Int)≤want
theorem RdSt.start (l:List UInt8):RdSt l [] l 3:=⟨rfl,fun _=>rfl,fun h=>by simp at h,by simp⟩
theorem getN_one {l r:List UInt8} {xs:List Int} (h:getN xs.length l=.inl (xs,r)):getN (xs.length+1) l=if(getB r).2.2=0 then .inl (xs++ [(getB r).1],r.drop (getB r).2.1.toNat) else .inr (getB r).2.2:=by
 rw [getN_add,h]
 by_cases hc:(getB r).2.2=0<;>simp [thenN,getN,hc]
theorem getN_three {l r:List UInt8} {xs:List Int} {j:Nat} (h:getN xs.length l=.inl (xs,r)) (hj:xs.length=3+j):∃r3,getN 3 l=.inl (xs.take 3,r3)∧getN j r3=.inl (xs.drop 3,r):=by
 rw [hj,getN_add] at h
 cases h3:getN 3 l with
 |inr e=>rw [h3] at h;simp [thenN] at h
 |inl p=>
  obtain⟨ys,r3⟩:=p
  have hl:=getN_len h3
  rw [h3] at h
  simp only [thenN] at h
  cases h4:getN j r3 with
  |inr e=>rw [h4] at h;simp at h
  |inl q=>
   obtain⟨zs,r4⟩:=q
   rw [h4] at h
   simp only [Sum.inl.injEq,Prod.mk.injEq] at h
   obtain⟨rfl,rfl⟩:=h
   refine⟨r3,?_,?_⟩
   ·rw [List.take_append_of_le_length (by omega),List.take_of_length_le (by omega)]
   ·rw [List.drop_append_of_le_length (by omega),List.drop_of_length_le (by omega)];simpa using h4
theorem getD_take {xs:List Int} {i n:Nat} (h:i<n):(xs.take n).getD i 0=xs.getD i 0:=by
 rw [List.getD_eq_getElem?_getD,List.getD_eq_getElem?_getD,List.getElem?_take_of_lt h]
theorem RdSt.fails {l r:List UInt8} {xs:List Int} {want:Int} (h:RdSt l xs r want) (hlt:(xs.length:Int)<want) (he:(getB r).2.2≠0) (kind:Int):readBody kind l=(ms0,(getB r).2.2):=by
 have h1:=getN_one h.got
 rw [if_neg he] at h1
 by_cases h3:xs.length<3
 ·have h2:getN 3 l=.inr (getB r).2.2:=by
   rw [show 3=(xs.length+1)+(2 - xs.length) by omega,getN_add,h1];rfl
  unfold readBody
  rw [h2]
 ·obtain⟨m0,m4,hw⟩:=h.more (by omega)
  obtain⟨r3,e3,ej⟩:=getN_three h.got (j:=xs.length - 3) (by omega)
  unfold readBody
  rw [e3]
  simp only [getD_take (xs:=xs) (i:=2) (n:=3) (by omega),getD_take (xs:=xs) (i:=1) (n:=3) (by omega),getD_take (xs:=xs) (i:=0) (n:=3) (by omega)]
  rw [if_neg (by omega)]
  have h5:getN (2*(xs.getD 2 0).toNat) r3=.inr (getB r).2.2:=by
   have h6:getN (xs.drop 3).length r3=.inl (xs.drop 3,r):=by rw [List.length_drop];exact ej
   have h7:=getN_one h6
   rw [if_neg he] at h7
   rw [show 2*(xs.getD 2 0).toNat=((xs.drop 3).length+1)+(2*(xs.getD 2 0).toNat - ((xs.drop 3).length+1)) by rw [List.length_drop];omega,getN_add,h7];rfl
  rw [h5]
theorem RdSt.five {l r:List UInt8} {xs:List Int} {want:Int} (h:RdSt l xs r want) (h2:xs.length=2) (he:(getB r).2.2=0) (hr:(getB r).1<0∨4<(getB r).1) (kind:Int):readBody kind l=(ms0,5):=by
 have h1:=getN_one h.got
 rw [if_pos he,h2] at h1
 unfold readBody
 rw [h1]
 have:(xs++ [(getB r).1]).getD 2 0=(getB r).1:=by
  rw [List.getD_eq_getElem?_getD,List.getElem?_append_right (by omega),h2];rfl
 simp only [this]
 rw [if_pos hr]
theorem RdSt.next {l r:List UInt8} {xs:List Int} {want:Int} (h:RdSt l xs r want) (hlt:(xs.length:Int)<want) (he:(getB r).2.2=0) (hr:xs.length=2→0≤(getB r).1∧(getB r).1≤4):
  RdSt l (xs++ [(getB r).1]) (r.drop (getB r).2.1.toNat) (if xs.length=2 then 3+2*(getB r).1 else want):=by
 have h1:=getN_one h.got
 rw [if_pos he] at h1
 have hl:(xs++ [(getB r).1]).length=xs.length+1:=by simp
 have hg:∀h3:3≤xs.length,(xs++ [(getB r).1]).getD 2 0=xs.getD 2 0:=fun h3=>by
  rw [List.getD_eq_getElem?_getD,List.getElem?_append_left (by omega),List.getD_eq_getElem?_getD]
 refine⟨by rw [hl];exact h1,fun h3=>?_,fun h3=>?_,?_⟩
 ·rw [hl] at h3
  rw [if_neg (by omega)]
  exact h.few (by omega)
 ·rw [hl] at h3
  by_cases h2:xs.length=2
  ·have:(xs++ [(getB r).1]).getD 2 0=(getB r).1:=by
    rw [List.getD_eq_getElem?_getD,List.getElem?_append_right (by omega),h2];rfl
   rw [this,if_pos h2]
   exact⟨(hr h2).1,(hr h2).2,rfl⟩
  ·rw [hg (by omega),if_neg h2]
   exact h.more (by omega)
 ·rw [hl]
  split
  ·have:=hr (by assumption);omega
  ·omega
theorem RdSt.all {l r:List UInt8} {xs:List Int} {want:Int} (h:RdSt l xs r want) (hle:want≤(xs.length:Int)) (kind:Int):
  readBody kind l=if r≠ [] then(ms0,2) else
   if wrongM ⟨kind,xs.getD 0 0,xs.getD 1 0,pairs (xs.getD 1 0) (xs.drop 3)⟩=0 then(⟨kind,xs.getD 0 0,xs.getD 1 0,pairs (xs.getD 1 0) (xs.drop 3)⟩,0)
   else(ms0,wrongM ⟨kind,xs.getD 0 0,xs.getD 1 0,pairs (xs.getD 1 0) (xs.drop 3)⟩):=by
 have h3:3≤xs.length:=by
  by_cases h3:xs.length<3
  ·have:=h.few h3;omega
  ·omega
 obtain⟨m0,m4,hw⟩:=h.more h3
 have hl:=h.le
 obtain⟨r3,e3,ej⟩:=getN_three h.got (j:=xs.length - 3) (by omega)
 unfold readBody
 rw [e3]
 simp only [getD_take (xs:=xs) (i:=2) (n:=3) (by omega),getD_take (xs:=xs) (i:=1) (n:=3) (by omega),getD_take (xs:=xs) (i:=0) (n:=3) (by omega)]
 rw [if_neg (by omega),show 2*(xs.getD 2 0).toNat=xs.length - 3 by omega,ej]
end Go.Proofs.Ytgbhpghgohggcaa
namespace Go.Proofs.Ytgbhpghgohggcaa
open Go.RowKit
def lenOf:Value→Nat
 | .slice _ n _=>n
 |_=>0
theorem RdSt.bound {l r:List UInt8} {xs:List Int} {want:Int} (h:RdSt l xs r want):3≤want∧want≤11:=by
 by_cases h3:xs.length<3
 ·have:=h.few h3;omega
 ·have:=h.more (by omega);omega
theorem RdSt.pairs_all {l r:List UInt8} {xs:List Int} {want:Int} (h:RdSt l xs r want) (hw:want≤(xs.length:Int)):(∃n,xs.length=3+2*n)∧(∀j,3+2*j<xs.length→3+2*j+1<xs.length):=by
 have h3:3≤xs.length:=by have:=h.bound;omega
 obtain⟨m0,m4,hw2⟩:=h.more h3
 have hl:=h.le
 exact⟨⟨(xs.getD 2 0).toNat,by omega⟩,fun j hj=>by omega⟩
theorem cell_by2 {w w':World} {B:Nat} {a:Addr} {v:Value} (h:w.cell? a=some v) (hg:w.grownBy w' (some B)) (hne:a.block≠B):w'.cell? a=some v:=by
 rw [by_cell hg (World.block_lt_of_cell? w a h) hne];exact h
theorem intD_at {xs:List Int} {i:Nat} (h:i<xs.length):xs.getD i 0=xs[i]:=by
 rw [List.getD_eq_getElem?_getD,List.getElem?_eq_getElem h];rfl
theorem OwnC.int_at {c:CM} {w:World} {base e g cap:Nat} {xs:List Int} (h:OwnC Ty.int c w base e (.slice (some ⟨g,0,none⟩) xs.length cap) xs) {i:Nat} (hi:i<xs.length):w.cell? ⟨g,i,none⟩=some (.int .i64 (xs.getD i 0)):=by
 obtain⟨g',cs,he,⟨rfl,-⟩,hA⟩:=h.get (by decide) i hi
 obtain rfl:g=g':=by simpa using he
 have:=hA 0 _ rfl
 rw [intD_at hi]
 simpa [Ty.int] using this
theorem OwnC.int_ok {c:CM} {w:World} {base e:Nat} {v:Value} {xs:List Int} (h:OwnC Ty.int c w base e v xs) (i:Nat):I64 (xs.getD i 0):=by
 by_cases hi:i<xs.length
 ·obtain⟨css,-,h2,h3⟩:=h
  have:=(h3 i css[i] xs[i] (List.getElem?_eq_getElem (by omega)) (List.getElem?_eq_getElem hi)).2
  rw [intD_at hi];exact this
 ·rw [List.getD_eq_getElem?_getD,List.getElem?_eq_none (by omega)];exact zero_ok
theorem OwnC.ints_ok {c:CM} {w:World} {base e:Nat} {v:Value} {xs:List Int} (h:OwnC Ty.int c w base e v xs):∀x∈xs,I64 x:=fun x hx=>by
 obtain⟨i,hi,rfl⟩:=List.mem_iff_getElem.1 hx
 have:=h.int_ok i
 rw [intD_at hi] at this;exact this
theorem nums_at {c:CM} {w:World} {base e cap:Nat} {a:Option Addr} {xs:List Int} (h:OwnC Ty.int c w base e (.slice a xs.length cap) xs) (h3:3≤xs.length):∃g,a=some ⟨g,0,none⟩∧w.cell? ⟨g,0,none⟩=some (.int .i64 (xs.getD 0 0))∧w.cell? ⟨g,1,none⟩=some (.int .i64 (xs.getD 1 0))∧g<w.heap.size:=by
 obtain⟨g,cs,rfl,-,-⟩:=h.get (by decide) 0 (by omega)
 exact⟨g,rfl,h.int_at (by omega),h.int_at (by omega),(h.lt g rfl).2⟩
theorem nums_two {c:CM} {w:World} {base e g cap:Nat} {xs:List Int} (h:OwnC Ty.int c w base e (.slice (some ⟨g,0,none⟩) xs.length cap) xs) {i:Nat} (hi:i+1<xs.length):w.cell? ⟨g,i,none⟩=some (.int .i64 (xs.getD i 0))∧w.cell? ⟨g,i+1,none⟩=some (.int .i64 (xs.getD (i+1) 0)):=⟨h.int_at (by omega),h.int_at hi⟩
theorem pairs_more (h:Int) {xs:List Int} {k:Nat} (hl:3+2*k+1<xs.length):pairs h ((xs.drop 3).take (2*(k+1)))=pairs h ((xs.drop 3).take (2*k))++ [⟨h,xs.getD (3+2*k) 0,xs.getD (3+2*k+1) 0⟩]:=by
 have e1:(xs.drop 3).length=xs.length - 3:=List.length_drop
 have e2:(xs.drop 3).take (2*(k+1))=(xs.drop 3).take (2*k)++ [xs.getD (3+2*k) 0,xs.getD (3+2*k+1) 0]:=by
  rw [show 2*(k+1)=2*k+1+1 by omega,List.take_succ_eq_append_getElem (by omega),List.take_succ_eq_append_getElem (by omega),List.getElem_drop,List.getElem_drop,intD_at (by omega),intD_at (by omega),List.append_assoc]
  rfl
 rw [e2,pairs_snoc h k (by rw [List.length_take];omega)]
theorem pairs_short (h:Int) {xs:List Int} {k:Nat} (hk:3+2*k≤xs.length):(pairs h ((xs.drop 3).take (2*k))).length=k:=
 (nums_pairs k (by rw [List.length_take,List.length_drop];omega)).2
theorem pairs_fine {h:Int} (hh:I64 h):∀{l:List Int},(∀x∈l,I64 x)→PtsOk (pairs h l)
 | [],_=>fun p hp=>by simp [pairs] at hp
 | [x],_=>fun p hp=>by simp [pairs] at hp
 |x::y::l,hl=>fun p hp=>by
  rw [pairs] at hp
  rcases List.mem_cons.1 hp with rfl|hp
  ·exact⟨hh,hl _ (by simp),hl _ (by simp)⟩
  ·exact pairs_fine hh (fun z hz=>hl z (by simp [hz])) p hp
theorem info_int:(Try.prog.info? 3).map (·.size)=some 1:=by kernel_rfl
theorem info_parts:(Try.prog.info? 23).map (·.size)=some 1:=by kernel_rfl
structure PSt (w wr:World) (B6 wb:Nat) (z:Nat) (d h:Int) (vp:Value) (g8 c8:Nat) (ps:List Pt) (xs:List Int):Prop where
 res:wr.heap[w.heap.size]? =some (.cells #[.int .i64 0,.int .i64 0,.int .i64 0,.slice none 0 0] 39 (0,0))
 msg:wr.heap[B6]? =some (.cells #[.int .i64 z,.int .i64 d,.int .i64 h,vp] 39 (0,0))
 num:OwnC Ty.int (fun _=>none) wr wb 3 (.slice (some ⟨g8,0,none⟩) xs.length c8) xs
 own:wr.ownsRow (B6+1) 32 3 vp ps.length (ps.flatMap Pt.cells)
 grow:Grow w wr
 lo:w.heap.size<B6
 wbs:B6<wb
 dis:∀q,vp.ownBlock=some q→q≠B6∧q≠g8
theorem PSt.still {w wr y z9:World} {B6 wb z:Nat} {d h:Int} {vp:Value} {g8 c8:Nat} {ps:List Pt} {xs:List Int} (p:PSt w wr B6 wb z d h vp g8 c8 ps xs) (_hG:Grow wr y) (hg:y.grownBy z9 vp.ownBlock) {u v x t:Value} {i j:Nat}
  (hS:y.cell? ⟨B6,3,none⟩=some u∧y.cell? ⟨B6,2,none⟩=some v∧y.cell? ⟨g8,i,none⟩=some x∧y.cell? ⟨g8,j,none⟩=some t):
  z9.cell? ⟨B6,3,none⟩=some u∧z9.cell? ⟨B6,2,none⟩=some v∧z9.cell? ⟨g8,i,none⟩=some x∧z9.cell? ⟨g8,j,none⟩=some t:=by
 have k:∀(a:Addr) (v:Value),some a.block≠vp.ownBlock→y.cell? a=some v→z9.cell? a=some v:=fun a v hne e=>by
  rw [World.cell?_of_block (hg.block a.block (World.block_lt_of_cell? y a e) hne)];exact e
 have n6:some B6≠vp.ownBlock:=fun e=>(p.dis _ e.symm).1 rfl
 have n8:some g8≠vp.ownBlock:=fun e=>(p.dis _ e.symm).2 rfl
 exact⟨k _ _ n6 hS.1,k _ _ n6 hS.2.1,k _ _ n8 hS.2.2.1,k _ _ n8 hS.2.2.2⟩
theorem PSt.part {w wr y z9 zz:World} {B6 wb z:Nat} {d h:Int} {vp:Value} {g8 c8:Nat} {ps ps':List Pt} {xs:List Int} {a':Option Addr} {n c':Nat} (p:PSt w wr B6 wb z d h vp g8 c8 ps xs) (hG:Grow wr y)
  (ho:z9.ownsRow (B6+1) 32 3 (.slice a' n c') ps'.length (ps'.flatMap Pt.cells)) (hg:y.grownBy z9 vp.ownBlock)
  (hb:(Value.slice a' n c').ownBlock=vp.ownBlock∨∃g,(Value.slice a' n c').ownBlock=some g∧y.heap.size≤g)
  (hz:zz.heap[B6]? =some (.cells #[.int .i64 z,.int .i64 d,.int .i64 h,.slice a' n c'] 39 (0,0))) (hgz:z9.grownBy zz (some B6)):PSt w zz B6 wb z d h (.slice a' n c') g8 c8 ps' xs:=by
 have z8:=p.num.lt g8 rfl
 have zg:=hG.size
 have z9s:=hg.size
 have hlo:=p.lo
 have hwb:=p.wbs
 have n8:some g8≠vp.ownBlock:=fun e=>(p.dis _ e.symm).2 rfl
 have nR:some w.heap.size≠vp.ownBlock:=fun e=>by have:=(p.own.lt _ e.symm).1;omega
 have hdis:∀q,(Value.slice a' n c').ownBlock=some q→q≠B6∧q≠g8:=fun q hq=>by
  rcases hb with e|⟨g,e,hge⟩
  ·exact p.dis q (e.symm.trans hq)
  ·rw [e] at hq
   obtain rfl:=Option.some.inj hq
   constructor<;>omega
 refine⟨row_by (row_by (row_grow p.res hG) hg nR) hgz (by intro e;have:=Option.some.inj e;omega),hz,?_,?_,?_,hlo,hwb,hdis⟩
 ·refine((p.num.grow hG).kept hg (.inr ?_)).kept hgz (.inr ?_)
  ·simpa [Value.ownBlock] using n8
  ·simp [Value.ownBlock];omega
 ·refine ho.kept hgz ?_
  cases e:(Value.slice a' n c').ownBlock with
  |none=>exact .inl rfl
  |some q=>exact .inr (by have:=(hdis q e).1;intro e2;exact this (Option.some.inj e2))
 ·exact((p.grow.trans hG).grown hg (fun q hq=>by have:=(p.own.lt q hq).1;omega)).grown hgz (fun q hq=>by simp at hq;omega)
theorem ref_fail {n:Int} (w:World):Calls Try.prog 133 #[.int .i64 n] w fun e w'=>e=.returned (.tuple #[.agg #[.int .i64 0,.int .i64 0,.int .i64 0,.slice none 0 0],.int .i64 n])∧Grow w w':=by
 have R2:=η (row_new w (.cells #[.int .i64 0,.int .i64 0,.int .i64 0,.slice none 0 0] 39))
 have G1:=η ((Grow.refl w).alloc (.cells #[.int .i64 0,.int .i64 0,.int .i64 0,.slice none 0 0] 39))
 go_enter Try.func133,Try.ntmps133
 go_wp2_with (first|(refine wpList_store_row rfl (.tmp 2) (.tmp 4) rfl rfl rfl R2.o info_ms rfl rfl ?_))
 intro w7 r7 g7
 obtain⟨p0,p1,p2,p3⟩:=cells4 r7
 go_wp2
 refine bodyPost_ret (v:=.tuple #[.agg #[.int .i64 0,.int .i64 0,.int .i64 0,.slice none 0 0],.int .i64 n]) (by simp [results,Try.results133,go_sem,p0,p1,p2,p3]) rfl ?_
 exact⟨rfl,G1.o.grown g7 (fun q hq=>by simp at hq;omega)⟩
set_option maxRecDepth 100000 in
set_option maxHeartbeats 4000000 in
theorem ref_readN {v:Value} {b:List UInt8} (w:World) (hv:Bts w.cell? v b):
  Calls Try.prog 68 #[v] w fun e w'=>∃v',e=.returned (.tuple #[v',.int .i64 (readB b).2])∧Of Ty.ms (ov (fun _=>none) w w') v' (readB b).1∧Grow w w':=by
 have HV:=η hv
 obtain⟨a,cap,rfl,h1,h2,-,hel⟩:=hv
 unfold maxLen at h2
 by_cases hl3:b.length<3
 ·have HE:Hid (readB b=(ms0,8)):=by show readB b=_;unfold readB;rw [if_pos hl3]
  have R2:=η (row_new w (.cells #[.int .i64 0,.int .i64 0,.int .i64 0,.slice none 0 0] 39))
  have G1:=η ((Grow.refl w).alloc (.cells #[.int .i64 0,.int .i64 0,.int .i64 0,.slice none 0 0] 39))
  clear hel
  go_enter Try.func68,Try.ntmps68
  go_wp2_with fail
  refine(ref_fail _).mono ?_
  rintro e w1 ⟨rfl,hb⟩
  have R3:=η (row_grow R2.o hb)
  have G3:=η (G1.o.trans hb)
  clear hb
  go_wp2_with (first|(refine wpList_store_row rfl (.tmp 2) (.tmp 20) rfl rfl rfl R3.o info_ms rfl rfl ?_))
  intro w7 r7 g7
  obtain⟨p0,p1,p2,p3⟩:=cells4 r7
  go_wp2
  refine bodyPost_ret (v:=.tuple #[.agg #[.int .i64 0,.int .i64 0,.int .i64 0,.slice none 0 0],.int .i64 8]) (by simp [results,Try.results68,go_sem,p0,p1,p2,p3]) rfl ?_
  rw [HE.o]
  exact⟨_,rfl,of_ms0 _,G3.o.grown g7 (fun q hq=>by simp at hq;omega)⟩
 have HSM:=η (fun(W:World) (hW:Grow w W)=>ref_sum W ((HV.o.take' (b.length - 2) (by omega)).mono hW.sub))
 obtain⟨bb,o,rfl,c0⟩:=byteAt hel 0 (by omega)
 obtain⟨bb',o',he,cx⟩:=byteAt hel (b.length - 2) (by omega)
 obtain⟨rfl,rfl⟩:bb=bb'∧o=o':=by simpa using he
 obtain⟨bb',o',he',cy⟩:=byteAt hel (b.length - 1) (by omega)
 obtain⟨rfl,rfl⟩:bb=bb'∧o=o':=by simpa using he'
 clear he he' hel
 obtain⟨e,hle⟩:∃e,b.length=e+2:=⟨b.length - 2,by omega⟩
 obtain⟨x,hx⟩:∃x,x=(b[b.length - 2]'(by omega)).toNat:=⟨_,rfl⟩
 obtain⟨y,hy⟩:∃x,x=(b[b.length - 1]'(by omega)).toNat:=⟨_,rfl⟩
 obtain⟨z,hz⟩:∃x,x=(b[0]'(by omega)).toNat:=⟨_,rfl⟩
 obtain⟨s,hs⟩:∃s,s=sumB (b.take (b.length - 2)):=⟨_,rfl⟩
 have hx2:x<256:=by rw [hx];exact UInt8.toNat_lt _
 have hy2:y<256:=by rw [hy];exact UInt8.toNat_lt _
 have hz2:z<256:=by rw [hz];exact UInt8.toNat_lt _
 have hs1:s<65521:=by rw [hs];exact sumB_lt _
 have hok:sumOk b=decide (s=256*x+y):=by
  refine sum_test (e:=e) hle ?_ ?_ hx2 hy2 (by rw [hs];congr 2;omega)
  ·rw [hx];simp [hle]
  ·rw [hy];simp [hle]
 have HZ:Hid (((b.getD 0 0).toNat:Nat)=z):=η (by rw [hz,List.getD_eq_getElem?_getD,List.getElem?_eq_getElem (by omega)];rfl)
 rw [←hx] at cx
 rw [←hy] at cy
 rw [←hz] at c0
 rw [←hs] at HSM
 rw [show b.length - 2=e by omega] at cx HSM
 rw [show b.length - 1=e+1 by omega] at cy
 have HL3:=η hl3
 have HSL:=η (HV.o.take' (b.length - 2) (by omega))
 rw [show b.length - 2=e by omega] at HSL
 have HTD:Hid (b.take (b.length - 2)=b.take e):=η (by congr 1;omega)
 have HTL:Hid ((b.take e).length=e):=η (by rw [List.length_take];omega)
 rw [hle] at hl3 h1 ⊢
 clear hx hy hz hs hle
 have HOK:=η hok
 clear hok
 have HC0:=η c0
 have HCX:=η cx
 have HCY:=η cy
 have HSV:=η (fun(W:World) (hW:Grow w W)=>(show W.cell? ⟨bb,o+e,none⟩=some (.int .u8 x)∧W.cell? ⟨bb,o+(e+1),none⟩=some (.int .u8 y) from⟨hW.sub _ _ HCX.o,hW.sub _ _ HCY.o⟩))
 obtain⟨wa,hwa⟩:∃y:World,y=w.alloc (.cells #[.int .i64 0,.int .i64 0,.int .i64 0,.slice none 0 0] 39):=⟨_,rfl⟩
 have R2:Hid (wa.heap[w.heap.size]? =some (.cells #[.int .i64 0,.int .i64 0,.int .i64 0,.slice none 0 0] 39 (0,0))):=η (by rw [hwa];exact row_new _ _)
 have G1:Hid (Grow w wa):=η (by rw [hwa];exact(Grow.refl w).alloc _)
 have HS:=η (fun(W:World) (hW:Grow wa W)=>HSV.o W (G1.o.trans hW))
 have HSM2:=η (fun(W:World) (hW:Grow wa W)=>HSM.o W (G1.o.trans hW))
 clear c0 cx cy HSV HSM
 by_cases ht:s=256*x+y
 ·have HOT:=η (show sumOk b=true by rw [HOK.o];exact decide_eq_true ht)
  have hbx:((s:Int) !=IntKind.i64.wrap (IntKind.i64.wrap (256*IntKind.i64.wrap (x:Int))+(y:Int)))=false:=by rw [IntWalk.i64_in (x:Int) (by omega),IntWalk.i64_in (256*(x:Int)) (by omega),IntWalk.i64_in (256*(x:Int)+(y:Int)) (by omega)];rw [bne_eq_false_iff_eq];omega
  have hbx3:((s:Int) !=IntKind.i64.wrap (IntKind.i64.wrap (256*IntKind.i64.wrap (x:Int))+IntKind.i64.wrap (y:Int)))=false:=by rw [IntWalk.i64_in (x:Int) (by omega),IntWalk.i64_in (y:Int) (by omega),IntWalk.i64_in (256*(x:Int)) (by omega),IntWalk.i64_in (256*(x:Int)+(y:Int)) (by omega)];rw [bne_eq_false_iff_eq];omega
  have hbx2:((s:Int) !=256*(x:Int)+(y:Int))=false:=by rw [bne_eq_false_iff_eq];omega
  clear HOK ht
  have ha1:IntKind.i64.wrap ((e:Int)+1)=(e:Int)+1:=IntWalk.i64_in _ (by omega)
  have hi1:(e:Int)+1<(e:Int)+2:=by omega
  have hi0:(0:Int)≤(e:Int)+1:=by omega
  have hec:(e:Int)≤(cap:Int):=by omega
  have hec0:(0:Int)≤(e:Int):=by omega
  have hec2:(e:Int)<(e:Int)+2:=by omega
  go_enter Try.func68,Try.ntmps68
  go_upto_region 5 with fail
  rw [←hwa]
  clear hwa
  go_cut [42] from 43 (fun s42 wc=>s42=.bool false∧Grow wa wc)
  case first=>
   go_region_held3 (fun w'=>w'.cell? ⟨bb,o+e,none⟩=some (.int .u8 x)∧w'.cell? ⟨bb,o+(e+1),none⟩=some (.int .u8 y)) (first|assumption|exact HS.o _ grB) (first|(go_at_call 134;refine(HSM2.o _ grB).mono ?_;rintro e0 w4 ⟨rfl,hb4⟩))
   have GW4:Grow wa w4:=grB
   go_wp2
   go_meet
   case rel=>exact⟨by first|rfl|(rw [hbx];done)|(rw [hbx2];done)|(rw [hbx3];done),GW4⟩
  case rest=>
  obtain⟨rfl,hgw⟩:=hcut
  have HGW:=η hgw
  have c0:=(G1.o.trans hgw).sub _ _ HC0.o
  simp only [Nat.add_zero] at c0
  have hzw:IntKind.i64.wrap (z:Int)=(z:Int):=IntWalk.i64_in _ (by omega)
  clear hgw
  go_wp2
  obtain⟨wb,hwb⟩:∃x:World,x=wc.alloc (.cells #[.int .i64 z,.int .i64 0,.int .i64 0,.slice none 0 0] 39):=⟨_,rfl⟩
  obtain⟨B6,hB6⟩:∃B,B=wc.heap.size:=⟨_,rfl⟩
  have hrow:wb.heap[B6]? =some (.cells #[.int .i64 z,.int .i64 0,.int .i64 0,.slice none 0 0] 39 (0,0)):=by rw [hwb,hB6];exact row_new _ _
  have hgw:Grow wa wb:=by rw [hwb];exact HGW.o.alloc _
  have hlo:wa.heap.size≤B6:=by rw [hB6];exact HGW.o.size
  rw [←hwb,←hB6]
  clear hwb hB6 c0
  have RM:=η hrow
  have GB:=η (G1.o.trans hgw)
  have R2B:=η (row_grow R2.o hgw)
  have HLO:Hid (w.heap.size<B6):=η (by have:=(γ R2.o);omega)
  have HLB:Hid (B6<wb.heap.size):=η (γ hrow)
  have HRB:Hid (readB b=readBody z ((b.take e).drop 1)):=η (by unfold readB;rw [if_neg HL3.o,if_pos HOT.o,HZ.o,HTD.o])
  have HLL:Hid (((b.take e).drop 1).length=e - 1):=η (by rw [List.length_drop,HTL.o])
  have HSB:=η (HSL.o.drop 1 (by omega))
  have HZI:Hid (I64 (z:Int)):=η (i64_of (by omega) (by omega))
  have hcp:e+1≤cap - 1:=by omega
  have hcm:cap≤maxLen:=by have h9:=HV.o;obtain⟨a',cap',he9,-,h8,-⟩:=h9;simp only [Value.slice.injEq] at he9;omega
  clear hrow hgw hlo R2 G1 HGW HSL HSM2 HS HOT HTL HTD HZ HL3 HC0 HCX HCY HV hzw hbx hbx2 hbx3 ha1 hi1 hi0 hl3 hx2 hy2 hs1
  generalize (b.take e).drop 1=L at*
  go_loopw [7,8,9] (fun s7 s8 s9 wr=>∃(xs:List Int) (r:List UInt8) (want:Int) (q cr:Nat),RdSt L xs r want∧s9=.int .i64 want∧s7=.slice (some ⟨bb,q,none⟩) r.length cr∧r.length+2≤cr∧cr≤maxLen∧Bts w.cell? (.slice (some ⟨bb,q,none⟩) r.length cr) r∧OwnC Ty.int (fun _=>none) wr wb.heap.size 3 s8 xs∧Grow wb wr) (fun _ s8 _ _=>11 - lenOf s8)
  case atStart=>
   refine⟨[],L,3,o+1,cap - 1,RdSt.start L,rfl,by rw [HLL.o],by rw [HLL.o];omega,by omega,?_,OwnC.nil _ _ _ _ _,Grow.refl _⟩
   have h9:=HSB.o
   rw [HLL.o]
   simpa [show Ty.byte.size=1 from rfl] using h9
  case round=>
   obtain⟨xs,r,want,q,cr,hrd,rfl,rfl,hcr,hcm2,hbr,hown,hb⟩:=hrel
   obtain⟨wx,rfl⟩:∃x:World,x=wr:=⟨_,rfl⟩
   obtain⟨a8,c8,rfl⟩:=hown.form
   obtain⟨hw3,hw11⟩:=hrd.bound
   have HOWN:=η hown
   have HB:=η hb
   have HBR:=η hbr
   have HRD:=η hrd
   have GX:=η (GB.o.trans hb)
   have R2X:=η (row_grow R2B.o hb)
   have HLE:=η hrd.le
   clear hown hb hbr hrd
   by_cases hlt:(xs.length:Int)<want
   ·have HG:=η (ref_get wx (HBR.o.mono GX.o.sub))
    obtain⟨g0,g1,g2,g3,g4,g5⟩:=getB_bound r
    by_cases he:(getB r).2.2=0
    ·obtain⟨k,hk⟩:∃k:Nat,(getB r).2.1=k:=⟨(getB r).2.1.toNat,by omega⟩
     have HNX:=η (fun h=>HRD.o.next hlt he h)
     have HFV:Hid (xs.length=2→(getB r).1<0∨4<(getB r).1→readB b=(ms0,5)):=fun h9 h8=>by rw [HRB.o];exact HRD.o.five h9 he h8 _
     rw [hk] at HG HNX
     rw [he] at HG
     simp only [Int.toNat_natCast] at HNX
     have hkl:k≤r.length:=by omega
     have HBK:=η (HBR.o.drop k hkl)
     have HDL:Hid ((r.drop k).length=r.length - k):=η List.length_drop
     have HIX:Hid (I64 (getB r).1):=η (i64_of (by omega) (by omega))
     clear hk he g2 g3 g4 g5
     generalize (getB r).1=x at*
     have hkc:k≤cr:=by omega
     unfold maxLen at hcm2
     have hxl:xs.length<12:=by have:=HLE.o;omega
     go_wp2_with fail
     refine HG.o.mono ?_
     rintro e9 w3 ⟨rfl,hb3⟩
     have HO3:=η (HOWN.o.grow hb3)
     have G3:=η (GX.o.trans hb3)
     have GB3:=η (HB.o.trans hb3)
     have R3:=η (row_grow R2X.o hb3)
     clear hb3
     go_wp2_with (first|(at_builtin;refine wpList_appc (c:=fun _=>none) (base:=wb.heap.size) (l:=xs) (m:=[x]) ei_int rfl one_Tint (by decide) rfl (.tmp 72) (.tmp 74) rfl rfl ?own rfl (Src.of_new (T:=Ty.int) (x:=x) (cs:=#[.int .i64 x]) ⟨rfl,HIX.o⟩ _ _ ?d1) ?d2 ?d3 ?_))
     case own=>exact HO3.o.grow ((Grow.refl _).alloc _)
     case d1=>simp
     case d2=>simp;omega
     case d3=>have:=GB3.o.size;simp;omega
     intro a9 c9 w9 ho9 hg9 hb9
     have HO9:=η ho9
     have GB9:=η (grow_by (w0:=wb) (GB3.o.alloc _) hg9 (fun q hq=>(HO3.o.lt q hq).1))
     have G9:=η (GB.o.trans GB9.o)
     have R9:=η (row_grow R2B.o GB9.o)
     clear ho9 hg9 hb9
     have hll:xs.length+ [x].length=xs.length+1:=by simp
     by_cases h2:xs.length=2
     ·have hb17:((xs.length:Int)+1==3)=true:=by rw [h2];rfl
      have hxl2:xs.length+1=3:=by omega
      by_cases hx0:x<0
      ·have HE:=η (HFV.o h2 (.inl hx0))
       go_wp2_with fail
       refine(ref_fail _).mono ?_
       rintro e8 w8 ⟨rfl,hb8⟩
       have R8:=η (row_grow R9.o hb8)
       have G8:=η (G9.o.trans hb8)
       clear hb8
       go_wp2_with (first|(refine wpList_store_row rfl (.tmp 2) (.tmp 90) rfl rfl rfl R8.o info_ms rfl rfl ?_))
       intro w7 r7 g7
       obtain⟨p0,p1,p2,p3⟩:=cells4 r7
       go_wp2
       refine bodyPost_ret (v:=.tuple #[.agg #[.int .i64 0,.int .i64 0,.int .i64 0,.slice none 0 0],.int .i64 5]) (by simp [results,Try.results68,go_sem,p0,p1,p2,p3]) rfl ?_
       rw [HE.o]
       exact⟨_,rfl,of_ms0 _,G8.o.grown g7 (fun q hq=>by simp at hq;omega)⟩
      by_cases hx4:4<x
      ·have HE:=η (HFV.o h2 (.inr hx4))
       go_wp2_with fail
       refine(ref_fail _).mono ?_
       rintro e8 w8 ⟨rfl,hb8⟩
       have R8:=η (row_grow R9.o hb8)
       have G8:=η (G9.o.trans hb8)
       clear hb8
       go_wp2_with (first|(refine wpList_store_row rfl (.tmp 2) (.tmp 90) rfl rfl rfl R8.o info_ms rfl rfl ?_))
       intro w7 r7 g7
       obtain⟨p0,p1,p2,p3⟩:=cells4 r7
       go_wp2
       refine bodyPost_ret (v:=.tuple #[.agg #[.int .i64 0,.int .i64 0,.int .i64 0,.slice none 0 0],.int .i64 5]) (by simp [results,Try.results68,go_sem,p0,p1,p2,p3]) rfl ?_
       rw [HE.o]
       exact⟨_,rfl,of_ms0 _,G8.o.grown g7 (fun q hq=>by simp at hq;omega)⟩
      obtain⟨xn,rfl⟩:∃xn:Nat,x=xn:=⟨x.toNat,by omega⟩
      have HN:=η (HNX.o (fun _=>⟨by omega,by omega⟩))
      rw [if_pos h2] at HN
      have hxn:xn≤4:=by omega
      go_wp2
      go_roundw
      case rel=>
       refine⟨xs++ [(xn:Int)],r.drop k,3+2*(xn:Int),q+k,cr - k,HN.o,by go_num,by rw [HDL.o],by rw [HDL.o];omega,by unfold maxLen;omega,?_,HO9.o,GB9.o⟩
       have h9:=HBK.o
       rw [HDL.o]
       simpa [show Ty.byte.size=1 from rfl] using h9
      case measure=>simp [lenOf];omega
     ·have hb17:((xs.length:Int)+1==3)=false:=by rw [beq_eq_false_iff_ne];omega
      have hxl2:¬xs.length+1=3:=by omega
      have HN:=η (HNX.o (fun h=>absurd h h2))
      rw [if_neg h2] at HN
      go_wp2
      go_roundw
      case rel=>
       refine⟨xs++ [x],r.drop k,want,q+k,cr - k,HN.o,rfl,by rw [HDL.o],by rw [HDL.o];omega,by unfold maxLen;omega,?_,HO9.o,GB9.o⟩
       have h9:=HBK.o
       rw [HDL.o]
       simpa [show Ty.byte.size=1 from rfl] using h9
      case measure=>simp [lenOf];omega
    ·have HE:Hid (readB b=(ms0,(getB r).2.2)):=η (by rw [HRB.o];exact HRD.o.fails hlt he _)
     have hbe:((getB r).2.2 !=0)=true:=by simp [he]
     clear he g0 g1 g2 g3 g4 g5
     generalize (getB r).2.2=er at*
     generalize (getB r).2.1=ek at*
     generalize (getB r).1=ex at*
     go_wp2_with fail
     refine HG.o.mono ?_
     rintro e9 w3 ⟨rfl,hb3⟩
     have G3:=η (GX.o.trans hb3)
     have R3:=η (row_grow R2X.o hb3)
     clear hb3
     go_wp2_with fail
     refine(ref_fail _).mono ?_
     rintro e8 w8 ⟨rfl,hb8⟩
     have R8:=η (row_grow R3.o hb8)
     have G8:=η (G3.o.trans hb8)
     clear hb8
     go_wp2_with (first|(refine wpList_store_row rfl (.tmp 2) (.tmp 70) rfl rfl rfl R8.o info_ms rfl rfl ?_))
     intro w7 r7 g7
     obtain⟨p0,p1,p2,p3⟩:=cells4 r7
     go_wp2
     refine bodyPost_ret (v:=.tuple #[.agg #[.int .i64 0,.int .i64 0,.int .i64 0,.slice none 0 0],.int .i64 er]) (by simp [results,Try.results68,go_sem,p0,p1,p2,p3]) rfl ?_
     rw [HE.o]
     exact⟨_,rfl,of_ms0 _,G8.o.grown g7 (fun q hq=>by simp at hq;omega)⟩
   ·have HAL:=η (HRD.o.all (by omega) (z:Int))
    by_cases hr:r=[]
    ·have hrl:¬(0:Int)<(r.length:Int):=by rw [hr];simp
     have HPL:=η (HRD.o.pairs_all (by omega))
     rw [if_neg (by simp [hr])] at HAL
     have hx3:3≤xs.length:=by omega
     have hx11:xs.length≤11:=by have:=HLE.o;omega
     obtain⟨g8,rfl,n0,n1,hn8⟩:=nums_at HOWN.o hx3
     have HN8:=η hn8
     have RMX:=η (row_grow RM.o HB.o)
     obtain⟨m0,m1,m2,m3⟩:=cells4 RMX.o
     have z6:B6<wx.heap.size:=(γ RMX.o)
     have z8:wb.heap.size≤g8:=(HOWN.o.lt g8 rfl).1
     have HS:Hid (∀W,Grow wx W→W.cell? ⟨g8,0,none⟩=some (.int .i64 (xs.getD 0 0))∧W.cell? ⟨g8,1,none⟩=some (.int .i64 (xs.getD 1 0))):=fun W hW=>⟨hW.sub _ _ n0,hW.sub _ _ n1⟩
     have hi0:(0:Int)<(xs.length:Int):=by omega
     have hi1:(1:Int)<(xs.length:Int):=by omega
     have hn0:0<xs.length:=by omega
     have hn1:1<xs.length:=by omega
     have HIX1:=η (HOWN.o.int_ok 1)
     have HIX0:=η (HOWN.o.int_ok 0)
     clear hr m0 m1 m2 m3 n0 n1 hn8
     generalize xs.getD 0 0=dd at*
     generalize xs.getD 1 0=hh at*
     go_upto_region 23 with fail
     refine but_start (fun w'=>w'.cell? ⟨g8,0,none⟩=some (.int .i64 dd)∧w'.cell? ⟨g8,1,none⟩=some (.int .i64 hh)) 9 (by kernel_rfl) ?_
     obtain⟨wd,hWd⟩:∃x:World,x=wx.drew:=⟨_,rfl⟩
     rw [←hWd]
     have GD:Grow wx wd:=by rw [hWd];exact(Grow.refl _).drew
     have zD:wx.heap.size=wd.heap.size:=by rw [hWd];rfl
     have ZD:=η zD
     clear hWd zD
     refine bLm [0] 12 (by kernel_rfl) (fun _ _ _ _ _ h=>h) (HS.o _ GD) ?_
     repeat (refine tNm (v:=?_) rfl (by rfl) ?_ ?_;rotate_left;(· (intro w' hSw;(try dsimp only at hSw);obtain⟨hs0,hs1⟩:=hSw;go_simp<;>with_reducible rfl));try simp only [Act.put,lzA,lzC,lzD,lzE,lzF])
     refine tEm ?_
     refine bLm [1,2,3,4,5] 12 (by kernel_rfl) (fun _ _ _ _ _ h=>h) (HS.o _ GD) ?_
     repeat (refine tNm (v:=?_) rfl (by rfl) ?_ ?_;rotate_left;(· (intro w' hSw;(try dsimp only at hSw);obtain⟨hs0,hs1⟩:=hSw;go_simp<;>with_reducible rfl));try simp only [Act.put,lzA,lzB,lzC,lzD,lzE,lzF])
     refine tEm ?_
     refine bO 6 (by kernel_rfl) rfl ?_
     intro K HK
     try simp only [lzA,lzB,lzC]
     go_simp
     refine HK.o _ _ ⟨fun _=>HS.o _ GD,?_⟩
     clear HK K
     try simp only [Act.put,lzA,lzB,lzC,lzD,lzE,lzF]
     refine bO 7 (by kernel_rfl) rfl ?_
     intro K HK
     refine wanted_go rfl ?_
     try simp only [lzA,lzB,lzC]
     refine wp_store_cell (.tmp 108) (.tmp 104) (v:=.int .i64 dd) (new:=#[.int .i64 z,.int .i64 dd,.int .i64 0,.slice none 0 0]) rfl rfl (by rfl) (by rfl) (row_grow RMX.o GD) info_int (by simp) (by rfl) (by rfl) ?_
     intro z7 rz7 gz7
     have Hz7:=η (And.intro rz7 gz7)
     clear rz7 gz7
     refine HK.o _ _ ⟨fun _=>⟨cell_by2 (HS.o _ GD).1 (Hz7.o.2) (by have:=HLB.o;show g8≠B6;omega),cell_by2 (HS.o _ GD).2 (Hz7.o.2) (by have:=HLB.o;show g8≠B6;omega)⟩,?_⟩
     clear HK K
     try simp only [Act.put]
     refine bO 8 (by kernel_rfl) rfl ?_
     intro K HK
     try simp only [lzA,lzB,lzC]
     go_simp
     refine HK.o _ _ ⟨fun _=>⟨cell_by2 (HS.o _ GD).1 (Hz7.o.2) (by have:=HLB.o;show g8≠B6;omega),cell_by2 (HS.o _ GD).2 (Hz7.o.2) (by have:=HLB.o;show g8≠B6;omega)⟩,?_⟩
     clear HK K
     try simp only [Act.put,lzA,lzB,lzC,lzD,lzE,lzF]
     refine bO 9 (by kernel_rfl) rfl ?_
     intro K HK
     refine wanted_go rfl ?_
     try simp only [lzA,lzB,lzC]
     refine wp_store_cell (.tmp 109) (.tmp 107) (v:=.int .i64 hh) (new:=#[.int .i64 z,.int .i64 dd,.int .i64 hh,.slice none 0 0]) rfl rfl (by rfl) (by rfl) Hz7.o.1 info_int (by simp) (by rfl) (by rfl) ?_
     intro z9 rz9 gz9
     have Hz9:=η (And.intro rz9 gz9)
     clear rz9 gz9
     refine HK.o _ _ ⟨fun h=>absurd rfl h,?_⟩
     clear HK K
     try simp only [Act.put]
     refine but_done (by kernel_rfl) ?_
     have HG8:=η (grownBy_trans (grownBy_of_grow GD (some B6)) (grownBy_trans Hz7.o.2 Hz9.o.2))
     have RM9:=η Hz9.o.1
     have R29:=η (row_by (row_grow R2X.o GD) (grownBy_trans Hz7.o.2 Hz9.o.2) (by have:=HLO.o;intro e9;have:=Option.some.inj e9;omega))
     have GX9:=η (GX.o.grown HG8.o (fun q hq=>by have:=HLO.o;simp at hq;omega))
     have HO9:=η (HOWN.o.kept HG8.o (.inr (by have:=HLB.o;simp [Value.ownBlock];omega)))
     obtain⟨wy,rfl⟩:∃x:World,x=z9:=⟨_,rfl⟩
     clear Hz7 Hz9 HG8 GD ZD HS RMX R2X GX HOWN HB
     go_wp2
     go_loopw [13] (fun i wr=>∃(i0 k:Nat) (vp:Value),i0=3+2*k∧i0≤xs.length∧i=.int .i64 (i0:Nat)∧PSt w wr B6 wb.heap.size z dd hh vp g8 c8 (pairs hh ((xs.drop 3).take (2*k))) xs) (fun i _=>xs.length - (intOf i).toNat)
     case atStart=>exact⟨3,0,.slice none 0 0,rfl,by omega,rfl,⟨R29.o,RM9.o,HO9.o,World.ownsRow_nil _ _ _ _,GX9.o,HLO.o,HLB.o,fun q hq=>by simp [Value.ownBlock] at hq⟩⟩
     case round=>
      obtain⟨i0,k,vp,hi0,hk3,rfl,hp⟩:=hrel
      have HI0:=η hi0
      obtain⟨wv,rfl⟩:∃x:World,x=wr:=⟨_,rfl⟩
      obtain⟨ap,cp,rfl⟩:=owns_form hp.own
      have HP:=η hp
      clear hp
      by_cases hlt2:i0<xs.length
      ·have hlt3:i0+1<xs.length:=by have:=HPL.o.2 k (by omega);omega
       have HPN:=η (pairs_more hh (xs:=xs) (k:=k) (by omega))
       rw [←hi0] at HPN
       have HPK:=η (pairs_short hh (xs:=xs) (k:=k) (by omega))
       obtain⟨n0,n1⟩:=nums_two HP.o.num hlt3
       have HIA:=η (HP.o.num.int_ok i0)
       have HIB:=η (HP.o.num.int_ok (i0+1))
       have HS:Hid (∀W,Grow wv W→W.cell? ⟨B6,3,none⟩=some (.slice ap (pairs hh ((xs.drop 3).take (2*k))).length cp)∧W.cell? ⟨B6,2,none⟩=some (.int .i64 hh)∧W.cell? ⟨g8,i0,none⟩=some (.int .i64 (xs.getD i0 0))∧W.cell? ⟨g8,i0+1,none⟩=some (.int .i64 (xs.getD (i0+1) 0))):=fun W hW=>by
        obtain⟨-,-,m2,m3⟩:=cells4 (row_grow HP.o.msg hW)
        exact⟨m3,m2,hW.sub _ _ n0,hW.sub _ _ n1⟩
       clear n0 n1
       generalize xs.getD i0 0=xa at*
       generalize xs.getD (i0+1) 0=xb at*
       generalize pairs hh ((xs.drop 3).take (2*k))=ps at*
       have hia:IntKind.i64.wrap ((i0:Int)+1)=(i0:Int)+1:=IntWalk.i64_in _ (by omega)
       have hib:(0:Int)≤(i0:Int)+1:=by omega
       have hic:(i0:Int)+1<(xs.length:Int):=by omega
       have hid:((i0:Int)+1).toNat=i0+1:=by omega
       clear hi0
       go_upto_region 27 with fail
       refine but_start (fun w'=>w'.cell? ⟨B6,3,none⟩=some (.slice ap ps.length cp)∧w'.cell? ⟨B6,2,none⟩=some (.int .i64 hh)∧w'.cell? ⟨g8,i0,none⟩=some (.int .i64 xa)∧w'.cell? ⟨g8,i0+1,none⟩=some (.int .i64 xb)) 17 (by kernel_rfl) ?_
       obtain⟨wd,hWd⟩:∃x:World,x=wv.drew:=⟨_,rfl⟩
       rw [←hWd]
       have GD:Grow wv wd:=by rw [hWd];exact(Grow.refl _).drew
       have zD:wv.heap.size=wd.heap.size:=by rw [hWd];rfl
       have ZD:=η zD
       clear hWd zD
       refine bLm [0] 20 (by kernel_rfl) (fun _ _ _ _ _ h=>h) (HS.o _ GD) ?_
       repeat (refine tNm (v:=?_) rfl (by rfl) ?_ ?_;rotate_left;(· (intro w' hSw;(try dsimp only at hSw);obtain⟨hs0,hs1,hs2,hs3⟩:=hSw;go_simp<;>with_reducible rfl));try simp only [Act.put,lzA,lzC,lzD,lzE,lzF])
       refine tEm ?_
       refine bLm [1,2,3,4,5,6,7,8,9,10,11,12] 20 (by kernel_rfl) (fun _ _ _ _ _ h=>h) (HS.o _ GD) ?_
       repeat (refine tNm (v:=?_) rfl (by rfl) ?_ ?_;rotate_left;(· (intro w' hSw;(try dsimp only at hSw);obtain⟨hs0,hs1,hs2,hs3⟩:=hSw;go_simp<;>with_reducible rfl));try simp only [Act.put,lzA,lzB,lzC,lzD,lzE,lzF])
       refine tEm ?_
       refine bO 13 (by kernel_rfl) rfl ?_
       intro K HK
       try simp only [lzA,lzB,lzC]
       go_simp
       refine HK.o _ _ ⟨fun _=>HS.o _ GD,?_⟩
       clear HK K
       try simp only [Act.put,lzA,lzB,lzC,lzD,lzE,lzF]
       refine bO 14 (by kernel_rfl) rfl ?_
       intro K HK
       try simp only [lzA,lzB,lzC]
       go_simp
       obtain⟨y9,hy9⟩:∃x:World,x=wd.alloc (.cells #[.int .i64 hh,.int .i64 xa,.int .i64 xb] 32):=⟨_,rfl⟩
       have GY:Grow wd y9:=by rw [hy9];exact(Grow.refl _).alloc _
       have RY:y9.heap[wd.heap.size]? =some (.cells #[.int .i64 hh,.int .i64 xa,.int .i64 xb] 32 (0,0)):=by rw [hy9];exact row_new _ _
       have HY:=η (And.intro (GD.trans GY) RY)
       rw [←hy9]
       clear hy9 GY RY
       refine HK.o _ _ ⟨fun _=>HS.o _ HY.o.1,?_⟩
       clear HK K
       try simp only [Act.put,lzA,lzB,lzC,lzD,lzE,lzF]
       refine bO 15 (by kernel_rfl) rfl ?_
       intro K HK
       refine wanted_go rfl ?_
       try simp only [lzA,lzB,lzC]
       refine wp_app_any (n:=ps.length) ei_pt (.tmp 117) (.tmp 130) rfl rfl (owns_grow HP.o.own HY.o.1) (some ⟨wd.heap.size,0,none⟩) 1 1 [.int .i64 hh,.int .i64 xa,.int .i64 xb] rfl (by simp) rfl (fun ad had j u hu=>?news) (one_pt ⟨hh,xa,xb⟩) (by have:=HPK.o;have:=HI0.o;unfold maxLen;omega) (by have:=HPK.o;have:=HI0.o;omega) (by have:=HY.o.1.size;have:=(γ HP.o.msg);have:=HP.o.wbs;omega) ?_
       case news=>
        obtain rfl:=Option.some.inj had
        have h9:=cells3 HY.o.2
        rw [Addr.add_lit,Nat.zero_add]
        match j,hu with
        |0,hu=>simp at hu;rw [←hu];exact h9.1
        |1,hu=>simp at hu;rw [←hu];exact h9.2.1
        |2,hu=>simp at hu;rw [←hu];exact h9.2.2
        |j+3,hu=>simp at hu
       intro a9 c9 z9 hA
       have HA:=η hA
       clear hA
       refine HK.o _ _ ⟨fun _=>HP.o.still HY.o.1 HA.o.grown (HS.o _ HY.o.1),?_⟩
       clear HK K
       try simp only [Act.put,lzD,lzE,lzF]
       refine bO 16 (by kernel_rfl) rfl ?_
       intro K HK
       try simp only [lzA,lzB,lzC]
       go_simp
       refine HK.o _ _ ⟨fun _=>HP.o.still HY.o.1 HA.o.grown (HS.o _ HY.o.1),?_⟩
       clear HK K
       try simp only [Act.put,lzA,lzB,lzC,lzD,lzE,lzF]
       refine bO 17 (by kernel_rfl) rfl ?_
       intro K HK
       refine wanted_go rfl ?_
       try simp only [lzA,lzB,lzC]
       refine wp_store_cell (.tmp 132) (.tmp 131) (v:=.slice a9 (ps.length+1) c9) (new:=#[.int .i64 z,.int .i64 dd,.int .i64 hh,.slice a9 (ps.length+1) c9]) rfl rfl (by rfl) (by rfl) (row_by (row_grow HP.o.msg HY.o.1) HA.o.grown (fun e9=>(HP.o.dis _ e9.symm).1 rfl)) info_parts (by simp) (by rfl) (by rfl) ?_
       intro zz rz gz
       have HZZ:=η (And.intro rz gz)
       clear rz gz
       refine HK.o _ _ ⟨fun h=>absurd rfl h,?_⟩
       clear HK K
       try simp only [Act.put]
       refine but_done (by kernel_rfl) ?_
       go_wp2
       go_roundw
       case rel=>
        refine⟨i0+2,k+1,.slice a9 (ps.length+1) c9,by have:=HI0.o;omega,by omega,by go_num,?_⟩
        rw [HPN.o]
        refine HP.o.part (ps':=ps++ [⟨hh,xa,xb⟩]) HY.o.1 ?_ HA.o.grown HA.o.blk HZZ.o.1 HZZ.o.2
        have h9:=HA.o.own
        simpa [Pt.cells] using h9
       case measure=>simp [intOf];omega
      ·have HE0:=η (show(xs.drop 3).take (2*k)=xs.drop 3 from List.take_of_length_le (by rw [List.length_drop];omega))
       have hp9:=HP.o
       rw [HE0.o] at hp9
       have HP9:=η hp9
       have HPK:=η (pairs_short hh (xs:=xs) (k:=k) (by omega))
       rw [HE0.o] at HPK
       clear HP
       have HOK:=η (pairs_fine (l:=xs.drop 3) HIX1.o (fun x hx=>HP9.o.num.ints_ok x (List.mem_of_mem_drop hx)))
       clear hp9 HE0
       generalize pairs hh (xs.drop 3)=ps at*
       have HW:=η (fun(W:World) (hW:Grow wv W)=>ref_wrong (m:=⟨z,dd,hh,ps⟩) W ⟨_,rfl,.slice ap ps.length cp,rfl,HZI.o,HIX0.o,HIX1.o,(Pts.of_own HP9.o.own HOK.o).mono hW.sub⟩)
       obtain⟨m0,m1,m2,m3⟩:=cells4 HP9.o.msg
       have z7:B6<wv.heap.size:=(γ HP9.o.msg)
       go_wp2_with fail
       refine(HW.o _ (Grow.refl _)).mono ?_
       rintro e9 wy2 ⟨rfl,hby⟩
       have R2Y:=η (row_grow HP9.o.res hby)
       have RMY:=η (row_grow HP9.o.msg hby)
       have OWY:=η (owns_grow HP9.o.own hby)
       have GY:=η (HP9.o.grow.trans hby)
       clear hby m0 m1 m2 m3
       by_cases hwr:wrongM ⟨z,dd,hh,ps⟩=0
       ·have HE:Hid (readB b=(⟨z,dd,hh,ps⟩,0)):=η (by rw [HRB.o,HAL.o,if_pos hwr])
        have hbw:(wrongM ⟨z,dd,hh,ps⟩ !=0)=false:=by simp [hwr]
        obtain⟨m0,m1,m2,m3⟩:=cells4 RMY.o
        have z9:B6<wy2.heap.size:=(γ RMY.o)
        clear hwr
        generalize wrongM ⟨z,dd,hh,ps⟩=er at*
        go_wp2_with (first|(refine wpList_store_row rfl (.tmp 2) (.tmp 142) rfl rfl rfl R2Y.o info_ms rfl rfl ?_))
        intro w7 r7 g7
        obtain⟨p0,p1,p2,p3⟩:=cells4 r7
        clear m0 m1 m2 m3
        go_wp2
        refine bodyPost_ret (v:=.tuple #[.agg #[.int .i64 z,.int .i64 dd,.int .i64 hh,.slice ap ps.length cp],.int .i64 0]) (by simp [results,Try.results68,go_sem,p0,p1,p2,p3]) rfl ?_
        rw [HE.o]
        refine⟨_,rfl,⟨_,rfl,.slice ap ps.length cp,rfl,HZI.o,HIX0.o,HIX1.o,?_⟩,GY.o.grown g7 (fun q hq=>by simp at hq;omega)⟩
        have h9:=OwnC.pts (c:=fun _=>none) (OWY.o.kept g7 (by
         cases e9:(Value.slice ap ps.length cp).ownBlock with
         |none=>exact .inl rfl
         |some q=>exact .inr (by have:=(HP9.o.own.lt q e9).1;have:=HP9.o.wbs;have:=HLO.o;intro e8;have:=Option.some.inj e8;omega))) HOK.o
        exact h9.slc (by decide) (fun _ _ e9=>by cases e9) (fun a9 ha=>ov_new (by have:=HP9.o.wbs;have:=HLO.o;omega))
       ·have HE:Hid (readB b=(ms0,wrongM ⟨z,dd,hh,ps⟩)):=η (by rw [HRB.o,HAL.o,if_neg hwr])
        have hbw:(wrongM ⟨z,dd,hh,ps⟩ !=0)=true:=by simp [hwr]
        clear hwr
        generalize wrongM ⟨z,dd,hh,ps⟩=er at*
        go_wp2_with fail
        refine(ref_fail _).mono ?_
        rintro e8 w8 ⟨rfl,hb8⟩
        have R8:=η (row_grow R2Y.o hb8)
        have G8:=η (GY.o.trans hb8)
        clear hb8
        go_wp2_with (first|(refine wpList_store_row rfl (.tmp 2) (.tmp 140) rfl rfl rfl R8.o info_ms rfl rfl ?_))
        intro w7 r7 g7
        obtain⟨p0,p1,p2,p3⟩:=cells4 r7
        go_wp2
        refine bodyPost_ret (v:=.tuple #[.agg #[.int .i64 0,.int .i64 0,.int .i64 0,.slice none 0 0],.int .i64 er]) (by simp [results,Try.results68,go_sem,p0,p1,p2,p3]) rfl ?_
        rw [HE.o]
        exact⟨_,rfl,of_ms0 _,G8.o.grown g7 (fun q hq=>by simp at hq;omega)⟩
    ·have hrl:(0:Int)<(r.length:Int):=by have:=List.length_pos_iff.2 hr;omega
     have HE:Hid (readB b=(ms0,2)):=η (by rw [HRB.o,HAL.o,if_pos hr])
     go_wp2_with fail
     refine(ref_fail _).mono ?_
     rintro e8 w8 ⟨rfl,hb8⟩
     have R8:=η (row_grow R2X.o hb8)
     have G8:=η (GX.o.trans hb8)
     clear hb8
     go_wp2_with (first|(refine wpList_store_row rfl (.tmp 2) (.tmp 100) rfl rfl rfl R8.o info_ms rfl rfl ?_))
     intro w7 r7 g7
     obtain⟨p0,p1,p2,p3⟩:=cells4 r7
     go_wp2
     refine bodyPost_ret (v:=.tuple #[.agg #[.int .i64 0,.int .i64 0,.int .i64 0,.slice none 0 0],.int .i64 2]) (by simp [results,Try.results68,go_sem,p0,p1,p2,p3]) rfl ?_
     rw [HE.o]
     exact⟨_,rfl,of_ms0 _,G8.o.grown g7 (fun q hq=>by simp at hq;omega)⟩
 ·have HOT:=η (show sumOk b=false by rw [HOK.o];exact decide_eq_false ht)
  have hbx:((s:Int) !=IntKind.i64.wrap (IntKind.i64.wrap (256*IntKind.i64.wrap (x:Int))+(y:Int)))=true:=by rw [IntWalk.i64_in (x:Int) (by omega),IntWalk.i64_in (256*(x:Int)) (by omega),IntWalk.i64_in (256*(x:Int)+(y:Int)) (by omega)];rw [bne_iff_ne];omega
  have hbx3:((s:Int) !=IntKind.i64.wrap (IntKind.i64.wrap (256*IntKind.i64.wrap (x:Int))+IntKind.i64.wrap (y:Int)))=true:=by rw [IntWalk.i64_in (x:Int) (by omega),IntWalk.i64_in (y:Int) (by omega),IntWalk.i64_in (256*(x:Int)) (by omega),IntWalk.i64_in (256*(x:Int)+(y:Int)) (by omega)];rw [bne_iff_ne];omega
  have hbx2:((s:Int) !=256*(x:Int)+(y:Int))=true:=by rw [bne_iff_ne];omega
  clear HOK ht
  have ha1:IntKind.i64.wrap ((e:Int)+1)=(e:Int)+1:=IntWalk.i64_in _ (by omega)
  have hi1:(e:Int)+1<(e:Int)+2:=by omega
  have hi0:(0:Int)≤(e:Int)+1:=by omega
  have hec:(e:Int)≤(cap:Int):=by omega
  have hec0:(0:Int)≤(e:Int):=by omega
  have hec2:(e:Int)<(e:Int)+2:=by omega
  have HE:Hid (readB b=(ms0,7)):=η (by unfold readB;rw [if_neg HL3.o,if_neg (by rw [HOT.o];decide)])
  go_enter Try.func68,Try.ntmps68
  go_upto_region 5 with fail
  rw [←hwa]
  clear hwa
  go_cut [42] from 43 (fun s42 wc=>s42=.bool true∧Grow wa wc)
  case first=>
   go_region_held3 (fun w'=>w'.cell? ⟨bb,o+e,none⟩=some (.int .u8 x)∧w'.cell? ⟨bb,o+(e+1),none⟩=some (.int .u8 y)) (first|assumption|exact HS.o _ grB) (first|(go_at_call 134;refine(HSM2.o _ grB).mono ?_;rintro e0 w4 ⟨rfl,hb4⟩))
   have GW4:Grow wa w4:=grB
   go_wp2
   go_meet
   case rel=>exact⟨by first|rfl|(rw [hbx];done)|(rw [hbx2];done)|(rw [hbx3];done),GW4⟩
  case rest=>
  obtain⟨rfl,GW4⟩:=hcut
  have R4:=η (row_grow R2.o GW4)
  go_wp2_with fail
  refine(ref_fail _).mono ?_
  rintro e w5 ⟨rfl,hb⟩
  have R5:=η (row_grow R4.o hb)
  have G5:=η (G1.o.trans (GW4.trans hb))
  clear hb
  go_wp2_with (first|(refine wpList_store_row rfl (.tmp 2) (.tmp 45) rfl rfl rfl R5.o info_ms rfl rfl ?_))
  intro w7 r7 g7
  obtain⟨p0,p1,p2,p3⟩:=cells4 r7
  go_wp2
  refine bodyPost_ret (v:=.tuple #[.agg #[.int .i64 0,.int .i64 0,.int .i64 0,.slice none 0 0],.int .i64 7]) (by simp [results,Try.results68,go_sem,p0,p1,p2,p3]) rfl ?_
  rw [HE.o]
  exact⟨_,rfl,of_ms0 _,G5.o.grown g7 (fun q hq=>by simp at hq;omega)⟩
theorem ref_read {v:Value} {b:List UInt8} (w:World) (hv:Bts w.cell? v b):
  Calls Try.prog 68 #[v] w fun e w'=>∃v',e=.returned (.tuple #[v',.int .i64 (readB b).2])∧Of Ty.ms w'.cell? v' (readB b).1∧Grow w w':=
 (ref_readN w hv).mono fun e w' ⟨v',he,hO,hg⟩=>⟨v',he,hO.mono (fun a u e9=>by
  unfold ov at e9
  split at e9
  ·cases e9
  ·exact e9),hg⟩
theorem wp_appv {P:Program} {t e:TypeId} {size bytes:Nat} (hE:EI P t e size bytes) {α:Type} {T:Ty α} (hT:T.size=size) (h1:TOne T) (hb0:0<bytes) {c:CM} {w:World} {o:Oper} {a:Act} {K:Act→World→Prop} {Q:Exit→Act→World→Prop} (s x:Operand) (ho:o.op=.call { callee:=.builtin .append,args:=#[s,x],argTypes:=#[t,t] })
  {base:Nat} {v vs:Value} {l m k:List α} (hk:l++m=k) (hs:a.eval s=v) (hown:OwnC T c w base e v l) (hx:a.eval x=vs) (hsrc:Src T c w vs m)
  (hbytes:(l.length+m.length)*bytes≤140737488355328) (hbase:base≤w.heap.size)
  (h:∀a' n' c' w',n'=k.length→OwnC T c w' base e (.slice a' n' c') k→w.grownBy w' v.ownBlock→((Value.slice a' n' c').ownBlock=v.ownBlock∨∃g,(Value.slice a' n' c').ownBlock=some g∧w.heap.size≤g)→K (a.put o.dst (.slice a' n' c')) w'):o.wp P a w K Q:=
 wp_appc hE hT h1 hb0 s x ho hs hown hx hsrc hbytes hbase fun a' c' w' h2 h3 h4=>h a' _ c' w' (by rw [←hk,List.length_append]) (hk▸h2) h3 h4
set_option maxRecDepth 100000 in
set_option maxHeartbeats 4000000 in
theorem ref_do_lose {c:CM} {v vs:Value} {x:AW} {sn:Int} {sp:List Pt} {n:Nat} {G:Reg} {k:Nat} (w:World) (hc:Sub c w.cell?) (hv:Of Ty.wd c v x) (hs:Of Ty.st c vs ⟨3,sn,sp⟩) (hi:WI n G x) (hf:Few k x) (hk:k≤1000) (ht:there x sn=true):
  Calls Try.prog 138 #[v,vs] w fun e w'=>∃v',e=.returned (.tuple #[v',.int .i64 (doErr x ⟨3,sn,sp⟩)])∧Of Ty.wd (ov c w w') v' (doA x ⟨3,sn,sp⟩)∧Grow w w':=by
 obtain⟨al,cl,ao,co,ah,ch,an,cn,rfl⟩:=hv.wd_form
 obtain⟨ap,cp,rfl⟩:=hs.st_form
 obtain⟨q1,q2,q3⟩:=hv.wd_parts
 have HQ1:=η q1
 have HQ2:=η q2
 have HQ3:=η q3
 have HSP:=η hs.st_parts
 have HHD:=η (hi.hdok hf hk)
 have HWI:=η hi
 have HV:=η hv
 have HC:=η hc
 have HT:=η ht
 clear hc hv hs q1 q2 q3 hi hf
 obtain⟨wa,hwa⟩:∃y:World,y=w.alloc (.cells #[.slice al x.head.log.length cl,.int .i64 x.head.boot,.int .i64 x.head.next,.slice ao x.head.opn.length co,.slice ah x.houses.length ch,.slice an x.net.length cn] 93):=⟨_,rfl⟩
 obtain⟨wb,hwb⟩:∃y:World,y=wa.alloc (.cells #[.int .i64 3,.int .i64 sn,.slice ap sp.length cp] 164):=⟨_,rfl⟩
 obtain⟨wz,hwz⟩:∃y:World,y=wb.alloc (.cells #[.slice none 0 0,.int .i64 0,.int .i64 0,.slice none 0 0,.slice none 0 0,.slice none 0 0] 93):=⟨_,rfl⟩
 have hsa:wa.heap.size=w.heap.size+1:=by rw [hwa];simp
 have hsb:wb.heap.size=w.heap.size+2:=by rw [hwb];simp [hsa]
 have R2:Hid (wz.heap[w.heap.size]? =some (.cells #[.slice al x.head.log.length cl,.int .i64 x.head.boot,.int .i64 x.head.next,.slice ao x.head.opn.length co,.slice ah x.houses.length ch,.slice an x.net.length cn] 93 (0,0))):=η (by rw [hwz,hwb,hwa];exact heap_later (heap_later (row_new _ _) _) _)
 have R3:Hid (wz.heap[w.heap.size+1]? =some (.cells #[.int .i64 3,.int .i64 sn,.slice ap sp.length cp] 164 (0,0))):=η (by rw [hwz,hwb,←hsa];exact heap_later (row_new _ _) _)
 have R4:Hid (wz.heap[w.heap.size+2]? =some (.cells #[.slice none 0 0,.int .i64 0,.int .i64 0,.slice none 0 0,.slice none 0 0,.slice none 0 0] 93 (0,0))):=η (by rw [hwz,←hsb];exact row_new _ _)
 have G1:Hid (Grow w wz):=η (by rw [hwz,hwb,hwa];exact(((Grow.refl w).alloc _).alloc _).alloc _)
 have HZ:Hid (wz.heap.size=w.heap.size+3):=η (by rw [hwz];simp [hsb])
 go_enter Try.func138,Try.ntmps138
 go_upto_region 1 with fail
 rw [←hwa]
 try rw [hsa]
 rw [←hwb]
 try rw [hsb]
 rw [←hwz]
 clear hwa hwb hwz hsa hsb
 obtain⟨c0,c1,c2,c3,c4,c5⟩:=cells6 R2.o
 obtain⟨d0,d1,d2⟩:=cells3 R3.o
 have z2:w.heap.size<wz.heap.size:=(γ R2.o)
 have z3:w.heap.size+1<wz.heap.size:=(γ R3.o)
 go_cut [6] from 22 (fun s6 wc=>s6=.bool (there x sn)∧wz=wc)
 case first=>
  by_cases h0:0≤sn
  ·by_cases h1:sn<(x.net.length:Int)
   ·go_wp2
    go_meet
    case rel=>exact⟨by first|rfl|(simp [there,h0,h1];done),rfl⟩
   ·go_wp2
    go_meet
    case rel=>exact⟨by first|rfl|(simp [there,h0,h1];done)|(simp [there,h0];omega),rfl⟩
  ·go_wp2
   go_meet
   case rel=>exact⟨by first|rfl|(simp [there];done)|(simp [there];omega),rfl⟩
 case rest=>
 obtain⟨rfl,rfl⟩:=hcut
 obtain⟨h0,h1⟩:0≤sn∧sn<(x.net.length:Int):=of_decide_eq_true HT.o
 have HE2:Hid (doErr x ⟨3,sn,sp⟩=0):=η (by unfold doErr;simp [ht])
 have HE0:Hid (doA x ⟨3,sn,sp⟩={ x with net:=x.net.eraseIdx sn.toNat }):=η (by unfold doA;simp [ht])
 rw [ht]
 obtain⟨i,hi⟩:∃i:Nat,sn=(i:Int):=⟨sn.toNat,by omega⟩
 have hil:i<x.net.length:=by omega
 have hti:sn.toNat=i:=by omega
 have hq3:=HQ3.o
 obtain⟨an',cn',he9,hcc,-,-,hel⟩:=hq3
 simp only [Value.slice.injEq] at he9
 obtain⟨rfl,-,rfl⟩:=he9
 rw [List.length_map] at hcc
 obtain⟨bb,o,u,rfl,ci,hbi⟩:=Nts.at_ hel i (by simpa using hil)
 obtain⟨au,cu,rfl,-⟩:=id hbi
 have HMI:Hid ((x.net.map bytesM)[i]'(by simpa using hil)=bytesM x.net[i]):=η (by rw [List.getElem_map])
 rw [HMI.o] at hbi ci
 have HRD:=η (fun(W:World) (hW:Grow w W)=>ref_read W (hbi.mono (HC.o.trans hW.sub)))
 have HRB:=η (read_bytes (HWI.o.right _ (List.getElem_mem hil)))
 rw [HRB.o] at HRD
 have H24:=η HWI.o.len
 have HN3:Hid (Nts c (.slice (some ⟨bb,o,none⟩) x.net.length cn) (x.net.map bytesM)):=η HQ3.o
 rw [hti] at HE0
 have HSI:Hid (sn=(i:Int)):=η hi
 replace ci:=(HC.o.trans G1.o.sub) _ _ ci
 clear hel hbi ht HT HRB HMI
 generalize x.net[i]=m at*
 have hi0:(0:Int)≤sn:=by omega
 have hi9:sn<(x.net.length:Int):=by omega
 subst hi
 go_upto_region 21 with fail
 clear c0 c1 c2 c3 c4 c5 d0 d1 d2 ci z2 z3
 have hll:(x.net.map bytesM).length=x.net.length:=List.length_map _
 have HTK:=η (HN3.o.take' i (by omega))
 have HDR0:=η (HN3.o.drop (i+1) (by omega))
 have HEM:=η (erase_map x.net i)
 have HLE:Hid ((x.net.eraseIdx i).length=i+(x.net.length - (i+1))):=η (by rw [List.length_eraseIdx,if_pos hil];omega)
 have hii:IntKind.i64.wrap ((i:Int)+1)=(i:Int)+1:=IntWalk.i64_in _ (by have:=H24.o;omega)
 have hi2:(0:Int)≤(i:Int)+1:=by omega
 have hi3:(i:Int)+1≤(x.net.length:Int):=by omega
 have hi4:((i:Int)+1).toNat=i+1:=by omega
 have hi5:(i:Int)≤(cn:Int):=by omega
 have hi7:(x.net.length:Int)≤(cn:Int):=by omega
 have HS:Hid (∀W,Grow wz W→W.cell? ⟨w.heap.size,5,none⟩=some (.slice (some ⟨bb,o,none⟩) x.net.length cn)∧W.cell? ⟨w.heap.size+1,1,none⟩=some (.int .i64 i)):=fun W hW=>by
  obtain⟨-,-,-,-,-,j5⟩:=cells6 (row_grow R2.o hW)
  obtain⟨-,f1,-⟩:=cells3 (row_grow R3.o hW)
  exact⟨j5,f1⟩
 go_cut [11] from 95 (fun s11 wc=>s11=.slice au (bytesM m).length cu∧∃a9 n9 c9,wc.heap[w.heap.size]? =some (.cells #[.slice al x.head.log.length cl,.int .i64 x.head.boot,.int .i64 x.head.next,.slice ao x.head.opn.length co,.slice ah x.houses.length ch,.slice a9 n9 c9] 93 (0,0))∧wc.heap[w.heap.size+1]? =some (.cells #[.int .i64 3,.int .i64 i,.slice ap sp.length cp] 164 (0,0))∧wc.heap[w.heap.size+2]? =some (.cells #[.slice none 0 0,.int .i64 0,.int .i64 0,.slice none 0 0,.slice none 0 0,.slice none 0 0] 93 (0,0))∧OwnC Ty.bs c wc (w.heap.size+3) 69 (.slice a9 n9 c9) ((x.net.eraseIdx i).map bytesM)∧Grow w wc)
 case first=>
  by_cases hcap:cn=i+1
  ·have HDR:Hid (Sl Ty.bs c (.slice (some ⟨bb,o,none⟩) 0 0) ((x.net.map bytesM).drop (i+1))):=η (Sl.none' _ _ _ (List.drop_eq_nil_of_le (by omega)))
   obtain rfl:=hcap
   have hi5b:(i:Int)≤(i:Int)+1:=by omega
   refine but_start (fun w'=>w'.cell? ⟨w.heap.size,5,none⟩=some (.slice (some ⟨bb,o,none⟩) x.net.length (i+1))∧w'.cell? ⟨w.heap.size+1,1,none⟩=some (.int .i64 i)) 15 (by kernel_rfl) ?_
   obtain⟨wd,hWd⟩:∃x:World,x=wz.drew:=⟨_,rfl⟩
   rw [←hWd]
   have GD:Grow wz wd:=by rw [hWd];exact(Grow.refl _).drew
   have zD:wz.heap.size=wd.heap.size:=by rw [hWd];rfl
   have ZD:=η zD
   clear hWd zD
   refine bLm [1,2,3,4,5,7,8,9,10,11,12] 20 (by kernel_rfl) (fun _ _ _ _ _ h=>h) (HS.o _ GD) ?_
   repeat (refine tNm (v:=?_) rfl (by rfl) ?_ ?_;rotate_left;(· (intro w' hSw;(try dsimp only at hSw);obtain⟨hs0,hs1⟩:=hSw;go_simp<;>with_reducible rfl));try simp only [Act.put,lzA,lzB,lzC,lzD,lzE,lzF])
   refine tEm ?_
   refine bO 0 (by kernel_rfl) rfl ?_
   intro K HK
   try simp only [lzA,lzC]
   go_simp
   obtain⟨w7,hw7⟩:∃y:World,y=wd.alloc (.cells #[] 69):=⟨_,rfl⟩
   have HO7:Hid (OwnC Ty.bs c w7 (w.heap.size+3) 69 (.slice (some ⟨wd.heap.size,0,none⟩) 0 0) []):=η (by rw [hw7];exact OwnC.made0 Ty.bs _ _ _ _ (by have:=ZD.o;have:=HZ.o;omega) rfl)
   have HG7:Hid (Grow wz w7):=η (by rw [hw7];exact GD.alloc _)
   rw [←hw7]
   clear hw7
   refine HK.o _ _ ⟨fun _=>HS.o _ HG7.o,?_⟩
   clear HK K
   try simp only [Act.put,lzA,lzB,lzC,lzD,lzE,lzF]
   refine bO 6 (by kernel_rfl) rfl ?_
   intro K HK
   refine wanted_go rfl ?_
   try simp only [lzA,lzB,lzC]
   refine wp_appv (c:=c) (base:=w.heap.size+3) (l:=[]) (m:=(x.net.map bytesM).take i) (k:=(x.net.map bytesM).take i) (v:=.slice (some ⟨wd.heap.size,0,none⟩) 0 0) ei_bts rfl (one_Tsl Ty.byte) (by decide) (.tmp 95) (.tmp 100) rfl (List.nil_append _) rfl HO7.o rfl (Src.of_sl_c (by decide) (HC.o.trans (G1.o.trans HG7.o).sub) HTK.o) (by have:=H24.o;rw [List.length_take];simp;omega) (by have:=HG7.o.size;have:=HZ.o;omega) ?_
   intro a8 n8 c8 w8 hn8 ho8 hg8 hb8
   have HO8:=η ho8
   have HG8:=η (grow_by (w0:=wz) HG7.o hg8 (fun q hq=>by have:=(HO7.o.lt q hq).1;have:=HZ.o;omega))
   clear hn8 ho8 hg8 hb8
   refine HK.o _ _ ⟨fun _=>HS.o _ HG8.o,?_⟩
   clear HK K
   try simp only [Act.put,lzD,lzE,lzF]
   refine bO 13 (by kernel_rfl) rfl ?_
   intro K HK
   refine wanted_go rfl ?_
   try simp only [lzA,lzB,lzC]
   refine wp_appv (c:=c) (base:=w.heap.size+3) (l:=(x.net.map bytesM).take i) (m:=(x.net.map bytesM).drop (i+1)) (k:=(x.net.eraseIdx i).map bytesM) (v:=.slice a8 n8 c8) ei_bts rfl (one_Tsl Ty.byte) (by decide) (.tmp 101) (.tmp 107) rfl HEM.o rfl HO8.o rfl (Src.of_sl_c (by decide) (HC.o.trans (G1.o.trans HG8.o).sub) ?srcd) (by have:=H24.o;rw [List.length_take,List.length_drop,List.length_map];omega) (by have:=HG8.o.size;have:=HZ.o;omega) ?_
   case srcd=>exact HDR.o
   intro a9 n9 c9 w9 hn9 ho9 hg9 hb9
   have HO9:=η ho9
   have HG9:=η (grow_by (w0:=wz) HG8.o hg9 (fun q hq=>by have:=(HO8.o.lt q hq).1;have:=HZ.o;omega))
   clear hn9 ho9 hg9 hb9
   refine HK.o _ _ ⟨fun _=>HS.o _ HG9.o,?_⟩
   clear HK K
   try simp only [Act.put,lzD,lzE,lzF]
   refine bO 14 (by kernel_rfl) rfl ?_
   intro K HK
   try simp only [lzA,lzB,lzC]
   go_simp
   refine HK.o _ _ ⟨fun _=>HS.o _ HG9.o,?_⟩
   clear HK K
   try simp only [Act.put,lzA,lzB,lzC,lzD,lzE,lzF]
   refine bO 15 (by kernel_rfl) rfl ?_
   intro K HK
   refine wanted_go rfl ?_
   try simp only [lzA,lzB,lzC]
   refine wp_store_cell (.tmp 109) (.tmp 108) (v:=.slice a9 n9 c9) (new:=#[.slice al x.head.log.length cl,.int .i64 x.head.boot,.int .i64 x.head.next,.slice ao x.head.opn.length co,.slice ah x.houses.length ch,.slice a9 n9 c9]) rfl rfl (by rfl) (by rfl) (row_grow R2.o HG9.o) info_nets (by simp) (by rfl) (by rfl) ?_
   intro w5 r5 g5
   refine HK.o _ _ ⟨fun h=>absurd rfl h,?_⟩
   clear HK K
   try simp only [Act.put]
   refine but_done (by kernel_rfl) ?_
   go_wp2
   go_meet
   case rel=>exact⟨rfl,a9,n9,c9,r5,row_by (row_grow R3.o HG9.o) g5 (by intro e;have:=Option.some.inj e;omega),row_by (row_grow R4.o HG9.o) g5 (by intro e;have:=Option.some.inj e;omega),HO9.o.kept g5 (own_apart HO9.o (by omega)),(G1.o.trans HG9.o).grown g5 (fun q hq=>by simp at hq;omega)⟩
  ·have HDR:Hid (Sl Ty.bs c (.slice (some ⟨bb,o+(i+1),none⟩) (x.net.length - (i+1)) (cn - (i+1))) ((x.net.map bytesM).drop (i+1))):=η (by simpa [show Ty.bs.size=1 from rfl] using HDR0.o)
   refine but_start (fun w'=>w'.cell? ⟨w.heap.size,5,none⟩=some (.slice (some ⟨bb,o,none⟩) x.net.length cn)∧w'.cell? ⟨w.heap.size+1,1,none⟩=some (.int .i64 i)) 15 (by kernel_rfl) ?_
   obtain⟨wd,hWd⟩:∃x:World,x=wz.drew:=⟨_,rfl⟩
   rw [←hWd]
   have GD:Grow wz wd:=by rw [hWd];exact(Grow.refl _).drew
   have zD:wz.heap.size=wd.heap.size:=by rw [hWd];rfl
   have ZD:=η zD
   clear hWd zD
   refine bLm [1,2,3,4,5,7,8,9,10,11,12] 20 (by kernel_rfl) (fun _ _ _ _ _ h=>h) (HS.o _ GD) ?_
   repeat (refine tNm (v:=?_) rfl (by rfl) ?_ ?_;rotate_left;(· (intro w' hSw;(try dsimp only at hSw);obtain⟨hs0,hs1⟩:=hSw;go_simp<;>with_reducible rfl));try simp only [Act.put,lzA,lzB,lzC,lzD,lzE,lzF])
   refine tEm ?_
   refine bO 0 (by kernel_rfl) rfl ?_
   intro K HK
   try simp only [lzA,lzC]
   go_simp
   obtain⟨w7,hw7⟩:∃y:World,y=wd.alloc (.cells #[] 69):=⟨_,rfl⟩
   have HO7:Hid (OwnC Ty.bs c w7 (w.heap.size+3) 69 (.slice (some ⟨wd.heap.size,0,none⟩) 0 0) []):=η (by rw [hw7];exact OwnC.made0 Ty.bs _ _ _ _ (by have:=ZD.o;have:=HZ.o;omega) rfl)
   have HG7:Hid (Grow wz w7):=η (by rw [hw7];exact GD.alloc _)
   rw [←hw7]
   clear hw7
   refine HK.o _ _ ⟨fun _=>HS.o _ HG7.o,?_⟩
   clear HK K
   try simp only [Act.put,lzA,lzB,lzC,lzD,lzE,lzF]
   refine bO 6 (by kernel_rfl) rfl ?_
   intro K HK
   refine wanted_go rfl ?_
   try simp only [lzA,lzB,lzC]
   refine wp_appv (c:=c) (base:=w.heap.size+3) (l:=[]) (m:=(x.net.map bytesM).take i) (k:=(x.net.map bytesM).take i) (v:=.slice (some ⟨wd.heap.size,0,none⟩) 0 0) ei_bts rfl (one_Tsl Ty.byte) (by decide) (.tmp 95) (.tmp 100) rfl (List.nil_append _) rfl HO7.o rfl (Src.of_sl_c (by decide) (HC.o.trans (G1.o.trans HG7.o).sub) HTK.o) (by have:=H24.o;rw [List.length_take];simp;omega) (by have:=HG7.o.size;have:=HZ.o;omega) ?_
   intro a8 n8 c8 w8 hn8 ho8 hg8 hb8
   have HO8:=η ho8
   have HG8:=η (grow_by (w0:=wz) HG7.o hg8 (fun q hq=>by have:=(HO7.o.lt q hq).1;have:=HZ.o;omega))
   clear hn8 ho8 hg8 hb8
   refine HK.o _ _ ⟨fun _=>HS.o _ HG8.o,?_⟩
   clear HK K
   try simp only [Act.put,lzD,lzE,lzF]
   refine bO 13 (by kernel_rfl) rfl ?_
   intro K HK
   refine wanted_go rfl ?_
   try simp only [lzA,lzB,lzC]
   refine wp_appv (c:=c) (base:=w.heap.size+3) (l:=(x.net.map bytesM).take i) (m:=(x.net.map bytesM).drop (i+1)) (k:=(x.net.eraseIdx i).map bytesM) (v:=.slice a8 n8 c8) ei_bts rfl (one_Tsl Ty.byte) (by decide) (.tmp 101) (.tmp 107) rfl HEM.o rfl HO8.o rfl (Src.of_sl_c (by decide) (HC.o.trans (G1.o.trans HG8.o).sub) ?srcd) (by have:=H24.o;rw [List.length_take,List.length_drop,List.length_map];omega) (by have:=HG8.o.size;have:=HZ.o;omega) ?_
   case srcd=>exact HDR.o
   intro a9 n9 c9 w9 hn9 ho9 hg9 hb9
   have HO9:=η ho9
   have HG9:=η (grow_by (w0:=wz) HG8.o hg9 (fun q hq=>by have:=(HO8.o.lt q hq).1;have:=HZ.o;omega))
   clear hn9 ho9 hg9 hb9
   refine HK.o _ _ ⟨fun _=>HS.o _ HG9.o,?_⟩
   clear HK K
   try simp only [Act.put,lzD,lzE,lzF]
   refine bO 14 (by kernel_rfl) rfl ?_
   intro K HK
   try simp only [lzA,lzB,lzC]
   go_simp
   refine HK.o _ _ ⟨fun _=>HS.o _ HG9.o,?_⟩
   clear HK K
   try simp only [Act.put,lzA,lzB,lzC,lzD,lzE,lzF]
   refine bO 15 (by kernel_rfl) rfl ?_
   intro K HK
   refine wanted_go rfl ?_
   try simp only [lzA,lzB,lzC]
   refine wp_store_cell (.tmp 109) (.tmp 108) (v:=.slice a9 n9 c9) (new:=#[.slice al x.head.log.length cl,.int .i64 x.head.boot,.int .i64 x.head.next,.slice ao x.head.opn.length co,.slice ah x.houses.length ch,.slice a9 n9 c9]) rfl rfl (by rfl) (by rfl) (row_grow R2.o HG9.o) info_nets (by simp) (by rfl) (by rfl) ?_
   intro w5 r5 g5
   refine HK.o _ _ ⟨fun h=>absurd rfl h,?_⟩
   clear HK K
   try simp only [Act.put]
   refine but_done (by kernel_rfl) ?_
   go_wp2
   go_meet
   case rel=>exact⟨rfl,a9,n9,c9,r5,row_by (row_grow R3.o HG9.o) g5 (by intro e;have:=Option.some.inj e;omega),row_by (row_grow R4.o HG9.o) g5 (by intro e;have:=Option.some.inj e;omega),HO9.o.kept g5 (own_apart HO9.o (by omega)),(G1.o.trans HG9.o).grown g5 (fun q hq=>by simp at hq;omega)⟩
 case rest=>
 obtain⟨rfl,a9,n9,c9,r9,r3,r4,ho9,hgw⟩:=hcut
 have R29:=η r9
 have R39:=η r3
 have R49:=η r4
 have HO9:=η ho9
 have GW9:=η hgw
 obtain⟨w9,rfl⟩:∃y:World,y=wc:=⟨_,rfl⟩
 clear r9 r3 r4 ho9 hgw HS HTK HDR0 hii hi2 hi3 hi4 hi5 hi7
 go_wp2_with fail
 refine(HRD.o _ GW9.o).mono ?_
 rintro e w5 ⟨v5,rfl,hx5,hb5⟩
 obtain⟨ap5,cp5,rfl⟩:=hx5.ms_form
 have R25:=η (row_grow R29.o hb5)
 have R35:=η (row_grow R39.o hb5)
 have R45:=η (row_grow R49.o hb5)
 have HO5:=η (HO9.o.grow hb5)
 have G5:=η (GW9.o.trans hb5)
 clear hx5 hb5
 obtain⟨c0,c1,c2,c3,c4,c5⟩:=cells6 R25.o
 obtain⟨d0,d1,d2⟩:=cells3 R35.o
 have z2:w.heap.size<w5.heap.size:=(γ R25.o)
 have z3:w.heap.size+1<w5.heap.size:=(γ R35.o)
 go_upto_region 23 with fail
 obtain⟨w6,hw6⟩:∃y:World,y=w5.alloc (.cells #[.int .i64 m.kind,.int .i64 m.deed,.int .i64 m.house,.slice ap5 m.parts.length cp5] 39):=⟨_,rfl⟩
 have G56:Hid (Grow w5 w6):=η (by rw [hw6];exact(Grow.refl _).alloc _)
 rw [←hw6]
 clear hw6 c0 c1 c2 c3 c4 c5 d0 d1 d2 z2 z3
 have R26:=η (row_grow R25.o G56.o)
 have R36:=η (row_grow R35.o G56.o)
 have R46:=η (row_grow R45.o G56.o)
 have HO6:=η (HO5.o.grow G56.o)
 have G6:=η (G5.o.trans G56.o)
 obtain⟨c0,c1,c2,c3,c4,c5⟩:=cells6 R26.o
 obtain⟨d0,d1,d2⟩:=cells3 R36.o
 have z2:w.heap.size<w6.heap.size:=(γ R26.o)
 have z3:w.heap.size+1<w6.heap.size:=(γ R36.o)
 go_upto_region 24 with fail
 go_wp2_with (first|(refine wpList_store_row rfl (.tmp 4) (.tmp 130) rfl rfl rfl R46.o info_wd rfl rfl ?_))
 intro w7 r7 g7
 obtain⟨p0,p1,p2,p3,p4,p5⟩:=cells6 r7
 clear c0 c1 c2 c3 c4 c5
 go_wp2
 refine bodyPost_ret (v:=.tuple #[.agg #[.slice al x.head.log.length cl,.int .i64 x.head.boot,.int .i64 x.head.next,.slice ao x.head.opn.length co,.slice ah x.houses.length ch,.slice a9 n9 c9],.int .i64 0]) (by simp [results,Try.results138,go_sem,p0,p1,p2,p3,p4,p5]) rfl ?_
 have G7:=G6.o.grown g7 (fun q hq=>by simp at hq;omega)
 rw [HE0.o,HE2.o]
 refine⟨_,rfl,Of.wd_mk (HQ1.o.mono (ov_in HC.o)) (HQ2.o.mono (ov_in HC.o)) ?_,G7⟩
 have h9:=(HO6.o.kept g7 (own_apart HO6.o (by omega))).slc (by decide) (ov_in HC.o) fun a ha=>ov_new (by omega)
 exact h9
set_option maxRecDepth 100000 in
set_option maxHeartbeats 1000000 in
theorem hear_prep10 {c:CM} {v vm:Value} {h:Hs} {dd hh me:Int} {ps:List Pt} (w:World) (hc:Sub c w.cell?) (hv:Of Ty.hs c v h) (hm:Of Ty.ms c vm ⟨1,dd,hh,ps⟩) (hk:∀x∈h.log,KeysOk x.parts) (hkm:KeysOk ps) (hn:(h.log.length+1)*40≤140737488355328) (hme:I64 me) (e10:voteE h dd ps=10):
  Calls Try.prog 35 #[v,.int .i64 me,vm] w fun e w'=>∃v1 v2,e=.returned (.tuple #[v1,v2])∧Of Ty.hs (ov c w w') v1 (hearH h ⟨1,dd,hh,ps⟩)∧Sl Ty.ms (ov c w w') v2 (hearM h me ⟨1,dd,hh,ps⟩)∧Grow w w':=by
 obtain⟨al,cl,ar,cr,ad,cd,rfl⟩:=hv.hs_form
 obtain⟨ap,cp,rfl⟩:∃ap cp,vm=.agg #[.int .i64 1,.int .i64 dd,.int .i64 hh,.slice ap ps.length cp]:=hm.ms_form
 have hms:Sl Ty.pt c (.slice ap ps.length cp) ps∧I64 1∧I64 dd∧I64 hh:=Of.ms_parts hm
 have HMS:=η hms
 have HV0:=η hv
 have HC:=η hc
 have HK0:=η hk
 have HKM:=η hkm
 have HN:=η hn
 have HME:=η hme
 have HVO:=η (fun(W:World) (hW:Grow w W)=>ref_vote (d:=dd) W (hv.mono (hc.trans hW.sub)) (hms.1.mono (hc.trans hW.sub)) hkm)
 have HRD:=η (fun(W:World) (hW:Grow w W)=>ref_ready (d:=dd) W (hv.mono (hc.trans hW.sub)))
 have HIN:=η (fun(W:World) (hW:Grow w W)=>ref_in (n:=dd) W ((Of.hs_log hv).2.2.mono (hc.trans hW.sub)))
 have HG0:Hid (Grow w (((w.alloc (.cells #[.slice al h.log.length cl,.int .i64 h.sums.a,.int .i64 h.sums.b,.int .i64 h.sums.c,.int .i64 h.sums.d,.slice ar h.ready.length cr,.slice ad h.done.length cd] 29)).alloc (.cells #[.int .i64 1,.int .i64 dd,.int .i64 hh,.slice ap ps.length cp] 39)).alloc (.cells #[.slice none 0 0,.int .i64 0,.int .i64 0,.int .i64 0,.int .i64 0,.slice none 0 0,.slice none 0 0] 29))):=η ((((Grow.refl w).alloc _).alloc _).alloc _)
 have HR3:Hid ((((w.alloc (.cells #[.slice al h.log.length cl,.int .i64 h.sums.a,.int .i64 h.sums.b,.int .i64 h.sums.c,.int .i64 h.sums.d,.slice ar h.ready.length cr,.slice ad h.done.length cd] 29)).alloc (.cells #[.int .i64 1,.int .i64 dd,.int .i64 hh,.slice ap ps.length cp] 39)).alloc (.cells #[.slice none 0 0,.int .i64 0,.int .i64 0,.int .i64 0,.int .i64 0,.slice none 0 0,.slice none 0 0] 29)).heap[w.heap.size]? =some (.cells #[.slice al h.log.length cl,.int .i64 h.sums.a,.int .i64 h.sums.b,.int .i64 h.sums.c,.int .i64 h.sums.d,.slice ar h.ready.length cr,.slice ad h.done.length cd] 29 (0,0))):=η (heap_later (heap_later (row_new _ _) _) _)
 have HR5:Hid ((((w.alloc (.cells #[.slice al h.log.length cl,.int .i64 h.sums.a,.int .i64 h.sums.b,.int .i64 h.sums.c,.int .i64 h.sums.d,.slice ar h.ready.length cr,.slice ad h.done.length cd] 29)).alloc (.cells #[.int .i64 1,.int .i64 dd,.int .i64 hh,.slice ap ps.length cp] 39)).alloc (.cells #[.slice none 0 0,.int .i64 0,.int .i64 0,.int .i64 0,.int .i64 0,.slice none 0 0,.slice none 0 0] 29)).heap[w.heap.size+1]? =some (.cells #[.int .i64 1,.int .i64 dd,.int .i64 hh,.slice ap ps.length cp] 39 (0,0))):=η (heap_later (by simpa using row_new (w.alloc (.cells #[.slice al h.log.length cl,.int .i64 h.sums.a,.int .i64 h.sums.b,.int .i64 h.sums.c,.int .i64 h.sums.d,.slice ar h.ready.length cr,.slice ad h.done.length cd] 29)) _) _)
 have HR6:Hid ((((w.alloc (.cells #[.slice al h.log.length cl,.int .i64 h.sums.a,.int .i64 h.sums.b,.int .i64 h.sums.c,.int .i64 h.sums.d,.slice ar h.ready.length cr,.slice ad h.done.length cd] 29)).alloc (.cells #[.int .i64 1,.int .i64 dd,.int .i64 hh,.slice ap ps.length cp] 39)).alloc (.cells #[.slice none 0 0,.int .i64 0,.int .i64 0,.int .i64 0,.int .i64 0,.slice none 0 0,.slice none 0 0] 29)).heap[w.heap.size+1+1]? =some (.cells #[.slice none 0 0,.int .i64 0,.int .i64 0,.int .i64 0,.int .i64 0,.slice none 0 0,.slice none 0 0] 29 (0,0))):=η (by simpa using row_new ((w.alloc (.cells #[.slice al h.log.length cl,.int .i64 h.sums.a,.int .i64 h.sums.b,.int .i64 h.sums.c,.int .i64 h.sums.d,.slice ar h.ready.length cr,.slice ad h.done.length cd] 29)).alloc (.cells #[.int .i64 1,.int .i64 dd,.int .i64 hh,.slice ap ps.length cp] 39)) _)
 clear hv hm hc hk hkm hn hme hms
 have HEH:Hid (hearH h ⟨1,dd,hh,ps⟩=h):=by
  show hearH h ⟨1,dd,hh,ps⟩=h
  unfold hearH
  rw [if_pos rfl,if_neg (by show¬(voteE h dd ps=0∧_);rw [e10];simp)]
 have HEM:Hid (hearM h me ⟨1,dd,hh,ps⟩=[]):=by
  show hearM h me ⟨1,dd,hh,ps⟩=[]
  unfold hearM
  rw [if_pos rfl,if_pos e10]
 have E10:=η e10
 clear e10
 go_enter Try.func35,Try.ntmps35
 go_wp2_with fail
 refine(HVO.o _ HG0.o).mono ?_
 rw [E10.o]
 rintro e v1 ⟨rfl,hbv1⟩
 (obtain⟨cv1,fv1⟩:=bcell hbv1;have zv10:w.heap.size<v1.heap.size:=(by have:=hbv1.size;(try simp at this);omega);have zv11:w.heap.size+1<v1.heap.size:=(by have:=hbv1.size;(try simp at this);omega);have zv12:w.heap.size+1+1<v1.heap.size:=(by have:=hbv1.size;(try simp at this);omega);have Gv1:=η hbv1;clear hbv1)
 have R6:=row_grow HR6.o Gv1.o
 obtain⟨p0,p1,p2,p3,p4,p5,p6⟩:=cells7 R6
 have pf:=row_free R6
 obtain⟨s0,s1,s2,s3,s4,s5,s6,s7⟩:v1.cell? ⟨w.heap.size,0,none⟩=some (.slice al h.log.length cl)∧v1.cell? ⟨w.heap.size,1,none⟩=some (.int .i64 h.sums.a)∧v1.cell? ⟨w.heap.size,2,none⟩=some (.int .i64 h.sums.b)∧v1.cell? ⟨w.heap.size,3,none⟩=some (.int .i64 h.sums.c)∧v1.cell? ⟨w.heap.size,4,none⟩=some (.int .i64 h.sums.d)∧v1.cell? ⟨w.heap.size,5,none⟩=some (.slice ar h.ready.length cr)∧v1.cell? ⟨w.heap.size,6,none⟩=some (.slice ad h.done.length cd)∧v1.cell? ⟨w.heap.size+1,1,none⟩=some (.int .i64 dd):=by refine⟨?_,?_,?_,?_,?_,?_,?_,?_⟩<;>go_simp
 clear R6
 go_wp2
 refine bodyPost_ret (v:=.tuple #[.agg #[.slice al h.log.length cl,.int .i64 h.sums.a,.int .i64 h.sums.b,.int .i64 h.sums.c,.int .i64 h.sums.d,.slice ar h.ready.length cr,.slice ad h.done.length cd],.slice none 0 0]) (by simp [results,Try.results35,go_sem,p0,p1,p2,p3,p4,p5,p6]) rfl ?_
 rw [HEH.o,HEM.o]
 refine⟨_,_,rfl,?_,Sl.nil _ _,?_⟩
 ·exact HV0.o.mono (ov_in HC.o)
 ·(repeat (with_reducible refine Grow.setCell ?_ (by first|(simp;done)|(simp;omega)|omega) _))
  exact HG0.o.trans Gv1.o
set_option maxRecDepth 100000 in
set_option maxHeartbeats 1000000 in
theorem hear_prepR {c:CM} {v vm:Value} {h:Hs} {dd hh me:Int} {ps:List Pt} (w:World) (hc:Sub c w.cell?) (hv:Of Ty.hs c v h) (hm:Of Ty.ms c vm ⟨1,dd,hh,ps⟩) (hk:∀x∈h.log,KeysOk x.parts) (hkm:KeysOk ps) (hn:(h.log.length+1)*40≤140737488355328) (hme:I64 me) (e0:voteE h dd ps=0) (rd:readyE h.ready dd=true):
  Calls Try.prog 35 #[v,.int .i64 me,vm] w fun e w'=>∃v1 v2,e=.returned (.tuple #[v1,v2])∧Of Ty.hs (ov c w w') v1 (hearH h ⟨1,dd,hh,ps⟩)∧Sl Ty.ms (ov c w w') v2 (hearM h me ⟨1,dd,hh,ps⟩)∧Grow w w':=by
 obtain⟨al,cl,ar,cr,ad,cd,rfl⟩:=hv.hs_form
 obtain⟨ap,cp,rfl⟩:∃ap cp,vm=.agg #[.int .i64 1,.int .i64 dd,.int .i64 hh,.slice ap ps.length cp]:=hm.ms_form
 have hms:Sl Ty.pt c (.slice ap ps.length cp) ps∧I64 1∧I64 dd∧I64 hh:=Of.ms_parts hm
 have HMS:=η hms
 have HV0:=η hv
 have HC:=η hc
 have HK0:=η hk
 have HKM:=η hkm
 have HN:=η hn
 have HME:=η hme
 have HVO:=η (fun(W:World) (hW:Grow w W)=>ref_vote (d:=dd) W (hv.mono (hc.trans hW.sub)) (hms.1.mono (hc.trans hW.sub)) hkm)
 have HRD:=η (fun(W:World) (hW:Grow w W)=>ref_ready (d:=dd) W (hv.mono (hc.trans hW.sub)))
 have HIN:=η (fun(W:World) (hW:Grow w W)=>ref_in (n:=dd) W ((Of.hs_log hv).2.2.mono (hc.trans hW.sub)))
 have HG0:Hid (Grow w (((w.alloc (.cells #[.slice al h.log.length cl,.int .i64 h.sums.a,.int .i64 h.sums.b,.int .i64 h.sums.c,.int .i64 h.sums.d,.slice ar h.ready.length cr,.slice ad h.done.length cd] 29)).alloc (.cells #[.int .i64 1,.int .i64 dd,.int .i64 hh,.slice ap ps.length cp] 39)).alloc (.cells #[.slice none 0 0,.int .i64 0,.int .i64 0,.int .i64 0,.int .i64 0,.slice none 0 0,.slice none 0 0] 29))):=η ((((Grow.refl w).alloc _).alloc _).alloc _)
 have HR3:Hid ((((w.alloc (.cells #[.slice al h.log.length cl,.int .i64 h.sums.a,.int .i64 h.sums.b,.int .i64 h.sums.c,.int .i64 h.sums.d,.slice ar h.ready.length cr,.slice ad h.done.length cd] 29)).alloc (.cells #[.int .i64 1,.int .i64 dd,.int .i64 hh,.slice ap ps.length cp] 39)).alloc (.cells #[.slice none 0 0,.int .i64 0,.int .i64 0,.int .i64 0,.int .i64 0,.slice none 0 0,.slice none 0 0] 29)).heap[w.heap.size]? =some (.cells #[.slice al h.log.length cl,.int .i64 h.sums.a,.int .i64 h.sums.b,.int .i64 h.sums.c,.int .i64 h.sums.d,.slice ar h.ready.length cr,.slice ad h.done.length cd] 29 (0,0))):=η (heap_later (heap_later (row_new _ _) _) _)
 have HR5:Hid ((((w.alloc (.cells #[.slice al h.log.length cl,.int .i64 h.sums.a,.int .i64 h.sums.b,.int .i64 h.sums.c,.int .i64 h.sums.d,.slice ar h.ready.length cr,.slice ad h.done.length cd] 29)).alloc (.cells #[.int .i64 1,.int .i64 dd,.int .i64 hh,.slice ap ps.length cp] 39)).alloc (.cells #[.slice none 0 0,.int .i64 0,.int .i64 0,.int .i64 0,.int .i64 0,.slice none 0 0,.slice none 0 0] 29)).heap[w.heap.size+1]? =some (.cells #[.int .i64 1,.int .i64 dd,.int .i64 hh,.slice ap ps.length cp] 39 (0,0))):=η (heap_later (by simpa using row_new (w.alloc (.cells #[.slice al h.log.length cl,.int .i64 h.sums.a,.int .i64 h.sums.b,.int .i64 h.sums.c,.int .i64 h.sums.d,.slice ar h.ready.length cr,.slice ad h.done.length cd] 29)) _) _)
 have HR6:Hid ((((w.alloc (.cells #[.slice al h.log.length cl,.int .i64 h.sums.a,.int .i64 h.sums.b,.int .i64 h.sums.c,.int .i64 h.sums.d,.slice ar h.ready.length cr,.slice ad h.done.length cd] 29)).alloc (.cells #[.int .i64 1,.int .i64 dd,.int .i64 hh,.slice ap ps.length cp] 39)).alloc (.cells #[.slice none 0 0,.int .i64 0,.int .i64 0,.int .i64 0,.int .i64 0,.slice none 0 0,.slice none 0 0] 29)).heap[w.heap.size+1+1]? =some (.cells #[.slice none 0 0,.int .i64 0,.int .i64 0,.int .i64 0,.int .i64 0,.slice none 0 0,.slice none 0 0] 29 (0,0))):=η (by simpa using row_new ((w.alloc (.cells #[.slice al h.log.length cl,.int .i64 h.sums.a,.int .i64 h.sums.b,.int .i64 h.sums.c,.int .i64 h.sums.d,.slice ar h.ready.length cr,.slice ad h.done.length cd] 29)).alloc (.cells #[.int .i64 1,.int .i64 dd,.int .i64 hh,.slice ap ps.length cp] 39)) _)
 clear hv hm hc hk hkm hn hme hms
 have HEH:Hid (hearH h ⟨1,dd,hh,ps⟩=h):=by
  show hearH h ⟨1,dd,hh,ps⟩=h
  unfold hearH
  rw [if_pos rfl,if_neg (by show¬(_∧readyE h.ready dd=false);rw [rd];simp)]
 have HEM:Hid (hearM h me ⟨1,dd,hh,ps⟩=sayE 2 dd me):=by
  show hearM h me ⟨1,dd,hh,ps⟩=sayE 2 dd me
  unfold hearM
  rw [if_pos rfl,if_neg (by show¬voteE h dd ps=10;omega),if_pos e0]
 have E0:=η e0
 have RD:=η rd
 clear e0 rd
 go_enter Try.func35,Try.ntmps35
 go_wp2_with fail
 refine(HVO.o _ HG0.o).mono ?_
 rw [E0.o]
 rintro e v1 ⟨rfl,hbv1⟩
 (obtain⟨cv1,fv1⟩:=bcell hbv1;have zv10:w.heap.size<v1.heap.size:=(by have:=hbv1.size;(try simp at this);omega);have zv11:w.heap.size+1<v1.heap.size:=(by have:=hbv1.size;(try simp at this);omega);have zv12:w.heap.size+1+1<v1.heap.size:=(by have:=hbv1.size;(try simp at this);omega);have Gv1:=η hbv1;clear hbv1)
 go_wp2_with fail
 refine(HRD.o _ (HG0.o.trans Gv1.o)).mono ?_
 rw [RD.o]
 rintro e v2 ⟨rfl,hbv2⟩
 (obtain⟨cv2,fv2⟩:=bcell hbv2;have zv20:w.heap.size<v2.heap.size:=(by have:=hbv2.size;(try simp at this);omega);have zv21:w.heap.size+1<v2.heap.size:=(by have:=hbv2.size;(try simp at this);omega);have zv22:w.heap.size+1+1<v2.heap.size:=(by have:=hbv2.size;(try simp at this);omega);have Gv2:=η hbv2;clear hbv2)
 go_wp2_with fail
 have hS:v2.cell? ⟨w.heap.size,0,none⟩=some (.slice al h.log.length cl)∧v2.cell? ⟨w.heap.size,1,none⟩=some (.int .i64 h.sums.a)∧v2.cell? ⟨w.heap.size,2,none⟩=some (.int .i64 h.sums.b)∧v2.cell? ⟨w.heap.size,3,none⟩=some (.int .i64 h.sums.c)∧v2.cell? ⟨w.heap.size,4,none⟩=some (.int .i64 h.sums.d)∧v2.cell? ⟨w.heap.size,5,none⟩=some (.slice ar h.ready.length cr)∧v2.cell? ⟨w.heap.size,6,none⟩=some (.slice ad h.done.length cd)∧v2.cell? ⟨w.heap.size+1,1,none⟩=some (.int .i64 dd):=by refine⟨?_,?_,?_,?_,?_,?_,?_,?_⟩<;>go_simp
 have HGW:Hid (Grow w v2):=η ((HG0.o.trans Gv1.o).trans Gv2.o)
 have R6:Hid (v2.heap[w.heap.size+1+1]? =some (.cells #[.slice none 0 0,.int .i64 0,.int .i64 0,.int .i64 0,.int .i64 0,.slice none 0 0,.slice none 0 0] 29 (0,0))):=η (row_grow HR6.o (Gv1.o.trans Gv2.o))
 have hz0:w.heap.size+1+1<v2.heap.size:=(γ R6.o)
 obtain⟨s0,s1,s2,s3,s4,s5,s6,s7⟩:=hS
 have HS:Hid (∀W,v2.grownBy W (some (w.heap.size+1+1))→W.cell? ⟨w.heap.size,0,none⟩=some (.slice al h.log.length cl)∧W.cell? ⟨w.heap.size,1,none⟩=some (.int .i64 h.sums.a)∧W.cell? ⟨w.heap.size,2,none⟩=some (.int .i64 h.sums.b)∧W.cell? ⟨w.heap.size,3,none⟩=some (.int .i64 h.sums.c)∧W.cell? ⟨w.heap.size,4,none⟩=some (.int .i64 h.sums.d)∧W.cell? ⟨w.heap.size,5,none⟩=some (.slice ar h.ready.length cr)∧W.cell? ⟨w.heap.size,6,none⟩=some (.slice ad h.done.length cd)∧W.cell? ⟨w.heap.size+1,1,none⟩=some (.int .i64 dd)):=fun W hW=>by
  have k:∀(b o:Nat) (u:Value),b<w.heap.size+1+1→v2.cell? ⟨b,o,none⟩=some u→W.cell? ⟨b,o,none⟩=some u:=fun b o u hb e=>by
   rw [by_cell hW (World.block_lt_of_cell? v2 _ e) (by simp;omega)];exact e
  exact⟨k _ _ _ (by omega) s0,k _ _ _ (by omega) s1,k _ _ _ (by omega) s2,k _ _ _ (by omega) s3,k _ _ _ (by omega) s4,k _ _ _ (by omega) s5,k _ _ _ (by omega) s6,k _ _ _ (by omega) s7⟩
 clear s0 s1 s2 s3 s4 s5 s6 s7
 refine but_start (fun w'=>w'.cell? ⟨w.heap.size,0,none⟩=some (.slice al h.log.length cl)∧w'.cell? ⟨w.heap.size,1,none⟩=some (.int .i64 h.sums.a)∧w'.cell? ⟨w.heap.size,2,none⟩=some (.int .i64 h.sums.b)∧w'.cell? ⟨w.heap.size,3,none⟩=some (.int .i64 h.sums.c)∧w'.cell? ⟨w.heap.size,4,none⟩=some (.int .i64 h.sums.d)∧w'.cell? ⟨w.heap.size,5,none⟩=some (.slice ar h.ready.length cr)∧w'.cell? ⟨w.heap.size,6,none⟩=some (.slice ad h.done.length cd)∧w'.cell? ⟨w.heap.size+1,1,none⟩=some (.int .i64 dd)) 8 (by kernel_rfl) ?_
 obtain⟨wd,hWd⟩:∃x:World,x=v2.drew:=⟨_,rfl⟩
 rw [←hWd]
 have GD:Grow v2 wd:=by rw [hWd];exact(Grow.refl _).drew
 have zD:v2.heap.size=wd.heap.size:=by rw [hWd];rfl
 have ZD:=η zD
 clear hWd zD
 have hzd:w.heap.size+1+1<wd.heap.size:=by have:=ZD.o;omega
 have hzw:w.heap.size≤wd.heap.size:=by have:=hzd;omega
 have FIN:Hid (∀(Wf:World) (q:Nat),w.heap.size≤q→(∀a:Addr,a.block<wd.heap.size→a.block≠w.heap.size+1+1→Wf.cell? a=wd.cell? a)→At Wf.cell? q 0 (#[.int .i64 2,.int .i64 dd,.int .i64 me,.slice none 0 0]:Array Value).toList→Grow w Wf→∃v1 v2,Ending.returned (.tuple #[.agg #[.slice al h.log.length cl,.int .i64 h.sums.a,.int .i64 h.sums.b,.int .i64 h.sums.c,.int .i64 h.sums.d,.slice ar h.ready.length cr,.slice ad h.done.length cd],.slice (some ⟨q,0,none⟩) 1 1])=.returned (.tuple #[v1,v2])∧Of Ty.hs (ov c w Wf) v1 (hearH h ⟨1,dd,hh,ps⟩)∧Sl Ty.ms (ov c w Wf) v2 (hearM h me ⟨1,dd,hh,ps⟩)∧Grow w Wf):=by
  intro Wf q hq hA hAt hGf
  refine⟨_,_,rfl,?_,?_,hGf⟩
  ·rw [HEH.o]
   exact HV0.o.mono (ov_in HC.o)
  ·rw [HEM.o]
   exact sl_one (T:=Ty.ms) ⟨_,rfl,(show I64 2 from by unfold I64;decide),HMS.o.2.2.1,HME.o,Sl.nil _ _⟩ (at_ov hAt hq) (by decide) (by decide)
 refine bLm [0] 8 (by kernel_rfl) (fun _ _ _ _ _ h=>h) (HS.o _ (grownBy_of_grow GD _)) ?_
 repeat (refine tNm (v:=?_) rfl (by rfl) ?_ ?_;rotate_left;(· (intro w' hSw;(try dsimp only at hSw);obtain⟨hs0,hs1,hs2,hs3,hs4,hs5,hs6,hs7⟩:=hSw;go_simp<;>with_reducible rfl));try simp only [Act.put,lzA,lzC,lzD,lzE,lzF])
 refine tEm ?_
 refine bLm [1,2,3,4,5] 8 (by kernel_rfl) (fun _ _ _ _ _ h=>h) (HS.o _ (grownBy_of_grow GD _)) ?_
 repeat (refine tNm (v:=?_) rfl (by rfl) ?_ ?_;rotate_left;(· (intro w' hSw;(try dsimp only at hSw);obtain⟨hs0,hs1,hs2,hs3,hs4,hs5,hs6,hs7⟩:=hSw;go_simp<;>with_reducible rfl));try simp only [Act.put,lzA,lzB,lzC,lzD,lzE,lzF])
 refine tEm ?_
 refine bP 6 7 (by kernel_rfl) rfl rfl ?_ ?_
 ·intro K HK
  try simp only [lzA,lzB,lzC]
  go_simp
  refine HK.o _ _ ⟨fun _=>HS.o _ (grownBy_trans (grownBy_of_grow GD _) (grownBy_of_grow ((Grow.refl _).alloc _) _)),?_⟩
  clear HK K
  try simp only [Act.put,lzA,lzB,lzC,lzD,lzE,lzF]
  refine bO 7 (by kernel_rfl) rfl ?_
  intro K HK
  refine wanted_go rfl ?_
  try simp only [lzA,lzB,lzC]
  refine wp_store_row (.tmp 6) (.tmp 67) rfl rfl rfl (row_grow R6.o (GD.alloc _)) info_hs rfl rfl ?_
  intro w7 r7 g7
  refine HK.o _ _ ⟨fun _=>HS.o _ (grownBy_trans (grownBy_trans (grownBy_of_grow GD _) (grownBy_of_grow ((Grow.refl _).alloc _) _)) g7),?_⟩
  clear HK K
  try simp only [Act.put]
  refine bO 8 (by kernel_rfl) rfl ?_
  intro K HK
  try simp only [lzA,lzB,lzC]
  go_simp
  refine HK.o _ _ ⟨fun h=>absurd rfl h,?_⟩
  clear HK K
  try simp only [Act.put,lzA,lzB,lzC,lzD,lzE,lzF]
  refine but_done (by kernel_rfl) ?_
  obtain⟨p0,p1,p2,p3,p4,p5,p6⟩:=cells7 r7
  go_wp2
  refine bodyPost_ret (v:=.tuple #[.agg #[.slice al h.log.length cl,.int .i64 h.sums.a,.int .i64 h.sums.b,.int .i64 h.sums.c,.int .i64 h.sums.d,.slice ar h.ready.length cr,.slice ad h.done.length cd],.slice (some ⟨wd.heap.size,0,none⟩) 1 1]) (by simp [results,Try.results35,go_sem,p0,p1,p2,p3,p4,p5,p6]) rfl ?_
  refine FIN.o _ wd.heap.size hzw (fun a h1 h2=>(by_cell g7 (by simp;omega) h2).trans (((Grow.refl wd).alloc _).cell h1)) (fun j u e=>(by_cell g7 (by simp) (by simp;omega)).trans (at_new wd _ _ j u e)) ?_
  exact(HGW.o.trans (GD.alloc _)).grown g7 (fun k hk=>by simp at hk;omega)
 ·intro K HK
  refine wanted_go rfl ?_
  try simp only [lzA,lzB,lzC]
  refine wp_store_row (.tmp 6) (.tmp 67) rfl rfl rfl (row_grow R6.o GD) info_hs rfl rfl ?_
  intro w7 r7 g7
  refine HK.o _ _ ⟨fun _=>HS.o _ (grownBy_trans (grownBy_of_grow GD _) g7),?_⟩
  clear HK K
  try simp only [Act.put]
  refine bO 6 (by kernel_rfl) rfl ?_
  intro K HK
  try simp only [lzA,lzB,lzC]
  go_simp
  refine HK.o _ _ ⟨fun _=>HS.o _ (grownBy_trans (grownBy_trans (grownBy_of_grow GD _) g7) (grownBy_of_grow ((Grow.refl _).alloc _) _)),?_⟩
  clear HK K
  try simp only [Act.put,lzA,lzB,lzC,lzD,lzE,lzF]
  refine bO 8 (by kernel_rfl) rfl ?_
  intro K HK
  try simp only [lzA,lzB,lzC]
  go_simp
  refine HK.o _ _ ⟨fun h=>absurd rfl h,?_⟩
  clear HK K
  try simp only [Act.put,lzA,lzB,lzC,lzD,lzE,lzF]
  refine but_done (by kernel_rfl) ?_
  obtain⟨p0,p1,p2,p3,p4,p5,p6⟩:=cells7 (heap_later r7 (.cells #[.int .i64 2,.int .i64 dd,.int .i64 me,.slice none 0 0] 39))
  go_wp2
  refine bodyPost_ret (v:=.tuple #[.agg #[.slice al h.log.length cl,.int .i64 h.sums.a,.int .i64 h.sums.b,.int .i64 h.sums.c,.int .i64 h.sums.d,.slice ar h.ready.length cr,.slice ad h.done.length cd],.slice (some ⟨w7.heap.size,0,none⟩) 1 1]) (by simp [results,Try.results35,go_sem,p0,p1,p2,p3,p4,p5,p6]) rfl ?_
  refine FIN.o _ w7.heap.size (Nat.le_trans hzw g7.size) (fun a h1 h2=>(((Grow.refl w7).alloc _).cell (Nat.lt_of_lt_of_le h1 g7.size)).trans (by_cell g7 h1 h2)) (at_new w7 _ _) ?_
  exact((HGW.o.trans GD).grown g7 (fun k hk=>by simp at hk;omega)).alloc _
set_option maxRecDepth 100000 in
set_option maxHeartbeats 1000000 in
theorem hear_prepN {c:CM} {v vm:Value} {h:Hs} {dd hh me:Int} {ps:List Pt} (w:World) (hc:Sub c w.cell?) (hv:Of Ty.hs c v h) (hm:Of Ty.ms c vm ⟨1,dd,hh,ps⟩) (hk:∀x∈h.log,KeysOk x.parts) (hkm:KeysOk ps) (hn:(h.log.length+1)*40≤140737488355328) (hme:I64 me) (e0:voteE h dd ps=0) (rd:readyE h.ready dd=false):
  Calls Try.prog 35 #[v,.int .i64 me,vm] w fun e w'=>∃v1 v2,e=.returned (.tuple #[v1,v2])∧Of Ty.hs (ov c w w') v1 (hearH h ⟨1,dd,hh,ps⟩)∧Sl Ty.ms (ov c w w') v2 (hearM h me ⟨1,dd,hh,ps⟩)∧Grow w w':=by
 obtain⟨al,cl,ar,cr,ad,cd,rfl⟩:=hv.hs_form
 obtain⟨ap,cp,rfl⟩:∃ap cp,vm=.agg #[.int .i64 1,.int .i64 dd,.int .i64 hh,.slice ap ps.length cp]:=hm.ms_form
 have hms:Sl Ty.pt c (.slice ap ps.length cp) ps∧I64 1∧I64 dd∧I64 hh:=Of.ms_parts hm
 have HMS:=η hms
 have HV0:=η hv
 have HC:=η hc
 have HK0:=η hk
 have HKM:=η hkm
 have HN:=η hn
 have HME:=η hme
 have HVO:=η (fun(W:World) (hW:Grow w W)=>ref_vote (d:=dd) W (hv.mono (hc.trans hW.sub)) (hms.1.mono (hc.trans hW.sub)) hkm)
 have HRD:=η (fun(W:World) (hW:Grow w W)=>ref_ready (d:=dd) W (hv.mono (hc.trans hW.sub)))
 have HIN:=η (fun(W:World) (hW:Grow w W)=>ref_in (n:=dd) W ((Of.hs_log hv).2.2.mono (hc.trans hW.sub)))
 have HG0:Hid (Grow w (((w.alloc (.cells #[.slice al h.log.length cl,.int .i64 h.sums.a,.int .i64 h.sums.b,.int .i64 h.sums.c,.int .i64 h.sums.d,.slice ar h.ready.length cr,.slice ad h.done.length cd] 29)).alloc (.cells #[.int .i64 1,.int .i64 dd,.int .i64 hh,.slice ap ps.length cp] 39)).alloc (.cells #[.slice none 0 0,.int .i64 0,.int .i64 0,.int .i64 0,.int .i64 0,.slice none 0 0,.slice none 0 0] 29))):=η ((((Grow.refl w).alloc _).alloc _).alloc _)
 have HR3:Hid ((((w.alloc (.cells #[.slice al h.log.length cl,.int .i64 h.sums.a,.int .i64 h.sums.b,.int .i64 h.sums.c,.int .i64 h.sums.d,.slice ar h.ready.length cr,.slice ad h.done.length cd] 29)).alloc (.cells #[.int .i64 1,.int .i64 dd,.int .i64 hh,.slice ap ps.length cp] 39)).alloc (.cells #[.slice none 0 0,.int .i64 0,.int .i64 0,.int .i64 0,.int .i64 0,.slice none 0 0,.slice none 0 0] 29)).heap[w.heap.size]? =some (.cells #[.slice al h.log.length cl,.int .i64 h.sums.a,.int .i64 h.sums.b,.int .i64 h.sums.c,.int .i64 h.sums.d,.slice ar h.ready.length cr,.slice ad h.done.length cd] 29 (0,0))):=η (heap_later (heap_later (row_new _ _) _) _)
 have HR5:Hid ((((w.alloc (.cells #[.slice al h.log.length cl,.int .i64 h.sums.a,.int .i64 h.sums.b,.int .i64 h.sums.c,.int .i64 h.sums.d,.slice ar h.ready.length cr,.slice ad h.done.length cd] 29)).alloc (.cells #[.int .i64 1,.int .i64 dd,.int .i64 hh,.slice ap ps.length cp] 39)).alloc (.cells #[.slice none 0 0,.int .i64 0,.int .i64 0,.int .i64 0,.int .i64 0,.slice none 0 0,.slice none 0 0] 29)).heap[w.heap.size+1]? =some (.cells #[.int .i64 1,.int .i64 dd,.int .i64 hh,.slice ap ps.length cp] 39 (0,0))):=η (heap_later (by simpa using row_new (w.alloc (.cells #[.slice al h.log.length cl,.int .i64 h.sums.a,.int .i64 h.sums.b,.int .i64 h.sums.c,.int .i64 h.sums.d,.slice ar h.ready.length cr,.slice ad h.done.length cd] 29)) _) _)
 have HR6:Hid ((((w.alloc (.cells #[.slice al h.log.length cl,.int .i64 h.sums.a,.int .i64 h.sums.b,.int .i64 h.sums.c,.int .i64 h.sums.d,.slice ar h.ready.length cr,.slice ad h.done.length cd] 29)).alloc (.cells #[.int .i64 1,.int .i64 dd,.int .i64 hh,.slice ap ps.length cp] 39)).alloc (.cells #[.slice none 0 0,.int .i64 0,.int .i64 0,.int .i64 0,.int .i64 0,.slice none 0 0,.slice none 0 0] 29)).heap[w.heap.size+1+1]? =some (.cells #[.slice none 0 0,.int .i64 0,.int .i64 0,.int .i64 0,.int .i64 0,.slice none 0 0,.slice none 0 0] 29 (0,0))):=η (by simpa using row_new ((w.alloc (.cells #[.slice al h.log.length cl,.int .i64 h.sums.a,.int .i64 h.sums.b,.int .i64 h.sums.c,.int .i64 h.sums.d,.slice ar h.ready.length cr,.slice ad h.done.length cd] 29)).alloc (.cells #[.int .i64 1,.int .i64 dd,.int .i64 hh,.slice ap ps.length cp] 39)) _)
 clear hv hm hc hk hkm hn hme hms
 have HEH:Hid (hearH h ⟨1,dd,hh,ps⟩=noteE h ⟨1,dd,ps⟩):=by
  show hearH h ⟨1,dd,hh,ps⟩=noteE h ⟨1,dd,ps⟩
  unfold hearH
  rw [if_pos rfl,if_pos ⟨e0,rd⟩]
 have HEM:Hid (hearM h me ⟨1,dd,hh,ps⟩=sayE 2 dd me):=by
  show hearM h me ⟨1,dd,hh,ps⟩=sayE 2 dd me
  unfold hearM
  rw [if_pos rfl,if_neg (by show¬voteE h dd ps=10;omega),if_pos e0]
 have E0:=η e0
 have RD:=η rd
 clear e0 rd
 go_enter Try.func35,Try.ntmps35
 go_wp2_with fail
 refine(HVO.o _ HG0.o).mono ?_
 rw [E0.o]
 rintro e v1 ⟨rfl,hbv1⟩
 (obtain⟨cv1,fv1⟩:=bcell hbv1;have zv10:w.heap.size<v1.heap.size:=(by have:=hbv1.size;(try simp at this);omega);have zv11:w.heap.size+1<v1.heap.size:=(by have:=hbv1.size;(try simp at this);omega);have zv12:w.heap.size+1+1<v1.heap.size:=(by have:=hbv1.size;(try simp at this);omega);have Gv1:=η hbv1;clear hbv1)
 go_wp2_with fail
 refine(HRD.o _ (HG0.o.trans Gv1.o)).mono ?_
 rw [RD.o]
 rintro e v2 ⟨rfl,hbv2⟩
 (obtain⟨cv2,fv2⟩:=bcell hbv2;have zv20:w.heap.size<v2.heap.size:=(by have:=hbv2.size;(try simp at this);omega);have zv21:w.heap.size+1<v2.heap.size:=(by have:=hbv2.size;(try simp at this);omega);have zv22:w.heap.size+1+1<v2.heap.size:=(by have:=hbv2.size;(try simp at this);omega);have Gv2:=η hbv2;clear hbv2)
 go_wp2_with fail
 have GW:Hid (Grow _ v2):=η (Gv1.o.trans Gv2.o)
 have GV:Hid (Grow w v2):=η (HG0.o.trans GW.o)
 have ZV:Hid (w.heap.size+1+1<v2.heap.size):=η (Array.getElem?_eq_some_iff.1 (row_grow HR6.o GW.o)).1
 have hrr:Ty.rc.R (wk w.heap.size 3 (ov c w v2)) [.int .i64 (⟨1,dd,ps⟩:Rc).kind,.int .i64 dd,.slice ap ps.length cp] ⟨1,dd,ps⟩:=Ty.rc.mono (wk_in HC.o 3) (show Ty.rc.R c [.int .i64 1,.int .i64 dd,.slice ap ps.length cp] ⟨1,dd,ps⟩ from⟨_,rfl,HMS.o.2.1,HMS.o.2.2.1,HMS.o.1⟩)
 refine(ref_note (c:=wk w.heap.size 3 (ov c w v2)) (r:=⟨1,dd,ps⟩) v2 (wk_ov HC.o GV.o 3) (HV0.o.mono (wk_in HC.o 3)) ⟨_,rfl,hrr⟩ HK0.o HKM.o HN.o).mono ?_
 clear hrr
 generalize noteE h ⟨1,dd,ps⟩=x at*
 rintro e v3 ⟨vx,rfl,hX,hbv3⟩
 obtain⟨al2,cl2,ar2,cr2,ad2,cd2,rfl⟩:=hX.hs_form
 have HX:=η hX
 have HG3:=η hbv3
 clear hX
 have GW3:Hid (Grow _ v3):=η (GW.o.trans hbv3)
 obtain⟨k0,k1,k2,k3,k4,k5,k6⟩:=cells7 (row_grow HR3.o GW3.o)
 have kf:=row_free (row_grow HR3.o GW3.o)
 obtain⟨m0,m1,m2,m3⟩:=cells4 (row_grow HR5.o GW3.o)
 clear hbv3
 go_wp2_with (first|(refine wpList_store_row rfl (.tmp 3) (.tmp 37) rfl rfl rfl (row_grow HR3.o GW3.o) info_hs rfl rfl ?_))
 intro v4 r4 g4
 have R3:=η r4
 have BY4:=η g4
 clear r4 g4
 have R5:Hid (v4.heap[w.heap.size+1]? =_):=η (row_by (row_grow HR5.o GW3.o) BY4.o (by simp))
 have R6:Hid (v4.heap[w.heap.size+1+1]? =_):=η (row_by (row_grow HR6.o GW3.o) BY4.o (by simp;omega))
 clear k0 k1 k2 k3 k4 k5 k6 kf m0 m1 m2 m3
 have HG4:Hid (Grow w v4):=η ((GV.o.trans HG3.o).grown BY4.o (fun k hk=>by simp at hk;omega))
 obtain⟨k0,k1,k2,k3,k4,k5,k6⟩:=cells7 R3.o
 obtain⟨m0,m1,m2,m3⟩:=cells4 R5.o
 go_wp2_with fail
 have hS:v4.cell? ⟨w.heap.size,0,none⟩=some (.slice al2 x.log.length cl2)∧v4.cell? ⟨w.heap.size,1,none⟩=some (.int .i64 x.sums.a)∧v4.cell? ⟨w.heap.size,2,none⟩=some (.int .i64 x.sums.b)∧v4.cell? ⟨w.heap.size,3,none⟩=some (.int .i64 x.sums.c)∧v4.cell? ⟨w.heap.size,4,none⟩=some (.int .i64 x.sums.d)∧v4.cell? ⟨w.heap.size,5,none⟩=some (.slice ar2 x.ready.length cr2)∧v4.cell? ⟨w.heap.size,6,none⟩=some (.slice ad2 x.done.length cd2)∧v4.cell? ⟨w.heap.size+1,1,none⟩=some (.int .i64 dd):=by refine⟨?_,?_,?_,?_,?_,?_,?_,?_⟩<;>go_simp
 have HGW:Hid (Grow w v4):=η HG4.o
 have R6:Hid (v4.heap[w.heap.size+1+1]? =some (.cells #[.slice none 0 0,.int .i64 0,.int .i64 0,.int .i64 0,.int .i64 0,.slice none 0 0,.slice none 0 0] 29 (0,0))):=η R6.o
 have hz0:w.heap.size+1+1<v4.heap.size:=(γ R6.o)
 obtain⟨s0,s1,s2,s3,s4,s5,s6,s7⟩:=hS
 have HS:Hid (∀W,v4.grownBy W (some (w.heap.size+1+1))→W.cell? ⟨w.heap.size,0,none⟩=some (.slice al2 x.log.length cl2)∧W.cell? ⟨w.heap.size,1,none⟩=some (.int .i64 x.sums.a)∧W.cell? ⟨w.heap.size,2,none⟩=some (.int .i64 x.sums.b)∧W.cell? ⟨w.heap.size,3,none⟩=some (.int .i64 x.sums.c)∧W.cell? ⟨w.heap.size,4,none⟩=some (.int .i64 x.sums.d)∧W.cell? ⟨w.heap.size,5,none⟩=some (.slice ar2 x.ready.length cr2)∧W.cell? ⟨w.heap.size,6,none⟩=some (.slice ad2 x.done.length cd2)∧W.cell? ⟨w.heap.size+1,1,none⟩=some (.int .i64 dd)):=fun W hW=>by
  have k:∀(b o:Nat) (u:Value),b<w.heap.size+1+1→v4.cell? ⟨b,o,none⟩=some u→W.cell? ⟨b,o,none⟩=some u:=fun b o u hb e=>by
   rw [by_cell hW (World.block_lt_of_cell? v4 _ e) (by simp;omega)];exact e
  exact⟨k _ _ _ (by omega) s0,k _ _ _ (by omega) s1,k _ _ _ (by omega) s2,k _ _ _ (by omega) s3,k _ _ _ (by omega) s4,k _ _ _ (by omega) s5,k _ _ _ (by omega) s6,k _ _ _ (by omega) s7⟩
 clear s0 s1 s2 s3 s4 s5 s6 s7
 refine but_start (fun w'=>w'.cell? ⟨w.heap.size,0,none⟩=some (.slice al2 x.log.length cl2)∧w'.cell? ⟨w.heap.size,1,none⟩=some (.int .i64 x.sums.a)∧w'.cell? ⟨w.heap.size,2,none⟩=some (.int .i64 x.sums.b)∧w'.cell? ⟨w.heap.size,3,none⟩=some (.int .i64 x.sums.c)∧w'.cell? ⟨w.heap.size,4,none⟩=some (.int .i64 x.sums.d)∧w'.cell? ⟨w.heap.size,5,none⟩=some (.slice ar2 x.ready.length cr2)∧w'.cell? ⟨w.heap.size,6,none⟩=some (.slice ad2 x.done.length cd2)∧w'.cell? ⟨w.heap.size+1,1,none⟩=some (.int .i64 dd)) 8 (by kernel_rfl) ?_
 obtain⟨wd,hWd⟩:∃x:World,x=v4.drew:=⟨_,rfl⟩
 rw [←hWd]
 have GD:Grow v4 wd:=by rw [hWd];exact(Grow.refl _).drew
 have zD:v4.heap.size=wd.heap.size:=by rw [hWd];rfl
 have ZD:=η zD
 clear hWd zD
 have hzd:w.heap.size+1+1<wd.heap.size:=by have:=ZD.o;omega
 have hzw:w.heap.size≤wd.heap.size:=by have:=hzd;omega
 have FIN:Hid (∀(Wf:World) (q:Nat),w.heap.size≤q→(∀a:Addr,a.block<wd.heap.size→a.block≠w.heap.size+1+1→Wf.cell? a=wd.cell? a)→At Wf.cell? q 0 (#[.int .i64 2,.int .i64 dd,.int .i64 me,.slice none 0 0]:Array Value).toList→Grow w Wf→∃v1 v2,Ending.returned (.tuple #[.agg #[.slice al2 x.log.length cl2,.int .i64 x.sums.a,.int .i64 x.sums.b,.int .i64 x.sums.c,.int .i64 x.sums.d,.slice ar2 x.ready.length cr2,.slice ad2 x.done.length cd2],.slice (some ⟨q,0,none⟩) 1 1])=.returned (.tuple #[v1,v2])∧Of Ty.hs (ov c w Wf) v1 (hearH h ⟨1,dd,hh,ps⟩)∧Sl Ty.ms (ov c w Wf) v2 (hearM h me ⟨1,dd,hh,ps⟩)∧Grow w Wf):=by
  intro Wf q hq hA hAt hGf
  refine⟨_,_,rfl,?_,?_,hGf⟩
  ·rw [HEH.o]
   exact HX.o.mono (ov_boxes (k:=3) GV.o HG3.o (by have:=ZV.o;omega) fun a u ha e=>by
    rw [hA a (by have h1:=World.block_lt_of_cell? v3 a e;have h2:=BY4.o.size;have h3:=ZD.o;omega) (by omega),(World.cell?_of_block (show wd.heap[a.block]? =v4.heap[a.block]? from(GD.block _ (by have h1:=World.block_lt_of_cell? v3 a e;have h2:=BY4.o.size;omega)))),by_cell BY4.o (World.block_lt_of_cell? v3 a e) (by omega)]
    exact e)
  ·rw [HEM.o]
   exact sl_one (T:=Ty.ms) ⟨_,rfl,(show I64 2 from by unfold I64;decide),HMS.o.2.2.1,HME.o,Sl.nil _ _⟩ (at_ov hAt hq) (by decide) (by decide)
 refine bLm [0] 8 (by kernel_rfl) (fun _ _ _ _ _ h=>h) (HS.o _ (grownBy_of_grow GD _)) ?_
 repeat (refine tNm (v:=?_) rfl (by rfl) ?_ ?_;rotate_left;(· (intro w' hSw;(try dsimp only at hSw);obtain⟨hs0,hs1,hs2,hs3,hs4,hs5,hs6,hs7⟩:=hSw;go_simp<;>with_reducible rfl));try simp only [Act.put,lzA,lzC,lzD,lzE,lzF])
 refine tEm ?_
 refine bLm [1,2,3,4,5] 8 (by kernel_rfl) (fun _ _ _ _ _ h=>h) (HS.o _ (grownBy_of_grow GD _)) ?_
 repeat (refine tNm (v:=?_) rfl (by rfl) ?_ ?_;rotate_left;(· (intro w' hSw;(try dsimp only at hSw);obtain⟨hs0,hs1,hs2,hs3,hs4,hs5,hs6,hs7⟩:=hSw;go_simp<;>with_reducible rfl));try simp only [Act.put,lzA,lzB,lzC,lzD,lzE,lzF])
 refine tEm ?_
 refine bP 6 7 (by kernel_rfl) rfl rfl ?_ ?_
 ·intro K HK
  try simp only [lzA,lzB,lzC]
  go_simp
  refine HK.o _ _ ⟨fun _=>HS.o _ (grownBy_trans (grownBy_of_grow GD _) (grownBy_of_grow ((Grow.refl _).alloc _) _)),?_⟩
  clear HK K
  try simp only [Act.put,lzA,lzB,lzC,lzD,lzE,lzF]
  refine bO 7 (by kernel_rfl) rfl ?_
  intro K HK
  refine wanted_go rfl ?_
  try simp only [lzA,lzB,lzC]
  refine wp_store_row (.tmp 6) (.tmp 67) rfl rfl rfl (row_grow R6.o (GD.alloc _)) info_hs rfl rfl ?_
  intro w7 r7 g7
  refine HK.o _ _ ⟨fun _=>HS.o _ (grownBy_trans (grownBy_trans (grownBy_of_grow GD _) (grownBy_of_grow ((Grow.refl _).alloc _) _)) g7),?_⟩
  clear HK K
  try simp only [Act.put]
  refine bO 8 (by kernel_rfl) rfl ?_
  intro K HK
  try simp only [lzA,lzB,lzC]
  go_simp
  refine HK.o _ _ ⟨fun h=>absurd rfl h,?_⟩
  clear HK K
  try simp only [Act.put,lzA,lzB,lzC,lzD,lzE,lzF]
  refine but_done (by kernel_rfl) ?_
  obtain⟨p0,p1,p2,p3,p4,p5,p6⟩:=cells7 r7
  go_wp2
  refine bodyPost_ret (v:=.tuple #[.agg #[.slice al2 x.log.length cl2,.int .i64 x.sums.a,.int .i64 x.sums.b,.int .i64 x.sums.c,.int .i64 x.sums.d,.slice ar2 x.ready.length cr2,.slice ad2 x.done.length cd2],.slice (some ⟨wd.heap.size,0,none⟩) 1 1]) (by simp [results,Try.results35,go_sem,p0,p1,p2,p3,p4,p5,p6]) rfl ?_
  refine FIN.o _ wd.heap.size hzw (fun a h1 h2=>(by_cell g7 (by simp;omega) h2).trans (((Grow.refl wd).alloc _).cell h1)) (fun j u e=>(by_cell g7 (by simp) (by simp;omega)).trans (at_new wd _ _ j u e)) ?_
  exact(HGW.o.trans (GD.alloc _)).grown g7 (fun k hk=>by simp at hk;omega)
 ·intro K HK
  refine wanted_go rfl ?_
  try simp only [lzA,lzB,lzC]
  refine wp_store_row (.tmp 6) (.tmp 67) rfl rfl rfl (row_grow R6.o GD) info_hs rfl rfl ?_
  intro w7 r7 g7
  refine HK.o _ _ ⟨fun _=>HS.o _ (grownBy_trans (grownBy_of_grow GD _) g7),?_⟩
  clear HK K
  try simp only [Act.put]
  refine bO 6 (by kernel_rfl) rfl ?_
  intro K HK
  try simp only [lzA,lzB,lzC]
  go_simp
  refine HK.o _ _ ⟨fun _=>HS.o _ (grownBy_trans (grownBy_trans (grownBy_of_grow GD _) g7) (grownBy_of_grow ((Grow.refl _).alloc _) _)),?_⟩
  clear HK K
  try simp only [Act.put,lzA,lzB,lzC,lzD,lzE,lzF]
  refine bO 8 (by kernel_rfl) rfl ?_
  intro K HK
  try simp only [lzA,lzB,lzC]
  go_simp
  refine HK.o _ _ ⟨fun h=>absurd rfl h,?_⟩
  clear HK K
  try simp only [Act.put,lzA,lzB,lzC,lzD,lzE,lzF]
  refine but_done (by kernel_rfl) ?_
  obtain⟨p0,p1,p2,p3,p4,p5,p6⟩:=cells7 (heap_later r7 (.cells #[.int .i64 2,.int .i64 dd,.int .i64 me,.slice none 0 0] 39))
  go_wp2
  refine bodyPost_ret (v:=.tuple #[.agg #[.slice al2 x.log.length cl2,.int .i64 x.sums.a,.int .i64 x.sums.b,.int .i64 x.sums.c,.int .i64 x.sums.d,.slice ar2 x.ready.length cr2,.slice ad2 x.done.length cd2],.slice (some ⟨w7.heap.size,0,none⟩) 1 1]) (by simp [results,Try.results35,go_sem,p0,p1,p2,p3,p4,p5,p6]) rfl ?_
  refine FIN.o _ w7.heap.size (Nat.le_trans hzw g7.size) (fun a h1 h2=>(((Grow.refl w7).alloc _).cell (Nat.lt_of_lt_of_le h1 g7.size)).trans (by_cell g7 h1 h2)) (at_new w7 _ _) ?_
  exact((HGW.o.trans GD).grown g7 (fun k hk=>by simp at hk;omega)).alloc _
set_option maxRecDepth 100000 in
set_option maxHeartbeats 1000000 in
theorem hear_prepF {c:CM} {v vm:Value} {h:Hs} {dd hh me:Int} {ps:List Pt} (w:World) (hc:Sub c w.cell?) (hv:Of Ty.hs c v h) (hm:Of Ty.ms c vm ⟨1,dd,hh,ps⟩) (hk:∀x∈h.log,KeysOk x.parts) (hkm:KeysOk ps) (hn:(h.log.length+1)*40≤140737488355328) (hme:I64 me) (e10:¬voteE h dd ps=10) (e0:¬voteE h dd ps=0):
  Calls Try.prog 35 #[v,.int .i64 me,vm] w fun e w'=>∃v1 v2,e=.returned (.tuple #[v1,v2])∧Of Ty.hs (ov c w w') v1 (hearH h ⟨1,dd,hh,ps⟩)∧Sl Ty.ms (ov c w w') v2 (hearM h me ⟨1,dd,hh,ps⟩)∧Grow w w':=by
 obtain⟨al,cl,ar,cr,ad,cd,rfl⟩:=hv.hs_form
 obtain⟨ap,cp,rfl⟩:∃ap cp,vm=.agg #[.int .i64 1,.int .i64 dd,.int .i64 hh,.slice ap ps.length cp]:=hm.ms_form
 have hms:Sl Ty.pt c (.slice ap ps.length cp) ps∧I64 1∧I64 dd∧I64 hh:=Of.ms_parts hm
 have HMS:=η hms
 have HV0:=η hv
 have HC:=η hc
 have HK0:=η hk
 have HKM:=η hkm
 have HN:=η hn
 have HME:=η hme
 have HVO:=η (fun(W:World) (hW:Grow w W)=>ref_vote (d:=dd) W (hv.mono (hc.trans hW.sub)) (hms.1.mono (hc.trans hW.sub)) hkm)
 have HRD:=η (fun(W:World) (hW:Grow w W)=>ref_ready (d:=dd) W (hv.mono (hc.trans hW.sub)))
 have HIN:=η (fun(W:World) (hW:Grow w W)=>ref_in (n:=dd) W ((Of.hs_log hv).2.2.mono (hc.trans hW.sub)))
 have HG0:Hid (Grow w (((w.alloc (.cells #[.slice al h.log.length cl,.int .i64 h.sums.a,.int .i64 h.sums.b,.int .i64 h.sums.c,.int .i64 h.sums.d,.slice ar h.ready.length cr,.slice ad h.done.length cd] 29)).alloc (.cells #[.int .i64 1,.int .i64 dd,.int .i64 hh,.slice ap ps.length cp] 39)).alloc (.cells #[.slice none 0 0,.int .i64 0,.int .i64 0,.int .i64 0,.int .i64 0,.slice none 0 0,.slice none 0 0] 29))):=η ((((Grow.refl w).alloc _).alloc _).alloc _)
 have HR3:Hid ((((w.alloc (.cells #[.slice al h.log.length cl,.int .i64 h.sums.a,.int .i64 h.sums.b,.int .i64 h.sums.c,.int .i64 h.sums.d,.slice ar h.ready.length cr,.slice ad h.done.length cd] 29)).alloc (.cells #[.int .i64 1,.int .i64 dd,.int .i64 hh,.slice ap ps.length cp] 39)).alloc (.cells #[.slice none 0 0,.int .i64 0,.int .i64 0,.int .i64 0,.int .i64 0,.slice none 0 0,.slice none 0 0] 29)).heap[w.heap.size]? =some (.cells #[.slice al h.log.length cl,.int .i64 h.sums.a,.int .i64 h.sums.b,.int .i64 h.sums.c,.int .i64 h.sums.d,.slice ar h.ready.length cr,.slice ad h.done.length cd] 29 (0,0))):=η (heap_later (heap_later (row_new _ _) _) _)
 have HR5:Hid ((((w.alloc (.cells #[.slice al h.log.length cl,.int .i64 h.sums.a,.int .i64 h.sums.b,.int .i64 h.sums.c,.int .i64 h.sums.d,.slice ar h.ready.length cr,.slice ad h.done.length cd] 29)).alloc (.cells #[.int .i64 1,.int .i64 dd,.int .i64 hh,.slice ap ps.length cp] 39)).alloc (.cells #[.slice none 0 0,.int .i64 0,.int .i64 0,.int .i64 0,.int .i64 0,.slice none 0 0,.slice none 0 0] 29)).heap[w.heap.size+1]? =some (.cells #[.int .i64 1,.int .i64 dd,.int .i64 hh,.slice ap ps.length cp] 39 (0,0))):=η (heap_later (by simpa using row_new (w.alloc (.cells #[.slice al h.log.length cl,.int .i64 h.sums.a,.int .i64 h.sums.b,.int .i64 h.sums.c,.int .i64 h.sums.d,.slice ar h.ready.length cr,.slice ad h.done.length cd] 29)) _) _)
 have HR6:Hid ((((w.alloc (.cells #[.slice al h.log.length cl,.int .i64 h.sums.a,.int .i64 h.sums.b,.int .i64 h.sums.c,.int .i64 h.sums.d,.slice ar h.ready.length cr,.slice ad h.done.length cd] 29)).alloc (.cells #[.int .i64 1,.int .i64 dd,.int .i64 hh,.slice ap ps.length cp] 39)).alloc (.cells #[.slice none 0 0,.int .i64 0,.int .i64 0,.int .i64 0,.int .i64 0,.slice none 0 0,.slice none 0 0] 29)).heap[w.heap.size+1+1]? =some (.cells #[.slice none 0 0,.int .i64 0,.int .i64 0,.int .i64 0,.int .i64 0,.slice none 0 0,.slice none 0 0] 29 (0,0))):=η (by simpa using row_new ((w.alloc (.cells #[.slice al h.log.length cl,.int .i64 h.sums.a,.int .i64 h.sums.b,.int .i64 h.sums.c,.int .i64 h.sums.d,.slice ar h.ready.length cr,.slice ad h.done.length cd] 29)).alloc (.cells #[.int .i64 1,.int .i64 dd,.int .i64 hh,.slice ap ps.length cp] 39)) _)
 clear hv hm hc hk hkm hn hme hms
 have HEH:Hid (hearH h ⟨1,dd,hh,ps⟩=h):=by
  show hearH h ⟨1,dd,hh,ps⟩=h
  unfold hearH
  rw [if_pos rfl,if_neg (fun h2=>e0 h2.1)]
 have HEM:Hid (hearM h me ⟨1,dd,hh,ps⟩=sayE 3 dd me):=by
  show hearM h me ⟨1,dd,hh,ps⟩=sayE 3 dd me
  unfold hearM
  rw [if_pos rfl,if_neg e10,if_neg e0]
 have hb10:(voteE h dd ps==10)=false:=by simpa using e10
 have hb0:(voteE h dd ps==0)=false:=by simpa using e0
 clear e0 e10
 generalize voteE h dd ps=ve at*
 go_enter Try.func35,Try.ntmps35
 go_wp2_with fail
 refine(HVO.o _ HG0.o).mono ?_
 rintro e v1 ⟨rfl,hbv1⟩
 (obtain⟨cv1,fv1⟩:=bcell hbv1;have zv10:w.heap.size<v1.heap.size:=(by have:=hbv1.size;(try simp at this);omega);have zv11:w.heap.size+1<v1.heap.size:=(by have:=hbv1.size;(try simp at this);omega);have zv12:w.heap.size+1+1<v1.heap.size:=(by have:=hbv1.size;(try simp at this);omega);have Gv1:=η hbv1;clear hbv1)
 go_wp2_with fail
 have hS:v1.cell? ⟨w.heap.size,0,none⟩=some (.slice al h.log.length cl)∧v1.cell? ⟨w.heap.size,1,none⟩=some (.int .i64 h.sums.a)∧v1.cell? ⟨w.heap.size,2,none⟩=some (.int .i64 h.sums.b)∧v1.cell? ⟨w.heap.size,3,none⟩=some (.int .i64 h.sums.c)∧v1.cell? ⟨w.heap.size,4,none⟩=some (.int .i64 h.sums.d)∧v1.cell? ⟨w.heap.size,5,none⟩=some (.slice ar h.ready.length cr)∧v1.cell? ⟨w.heap.size,6,none⟩=some (.slice ad h.done.length cd)∧v1.cell? ⟨w.heap.size+1,1,none⟩=some (.int .i64 dd):=by refine⟨?_,?_,?_,?_,?_,?_,?_,?_⟩<;>go_simp
 have HGW:Hid (Grow w v1):=η (HG0.o.trans Gv1.o)
 have R6:Hid (v1.heap[w.heap.size+1+1]? =some (.cells #[.slice none 0 0,.int .i64 0,.int .i64 0,.int .i64 0,.int .i64 0,.slice none 0 0,.slice none 0 0] 29 (0,0))):=η (row_grow HR6.o Gv1.o)
 have hz0:w.heap.size+1+1<v1.heap.size:=(γ R6.o)
 obtain⟨s0,s1,s2,s3,s4,s5,s6,s7⟩:=hS
 have HS:Hid (∀W,v1.grownBy W (some (w.heap.size+1+1))→W.cell? ⟨w.heap.size,0,none⟩=some (.slice al h.log.length cl)∧W.cell? ⟨w.heap.size,1,none⟩=some (.int .i64 h.sums.a)∧W.cell? ⟨w.heap.size,2,none⟩=some (.int .i64 h.sums.b)∧W.cell? ⟨w.heap.size,3,none⟩=some (.int .i64 h.sums.c)∧W.cell? ⟨w.heap.size,4,none⟩=some (.int .i64 h.sums.d)∧W.cell? ⟨w.heap.size,5,none⟩=some (.slice ar h.ready.length cr)∧W.cell? ⟨w.heap.size,6,none⟩=some (.slice ad h.done.length cd)∧W.cell? ⟨w.heap.size+1,1,none⟩=some (.int .i64 dd)):=fun W hW=>by
  have k:∀(b o:Nat) (u:Value),b<w.heap.size+1+1→v1.cell? ⟨b,o,none⟩=some u→W.cell? ⟨b,o,none⟩=some u:=fun b o u hb e=>by
   rw [by_cell hW (World.block_lt_of_cell? v1 _ e) (by simp;omega)];exact e
  exact⟨k _ _ _ (by omega) s0,k _ _ _ (by omega) s1,k _ _ _ (by omega) s2,k _ _ _ (by omega) s3,k _ _ _ (by omega) s4,k _ _ _ (by omega) s5,k _ _ _ (by omega) s6,k _ _ _ (by omega) s7⟩
 clear s0 s1 s2 s3 s4 s5 s6 s7
 refine but_start (fun w'=>w'.cell? ⟨w.heap.size,0,none⟩=some (.slice al h.log.length cl)∧w'.cell? ⟨w.heap.size,1,none⟩=some (.int .i64 h.sums.a)∧w'.cell? ⟨w.heap.size,2,none⟩=some (.int .i64 h.sums.b)∧w'.cell? ⟨w.heap.size,3,none⟩=some (.int .i64 h.sums.c)∧w'.cell? ⟨w.heap.size,4,none⟩=some (.int .i64 h.sums.d)∧w'.cell? ⟨w.heap.size,5,none⟩=some (.slice ar h.ready.length cr)∧w'.cell? ⟨w.heap.size,6,none⟩=some (.slice ad h.done.length cd)∧w'.cell? ⟨w.heap.size+1,1,none⟩=some (.int .i64 dd)) 8 (by kernel_rfl) ?_
 obtain⟨wd,hWd⟩:∃x:World,x=v1.drew:=⟨_,rfl⟩
 rw [←hWd]
 have GD:Grow v1 wd:=by rw [hWd];exact(Grow.refl _).drew
 have zD:v1.heap.size=wd.heap.size:=by rw [hWd];rfl
 have ZD:=η zD
 clear hWd zD
 have hzd:w.heap.size+1+1<wd.heap.size:=by have:=ZD.o;omega
 have hzw:w.heap.size≤wd.heap.size:=by have:=hzd;omega
 have FIN:Hid (∀(Wf:World) (q:Nat),w.heap.size≤q→(∀a:Addr,a.block<wd.heap.size→a.block≠w.heap.size+1+1→Wf.cell? a=wd.cell? a)→At Wf.cell? q 0 (#[.int .i64 3,.int .i64 dd,.int .i64 me,.slice none 0 0]:Array Value).toList→Grow w Wf→∃v1 v2,Ending.returned (.tuple #[.agg #[.slice al h.log.length cl,.int .i64 h.sums.a,.int .i64 h.sums.b,.int .i64 h.sums.c,.int .i64 h.sums.d,.slice ar h.ready.length cr,.slice ad h.done.length cd],.slice (some ⟨q,0,none⟩) 1 1])=.returned (.tuple #[v1,v2])∧Of Ty.hs (ov c w Wf) v1 (hearH h ⟨1,dd,hh,ps⟩)∧Sl Ty.ms (ov c w Wf) v2 (hearM h me ⟨1,dd,hh,ps⟩)∧Grow w Wf):=by
  intro Wf q hq hA hAt hGf
  refine⟨_,_,rfl,?_,?_,hGf⟩
  ·rw [HEH.o]
   exact HV0.o.mono (ov_in HC.o)
  ·rw [HEM.o]
   exact sl_one (T:=Ty.ms) ⟨_,rfl,(show I64 3 from by unfold I64;decide),HMS.o.2.2.1,HME.o,Sl.nil _ _⟩ (at_ov hAt hq) (by decide) (by decide)
 refine bLm [0] 8 (by kernel_rfl) (fun _ _ _ _ _ h=>h) (HS.o _ (grownBy_of_grow GD _)) ?_
 repeat (refine tNm (v:=?_) rfl (by rfl) ?_ ?_;rotate_left;(· (intro w' hSw;(try dsimp only at hSw);obtain⟨hs0,hs1,hs2,hs3,hs4,hs5,hs6,hs7⟩:=hSw;go_simp<;>with_reducible rfl));try simp only [Act.put,lzA,lzC,lzD,lzE,lzF])
 refine tEm ?_
 refine bLm [1,2,3,4,5] 8 (by kernel_rfl) (fun _ _ _ _ _ h=>h) (HS.o _ (grownBy_of_grow GD _)) ?_
 repeat (refine tNm (v:=?_) rfl (by rfl) ?_ ?_;rotate_left;(· (intro w' hSw;(try dsimp only at hSw);obtain⟨hs0,hs1,hs2,hs3,hs4,hs5,hs6,hs7⟩:=hSw;go_simp<;>with_reducible rfl));try simp only [Act.put,lzA,lzB,lzC,lzD,lzE,lzF])
 refine tEm ?_
 refine bP 6 7 (by kernel_rfl) rfl rfl ?_ ?_
 ·intro K HK
  try simp only [lzA,lzB,lzC]
  go_simp
  refine HK.o _ _ ⟨fun _=>HS.o _ (grownBy_trans (grownBy_of_grow GD _) (grownBy_of_grow ((Grow.refl _).alloc _) _)),?_⟩
  clear HK K
  try simp only [Act.put,lzA,lzB,lzC,lzD,lzE,lzF]
  refine bO 7 (by kernel_rfl) rfl ?_
  intro K HK
  refine wanted_go rfl ?_
  try simp only [lzA,lzB,lzC]
  refine wp_store_row (.tmp 6) (.tmp 67) rfl rfl rfl (row_grow R6.o (GD.alloc _)) info_hs rfl rfl ?_
  intro w7 r7 g7
  refine HK.o _ _ ⟨fun _=>HS.o _ (grownBy_trans (grownBy_trans (grownBy_of_grow GD _) (grownBy_of_grow ((Grow.refl _).alloc _) _)) g7),?_⟩
  clear HK K
  try simp only [Act.put]
  refine bO 8 (by kernel_rfl) rfl ?_
  intro K HK
  try simp only [lzA,lzB,lzC]
  go_simp
  refine HK.o _ _ ⟨fun h=>absurd rfl h,?_⟩
  clear HK K
  try simp only [Act.put,lzA,lzB,lzC,lzD,lzE,lzF]
  refine but_done (by kernel_rfl) ?_
  obtain⟨p0,p1,p2,p3,p4,p5,p6⟩:=cells7 r7
  go_wp2
  refine bodyPost_ret (v:=.tuple #[.agg #[.slice al h.log.length cl,.int .i64 h.sums.a,.int .i64 h.sums.b,.int .i64 h.sums.c,.int .i64 h.sums.d,.slice ar h.ready.length cr,.slice ad h.done.length cd],.slice (some ⟨wd.heap.size,0,none⟩) 1 1]) (by simp [results,Try.results35,go_sem,p0,p1,p2,p3,p4,p5,p6]) rfl ?_
  refine FIN.o _ wd.heap.size hzw (fun a h1 h2=>(by_cell g7 (by simp;omega) h2).trans (((Grow.refl wd).alloc _).cell h1)) (fun j u e=>(by_cell g7 (by simp) (by simp;omega)).trans (at_new wd _ _ j u e)) ?_
  exact(HGW.o.trans (GD.alloc _)).grown g7 (fun k hk=>by simp at hk;omega)
 ·intro K HK
  refine wanted_go rfl ?_
  try simp only [lzA,lzB,lzC]
  refine wp_store_row (.tmp 6) (.tmp 67) rfl rfl rfl (row_grow R6.o GD) info_hs rfl rfl ?_
  intro w7 r7 g7
  refine HK.o _ _ ⟨fun _=>HS.o _ (grownBy_trans (grownBy_of_grow GD _) g7),?_⟩
  clear HK K
  try simp only [Act.put]
  refine bO 6 (by kernel_rfl) rfl ?_
  intro K HK
  try simp only [lzA,lzB,lzC]
  go_simp
  refine HK.o _ _ ⟨fun _=>HS.o _ (grownBy_trans (grownBy_trans (grownBy_of_grow GD _) g7) (grownBy_of_grow ((Grow.refl _).alloc _) _)),?_⟩
  clear HK K
  try simp only [Act.put,lzA,lzB,lzC,lzD,lzE,lzF]
  refine bO 8 (by kernel_rfl) rfl ?_
  intro K HK
  try simp only [lzA,lzB,lzC]
  go_simp
  refine HK.o _ _ ⟨fun h=>absurd rfl h,?_⟩
  clear HK K
  try simp only [Act.put,lzA,lzB,lzC,lzD,lzE,lzF]
  refine but_done (by kernel_rfl) ?_
  obtain⟨p0,p1,p2,p3,p4,p5,p6⟩:=cells7 (heap_later r7 (.cells #[.int .i64 3,.int .i64 dd,.int .i64 me,.slice none 0 0] 39))
  go_wp2
  refine bodyPost_ret (v:=.tuple #[.agg #[.slice al h.log.length cl,.int .i64 h.sums.a,.int .i64 h.sums.b,.int .i64 h.sums.c,.int .i64 h.sums.d,.slice ar h.ready.length cr,.slice ad h.done.length cd],.slice (some ⟨w7.heap.size,0,none⟩) 1 1]) (by simp [results,Try.results35,go_sem,p0,p1,p2,p3,p4,p5,p6]) rfl ?_
  refine FIN.o _ w7.heap.size (Nat.le_trans hzw g7.size) (fun a h1 h2=>(((Grow.refl w7).alloc _).cell (Nat.lt_of_lt_of_le h1 g7.size)).trans (by_cell g7 h1 h2)) (at_new w7 _ _) ?_
  exact((HGW.o.trans GD).grown g7 (fun k hk=>by simp at hk;omega)).alloc _
set_option maxRecDepth 100000 in
set_option maxHeartbeats 1000000 in
theorem hear_com4R {c:CM} {v vm:Value} {h:Hs} {dd hh me:Int} {ps:List Pt} (w:World) (hc:Sub c w.cell?) (hv:Of Ty.hs c v h) (hm:Of Ty.ms c vm ⟨4,dd,hh,ps⟩) (hk:∀x∈h.log,KeysOk x.parts) (hkm:KeysOk ps) (hn:(h.log.length+1)*40≤140737488355328) (hme:I64 me) (rd:readyE h.ready dd=true) (hin:dd∈(noteE h ⟨2,dd,[]⟩).done):
  Calls Try.prog 35 #[v,.int .i64 me,vm] w fun e w'=>∃v1 v2,e=.returned (.tuple #[v1,v2])∧Of Ty.hs (ov c w w') v1 (hearH h ⟨4,dd,hh,ps⟩)∧Sl Ty.ms (ov c w w') v2 (hearM h me ⟨4,dd,hh,ps⟩)∧Grow w w':=by
 obtain⟨al,cl,ar,cr,ad,cd,rfl⟩:=hv.hs_form
 obtain⟨ap,cp,rfl⟩:∃ap cp,vm=.agg #[.int .i64 4,.int .i64 dd,.int .i64 hh,.slice ap ps.length cp]:=hm.ms_form
 have hms:Sl Ty.pt c (.slice ap ps.length cp) ps∧I64 4∧I64 dd∧I64 hh:=Of.ms_parts hm
 have HMS:=η hms
 have HV0:=η hv
 have HC:=η hc
 have HK0:=η hk
 have HKM:=η hkm
 have HN:=η hn
 have HME:=η hme
 have HVO:=η (fun(W:World) (hW:Grow w W)=>ref_vote (d:=dd) W (hv.mono (hc.trans hW.sub)) (hms.1.mono (hc.trans hW.sub)) hkm)
 have HRD:=η (fun(W:World) (hW:Grow w W)=>ref_ready (d:=dd) W (hv.mono (hc.trans hW.sub)))
 have HIN:=η (fun(W:World) (hW:Grow w W)=>ref_in (n:=dd) W ((Of.hs_log hv).2.2.mono (hc.trans hW.sub)))
 have HG0:Hid (Grow w (((w.alloc (.cells #[.slice al h.log.length cl,.int .i64 h.sums.a,.int .i64 h.sums.b,.int .i64 h.sums.c,.int .i64 h.sums.d,.slice ar h.ready.length cr,.slice ad h.done.length cd] 29)).alloc (.cells #[.int .i64 4,.int .i64 dd,.int .i64 hh,.slice ap ps.length cp] 39)).alloc (.cells #[.slice none 0 0,.int .i64 0,.int .i64 0,.int .i64 0,.int .i64 0,.slice none 0 0,.slice none 0 0] 29))):=η ((((Grow.refl w).alloc _).alloc _).alloc _)
 have HR3:Hid ((((w.alloc (.cells #[.slice al h.log.length cl,.int .i64 h.sums.a,.int .i64 h.sums.b,.int .i64 h.sums.c,.int .i64 h.sums.d,.slice ar h.ready.length cr,.slice ad h.done.length cd] 29)).alloc (.cells #[.int .i64 4,.int .i64 dd,.int .i64 hh,.slice ap ps.length cp] 39)).alloc (.cells #[.slice none 0 0,.int .i64 0,.int .i64 0,.int .i64 0,.int .i64 0,.slice none 0 0,.slice none 0 0] 29)).heap[w.heap.size]? =some (.cells #[.slice al h.log.length cl,.int .i64 h.sums.a,.int .i64 h.sums.b,.int .i64 h.sums.c,.int .i64 h.sums.d,.slice ar h.ready.length cr,.slice ad h.done.length cd] 29 (0,0))):=η (heap_later (heap_later (row_new _ _) _) _)
 have HR5:Hid ((((w.alloc (.cells #[.slice al h.log.length cl,.int .i64 h.sums.a,.int .i64 h.sums.b,.int .i64 h.sums.c,.int .i64 h.sums.d,.slice ar h.ready.length cr,.slice ad h.done.length cd] 29)).alloc (.cells #[.int .i64 4,.int .i64 dd,.int .i64 hh,.slice ap ps.length cp] 39)).alloc (.cells #[.slice none 0 0,.int .i64 0,.int .i64 0,.int .i64 0,.int .i64 0,.slice none 0 0,.slice none 0 0] 29)).heap[w.heap.size+1]? =some (.cells #[.int .i64 4,.int .i64 dd,.int .i64 hh,.slice ap ps.length cp] 39 (0,0))):=η (heap_later (by simpa using row_new (w.alloc (.cells #[.slice al h.log.length cl,.int .i64 h.sums.a,.int .i64 h.sums.b,.int .i64 h.sums.c,.int .i64 h.sums.d,.slice ar h.ready.length cr,.slice ad h.done.length cd] 29)) _) _)
 have HR6:Hid ((((w.alloc (.cells #[.slice al h.log.length cl,.int .i64 h.sums.a,.int .i64 h.sums.b,.int .i64 h.sums.c,.int .i64 h.sums.d,.slice ar h.ready.length cr,.slice ad h.done.length cd] 29)).alloc (.cells #[.int .i64 4,.int .i64 dd,.int .i64 hh,.slice ap ps.length cp] 39)).alloc (.cells #[.slice none 0 0,.int .i64 0,.int .i64 0,.int .i64 0,.int .i64 0,.slice none 0 0,.slice none 0 0] 29)).heap[w.heap.size+1+1]? =some (.cells #[.slice none 0 0,.int .i64 0,.int .i64 0,.int .i64 0,.int .i64 0,.slice none 0 0,.slice none 0 0] 29 (0,0))):=η (by simpa using row_new ((w.alloc (.cells #[.slice al h.log.length cl,.int .i64 h.sums.a,.int .i64 h.sums.b,.int .i64 h.sums.c,.int .i64 h.sums.d,.slice ar h.ready.length cr,.slice ad h.done.length cd] 29)).alloc (.cells #[.int .i64 4,.int .i64 dd,.int .i64 hh,.slice ap ps.length cp] 39)) _)
 clear hv hm hc hk hkm hn hme hms
 have HEH:Hid (hearH h ⟨4,dd,hh,ps⟩=noteE h ⟨2,dd,[]⟩):=by
  show hearH h ⟨4,dd,hh,ps⟩=noteE h ⟨2,dd,[]⟩
  unfold hearH
  rw [if_neg (fun e=>by cases e),if_pos rfl,if_pos rd]
 have HEM:Hid (hearM h me ⟨4,dd,hh,ps⟩=sayE 6 dd me):=by
  show hearM h me ⟨4,dd,hh,ps⟩=sayE 6 dd me
  unfold hearM
  rw [if_neg (fun e=>by cases e),if_pos rfl,HEH.o,if_pos hin]
 have HIN2:=η hin
 clear hin
 have RD:=η rd
 clear rd
 go_enter Try.func35,Try.ntmps35
 go_wp2_with fail
 refine(HRD.o _ HG0.o).mono ?_
 rw [RD.o]
 rintro e v1 ⟨rfl,hbv1⟩
 (obtain⟨cv1,fv1⟩:=bcell hbv1;have zv10:w.heap.size<v1.heap.size:=(by have:=hbv1.size;(try simp at this);omega);have zv11:w.heap.size+1<v1.heap.size:=(by have:=hbv1.size;(try simp at this);omega);have zv12:w.heap.size+1+1<v1.heap.size:=(by have:=hbv1.size;(try simp at this);omega);have Gv1:=η hbv1;clear hbv1)
 have GV0:Hid (Grow _ v1):=η Gv1.o
 have hz:∀u,(zeroValue 3).run Try.prog u=.ok (.int .i64 0) u:=fun u=>by kernel_rfl
 have hmm:=@run_makeMap Try.prog
 go_wp2_with (first|(refine wp_insert keyInt Try.underlying142 rfl _ _ _ rfl (MapIs.new (enc:=encInt) _) 4 (.int .i64 2) rfl rfl rfl ?_))
 clear hmm
 intro m1 hM1 hm1
 have gm1:Grow v1 m1:=((Grow.refl _).alloc (.map #[] 0)).grown hm1 (fun k hk=>by simp at hk;omega)
 have HM1:=η hM1
 clear hM1 hm1
 go_wp2_with (first|(refine wp_insert keyInt Try.underlying142 rfl _ _ _ rfl HM1.o 5 (.int .i64 3) rfl rfl rfl ?_))
 intro m2 hM2 hm2
 have gm2:Grow v1 m2:=gm1.grown hm2 (fun k hk=>by simp at hk;omega)
 have HM2:=η hM2
 clear hM2 hm2 gm1
 have GM2:=η gm2
 have GW2:Hid (Grow _ m2):=η (GV0.o.trans gm2)
 obtain⟨k0,k1,k2,k3,k4,k5,k6⟩:=cells7 (row_grow HR3.o GW2.o)
 obtain⟨n0,n1,n2,n3⟩:=cells4 (row_grow HR5.o GW2.o)
 clear gm2
 go_wp2_with (first|(at_lookup;refine wp_lookup' keyInt Try.underlying142 hz rfl _ _ rfl HM2.o 4 (.int .i64 2) (by rfl) rfl rfl ?_))
 clear k0 k1 k2 k3 k4 k5 k6
 obtain⟨k0,k1,k2,k3,k4,k5,k6⟩:=cells7 (row_grow HR3.o GW2.o)
 go_wp2_with fail
 have GW:Hid (Grow _ m2):=η GW2.o
 have GV:Hid (Grow w m2):=η (HG0.o.trans GW.o)
 have ZV:Hid (w.heap.size+1+1<m2.heap.size):=η (Array.getElem?_eq_some_iff.1 (row_grow HR6.o GW.o)).1
 have hrr:Ty.rc.R (wk w.heap.size 3 (ov c w m2)) [.int .i64 (⟨2,dd,[]⟩:Rc).kind,.int .i64 dd,.slice none 0 0] ⟨2,dd,[]⟩:=Ty.rc.mono (wk_in HC.o 3) (show Ty.rc.R c [.int .i64 2,.int .i64 dd,.slice none 0 0] ⟨2,dd,[]⟩ from⟨_,rfl,(show I64 2 from by unfold I64;decide),HMS.o.2.2.1,Sl.nil _ _⟩)
 refine(ref_note (c:=wk w.heap.size 3 (ov c w m2)) (r:=⟨2,dd,[]⟩) m2 (wk_ov HC.o GV.o 3) (HV0.o.mono (wk_in HC.o 3)) ⟨_,rfl,hrr⟩ HK0.o (by intro p hp;simp at hp) HN.o).mono ?_
 clear hrr
 generalize noteE h ⟨2,dd,[]⟩=x at*
 rintro e v3 ⟨vx,rfl,hX,hbv3⟩
 obtain⟨al2,cl2,ar2,cr2,ad2,cd2,rfl⟩:=hX.hs_form
 have HX:=η hX
 have HG3:=η hbv3
 clear hX
 have GW3:Hid (Grow _ v3):=η (GW.o.trans hbv3)
 obtain⟨k0,k1,k2,k3,k4,k5,k6⟩:=cells7 (row_grow HR3.o GW3.o)
 have kf:=row_free (row_grow HR3.o GW3.o)
 obtain⟨m0,m1,m2,m3⟩:=cells4 (row_grow HR5.o GW3.o)
 clear hbv3
 go_wp2_with (first|(refine wpList_store_row rfl (.tmp 3) (.tmp 54) rfl rfl rfl (row_grow HR3.o GW3.o) info_hs rfl rfl ?_))
 intro v4 r4 g4
 have R3:=η r4
 have BY4:=η g4
 clear r4 g4
 have R5:Hid (v4.heap[w.heap.size+1]? =_):=η (row_by (row_grow HR5.o GW3.o) BY4.o (by simp))
 have R6:Hid (v4.heap[w.heap.size+1+1]? =_):=η (row_by (row_grow HR6.o GW3.o) BY4.o (by simp;omega))
 clear k0 k1 k2 k3 k4 k5 k6 kf m0 m1 m2 m3
 have HG4:Hid (Grow w v4):=η ((GV.o.trans HG3.o).grown BY4.o (fun k hk=>by simp at hk;omega))
 obtain⟨k0,k1,k2,k3,k4,k5,k6⟩:=cells7 R3.o
 obtain⟨m0,m1,m2,m3⟩:=cells4 R5.o
 go_wp2_with fail
 have HIX:=η (fun(W:World) (hW:Grow v4 W)=>ref_in (n:=dd) W ((Of.hs_log ((HX.o.mono (ov_boxes (w':=v4) (k:=3) GV.o HG3.o (by have:=ZV.o;omega) fun a u ha e=>by rw [by_cell BY4.o (World.block_lt_of_cell? v3 a e) (by omega)];exact e)).mono (ov_sub HC.o HG4.o))).2.2.mono hW.sub))
 go_wp2_with fail
 refine(HIX.o _ (Grow.refl _)).mono ?_
 rw [decide_eq_true HIN2.o]
 rintro e v5 ⟨rfl,hbv5⟩
 have HB5:=η hbv5
 clear k0 k1 k2 k3 k4 k5 k6 m0 m1 m2 m3
 obtain⟨k0,k1,k2,k3,k4,k5,k6⟩:=cells7 (row_grow R3.o HB5.o)
 obtain⟨m0,m1,m2,m3⟩:=cells4 (row_grow R5.o HB5.o)
 clear hbv5
 go_wp2_with fail
 have hS:v5.cell? ⟨w.heap.size,0,none⟩=some (.slice al2 x.log.length cl2)∧v5.cell? ⟨w.heap.size,1,none⟩=some (.int .i64 x.sums.a)∧v5.cell? ⟨w.heap.size,2,none⟩=some (.int .i64 x.sums.b)∧v5.cell? ⟨w.heap.size,3,none⟩=some (.int .i64 x.sums.c)∧v5.cell? ⟨w.heap.size,4,none⟩=some (.int .i64 x.sums.d)∧v5.cell? ⟨w.heap.size,5,none⟩=some (.slice ar2 x.ready.length cr2)∧v5.cell? ⟨w.heap.size,6,none⟩=some (.slice ad2 x.done.length cd2)∧v5.cell? ⟨w.heap.size+1,1,none⟩=some (.int .i64 dd):=by refine⟨?_,?_,?_,?_,?_,?_,?_,?_⟩<;>go_simp
 have HGW:Hid (Grow w v5):=η (HG4.o.trans HB5.o)
 have R6:Hid (v5.heap[w.heap.size+1+1]? =some (.cells #[.slice none 0 0,.int .i64 0,.int .i64 0,.int .i64 0,.int .i64 0,.slice none 0 0,.slice none 0 0] 29 (0,0))):=η (row_grow R6.o HB5.o)
 have hz0:w.heap.size+1+1<v5.heap.size:=(γ R6.o)
 obtain⟨s0,s1,s2,s3,s4,s5,s6,s7⟩:=hS
 have HS:Hid (∀W,v5.grownBy W (some (w.heap.size+1+1))→W.cell? ⟨w.heap.size,0,none⟩=some (.slice al2 x.log.length cl2)∧W.cell? ⟨w.heap.size,1,none⟩=some (.int .i64 x.sums.a)∧W.cell? ⟨w.heap.size,2,none⟩=some (.int .i64 x.sums.b)∧W.cell? ⟨w.heap.size,3,none⟩=some (.int .i64 x.sums.c)∧W.cell? ⟨w.heap.size,4,none⟩=some (.int .i64 x.sums.d)∧W.cell? ⟨w.heap.size,5,none⟩=some (.slice ar2 x.ready.length cr2)∧W.cell? ⟨w.heap.size,6,none⟩=some (.slice ad2 x.done.length cd2)∧W.cell? ⟨w.heap.size+1,1,none⟩=some (.int .i64 dd)):=fun W hW=>by
  have k:∀(b o:Nat) (u:Value),b<w.heap.size+1+1→v5.cell? ⟨b,o,none⟩=some u→W.cell? ⟨b,o,none⟩=some u:=fun b o u hb e=>by
   rw [by_cell hW (World.block_lt_of_cell? v5 _ e) (by simp;omega)];exact e
  exact⟨k _ _ _ (by omega) s0,k _ _ _ (by omega) s1,k _ _ _ (by omega) s2,k _ _ _ (by omega) s3,k _ _ _ (by omega) s4,k _ _ _ (by omega) s5,k _ _ _ (by omega) s6,k _ _ _ (by omega) s7⟩
 clear s0 s1 s2 s3 s4 s5 s6 s7
 refine but_start (fun w'=>w'.cell? ⟨w.heap.size,0,none⟩=some (.slice al2 x.log.length cl2)∧w'.cell? ⟨w.heap.size,1,none⟩=some (.int .i64 x.sums.a)∧w'.cell? ⟨w.heap.size,2,none⟩=some (.int .i64 x.sums.b)∧w'.cell? ⟨w.heap.size,3,none⟩=some (.int .i64 x.sums.c)∧w'.cell? ⟨w.heap.size,4,none⟩=some (.int .i64 x.sums.d)∧w'.cell? ⟨w.heap.size,5,none⟩=some (.slice ar2 x.ready.length cr2)∧w'.cell? ⟨w.heap.size,6,none⟩=some (.slice ad2 x.done.length cd2)∧w'.cell? ⟨w.heap.size+1,1,none⟩=some (.int .i64 dd)) 8 (by kernel_rfl) ?_
 obtain⟨wd,hWd⟩:∃x:World,x=v5.drew:=⟨_,rfl⟩
 rw [←hWd]
 have GD:Grow v5 wd:=by rw [hWd];exact(Grow.refl _).drew
 have zD:v5.heap.size=wd.heap.size:=by rw [hWd];rfl
 have ZD:=η zD
 clear hWd zD
 have hzd:w.heap.size+1+1<wd.heap.size:=by have:=ZD.o;omega
 have hzw:w.heap.size≤wd.heap.size:=by have:=hzd;omega
 have FIN:Hid (∀(Wf:World) (q:Nat),w.heap.size≤q→(∀a:Addr,a.block<wd.heap.size→a.block≠w.heap.size+1+1→Wf.cell? a=wd.cell? a)→At Wf.cell? q 0 (#[.int .i64 6,.int .i64 dd,.int .i64 me,.slice none 0 0]:Array Value).toList→Grow w Wf→∃v1 v2,Ending.returned (.tuple #[.agg #[.slice al2 x.log.length cl2,.int .i64 x.sums.a,.int .i64 x.sums.b,.int .i64 x.sums.c,.int .i64 x.sums.d,.slice ar2 x.ready.length cr2,.slice ad2 x.done.length cd2],.slice (some ⟨q,0,none⟩) 1 1])=.returned (.tuple #[v1,v2])∧Of Ty.hs (ov c w Wf) v1 (hearH h ⟨4,dd,hh,ps⟩)∧Sl Ty.ms (ov c w Wf) v2 (hearM h me ⟨4,dd,hh,ps⟩)∧Grow w Wf):=by
  intro Wf q hq hA hAt hGf
  refine⟨_,_,rfl,?_,?_,hGf⟩
  ·rw [HEH.o]
   exact HX.o.mono (ov_boxes (k:=3) GV.o HG3.o (by have:=ZV.o;omega) fun a u ha e=>by
    have l1:=World.block_lt_of_cell? v3 a e
    have l2:=BY4.o.size
    have l3:=HB5.o.size
    have l4:=GD.size
    rw [hA a (by omega) (by omega),GD.cell (by omega),HB5.o.cell (by omega),by_cell BY4.o l1 (by omega)]
    exact e)
  ·rw [HEM.o]
   exact sl_one (T:=Ty.ms) ⟨_,rfl,(show I64 6 from by unfold I64;decide),HMS.o.2.2.1,HME.o,Sl.nil _ _⟩ (at_ov hAt hq) (by decide) (by decide)
 refine bLm [0] 8 (by kernel_rfl) (fun _ _ _ _ _ h=>h) (HS.o _ (grownBy_of_grow GD _)) ?_
 repeat (refine tNm (v:=?_) rfl (by rfl) ?_ ?_;rotate_left;(· (intro w' hSw;(try dsimp only at hSw);obtain⟨hs0,hs1,hs2,hs3,hs4,hs5,hs6,hs7⟩:=hSw;go_simp<;>with_reducible rfl));try simp only [Act.put,lzA,lzC,lzD,lzE,lzF])
 refine tEm ?_
 refine bLm [1,2,3,4,5] 8 (by kernel_rfl) (fun _ _ _ _ _ h=>h) (HS.o _ (grownBy_of_grow GD _)) ?_
 repeat (refine tNm (v:=?_) rfl (by rfl) ?_ ?_;rotate_left;(· (intro w' hSw;(try dsimp only at hSw);obtain⟨hs0,hs1,hs2,hs3,hs4,hs5,hs6,hs7⟩:=hSw;go_simp<;>with_reducible rfl));try simp only [Act.put,lzA,lzB,lzC,lzD,lzE,lzF])
 refine tEm ?_
 refine bP 6 7 (by kernel_rfl) rfl rfl ?_ ?_
 ·intro K HK
  try simp only [lzA,lzB,lzC]
  go_simp
  refine HK.o _ _ ⟨fun _=>HS.o _ (grownBy_trans (grownBy_of_grow GD _) (grownBy_of_grow ((Grow.refl _).alloc _) _)),?_⟩
  clear HK K
  try simp only [Act.put,lzA,lzB,lzC,lzD,lzE,lzF]
  refine bO 7 (by kernel_rfl) rfl ?_
  intro K HK
  refine wanted_go rfl ?_
  try simp only [lzA,lzB,lzC]
  refine wp_store_row (.tmp 6) (.tmp 67) rfl rfl rfl (row_grow R6.o (GD.alloc _)) info_hs rfl rfl ?_
  intro w7 r7 g7
  refine HK.o _ _ ⟨fun _=>HS.o _ (grownBy_trans (grownBy_trans (grownBy_of_grow GD _) (grownBy_of_grow ((Grow.refl _).alloc _) _)) g7),?_⟩
  clear HK K
  try simp only [Act.put]
  refine bO 8 (by kernel_rfl) rfl ?_
  intro K HK
  try simp only [lzA,lzB,lzC]
  go_simp
  refine HK.o _ _ ⟨fun h=>absurd rfl h,?_⟩
  clear HK K
  try simp only [Act.put,lzA,lzB,lzC,lzD,lzE,lzF]
  refine but_done (by kernel_rfl) ?_
  obtain⟨p0,p1,p2,p3,p4,p5,p6⟩:=cells7 r7
  go_wp2
  refine bodyPost_ret (v:=.tuple #[.agg #[.slice al2 x.log.length cl2,.int .i64 x.sums.a,.int .i64 x.sums.b,.int .i64 x.sums.c,.int .i64 x.sums.d,.slice ar2 x.ready.length cr2,.slice ad2 x.done.length cd2],.slice (some ⟨wd.heap.size,0,none⟩) 1 1]) (by simp [results,Try.results35,go_sem,p0,p1,p2,p3,p4,p5,p6]) rfl ?_
  refine FIN.o _ wd.heap.size hzw (fun a h1 h2=>(by_cell g7 (by simp;omega) h2).trans (((Grow.refl wd).alloc _).cell h1)) (fun j u e=>(by_cell g7 (by simp) (by simp;omega)).trans (at_new wd _ _ j u e)) ?_
  exact(HGW.o.trans (GD.alloc _)).grown g7 (fun k hk=>by simp at hk;omega)
 ·intro K HK
  refine wanted_go rfl ?_
  try simp only [lzA,lzB,lzC]
  refine wp_store_row (.tmp 6) (.tmp 67) rfl rfl rfl (row_grow R6.o GD) info_hs rfl rfl ?_
  intro w7 r7 g7
  refine HK.o _ _ ⟨fun _=>HS.o _ (grownBy_trans (grownBy_of_grow GD _) g7),?_⟩
  clear HK K
  try simp only [Act.put]
  refine bO 6 (by kernel_rfl) rfl ?_
  intro K HK
  try simp only [lzA,lzB,lzC]
  go_simp
  refine HK.o _ _ ⟨fun _=>HS.o _ (grownBy_trans (grownBy_trans (grownBy_of_grow GD _) g7) (grownBy_of_grow ((Grow.refl _).alloc _) _)),?_⟩
  clear HK K
  try simp only [Act.put,lzA,lzB,lzC,lzD,lzE,lzF]
  refine bO 8 (by kernel_rfl) rfl ?_
  intro K HK
  try simp only [lzA,lzB,lzC]
  go_simp
  refine HK.o _ _ ⟨fun h=>absurd rfl h,?_⟩
  clear HK K
  try simp only [Act.put,lzA,lzB,lzC,lzD,lzE,lzF]
  refine but_done (by kernel_rfl) ?_
  obtain⟨p0,p1,p2,p3,p4,p5,p6⟩:=cells7 (heap_later r7 (.cells #[.int .i64 6,.int .i64 dd,.int .i64 me,.slice none 0 0] 39))
  go_wp2
  refine bodyPost_ret (v:=.tuple #[.agg #[.slice al2 x.log.length cl2,.int .i64 x.sums.a,.int .i64 x.sums.b,.int .i64 x.sums.c,.int .i64 x.sums.d,.slice ar2 x.ready.length cr2,.slice ad2 x.done.length cd2],.slice (some ⟨w7.heap.size,0,none⟩) 1 1]) (by simp [results,Try.results35,go_sem,p0,p1,p2,p3,p4,p5,p6]) rfl ?_
  refine FIN.o _ w7.heap.size (Nat.le_trans hzw g7.size) (fun a h1 h2=>(((Grow.refl w7).alloc _).cell (Nat.lt_of_lt_of_le h1 g7.size)).trans (by_cell g7 h1 h2)) (at_new w7 _ _) ?_
  exact((HGW.o.trans GD).grown g7 (fun k hk=>by simp at hk;omega)).alloc _
set_option maxRecDepth 100000 in
set_option maxHeartbeats 1000000 in
theorem hear_com4D {c:CM} {v vm:Value} {h:Hs} {dd hh me:Int} {ps:List Pt} (w:World) (hc:Sub c w.cell?) (hv:Of Ty.hs c v h) (hm:Of Ty.ms c vm ⟨4,dd,hh,ps⟩) (hk:∀x∈h.log,KeysOk x.parts) (hkm:KeysOk ps) (hn:(h.log.length+1)*40≤140737488355328) (hme:I64 me) (rd:readyE h.ready dd=false) (hin:dd∈h.done):
  Calls Try.prog 35 #[v,.int .i64 me,vm] w fun e w'=>∃v1 v2,e=.returned (.tuple #[v1,v2])∧Of Ty.hs (ov c w w') v1 (hearH h ⟨4,dd,hh,ps⟩)∧Sl Ty.ms (ov c w w') v2 (hearM h me ⟨4,dd,hh,ps⟩)∧Grow w w':=by
 obtain⟨al,cl,ar,cr,ad,cd,rfl⟩:=hv.hs_form
 obtain⟨ap,cp,rfl⟩:∃ap cp,vm=.agg #[.int .i64 4,.int .i64 dd,.int .i64 hh,.slice ap ps.length cp]:=hm.ms_form
 have hms:Sl Ty.pt c (.slice ap ps.length cp) ps∧I64 4∧I64 dd∧I64 hh:=Of.ms_parts hm
 have HMS:=η hms
 have HV0:=η hv
 have HC:=η hc
 have HK0:=η hk
 have HKM:=η hkm
 have HN:=η hn
 have HME:=η hme
 have HVO:=η (fun(W:World) (hW:Grow w W)=>ref_vote (d:=dd) W (hv.mono (hc.trans hW.sub)) (hms.1.mono (hc.trans hW.sub)) hkm)
 have HRD:=η (fun(W:World) (hW:Grow w W)=>ref_ready (d:=dd) W (hv.mono (hc.trans hW.sub)))
 have HIN:=η (fun(W:World) (hW:Grow w W)=>ref_in (n:=dd) W ((Of.hs_log hv).2.2.mono (hc.trans hW.sub)))
 have HG0:Hid (Grow w (((w.alloc (.cells #[.slice al h.log.length cl,.int .i64 h.sums.a,.int .i64 h.sums.b,.int .i64 h.sums.c,.int .i64 h.sums.d,.slice ar h.ready.length cr,.slice ad h.done.length cd] 29)).alloc (.cells #[.int .i64 4,.int .i64 dd,.int .i64 hh,.slice ap ps.length cp] 39)).alloc (.cells #[.slice none 0 0,.int .i64 0,.int .i64 0,.int .i64 0,.int .i64 0,.slice none 0 0,.slice none 0 0] 29))):=η ((((Grow.refl w).alloc _).alloc _).alloc _)
 have HR3:Hid ((((w.alloc (.cells #[.slice al h.log.length cl,.int .i64 h.sums.a,.int .i64 h.sums.b,.int .i64 h.sums.c,.int .i64 h.sums.d,.slice ar h.ready.length cr,.slice ad h.done.length cd] 29)).alloc (.cells #[.int .i64 4,.int .i64 dd,.int .i64 hh,.slice ap ps.length cp] 39)).alloc (.cells #[.slice none 0 0,.int .i64 0,.int .i64 0,.int .i64 0,.int .i64 0,.slice none 0 0,.slice none 0 0] 29)).heap[w.heap.size]? =some (.cells #[.slice al h.log.length cl,.int .i64 h.sums.a,.int .i64 h.sums.b,.int .i64 h.sums.c,.int .i64 h.sums.d,.slice ar h.ready.length cr,.slice ad h.done.length cd] 29 (0,0))):=η (heap_later (heap_later (row_new _ _) _) _)
 have HR5:Hid ((((w.alloc (.cells #[.slice al h.log.length cl,.int .i64 h.sums.a,.int .i64 h.sums.b,.int .i64 h.sums.c,.int .i64 h.sums.d,.slice ar h.ready.length cr,.slice ad h.done.length cd] 29)).alloc (.cells #[.int .i64 4,.int .i64 dd,.int .i64 hh,.slice ap ps.length cp] 39)).alloc (.cells #[.slice none 0 0,.int .i64 0,.int .i64 0,.int .i64 0,.int .i64 0,.slice none 0 0,.slice none 0 0] 29)).heap[w.heap.size+1]? =some (.cells #[.int .i64 4,.int .i64 dd,.int .i64 hh,.slice ap ps.length cp] 39 (0,0))):=η (heap_later (by simpa using row_new (w.alloc (.cells #[.slice al h.log.length cl,.int .i64 h.sums.a,.int .i64 h.sums.b,.int .i64 h.sums.c,.int .i64 h.sums.d,.slice ar h.ready.length cr,.slice ad h.done.length cd] 29)) _) _)
 have HR6:Hid ((((w.alloc (.cells #[.slice al h.log.length cl,.int .i64 h.sums.a,.int .i64 h.sums.b,.int .i64 h.sums.c,.int .i64 h.sums.d,.slice ar h.ready.length cr,.slice ad h.done.length cd] 29)).alloc (.cells #[.int .i64 4,.int .i64 dd,.int .i64 hh,.slice ap ps.length cp] 39)).alloc (.cells #[.slice none 0 0,.int .i64 0,.int .i64 0,.int .i64 0,.int .i64 0,.slice none 0 0,.slice none 0 0] 29)).heap[w.heap.size+1+1]? =some (.cells #[.slice none 0 0,.int .i64 0,.int .i64 0,.int .i64 0,.int .i64 0,.slice none 0 0,.slice none 0 0] 29 (0,0))):=η (by simpa using row_new ((w.alloc (.cells #[.slice al h.log.length cl,.int .i64 h.sums.a,.int .i64 h.sums.b,.int .i64 h.sums.c,.int .i64 h.sums.d,.slice ar h.ready.length cr,.slice ad h.done.length cd] 29)).alloc (.cells #[.int .i64 4,.int .i64 dd,.int .i64 hh,.slice ap ps.length cp] 39)) _)
 clear hv hm hc hk hkm hn hme hms
 have HEH:Hid (hearH h ⟨4,dd,hh,ps⟩=h):=by
  show hearH h ⟨4,dd,hh,ps⟩=h
  unfold hearH
  rw [if_neg (fun e=>by cases e),if_pos rfl,if_neg (by rw [show readyE h.ready (Ms.deed ⟨4,dd,hh,ps⟩)=false from rd];simp)]
 have HEM:Hid (hearM h me ⟨4,dd,hh,ps⟩=sayE 6 dd me):=by
  show hearM h me ⟨4,dd,hh,ps⟩=sayE 6 dd me
  unfold hearM
  rw [if_neg (fun e=>by cases e),if_pos rfl,HEH.o,if_pos hin]
 have HIN2:=η hin
 clear hin
 have RD:=η rd
 clear rd
 go_enter Try.func35,Try.ntmps35
 go_wp2_with fail
 refine(HRD.o _ HG0.o).mono ?_
 rw [RD.o]
 rintro e v1 ⟨rfl,hbv1⟩
 (obtain⟨cv1,fv1⟩:=bcell hbv1;have zv10:w.heap.size<v1.heap.size:=(by have:=hbv1.size;(try simp at this);omega);have zv11:w.heap.size+1<v1.heap.size:=(by have:=hbv1.size;(try simp at this);omega);have zv12:w.heap.size+1+1<v1.heap.size:=(by have:=hbv1.size;(try simp at this);omega);have Gv1:=η hbv1;clear hbv1)
 go_wp2_with fail
 refine(HIN.o _ (HG0.o.trans Gv1.o)).mono ?_
 rw [decide_eq_true HIN2.o]
 rintro e v2 ⟨rfl,hbv2⟩
 (obtain⟨cv2,fv2⟩:=bcell hbv2;have zv20:w.heap.size<v2.heap.size:=(by have:=hbv2.size;(try simp at this);omega);have zv21:w.heap.size+1<v2.heap.size:=(by have:=hbv2.size;(try simp at this);omega);have zv22:w.heap.size+1+1<v2.heap.size:=(by have:=hbv2.size;(try simp at this);omega);have Gv2:=η hbv2;clear hbv2)
 go_wp2_with fail
 have hS:v2.cell? ⟨w.heap.size,0,none⟩=some (.slice al h.log.length cl)∧v2.cell? ⟨w.heap.size,1,none⟩=some (.int .i64 h.sums.a)∧v2.cell? ⟨w.heap.size,2,none⟩=some (.int .i64 h.sums.b)∧v2.cell? ⟨w.heap.size,3,none⟩=some (.int .i64 h.sums.c)∧v2.cell? ⟨w.heap.size,4,none⟩=some (.int .i64 h.sums.d)∧v2.cell? ⟨w.heap.size,5,none⟩=some (.slice ar h.ready.length cr)∧v2.cell? ⟨w.heap.size,6,none⟩=some (.slice ad h.done.length cd)∧v2.cell? ⟨w.heap.size+1,1,none⟩=some (.int .i64 dd):=by refine⟨?_,?_,?_,?_,?_,?_,?_,?_⟩<;>go_simp
 have HGW:Hid (Grow w v2):=η ((HG0.o.trans Gv1.o).trans Gv2.o)
 have R6:Hid (v2.heap[w.heap.size+1+1]? =some (.cells #[.slice none 0 0,.int .i64 0,.int .i64 0,.int .i64 0,.int .i64 0,.slice none 0 0,.slice none 0 0] 29 (0,0))):=η (row_grow HR6.o (Gv1.o.trans Gv2.o))
 have hz0:w.heap.size+1+1<v2.heap.size:=(γ R6.o)
 obtain⟨s0,s1,s2,s3,s4,s5,s6,s7⟩:=hS
 have HS:Hid (∀W,v2.grownBy W (some (w.heap.size+1+1))→W.cell? ⟨w.heap.size,0,none⟩=some (.slice al h.log.length cl)∧W.cell? ⟨w.heap.size,1,none⟩=some (.int .i64 h.sums.a)∧W.cell? ⟨w.heap.size,2,none⟩=some (.int .i64 h.sums.b)∧W.cell? ⟨w.heap.size,3,none⟩=some (.int .i64 h.sums.c)∧W.cell? ⟨w.heap.size,4,none⟩=some (.int .i64 h.sums.d)∧W.cell? ⟨w.heap.size,5,none⟩=some (.slice ar h.ready.length cr)∧W.cell? ⟨w.heap.size,6,none⟩=some (.slice ad h.done.length cd)∧W.cell? ⟨w.heap.size+1,1,none⟩=some (.int .i64 dd)):=fun W hW=>by
  have k:∀(b o:Nat) (u:Value),b<w.heap.size+1+1→v2.cell? ⟨b,o,none⟩=some u→W.cell? ⟨b,o,none⟩=some u:=fun b o u hb e=>by
   rw [by_cell hW (World.block_lt_of_cell? v2 _ e) (by simp;omega)];exact e
  exact⟨k _ _ _ (by omega) s0,k _ _ _ (by omega) s1,k _ _ _ (by omega) s2,k _ _ _ (by omega) s3,k _ _ _ (by omega) s4,k _ _ _ (by omega) s5,k _ _ _ (by omega) s6,k _ _ _ (by omega) s7⟩
 clear s0 s1 s2 s3 s4 s5 s6 s7
 refine but_start (fun w'=>w'.cell? ⟨w.heap.size,0,none⟩=some (.slice al h.log.length cl)∧w'.cell? ⟨w.heap.size,1,none⟩=some (.int .i64 h.sums.a)∧w'.cell? ⟨w.heap.size,2,none⟩=some (.int .i64 h.sums.b)∧w'.cell? ⟨w.heap.size,3,none⟩=some (.int .i64 h.sums.c)∧w'.cell? ⟨w.heap.size,4,none⟩=some (.int .i64 h.sums.d)∧w'.cell? ⟨w.heap.size,5,none⟩=some (.slice ar h.ready.length cr)∧w'.cell? ⟨w.heap.size,6,none⟩=some (.slice ad h.done.length cd)∧w'.cell? ⟨w.heap.size+1,1,none⟩=some (.int .i64 dd)) 8 (by kernel_rfl) ?_
 obtain⟨wd,hWd⟩:∃x:World,x=v2.drew:=⟨_,rfl⟩
 rw [←hWd]
 have GD:Grow v2 wd:=by rw [hWd];exact(Grow.refl _).drew
 have zD:v2.heap.size=wd.heap.size:=by rw [hWd];rfl
 have ZD:=η zD
 clear hWd zD
 have hzd:w.heap.size+1+1<wd.heap.size:=by have:=ZD.o;omega
 have hzw:w.heap.size≤wd.heap.size:=by have:=hzd;omega
 have FIN:Hid (∀(Wf:World) (q:Nat),w.heap.size≤q→(∀a:Addr,a.block<wd.heap.size→a.block≠w.heap.size+1+1→Wf.cell? a=wd.cell? a)→At Wf.cell? q 0 (#[.int .i64 6,.int .i64 dd,.int .i64 me,.slice none 0 0]:Array Value).toList→Grow w Wf→∃v1 v2,Ending.returned (.tuple #[.agg #[.slice al h.log.length cl,.int .i64 h.sums.a,.int .i64 h.sums.b,.int .i64 h.sums.c,.int .i64 h.sums.d,.slice ar h.ready.length cr,.slice ad h.done.length cd],.slice (some ⟨q,0,none⟩) 1 1])=.returned (.tuple #[v1,v2])∧Of Ty.hs (ov c w Wf) v1 (hearH h ⟨4,dd,hh,ps⟩)∧Sl Ty.ms (ov c w Wf) v2 (hearM h me ⟨4,dd,hh,ps⟩)∧Grow w Wf):=by
  intro Wf q hq hA hAt hGf
  refine⟨_,_,rfl,?_,?_,hGf⟩
  ·rw [HEH.o]
   exact HV0.o.mono (ov_in HC.o)
  ·rw [HEM.o]
   exact sl_one (T:=Ty.ms) ⟨_,rfl,(show I64 6 from by unfold I64;decide),HMS.o.2.2.1,HME.o,Sl.nil _ _⟩ (at_ov hAt hq) (by decide) (by decide)
 refine bLm [0] 8 (by kernel_rfl) (fun _ _ _ _ _ h=>h) (HS.o _ (grownBy_of_grow GD _)) ?_
 repeat (refine tNm (v:=?_) rfl (by rfl) ?_ ?_;rotate_left;(· (intro w' hSw;(try dsimp only at hSw);obtain⟨hs0,hs1,hs2,hs3,hs4,hs5,hs6,hs7⟩:=hSw;go_simp<;>with_reducible rfl));try simp only [Act.put,lzA,lzC,lzD,lzE,lzF])
 refine tEm ?_
 refine bLm [1,2,3,4,5] 8 (by kernel_rfl) (fun _ _ _ _ _ h=>h) (HS.o _ (grownBy_of_grow GD _)) ?_
 repeat (refine tNm (v:=?_) rfl (by rfl) ?_ ?_;rotate_left;(· (intro w' hSw;(try dsimp only at hSw);obtain⟨hs0,hs1,hs2,hs3,hs4,hs5,hs6,hs7⟩:=hSw;go_simp<;>with_reducible rfl));try simp only [Act.put,lzA,lzB,lzC,lzD,lzE,lzF])
 refine tEm ?_
 refine bP 6 7 (by kernel_rfl) rfl rfl ?_ ?_
 ·intro K HK
  try simp only [lzA,lzB,lzC]
  go_simp
  refine HK.o _ _ ⟨fun _=>HS.o _ (grownBy_trans (grownBy_of_grow GD _) (grownBy_of_grow ((Grow.refl _).alloc _) _)),?_⟩
  clear HK K
  try simp only [Act.put,lzA,lzB,lzC,lzD,lzE,lzF]
  refine bO 7 (by kernel_rfl) rfl ?_
  intro K HK
  refine wanted_go rfl ?_
  try simp only [lzA,lzB,lzC]
  refine wp_store_row (.tmp 6) (.tmp 67) rfl rfl rfl (row_grow R6.o (GD.alloc _)) info_hs rfl rfl ?_
  intro w7 r7 g7
  refine HK.o _ _ ⟨fun _=>HS.o _ (grownBy_trans (grownBy_trans (grownBy_of_grow GD _) (grownBy_of_grow ((Grow.refl _).alloc _) _)) g7),?_⟩
  clear HK K
  try simp only [Act.put]
  refine bO 8 (by kernel_rfl) rfl ?_
  intro K HK
  try simp only [lzA,lzB,lzC]
  go_simp
  refine HK.o _ _ ⟨fun h=>absurd rfl h,?_⟩
  clear HK K
  try simp only [Act.put,lzA,lzB,lzC,lzD,lzE,lzF]
  refine but_done (by kernel_rfl) ?_
  obtain⟨p0,p1,p2,p3,p4,p5,p6⟩:=cells7 r7
  go_wp2
  refine bodyPost_ret (v:=.tuple #[.agg #[.slice al h.log.length cl,.int .i64 h.sums.a,.int .i64 h.sums.b,.int .i64 h.sums.c,.int .i64 h.sums.d,.slice ar h.ready.length cr,.slice ad h.done.length cd],.slice (some ⟨wd.heap.size,0,none⟩) 1 1]) (by simp [results,Try.results35,go_sem,p0,p1,p2,p3,p4,p5,p6]) rfl ?_
  refine FIN.o _ wd.heap.size hzw (fun a h1 h2=>(by_cell g7 (by simp;omega) h2).trans (((Grow.refl wd).alloc _).cell h1)) (fun j u e=>(by_cell g7 (by simp) (by simp;omega)).trans (at_new wd _ _ j u e)) ?_
  exact(HGW.o.trans (GD.alloc _)).grown g7 (fun k hk=>by simp at hk;omega)
 ·intro K HK
  refine wanted_go rfl ?_
  try simp only [lzA,lzB,lzC]
  refine wp_store_row (.tmp 6) (.tmp 67) rfl rfl rfl (row_grow R6.o GD) info_hs rfl rfl ?_
  intro w7 r7 g7
  refine HK.o _ _ ⟨fun _=>HS.o _ (grownBy_trans (grownBy_of_grow GD _) g7),?_⟩
  clear HK K
  try simp only [Act.put]
  refine bO 6 (by kernel_rfl) rfl ?_
  intro K HK
  try simp only [lzA,lzB,lzC]
  go_simp
  refine HK.o _ _ ⟨fun _=>HS.o _ (grownBy_trans (grownBy_trans (grownBy_of_grow GD _) g7) (grownBy_of_grow ((Grow.refl _).alloc _) _)),?_⟩
  clear HK K
  try simp only [Act.put,lzA,lzB,lzC,lzD,lzE,lzF]
  refine bO 8 (by kernel_rfl) rfl ?_
  intro K HK
  try simp only [lzA,lzB,lzC]
  go_simp
  refine HK.o _ _ ⟨fun h=>absurd rfl h,?_⟩
  clear HK K
  try simp only [Act.put,lzA,lzB,lzC,lzD,lzE,lzF]
  refine but_done (by kernel_rfl) ?_
  obtain⟨p0,p1,p2,p3,p4,p5,p6⟩:=cells7 (heap_later r7 (.cells #[.int .i64 6,.int .i64 dd,.int .i64 me,.slice none 0 0] 39))
  go_wp2
  refine bodyPost_ret (v:=.tuple #[.agg #[.slice al h.log.length cl,.int .i64 h.sums.a,.int .i64 h.sums.b,.int .i64 h.sums.c,.int .i64 h.sums.d,.slice ar h.ready.length cr,.slice ad h.done.length cd],.slice (some ⟨w7.heap.size,0,none⟩) 1 1]) (by simp [results,Try.results35,go_sem,p0,p1,p2,p3,p4,p5,p6]) rfl ?_
  refine FIN.o _ w7.heap.size (Nat.le_trans hzw g7.size) (fun a h1 h2=>(((Grow.refl w7).alloc _).cell (Nat.lt_of_lt_of_le h1 g7.size)).trans (by_cell g7 h1 h2)) (at_new w7 _ _) ?_
  exact((HGW.o.trans GD).grown g7 (fun k hk=>by simp at hk;omega)).alloc _
set_option maxRecDepth 100000 in
set_option maxHeartbeats 1000000 in
theorem hear_com4N {c:CM} {v vm:Value} {h:Hs} {dd hh me:Int} {ps:List Pt} (w:World) (hc:Sub c w.cell?) (hv:Of Ty.hs c v h) (hm:Of Ty.ms c vm ⟨4,dd,hh,ps⟩) (hk:∀x∈h.log,KeysOk x.parts) (hkm:KeysOk ps) (hn:(h.log.length+1)*40≤140737488355328) (hme:I64 me) (rd:readyE h.ready dd=false) (hin:dd∉h.done):
  Calls Try.prog 35 #[v,.int .i64 me,vm] w fun e w'=>∃v1 v2,e=.returned (.tuple #[v1,v2])∧Of Ty.hs (ov c w w') v1 (hearH h ⟨4,dd,hh,ps⟩)∧Sl Ty.ms (ov c w w') v2 (hearM h me ⟨4,dd,hh,ps⟩)∧Grow w w':=by
 obtain⟨al,cl,ar,cr,ad,cd,rfl⟩:=hv.hs_form
 obtain⟨ap,cp,rfl⟩:∃ap cp,vm=.agg #[.int .i64 4,.int .i64 dd,.int .i64 hh,.slice ap ps.length cp]:=hm.ms_form
 have hms:Sl Ty.pt c (.slice ap ps.length cp) ps∧I64 4∧I64 dd∧I64 hh:=Of.ms_parts hm
 have HMS:=η hms
 have HV0:=η hv
 have HC:=η hc
 have HK0:=η hk
 have HKM:=η hkm
 have HN:=η hn
 have HME:=η hme
 have HVO:=η (fun(W:World) (hW:Grow w W)=>ref_vote (d:=dd) W (hv.mono (hc.trans hW.sub)) (hms.1.mono (hc.trans hW.sub)) hkm)
 have HRD:=η (fun(W:World) (hW:Grow w W)=>ref_ready (d:=dd) W (hv.mono (hc.trans hW.sub)))
 have HIN:=η (fun(W:World) (hW:Grow w W)=>ref_in (n:=dd) W ((Of.hs_log hv).2.2.mono (hc.trans hW.sub)))
 have HG0:Hid (Grow w (((w.alloc (.cells #[.slice al h.log.length cl,.int .i64 h.sums.a,.int .i64 h.sums.b,.int .i64 h.sums.c,.int .i64 h.sums.d,.slice ar h.ready.length cr,.slice ad h.done.length cd] 29)).alloc (.cells #[.int .i64 4,.int .i64 dd,.int .i64 hh,.slice ap ps.length cp] 39)).alloc (.cells #[.slice none 0 0,.int .i64 0,.int .i64 0,.int .i64 0,.int .i64 0,.slice none 0 0,.slice none 0 0] 29))):=η ((((Grow.refl w).alloc _).alloc _).alloc _)
 have HR3:Hid ((((w.alloc (.cells #[.slice al h.log.length cl,.int .i64 h.sums.a,.int .i64 h.sums.b,.int .i64 h.sums.c,.int .i64 h.sums.d,.slice ar h.ready.length cr,.slice ad h.done.length cd] 29)).alloc (.cells #[.int .i64 4,.int .i64 dd,.int .i64 hh,.slice ap ps.length cp] 39)).alloc (.cells #[.slice none 0 0,.int .i64 0,.int .i64 0,.int .i64 0,.int .i64 0,.slice none 0 0,.slice none 0 0] 29)).heap[w.heap.size]? =some (.cells #[.slice al h.log.length cl,.int .i64 h.sums.a,.int .i64 h.sums.b,.int .i64 h.sums.c,.int .i64 h.sums.d,.slice ar h.ready.length cr,.slice ad h.done.length cd] 29 (0,0))):=η (heap_later (heap_later (row_new _ _) _) _)
 have HR5:Hid ((((w.alloc (.cells #[.slice al h.log.length cl,.int .i64 h.sums.a,.int .i64 h.sums.b,.int .i64 h.sums.c,.int .i64 h.sums.d,.slice ar h.ready.length cr,.slice ad h.done.length cd] 29)).alloc (.cells #[.int .i64 4,.int .i64 dd,.int .i64 hh,.slice ap ps.length cp] 39)).alloc (.cells #[.slice none 0 0,.int .i64 0,.int .i64 0,.int .i64 0,.int .i64 0,.slice none 0 0,.slice none 0 0] 29)).heap[w.heap.size+1]? =some (.cells #[.int .i64 4,.int .i64 dd,.int .i64 hh,.slice ap ps.length cp] 39 (0,0))):=η (heap_later (by simpa using row_new (w.alloc (.cells #[.slice al h.log.length cl,.int .i64 h.sums.a,.int .i64 h.sums.b,.int .i64 h.sums.c,.int .i64 h.sums.d,.slice ar h.ready.length cr,.slice ad h.done.length cd] 29)) _) _)
 have HR6:Hid ((((w.alloc (.cells #[.slice al h.log.length cl,.int .i64 h.sums.a,.int .i64 h.sums.b,.int .i64 h.sums.c,.int .i64 h.sums.d,.slice ar h.ready.length cr,.slice ad h.done.length cd] 29)).alloc (.cells #[.int .i64 4,.int .i64 dd,.int .i64 hh,.slice ap ps.length cp] 39)).alloc (.cells #[.slice none 0 0,.int .i64 0,.int .i64 0,.int .i64 0,.int .i64 0,.slice none 0 0,.slice none 0 0] 29)).heap[w.heap.size+1+1]? =some (.cells #[.slice none 0 0,.int .i64 0,.int .i64 0,.int .i64 0,.int .i64 0,.slice none 0 0,.slice none 0 0] 29 (0,0))):=η (by simpa using row_new ((w.alloc (.cells #[.slice al h.log.length cl,.int .i64 h.sums.a,.int .i64 h.sums.b,.int .i64 h.sums.c,.int .i64 h.sums.d,.slice ar h.ready.length cr,.slice ad h.done.length cd] 29)).alloc (.cells #[.int .i64 4,.int .i64 dd,.int .i64 hh,.slice ap ps.length cp] 39)) _)
 clear hv hm hc hk hkm hn hme hms
 have HEH:Hid (hearH h ⟨4,dd,hh,ps⟩=h):=by
  show hearH h ⟨4,dd,hh,ps⟩=h
  unfold hearH
  rw [if_neg (fun e=>by cases e),if_pos rfl,if_neg (by rw [show readyE h.ready (Ms.deed ⟨4,dd,hh,ps⟩)=false from rd];simp)]
 have HEM:Hid (hearM h me ⟨4,dd,hh,ps⟩=[]):=by
  show hearM h me ⟨4,dd,hh,ps⟩=[]
  unfold hearM
  rw [if_neg (fun e=>by cases e),if_pos rfl,HEH.o,if_neg hin]
 have HIN2:=η hin
 clear hin
 have RD:=η rd
 clear rd
 go_enter Try.func35,Try.ntmps35
 go_wp2_with fail
 refine(HRD.o _ HG0.o).mono ?_
 rw [RD.o]
 rintro e v1 ⟨rfl,hbv1⟩
 (obtain⟨cv1,fv1⟩:=bcell hbv1;have zv10:w.heap.size<v1.heap.size:=(by have:=hbv1.size;(try simp at this);omega);have zv11:w.heap.size+1<v1.heap.size:=(by have:=hbv1.size;(try simp at this);omega);have zv12:w.heap.size+1+1<v1.heap.size:=(by have:=hbv1.size;(try simp at this);omega);have Gv1:=η hbv1;clear hbv1)
 go_wp2_with fail
 refine(HIN.o _ (HG0.o.trans Gv1.o)).mono ?_
 rw [decide_eq_false HIN2.o]
 rintro e v2 ⟨rfl,hbv2⟩
 (obtain⟨cv2,fv2⟩:=bcell hbv2;have zv20:w.heap.size<v2.heap.size:=(by have:=hbv2.size;(try simp at this);omega);have zv21:w.heap.size+1<v2.heap.size:=(by have:=hbv2.size;(try simp at this);omega);have zv22:w.heap.size+1+1<v2.heap.size:=(by have:=hbv2.size;(try simp at this);omega);have Gv2:=η hbv2;clear hbv2)
 have R6:=row_grow HR6.o (Gv1.o.trans Gv2.o)
 obtain⟨p0,p1,p2,p3,p4,p5,p6⟩:=cells7 R6
 have pf:=row_free R6
 obtain⟨s0,s1,s2,s3,s4,s5,s6,s7⟩:v2.cell? ⟨w.heap.size,0,none⟩=some (.slice al h.log.length cl)∧v2.cell? ⟨w.heap.size,1,none⟩=some (.int .i64 h.sums.a)∧v2.cell? ⟨w.heap.size,2,none⟩=some (.int .i64 h.sums.b)∧v2.cell? ⟨w.heap.size,3,none⟩=some (.int .i64 h.sums.c)∧v2.cell? ⟨w.heap.size,4,none⟩=some (.int .i64 h.sums.d)∧v2.cell? ⟨w.heap.size,5,none⟩=some (.slice ar h.ready.length cr)∧v2.cell? ⟨w.heap.size,6,none⟩=some (.slice ad h.done.length cd)∧v2.cell? ⟨w.heap.size+1,1,none⟩=some (.int .i64 dd):=by refine⟨?_,?_,?_,?_,?_,?_,?_,?_⟩<;>go_simp
 clear R6
 go_wp2
 refine bodyPost_ret (v:=.tuple #[.agg #[.slice al h.log.length cl,.int .i64 h.sums.a,.int .i64 h.sums.b,.int .i64 h.sums.c,.int .i64 h.sums.d,.slice ar h.ready.length cr,.slice ad h.done.length cd],.slice none 0 0]) (by simp [results,Try.results35,go_sem,p0,p1,p2,p3,p4,p5,p6]) rfl ?_
 rw [HEH.o,HEM.o]
 refine⟨_,_,rfl,?_,Sl.nil _ _,?_⟩
 ·exact HV0.o.mono (ov_in HC.o)
 ·(repeat (with_reducible refine Grow.setCell ?_ (by first|(simp;done)|(simp;omega)|omega) _))
  exact(HG0.o.trans Gv1.o).trans Gv2.o
set_option maxRecDepth 100000 in
set_option maxHeartbeats 1000000 in
theorem hear_abo5R {c:CM} {v vm:Value} {h:Hs} {dd hh me:Int} {ps:List Pt} (w:World) (hc:Sub c w.cell?) (hv:Of Ty.hs c v h) (hm:Of Ty.ms c vm ⟨5,dd,hh,ps⟩) (hk:∀x∈h.log,KeysOk x.parts) (hkm:KeysOk ps) (hn:(h.log.length+1)*40≤140737488355328) (hme:I64 me) (rd:readyE h.ready dd=true):
  Calls Try.prog 35 #[v,.int .i64 me,vm] w fun e w'=>∃v1 v2,e=.returned (.tuple #[v1,v2])∧Of Ty.hs (ov c w w') v1 (hearH h ⟨5,dd,hh,ps⟩)∧Sl Ty.ms (ov c w w') v2 (hearM h me ⟨5,dd,hh,ps⟩)∧Grow w w':=by
 obtain⟨al,cl,ar,cr,ad,cd,rfl⟩:=hv.hs_form
 obtain⟨ap,cp,rfl⟩:∃ap cp,vm=.agg #[.int .i64 5,.int .i64 dd,.int .i64 hh,.slice ap ps.length cp]:=hm.ms_form
 have hms:Sl Ty.pt c (.slice ap ps.length cp) ps∧I64 5∧I64 dd∧I64 hh:=Of.ms_parts hm
 have HMS:=η hms
 have HV0:=η hv
 have HC:=η hc
 have HK0:=η hk
 have HKM:=η hkm
 have HN:=η hn
 have HME:=η hme
 have HVO:=η (fun(W:World) (hW:Grow w W)=>ref_vote (d:=dd) W (hv.mono (hc.trans hW.sub)) (hms.1.mono (hc.trans hW.sub)) hkm)
 have HRD:=η (fun(W:World) (hW:Grow w W)=>ref_ready (d:=dd) W (hv.mono (hc.trans hW.sub)))
 have HIN:=η (fun(W:World) (hW:Grow w W)=>ref_in (n:=dd) W ((Of.hs_log hv).2.2.mono (hc.trans hW.sub)))
 have HG0:Hid (Grow w (((w.alloc (.cells #[.slice al h.log.length cl,.int .i64 h.sums.a,.int .i64 h.sums.b,.int .i64 h.sums.c,.int .i64 h.sums.d,.slice ar h.ready.length cr,.slice ad h.done.length cd] 29)).alloc (.cells #[.int .i64 5,.int .i64 dd,.int .i64 hh,.slice ap ps.length cp] 39)).alloc (.cells #[.slice none 0 0,.int .i64 0,.int .i64 0,.int .i64 0,.int .i64 0,.slice none 0 0,.slice none 0 0] 29))):=η ((((Grow.refl w).alloc _).alloc _).alloc _)
 have HR3:Hid ((((w.alloc (.cells #[.slice al h.log.length cl,.int .i64 h.sums.a,.int .i64 h.sums.b,.int .i64 h.sums.c,.int .i64 h.sums.d,.slice ar h.ready.length cr,.slice ad h.done.length cd] 29)).alloc (.cells #[.int .i64 5,.int .i64 dd,.int .i64 hh,.slice ap ps.length cp] 39)).alloc (.cells #[.slice none 0 0,.int .i64 0,.int .i64 0,.int .i64 0,.int .i64 0,.slice none 0 0,.slice none 0 0] 29)).heap[w.heap.size]? =some (.cells #[.slice al h.log.length cl,.int .i64 h.sums.a,.int .i64 h.sums.b,.int .i64 h.sums.c,.int .i64 h.sums.d,.slice ar h.ready.length cr,.slice ad h.done.length cd] 29 (0,0))):=η (heap_later (heap_later (row_new _ _) _) _)
 have HR5:Hid ((((w.alloc (.cells #[.slice al h.log.length cl,.int .i64 h.sums.a,.int .i64 h.sums.b,.int .i64 h.sums.c,.int .i64 h.sums.d,.slice ar h.ready.length cr,.slice ad h.done.length cd] 29)).alloc (.cells #[.int .i64 5,.int .i64 dd,.int .i64 hh,.slice ap ps.length cp] 39)).alloc (.cells #[.slice none 0 0,.int .i64 0,.int .i64 0,.int .i64 0,.int .i64 0,.slice none 0 0,.slice none 0 0] 29)).heap[w.heap.size+1]? =some (.cells #[.int .i64 5,.int .i64 dd,.int .i64 hh,.slice ap ps.length cp] 39 (0,0))):=η (heap_later (by simpa using row_new (w.alloc (.cells #[.slice al h.log.length cl,.int .i64 h.sums.a,.int .i64 h.sums.b,.int .i64 h.sums.c,.int .i64 h.sums.d,.slice ar h.ready.length cr,.slice ad h.done.length cd] 29)) _) _)
 have HR6:Hid ((((w.alloc (.cells #[.slice al h.log.length cl,.int .i64 h.sums.a,.int .i64 h.sums.b,.int .i64 h.sums.c,.int .i64 h.sums.d,.slice ar h.ready.length cr,.slice ad h.done.length cd] 29)).alloc (.cells #[.int .i64 5,.int .i64 dd,.int .i64 hh,.slice ap ps.length cp] 39)).alloc (.cells #[.slice none 0 0,.int .i64 0,.int .i64 0,.int .i64 0,.int .i64 0,.slice none 0 0,.slice none 0 0] 29)).heap[w.heap.size+1+1]? =some (.cells #[.slice none 0 0,.int .i64 0,.int .i64 0,.int .i64 0,.int .i64 0,.slice none 0 0,.slice none 0 0] 29 (0,0))):=η (by simpa using row_new ((w.alloc (.cells #[.slice al h.log.length cl,.int .i64 h.sums.a,.int .i64 h.sums.b,.int .i64 h.sums.c,.int .i64 h.sums.d,.slice ar h.ready.length cr,.slice ad h.done.length cd] 29)).alloc (.cells #[.int .i64 5,.int .i64 dd,.int .i64 hh,.slice ap ps.length cp] 39)) _)
 clear hv hm hc hk hkm hn hme hms
 have HEH:Hid (hearH h ⟨5,dd,hh,ps⟩=noteE h ⟨3,dd,[]⟩):=by
  show hearH h ⟨5,dd,hh,ps⟩=noteE h ⟨3,dd,[]⟩
  unfold hearH
  rw [if_neg (fun e=>by cases e),if_neg (fun e=>by cases e),if_pos rfl,if_pos rd]
 have HEM:Hid (hearM h me ⟨5,dd,hh,ps⟩=[]):=by
  show hearM h me ⟨5,dd,hh,ps⟩=[]
  unfold hearM
  rw [if_neg (fun e=>by cases e),if_neg (fun e=>by cases e)]
 have RD:=η rd
 clear rd
 go_enter Try.func35,Try.ntmps35
 go_wp2_with fail
 refine(HRD.o _ HG0.o).mono ?_
 rw [RD.o]
 rintro e v1 ⟨rfl,hbv1⟩
 (obtain⟨cv1,fv1⟩:=bcell hbv1;have zv10:w.heap.size<v1.heap.size:=(by have:=hbv1.size;(try simp at this);omega);have zv11:w.heap.size+1<v1.heap.size:=(by have:=hbv1.size;(try simp at this);omega);have zv12:w.heap.size+1+1<v1.heap.size:=(by have:=hbv1.size;(try simp at this);omega);have Gv1:=η hbv1;clear hbv1)
 have GV0:Hid (Grow _ v1):=η Gv1.o
 have hz:∀u,(zeroValue 3).run Try.prog u=.ok (.int .i64 0) u:=fun u=>by kernel_rfl
 have hmm:=@run_makeMap Try.prog
 go_wp2_with (first|(refine wp_insert keyInt Try.underlying142 rfl _ _ _ rfl (MapIs.new (enc:=encInt) _) 4 (.int .i64 2) rfl rfl rfl ?_))
 clear hmm
 intro m1 hM1 hm1
 have gm1:Grow v1 m1:=((Grow.refl _).alloc (.map #[] 0)).grown hm1 (fun k hk=>by simp at hk;omega)
 have HM1:=η hM1
 clear hM1 hm1
 go_wp2_with (first|(refine wp_insert keyInt Try.underlying142 rfl _ _ _ rfl HM1.o 5 (.int .i64 3) rfl rfl rfl ?_))
 intro m2 hM2 hm2
 have gm2:Grow v1 m2:=gm1.grown hm2 (fun k hk=>by simp at hk;omega)
 have HM2:=η hM2
 clear hM2 hm2 gm1
 have GM2:=η gm2
 have GW2:Hid (Grow _ m2):=η (GV0.o.trans gm2)
 obtain⟨k0,k1,k2,k3,k4,k5,k6⟩:=cells7 (row_grow HR3.o GW2.o)
 obtain⟨n0,n1,n2,n3⟩:=cells4 (row_grow HR5.o GW2.o)
 clear gm2
 go_wp2_with (first|(at_lookup;refine wp_lookup' keyInt Try.underlying142 hz rfl _ _ rfl HM2.o 5 (.int .i64 3) (by rfl) rfl rfl ?_))
 clear k0 k1 k2 k3 k4 k5 k6
 obtain⟨k0,k1,k2,k3,k4,k5,k6⟩:=cells7 (row_grow HR3.o GW2.o)
 go_wp2_with fail
 have GW:Hid (Grow _ m2):=η GW2.o
 have GV:Hid (Grow w m2):=η (HG0.o.trans GW.o)
 have ZV:Hid (w.heap.size+1+1<m2.heap.size):=η (Array.getElem?_eq_some_iff.1 (row_grow HR6.o GW.o)).1
 have hrr:Ty.rc.R (wk w.heap.size 3 (ov c w m2)) [.int .i64 (⟨3,dd,[]⟩:Rc).kind,.int .i64 dd,.slice none 0 0] ⟨3,dd,[]⟩:=Ty.rc.mono (wk_in HC.o 3) (show Ty.rc.R c [.int .i64 3,.int .i64 dd,.slice none 0 0] ⟨3,dd,[]⟩ from⟨_,rfl,(show I64 3 from by unfold I64;decide),HMS.o.2.2.1,Sl.nil _ _⟩)
 refine(ref_note (c:=wk w.heap.size 3 (ov c w m2)) (r:=⟨3,dd,[]⟩) m2 (wk_ov HC.o GV.o 3) (HV0.o.mono (wk_in HC.o 3)) ⟨_,rfl,hrr⟩ HK0.o (by intro p hp;simp at hp) HN.o).mono ?_
 clear hrr
 generalize noteE h ⟨3,dd,[]⟩=x at*
 rintro e v3 ⟨vx,rfl,hX,hbv3⟩
 obtain⟨al2,cl2,ar2,cr2,ad2,cd2,rfl⟩:=hX.hs_form
 have HX:=η hX
 have HG3:=η hbv3
 clear hX
 have GW3:Hid (Grow _ v3):=η (GW.o.trans hbv3)
 obtain⟨k0,k1,k2,k3,k4,k5,k6⟩:=cells7 (row_grow HR3.o GW3.o)
 have kf:=row_free (row_grow HR3.o GW3.o)
 obtain⟨m0,m1,m2,m3⟩:=cells4 (row_grow HR5.o GW3.o)
 clear hbv3
 go_wp2_with (first|(refine wpList_store_row rfl (.tmp 3) (.tmp 54) rfl rfl rfl (row_grow HR3.o GW3.o) info_hs rfl rfl ?_))
 intro v4 r4 g4
 have R3:=η r4
 have BY4:=η g4
 clear r4 g4
 have R5:Hid (v4.heap[w.heap.size+1]? =_):=η (row_by (row_grow HR5.o GW3.o) BY4.o (by simp))
 have R6:Hid (v4.heap[w.heap.size+1+1]? =_):=η (row_by (row_grow HR6.o GW3.o) BY4.o (by simp;omega))
 clear k0 k1 k2 k3 k4 k5 k6 kf m0 m1 m2 m3
 have HG4:Hid (Grow w v4):=η ((GV.o.trans HG3.o).grown BY4.o (fun k hk=>by simp at hk;omega))
 obtain⟨k0,k1,k2,k3,k4,k5,k6⟩:=cells7 R3.o
 obtain⟨m0,m1,m2,m3⟩:=cells4 R5.o
 have R6b:=R6.o
 obtain⟨p0,p1,p2,p3,p4,p5,p6⟩:=cells7 R6b
 have pf:=row_free R6b
 obtain⟨s0,s1,s2,s3,s4,s5,s6,s7⟩:v4.cell? ⟨w.heap.size,0,none⟩=some (.slice al2 x.log.length cl2)∧v4.cell? ⟨w.heap.size,1,none⟩=some (.int .i64 x.sums.a)∧v4.cell? ⟨w.heap.size,2,none⟩=some (.int .i64 x.sums.b)∧v4.cell? ⟨w.heap.size,3,none⟩=some (.int .i64 x.sums.c)∧v4.cell? ⟨w.heap.size,4,none⟩=some (.int .i64 x.sums.d)∧v4.cell? ⟨w.heap.size,5,none⟩=some (.slice ar2 x.ready.length cr2)∧v4.cell? ⟨w.heap.size,6,none⟩=some (.slice ad2 x.done.length cd2)∧v4.cell? ⟨w.heap.size+1,1,none⟩=some (.int .i64 dd):=by refine⟨?_,?_,?_,?_,?_,?_,?_,?_⟩<;>go_simp
 clear R6b
 go_wp2
 refine bodyPost_ret (v:=.tuple #[.agg #[.slice al2 x.log.length cl2,.int .i64 x.sums.a,.int .i64 x.sums.b,.int .i64 x.sums.c,.int .i64 x.sums.d,.slice ar2 x.ready.length cr2,.slice ad2 x.done.length cd2],.slice none 0 0]) (by simp [results,Try.results35,go_sem,p0,p1,p2,p3,p4,p5,p6]) rfl ?_
 rw [HEH.o,HEM.o]
 refine⟨_,_,rfl,?_,Sl.nil _ _,?_⟩
 ·refine HX.o.mono (ov_boxes (k:=3) GV.o HG3.o (by have:=ZV.o;omega) fun a u ha e=>?_)
  have l1:=World.block_lt_of_cell? v3 a e
  have l2:=BY4.o.size
  have e4:v4.cell? a=some u:=by rw [by_cell BY4.o l1 (by omega)];exact e
  exact(by_cell (by_set7 v4 (w.heap.size+1+1) _ _ _ _ _ _ _) (show a.block<v4.heap.size by omega) (show a.block≠w.heap.size+1+1 by omega)).trans e4
 ·(repeat (with_reducible refine Grow.setCell ?_ (by first|(simp;done)|(simp;omega)|omega) _))
  exact HG4.o
set_option maxRecDepth 100000 in
set_option maxHeartbeats 1000000 in
theorem hear_abo5N {c:CM} {v vm:Value} {h:Hs} {dd hh me:Int} {ps:List Pt} (w:World) (hc:Sub c w.cell?) (hv:Of Ty.hs c v h) (hm:Of Ty.ms c vm ⟨5,dd,hh,ps⟩) (hk:∀x∈h.log,KeysOk x.parts) (hkm:KeysOk ps) (hn:(h.log.length+1)*40≤140737488355328) (hme:I64 me) (rd:readyE h.ready dd=false):
  Calls Try.prog 35 #[v,.int .i64 me,vm] w fun e w'=>∃v1 v2,e=.returned (.tuple #[v1,v2])∧Of Ty.hs (ov c w w') v1 (hearH h ⟨5,dd,hh,ps⟩)∧Sl Ty.ms (ov c w w') v2 (hearM h me ⟨5,dd,hh,ps⟩)∧Grow w w':=by
 obtain⟨al,cl,ar,cr,ad,cd,rfl⟩:=hv.hs_form
 obtain⟨ap,cp,rfl⟩:∃ap cp,vm=.agg #[.int .i64 5,.int .i64 dd,.int .i64 hh,.slice ap ps.length cp]:=hm.ms_form
 have hms:Sl Ty.pt c (.slice ap ps.length cp) ps∧I64 5∧I64 dd∧I64 hh:=Of.ms_parts hm
 have HMS:=η hms
 have HV0:=η hv
 have HC:=η hc
 have HK0:=η hk
 have HKM:=η hkm
 have HN:=η hn
 have HME:=η hme
 have HVO:=η (fun(W:World) (hW:Grow w W)=>ref_vote (d:=dd) W (hv.mono (hc.trans hW.sub)) (hms.1.mono (hc.trans hW.sub)) hkm)
 have HRD:=η (fun(W:World) (hW:Grow w W)=>ref_ready (d:=dd) W (hv.mono (hc.trans hW.sub)))
 have HIN:=η (fun(W:World) (hW:Grow w W)=>ref_in (n:=dd) W ((Of.hs_log hv).2.2.mono (hc.trans hW.sub)))
 have HG0:Hid (Grow w (((w.alloc (.cells #[.slice al h.log.length cl,.int .i64 h.sums.a,.int .i64 h.sums.b,.int .i64 h.sums.c,.int .i64 h.sums.d,.slice ar h.ready.length cr,.slice ad h.done.length cd] 29)).alloc (.cells #[.int .i64 5,.int .i64 dd,.int .i64 hh,.slice ap ps.length cp] 39)).alloc (.cells #[.slice none 0 0,.int .i64 0,.int .i64 0,.int .i64 0,.int .i64 0,.slice none 0 0,.slice none 0 0] 29))):=η ((((Grow.refl w).alloc _).alloc _).alloc _)
 have HR3:Hid ((((w.alloc (.cells #[.slice al h.log.length cl,.int .i64 h.sums.a,.int .i64 h.sums.b,.int .i64 h.sums.c,.int .i64 h.sums.d,.slice ar h.ready.length cr,.slice ad h.done.length cd] 29)).alloc (.cells #[.int .i64 5,.int .i64 dd,.int .i64 hh,.slice ap ps.length cp] 39)).alloc (.cells #[.slice none 0 0,.int .i64 0,.int .i64 0,.int .i64 0,.int .i64 0,.slice none 0 0,.slice none 0 0] 29)).heap[w.heap.size]? =some (.cells #[.slice al h.log.length cl,.int .i64 h.sums.a,.int .i64 h.sums.b,.int .i64 h.sums.c,.int .i64 h.sums.d,.slice ar h.ready.length cr,.slice ad h.done.length cd] 29 (0,0))):=η (heap_later (heap_later (row_new _ _) _) _)
 have HR5:Hid ((((w.alloc (.cells #[.slice al h.log.length cl,.int .i64 h.sums.a,.int .i64 h.sums.b,.int .i64 h.sums.c,.int .i64 h.sums.d,.slice ar h.ready.length cr,.slice ad h.done.length cd] 29)).alloc (.cells #[.int .i64 5,.int .i64 dd,.int .i64 hh,.slice ap ps.length cp] 39)).alloc (.cells #[.slice none 0 0,.int .i64 0,.int .i64 0,.int .i64 0,.int .i64 0,.slice none 0 0,.slice none 0 0] 29)).heap[w.heap.size+1]? =some (.cells #[.int .i64 5,.int .i64 dd,.int .i64 hh,.slice ap ps.length cp] 39 (0,0))):=η (heap_later (by simpa using row_new (w.alloc (.cells #[.slice al h.log.length cl,.int .i64 h.sums.a,.int .i64 h.sums.b,.int .i64 h.sums.c,.int .i64 h.sums.d,.slice ar h.ready.length cr,.slice ad h.done.length cd] 29)) _) _)
 have HR6:Hid ((((w.alloc (.cells #[.slice al h.log.length cl,.int .i64 h.sums.a,.int .i64 h.sums.b,.int .i64 h.sums.c,.int .i64 h.sums.d,.slice ar h.ready.length cr,.slice ad h.done.length cd] 29)).alloc (.cells #[.int .i64 5,.int .i64 dd,.int .i64 hh,.slice ap ps.length cp] 39)).alloc (.cells #[.slice none 0 0,.int .i64 0,.int .i64 0,.int .i64 0,.int .i64 0,.slice none 0 0,.slice none 0 0] 29)).heap[w.heap.size+1+1]? =some (.cells #[.slice none 0 0,.int .i64 0,.int .i64 0,.int .i64 0,.int .i64 0,.slice none 0 0,.slice none 0 0] 29 (0,0))):=η (by simpa using row_new ((w.alloc (.cells #[.slice al h.log.length cl,.int .i64 h.sums.a,.int .i64 h.sums.b,.int .i64 h.sums.c,.int .i64 h.sums.d,.slice ar h.ready.length cr,.slice ad h.done.length cd] 29)).alloc (.cells #[.int .i64 5,.int .i64 dd,.int .i64 hh,.slice ap ps.length cp] 39)) _)
 clear hv hm hc hk hkm hn hme hms
 have HEH:Hid (hearH h ⟨5,dd,hh,ps⟩=h):=by
  show hearH h ⟨5,dd,hh,ps⟩=h
  unfold hearH
  rw [if_neg (fun e=>by cases e),if_neg (fun e=>by cases e),if_pos rfl,if_neg (by rw [show readyE h.ready (Ms.deed ⟨5,dd,hh,ps⟩)=false from rd];simp)]
 have HEM:Hid (hearM h me ⟨5,dd,hh,ps⟩=[]):=by
  show hearM h me ⟨5,dd,hh,ps⟩=[]
  unfold hearM
  rw [if_neg (fun e=>by cases e),if_neg (fun e=>by cases e)]
 have RD:=η rd
 clear rd
 go_enter Try.func35,Try.ntmps35
 go_wp2_with fail
 refine(HRD.o _ HG0.o).mono ?_
 rw [RD.o]
 rintro e v1 ⟨rfl,hbv1⟩
 (obtain⟨cv1,fv1⟩:=bcell hbv1;have zv10:w.heap.size<v1.heap.size:=(by have:=hbv1.size;(try simp at this);omega);have zv11:w.heap.size+1<v1.heap.size:=(by have:=hbv1.size;(try simp at this);omega);have zv12:w.heap.size+1+1<v1.heap.size:=(by have:=hbv1.size;(try simp at this);omega);have Gv1:=η hbv1;clear hbv1)
 have R6:=row_grow HR6.o Gv1.o
 obtain⟨p0,p1,p2,p3,p4,p5,p6⟩:=cells7 R6
 have pf:=row_free R6
 obtain⟨s0,s1,s2,s3,s4,s5,s6,s7⟩:v1.cell? ⟨w.heap.size,0,none⟩=some (.slice al h.log.length cl)∧v1.cell? ⟨w.heap.size,1,none⟩=some (.int .i64 h.sums.a)∧v1.cell? ⟨w.heap.size,2,none⟩=some (.int .i64 h.sums.b)∧v1.cell? ⟨w.heap.size,3,none⟩=some (.int .i64 h.sums.c)∧v1.cell? ⟨w.heap.size,4,none⟩=some (.int .i64 h.sums.d)∧v1.cell? ⟨w.heap.size,5,none⟩=some (.slice ar h.ready.length cr)∧v1.cell? ⟨w.heap.size,6,none⟩=some (.slice ad h.done.length cd)∧v1.cell? ⟨w.heap.size+1,1,none⟩=some (.int .i64 dd):=by refine⟨?_,?_,?_,?_,?_,?_,?_,?_⟩<;>go_simp
 clear R6
 go_wp2
 refine bodyPost_ret (v:=.tuple #[.agg #[.slice al h.log.length cl,.int .i64 h.sums.a,.int .i64 h.sums.b,.int .i64 h.sums.c,.int .i64 h.sums.d,.slice ar h.ready.length cr,.slice ad h.done.length cd],.slice none 0 0]) (by simp [results,Try.results35,go_sem,p0,p1,p2,p3,p4,p5,p6]) rfl ?_
 rw [HEH.o,HEM.o]
 refine⟨_,_,rfl,?_,Sl.nil _ _,?_⟩
 ·exact HV0.o.mono (ov_in HC.o)
 ·(repeat (with_reducible refine Grow.setCell ?_ (by first|(simp;done)|(simp;omega)|omega) _))
  exact HG0.o.trans Gv1.o
set_option maxRecDepth 100000 in
set_option maxHeartbeats 1000000 in
theorem hear_oth {c:CM} {v vm:Value} {h:Hs} {kd dd hh me:Int} {ps:List Pt} (w:World) (hc:Sub c w.cell?) (hv:Of Ty.hs c v h) (hm:Of Ty.ms c vm ⟨kd,dd,hh,ps⟩) (hk:∀x∈h.log,KeysOk x.parts) (hkm:KeysOk ps) (hn:(h.log.length+1)*40≤140737488355328) (hme:I64 me) (n1:¬kd=1) (n4:¬kd=4) (n5:¬kd=5):
  Calls Try.prog 35 #[v,.int .i64 me,vm] w fun e w'=>∃v1 v2,e=.returned (.tuple #[v1,v2])∧Of Ty.hs (ov c w w') v1 (hearH h ⟨kd,dd,hh,ps⟩)∧Sl Ty.ms (ov c w w') v2 (hearM h me ⟨kd,dd,hh,ps⟩)∧Grow w w':=by
 obtain⟨al,cl,ar,cr,ad,cd,rfl⟩:=hv.hs_form
 obtain⟨ap,cp,rfl⟩:∃ap cp,vm=.agg #[.int .i64 kd,.int .i64 dd,.int .i64 hh,.slice ap ps.length cp]:=hm.ms_form
 have hms:Sl Ty.pt c (.slice ap ps.length cp) ps∧I64 kd∧I64 dd∧I64 hh:=Of.ms_parts hm
 have HMS:=η hms
 have HV0:=η hv
 have HC:=η hc
 have HK0:=η hk
 have HKM:=η hkm
 have HN:=η hn
 have HME:=η hme
 have HVO:=η (fun(W:World) (hW:Grow w W)=>ref_vote (d:=dd) W (hv.mono (hc.trans hW.sub)) (hms.1.mono (hc.trans hW.sub)) hkm)
 have HRD:=η (fun(W:World) (hW:Grow w W)=>ref_ready (d:=dd) W (hv.mono (hc.trans hW.sub)))
 have HIN:=η (fun(W:World) (hW:Grow w W)=>ref_in (n:=dd) W ((Of.hs_log hv).2.2.mono (hc.trans hW.sub)))
 have HG0:Hid (Grow w (((w.alloc (.cells #[.slice al h.log.length cl,.int .i64 h.sums.a,.int .i64 h.sums.b,.int .i64 h.sums.c,.int .i64 h.sums.d,.slice ar h.ready.length cr,.slice ad h.done.length cd] 29)).alloc (.cells #[.int .i64 kd,.int .i64 dd,.int .i64 hh,.slice ap ps.length cp] 39)).alloc (.cells #[.slice none 0 0,.int .i64 0,.int .i64 0,.int .i64 0,.int .i64 0,.slice none 0 0,.slice none 0 0] 29))):=η ((((Grow.refl w).alloc _).alloc _).alloc _)
 have HR3:Hid ((((w.alloc (.cells #[.slice al h.log.length cl,.int .i64 h.sums.a,.int .i64 h.sums.b,.int .i64 h.sums.c,.int .i64 h.sums.d,.slice ar h.ready.length cr,.slice ad h.done.length cd] 29)).alloc (.cells #[.int .i64 kd,.int .i64 dd,.int .i64 hh,.slice ap ps.length cp] 39)).alloc (.cells #[.slice none 0 0,.int .i64 0,.int .i64 0,.int .i64 0,.int .i64 0,.slice none 0 0,.slice none 0 0] 29)).heap[w.heap.size]? =some (.cells #[.slice al h.log.length cl,.int .i64 h.sums.a,.int .i64 h.sums.b,.int .i64 h.sums.c,.int .i64 h.sums.d,.slice ar h.ready.length cr,.slice ad h.done.length cd] 29 (0,0))):=η (heap_later (heap_later (row_new _ _) _) _)
 have HR5:Hid ((((w.alloc (.cells #[.slice al h.log.length cl,.int .i64 h.sums.a,.int .i64 h.sums.b,.int .i64 h.sums.c,.int .i64 h.sums.d,.slice ar h.ready.length cr,.slice ad h.done.length cd] 29)).alloc (.cells #[.int .i64 kd,.int .i64 dd,.int .i64 hh,.slice ap ps.length cp] 39)).alloc (.cells #[.slice none 0 0,.int .i64 0,.int .i64 0,.int .i64 0,.int .i64 0,.slice none 0 0,.slice none 0 0] 29)).heap[w.heap.size+1]? =some (.cells #[.int .i64 kd,.int .i64 dd,.int .i64 hh,.slice ap ps.length cp] 39 (0,0))):=η (heap_later (by simpa using row_new (w.alloc (.cells #[.slice al h.log.length cl,.int .i64 h.sums.a,.int .i64 h.sums.b,.int .i64 h.sums.c,.int .i64 h.sums.d,.slice ar h.ready.length cr,.slice ad h.done.length cd] 29)) _) _)
 have HR6:Hid ((((w.alloc (.cells #[.slice al h.log.length cl,.int .i64 h.sums.a,.int .i64 h.sums.b,.int .i64 h.sums.c,.int .i64 h.sums.d,.slice ar h.ready.length cr,.slice ad h.done.length cd] 29)).alloc (.cells #[.int .i64 kd,.int .i64 dd,.int .i64 hh,.slice ap ps.length cp] 39)).alloc (.cells #[.slice none 0 0,.int .i64 0,.int .i64 0,.int .i64 0,.int .i64 0,.slice none 0 0,.slice none 0 0] 29)).heap[w.heap.size+1+1]? =some (.cells #[.slice none 0 0,.int .i64 0,.int .i64 0,.int .i64 0,.int .i64 0,.slice none 0 0,.slice none 0 0] 29 (0,0))):=η (by simpa using row_new ((w.alloc (.cells #[.slice al h.log.length cl,.int .i64 h.sums.a,.int .i64 h.sums.b,.int .i64 h.sums.c,.int .i64 h.sums.d,.slice ar h.ready.length cr,.slice ad h.done.length cd] 29)).alloc (.cells #[.int .i64 kd,.int .i64 dd,.int .i64 hh,.slice ap ps.length cp] 39)) _)
 clear hv hm hc hk hkm hn hme hms
 have HEH:Hid (hearH h ⟨kd,dd,hh,ps⟩=h):=by
  show hearH h ⟨kd,dd,hh,ps⟩=h
  unfold hearH
  rw [if_neg n1,if_neg n4,if_neg n5]
 have HEM:Hid (hearM h me ⟨kd,dd,hh,ps⟩=[]):=by
  show hearM h me ⟨kd,dd,hh,ps⟩=[]
  unfold hearM
  rw [if_neg n1,if_neg n4]
 have b1:(kd==1)=false:=by simpa using n1
 have b4:(kd==4)=false:=by simpa using n4
 have b5:(kd==5)=false:=by simpa using n5
 clear n1 n4 n5
 go_enter Try.func35,Try.ntmps35
 go_wp2
 refine bodyPost_ret (v:=.tuple #[.agg #[.slice al h.log.length cl,.int .i64 h.sums.a,.int .i64 h.sums.b,.int .i64 h.sums.c,.int .i64 h.sums.d,.slice ar h.ready.length cr,.slice ad h.done.length cd],.slice none 0 0]) (by simp [results,Try.results35,go_sem]) rfl ?_
 rw [HEH.o,HEM.o]
 refine⟨_,_,rfl,?_,Sl.nil _ _,?_⟩
 ·exact HV0.o.mono (ov_in HC.o)
 ·(repeat (with_reducible refine Grow.setCell ?_ (by first|(simp;done)|(simp;omega)|omega) _))
  exact(((Grow.refl w).alloc _).alloc _).alloc _
theorem ref_hear {c:CM} {v vm:Value} {h:Hs} {m:Ms} {me:Int} (w:World) (hc:Sub c w.cell?) (hv:Of Ty.hs c v h) (hm:Of Ty.ms c vm m) (hk:∀x∈h.log,KeysOk x.parts) (hkm:KeysOk m.parts) (hn:(h.log.length+1)*40≤140737488355328) (hme:I64 me) (hmd:Made h):
  Calls Try.prog 35 #[v,.int .i64 me,vm] w fun e w'=>∃v1 v2,e=.returned (.tuple #[v1,v2])∧Of Ty.hs (ov c w w') v1 (hearH h m)∧Sl Ty.ms (ov c w w') v2 (hearM h me m)∧Grow w w':=by
 obtain⟨kd,dd,hh,ps⟩:=m
 by_cases h1:kd=1
 ·subst h1
  by_cases e10:voteE h dd ps=10
  ·exact hear_prep10 w hc hv hm hk hkm hn hme e10
  by_cases e0:voteE h dd ps=0
  ·cases rd:readyE h.ready dd with
   |true=>exact hear_prepR w hc hv hm hk hkm hn hme e0 rd
   |false=>exact hear_prepN w hc hv hm hk hkm hn hme e0 rd
  ·exact hear_prepF w hc hv hm hk hkm hn hme e10 e0
 by_cases h4:kd=4
 ·subst h4
  cases rd:readyE h.ready dd with
  |true=>exact hear_com4R w hc hv hm hk hkm hn hme rd (by rw [(note2 hmd rd).2];simp)
  |false=>
   by_cases hin:dd∈h.done
   ·exact hear_com4D w hc hv hm hk hkm hn hme rd hin
   ·exact hear_com4N w hc hv hm hk hkm hn hme rd hin
 by_cases h5:kd=5
 ·subst h5
  cases rd:readyE h.ready dd with
  |true=>exact hear_abo5R w hc hv hm hk hkm hn hme rd
  |false=>exact hear_abo5N w hc hv hm hk hkm hn hme rd
 ·exact hear_oth w hc hv hm hk hkm hn hme h1 h4 h5
end Go.Proofs.Ytgbhpghgohggcaa
