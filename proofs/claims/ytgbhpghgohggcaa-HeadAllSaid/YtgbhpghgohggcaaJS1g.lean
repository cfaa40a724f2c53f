/- The parts that laws are proved of, joined: U14, U23, U25, Reg4. No condition beside those that each theorem names. -/
import Derived.Test.YtgbhpghgohggcaaJS1f
namespace Go.Proofs.Ytgbhpghgohggcaa
open Go.RowKit
set_option maxRecDepth 100000 in
set_option maxHeartbeats 4000000 in
theorem ref_do_fall3 {c:CM} {v vs:Value} {x:AW} {sn:Int} {sp:List Pt} {n:Nat} {G:Reg} {k:Nat} (w:World) (hc:Sub c w.cell?) (hv:Of Ty.wd c v x) (hs:Of Ty.st c vs ⟨5,sn,sp⟩) (hi:WI n G x) (hf:Few k x) (hk:k≤1000) (h3:sn=3):
  Calls Try.prog 138 #[v,vs] w fun e w'=>∃v',e=.returned (.tuple #[v',.int .i64 (doErr x ⟨5,sn,sp⟩)])∧Of Ty.wd (ov c w w') v' (doA x ⟨5,sn,sp⟩)∧Grow w w':=by
 obtain⟨al,cl,ao,co,ah,ch,an,cn,rfl⟩:=hv.wd_form
 obtain⟨ap,cp,rfl⟩:=hs.st_form
 obtain⟨q1,q2,q3⟩:=hv.wd_parts
 have HQ1:=η q1
 have HQ2:=η q2
 have HQ3:=η q3
 have HSP:=η hs.st_parts
 have HHD:=η (hi.hdok hf hk)
 have HWI:=η hi
 have HV:=η hv
 have HC:=η hc
 have H3:=η h3
 clear h3
 clear hc hv hs q1 q2 q3 hi hf
 obtain⟨wa,hwa⟩:∃y:World,y=w.alloc (.cells #[.slice al x.head.log.length cl,.int .i64 x.head.boot,.int .i64 x.head.next,.slice ao x.head.opn.length co,.slice ah x.houses.length ch,.slice an x.net.length cn] 93):=⟨_,rfl⟩
 obtain⟨wb,hwb⟩:∃y:World,y=wa.alloc (.cells #[.int .i64 5,.int .i64 sn,.slice ap sp.length cp] 164):=⟨_,rfl⟩
 obtain⟨wz,hwz⟩:∃y:World,y=wb.alloc (.cells #[.slice none 0 0,.int .i64 0,.int .i64 0,.slice none 0 0,.slice none 0 0,.slice none 0 0] 93):=⟨_,rfl⟩
 have hsa:wa.heap.size=w.heap.size+1:=by rw [hwa];simp
 have hsb:wb.heap.size=w.heap.size+2:=by rw [hwb];simp [hsa]
 have R2:Hid (wz.heap[w.heap.size]? =some (.cells #[.slice al x.head.log.length cl,.int .i64 x.head.boot,.int .i64 x.head.next,.slice ao x.head.opn.length co,.slice ah x.houses.length ch,.slice an x.net.length cn] 93 (0,0))):=η (by rw [hwz,hwb,hwa];exact heap_later (heap_later (row_new _ _) _) _)
 have R3:Hid (wz.heap[w.heap.size+1]? =some (.cells #[.int .i64 5,.int .i64 sn,.slice ap sp.length cp] 164 (0,0))):=η (by rw [hwz,hwb,←hsa];exact heap_later (row_new _ _) _)
 have R4:Hid (wz.heap[w.heap.size+2]? =some (.cells #[.slice none 0 0,.int .i64 0,.int .i64 0,.slice none 0 0,.slice none 0 0,.slice none 0 0] 93 (0,0))):=η (by rw [hwz,←hsb];exact row_new _ _)
 have G1:Hid (Grow w wz):=η (by rw [hwz,hwb,hwa];exact(((Grow.refl w).alloc _).alloc _).alloc _)
 have HZ:Hid (wz.heap.size=w.heap.size+3):=η (by rw [hwz];simp [hsb])
 go_enter Try.func138,Try.ntmps138
 go_upto_region 1 with fail
 rw [←hwa]
 try rw [hsa]
 rw [←hwb]
 try rw [hsb]
 rw [←hwz]
 clear hwa hwb hwz hsa hsb
 obtain⟨c0,c1,c2,c3,c4,c5⟩:=cells6 R2.o
 obtain⟨d0,d1,d2⟩:=cells3 R3.o
 have z2:w.heap.size<wz.heap.size:=(γ R2.o)
 have z3:w.heap.size+1<wz.heap.size:=(γ R3.o)
 go_cut [6] from 22 (fun s6 wc=>s6=.bool (there x sn)∧wz=wc)
 case first=>
  by_cases h0:0≤sn
  ·by_cases h1:sn<(x.net.length:Int)
   ·go_wp2
    go_meet
    case rel=>exact⟨by first|rfl|(simp [there,h0,h1];done),rfl⟩
   ·go_wp2
    go_meet
    case rel=>exact⟨by first|rfl|(simp [there,h0,h1];done)|(simp [there,h0];omega),rfl⟩
  ·go_wp2
   go_meet
   case rel=>exact⟨by first|rfl|(simp [there];done)|(simp [there];omega),rfl⟩
 case rest=>
 obtain⟨rfl,rfl⟩:=hcut
 have hE:doA x ⟨5,sn,sp⟩={ x with head:=fallH x.head }:=by unfold doA;simp [H3.o]
 have hE2:doErr x ⟨5,sn,sp⟩=fallE x.head:=by unfold doErr;simp [H3.o]
 have HE:=η hE
 have HE2:=η hE2
 have hb33:(sn==3)=true:=by simp [H3.o]
 clear hE hE2 H3
 go_wp2_with fail
 refine(ref_fall (c:=c) wz (HC.o.trans G1.o.sub) HQ1.o HHD.o).mono ?_
 rintro e w1 ⟨v1,rfl,hx1,hb1⟩
 obtain⟨al2,cl2,ao2,co2,rfl⟩:=hx1.hd_form
 have HX1:=η hx1
 have R21:=η (row_grow R2.o hb1)
 have R41:=η (row_grow R4.o hb1)
 have GZ1:=η hb1
 clear hx1 hb1 c0 c1 c2 c3 c4 c5 d0 d1 d2 z2 z3
 generalize hqh:fallH x.head=qh at*
 generalize hqe:fallE x.head=qe at*
 clear hqh hqe
 go_upto_region 35 with fail
 obtain⟨w2,hw2⟩:∃y:World,y=w1.alloc (.cells #[.slice al2 qh.log.length cl2,.int .i64 qh.boot,.int .i64 qh.next,.slice ao2 qh.opn.length co2] 57):=⟨_,rfl⟩
 obtain⟨BH,hBH⟩:∃y,y=w1.heap.size:=⟨_,rfl⟩
 have G12:Hid (Grow w1 w2):=η (by rw [hw2];exact(Grow.refl _).alloc _)
 have RH:Hid (w2.heap[BH]? =some (.cells #[.slice al2 qh.log.length cl2,.int .i64 qh.boot,.int .i64 qh.next,.slice ao2 qh.opn.length co2] 57 (0,0))):=η (by rw [hw2,hBH];exact row_new _ _)
 rw [←hw2,←hBH]
 clear hw2 hBH
 have R22:=η (row_grow R21.o G12.o)
 have R42:=η (row_grow R41.o G12.o)
 have GW2:=η (G1.o.trans (GZ1.o.trans G12.o))
 obtain⟨k0,k1,k2,k3⟩:=cells4 RH.o
 have zh:BH<w2.heap.size:=(γ RH.o)
 go_wp2_with (first|(refine wpList_store_part rfl (.tmp 194) (.tmp 193) (p:=0) (cells:=#[.slice al2 qh.log.length cl2,.int .i64 qh.boot,.int .i64 qh.next,.slice ao2 qh.opn.length co2]) (new:=#[.slice al2 qh.log.length cl2,.int .i64 qh.boot,.int .i64 qh.next,.slice ao2 qh.opn.length co2,.slice ah x.houses.length ch,.slice an x.net.length cn]) rfl rfl (by rfl) R22.o info_hd (by simp) (by rfl) (by rfl) ?_))
 intro w4 r4 g4
 have R44:=η r4
 have HG4:=η g4
 have R45:=η (row_by R42.o g4 (by intro e;have:=Option.some.inj e;omega))
 have G5:=η (GW2.o.grown g4 (fun q hq=>by simp at hq;omega))
 clear r4 g4 k0 k1 k2 k3 zh
 obtain⟨c0,c1,c2,c3,c4,c5⟩:=cells6 R44.o
 have z2:w.heap.size<w4.heap.size:=(γ R44.o)
 go_wp2_with (first|(refine wpList_store_row rfl (.tmp 4) (.tmp 195) rfl rfl rfl R45.o info_wd rfl rfl ?_))
 intro w7 r7 g7
 obtain⟨p0,p1,p2,p3,p4,p5⟩:=cells6 r7
 clear c0 c1 c2 c3 c4 c5
 go_wp2
 refine bodyPost_ret (v:=.tuple #[.agg #[.slice al2 qh.log.length cl2,.int .i64 qh.boot,.int .i64 qh.next,.slice ao2 qh.opn.length co2,.slice ah x.houses.length ch,.slice an x.net.length cn],.int .i64 qe]) (by simp [results,Try.results138,go_sem,p0,p1,p2,p3,p4,p5]) rfl ?_
 have G7:=G5.o.grown g7 (fun q hq=>by simp at hq;omega)
 rw [HE.o,HE2.o]
 refine⟨_,rfl,Of.wd_mk ?_ (HQ2.o.mono (ov_in HC.o)) (HQ3.o.mono (ov_in HC.o)),G7⟩
 refine HX1.o.mono fun a u e=>?_
 have e1:=ov_mono (Sub.refl _) G12.o a u e
 have e4:=ov_past (w:=w) HG4.o (Nat.le_refl _) (by have:=HZ.o;omega) a u e1
 have e7:=ov_past (w:=w) g7 (by omega) (by have:=HZ.o;omega) a u e4
 exact ovz_sub HC.o G1.o a u e7
set_option maxRecDepth 100000 in
set_option maxHeartbeats 4000000 in
theorem ref_do_fallH {c:CM} {v vs:Value} {x:AW} {sn:Int} {sp:List Pt} {n:Nat} {G:Reg} {k:Nat} (w:World) (hc:Sub c w.cell?) (hv:Of Ty.wd c v x) (hs:Of Ty.st c vs ⟨5,sn,sp⟩) (hi:WI n G x) (hf:Few k x) (hk:k≤1000) (h3:¬sn=3):
  Calls Try.prog 138 #[v,vs] w fun e w'=>∃v',e=.returned (.tuple #[v',.int .i64 (doErr x ⟨5,sn,sp⟩)])∧Of Ty.wd (ov c w w') v' (doA x ⟨5,sn,sp⟩)∧Grow w w':=by
 obtain⟨al,cl,ao,co,ah,ch,an,cn,rfl⟩:=hv.wd_form
 obtain⟨ap,cp,rfl⟩:=hs.st_form
 obtain⟨q1,q2,q3⟩:=hv.wd_parts
 have HQ1:=η q1
 have HQ2:=η q2
 have HQ3:=η q3
 have HSP:=η hs.st_parts
 have HHD:=η (hi.hdok hf hk)
 have HWI:=η hi
 have HV:=η hv
 have HC:=η hc
 clear hc hv hs q1 q2 q3 hi hf
 obtain⟨wa,hwa⟩:∃y:World,y=w.alloc (.cells #[.slice al x.head.log.length cl,.int .i64 x.head.boot,.int .i64 x.head.next,.slice ao x.head.opn.length co,.slice ah x.houses.length ch,.slice an x.net.length cn] 93):=⟨_,rfl⟩
 obtain⟨wb,hwb⟩:∃y:World,y=wa.alloc (.cells #[.int .i64 5,.int .i64 sn,.slice ap sp.length cp] 164):=⟨_,rfl⟩
 obtain⟨wz,hwz⟩:∃y:World,y=wb.alloc (.cells #[.slice none 0 0,.int .i64 0,.int .i64 0,.slice none 0 0,.slice none 0 0,.slice none 0 0] 93):=⟨_,rfl⟩
 have hsa:wa.heap.size=w.heap.size+1:=by rw [hwa];simp
 have hsb:wb.heap.size=w.heap.size+2:=by rw [hwb];simp [hsa]
 have R2:Hid (wz.heap[w.heap.size]? =some (.cells #[.slice al x.head.log.length cl,.int .i64 x.head.boot,.int .i64 x.head.next,.slice ao x.head.opn.length co,.slice ah x.houses.length ch,.slice an x.net.length cn] 93 (0,0))):=η (by rw [hwz,hwb,hwa];exact heap_later (heap_later (row_new _ _) _) _)
 have R3:Hid (wz.heap[w.heap.size+1]? =some (.cells #[.int .i64 5,.int .i64 sn,.slice ap sp.length cp] 164 (0,0))):=η (by rw [hwz,hwb,←hsa];exact heap_later (row_new _ _) _)
 have R4:Hid (wz.heap[w.heap.size+2]? =some (.cells #[.slice none 0 0,.int .i64 0,.int .i64 0,.slice none 0 0,.slice none 0 0,.slice none 0 0] 93 (0,0))):=η (by rw [hwz,←hsb];exact row_new _ _)
 have G1:Hid (Grow w wz):=η (by rw [hwz,hwb,hwa];exact(((Grow.refl w).alloc _).alloc _).alloc _)
 have HZ:Hid (wz.heap.size=w.heap.size+3):=η (by rw [hwz];simp [hsb])
 go_enter Try.func138,Try.ntmps138
 go_upto_region 1 with fail
 rw [←hwa]
 try rw [hsa]
 rw [←hwb]
 try rw [hsb]
 rw [←hwz]
 clear hwa hwb hwz hsa hsb
 obtain⟨c0,c1,c2,c3,c4,c5⟩:=cells6 R2.o
 obtain⟨d0,d1,d2⟩:=cells3 R3.o
 have z2:w.heap.size<wz.heap.size:=(γ R2.o)
 have z3:w.heap.size+1<wz.heap.size:=(γ R3.o)
 go_cut [6] from 22 (fun s6 wc=>s6=.bool (there x sn)∧wz=wc)
 case first=>
  by_cases h0:0≤sn
  ·by_cases h1:sn<(x.net.length:Int)
   ·go_wp2
    go_meet
    case rel=>exact⟨by first|rfl|(simp [there,h0,h1];done),rfl⟩
   ·go_wp2
    go_meet
    case rel=>exact⟨by first|rfl|(simp [there,h0,h1];done)|(simp [there,h0];omega),rfl⟩
  ·go_wp2
   go_meet
   case rel=>exact⟨by first|rfl|(simp [there];done)|(simp [there];omega),rfl⟩
 case rest=>
 obtain⟨rfl,rfl⟩:=hcut
 have hE:doA x ⟨5,sn,sp⟩=x:=by unfold doA;simp [h3]
 have HE:=η hE
 have hb33:(sn==3)=false:=by simp [h3]
 by_cases hl:sn<0
 ·have HE2:Hid (doErr x ⟨5,sn,sp⟩=6):=η (by unfold doErr hereN;simp [h3];omega)
  clear hE h3
  go_wp2_with (first|(refine wpList_store_row rfl (.tmp 4) (.tmp 208) rfl rfl rfl R4.o info_wd rfl rfl ?_))
  intro w7 r7 g7
  obtain⟨p0,p1,p2,p3,p4,p5⟩:=cells6 r7
  clear c0 c1 c2 c3 c4 c5
  go_wp2
  refine bodyPost_ret (v:=.tuple #[.agg #[.slice al x.head.log.length cl,.int .i64 x.head.boot,.int .i64 x.head.next,.slice ao x.head.opn.length co,.slice ah x.houses.length ch,.slice an x.net.length cn],.int .i64 6]) (by simp [results,Try.results138,go_sem,p0,p1,p2,p3,p4,p5]) rfl ?_
  have G7:=G1.o.grown g7 (fun q hq=>by simp at hq;omega)
  rw [HE.o,HE2.o]
  exact⟨_,rfl,HV.o.mono (ov_in HC.o),G7⟩
 by_cases hg:(x.houses.length:Int)≤sn
 ·have HE2:Hid (doErr x ⟨5,sn,sp⟩=6):=η (by unfold doErr hereN;simp [h3];omega)
  clear hE h3
  go_wp2_with (first|(refine wpList_store_row rfl (.tmp 4) (.tmp 208) rfl rfl rfl R4.o info_wd rfl rfl ?_))
  intro w7 r7 g7
  obtain⟨p0,p1,p2,p3,p4,p5⟩:=cells6 r7
  clear c0 c1 c2 c3 c4 c5
  go_wp2
  refine bodyPost_ret (v:=.tuple #[.agg #[.slice al x.head.log.length cl,.int .i64 x.head.boot,.int .i64 x.head.next,.slice ao x.head.opn.length co,.slice ah x.houses.length ch,.slice an x.net.length cn],.int .i64 6]) (by simp [results,Try.results138,go_sem,p0,p1,p2,p3,p4,p5]) rfl ?_
  have G7:=G1.o.grown g7 (fun q hq=>by simp at hq;omega)
  rw [HE.o,HE2.o]
  exact⟨_,rfl,HV.o.mono (ov_in HC.o),G7⟩
 have HE2:Hid (doErr x ⟨5,sn,sp⟩=0):=η (by unfold doErr hereN;simp [h3];omega)
 clear hE h3
 go_wp2_with (first|(refine wpList_store_row rfl (.tmp 4) (.tmp 262) rfl rfl rfl R4.o info_wd rfl rfl ?_))
 intro w7 r7 g7
 obtain⟨p0,p1,p2,p3,p4,p5⟩:=cells6 r7
 clear c0 c1 c2 c3 c4 c5
 go_wp2
 refine bodyPost_ret (v:=.tuple #[.agg #[.slice al x.head.log.length cl,.int .i64 x.head.boot,.int .i64 x.head.next,.slice ao x.head.opn.length co,.slice ah x.houses.length ch,.slice an x.net.length cn],.int .i64 0]) (by simp [results,Try.results138,go_sem,p0,p1,p2,p3,p4,p5]) rfl ?_
 have G7:=G1.o.grown g7 (fun q hq=>by simp at hq;omega)
 rw [HE.o,HE2.o]
 exact⟨_,rfl,HV.o.mono (ov_in HC.o),G7⟩
set_option maxRecDepth 100000 in
set_option maxHeartbeats 4000000 in
theorem ref_do_none2 {c:CM} {v vs:Value} {x:AW} {sn:Int} {sp:List Pt} {n:Nat} {G:Reg} {k:Nat} (w:World) (hc:Sub c w.cell?) (hv:Of Ty.wd c v x) (hs:Of Ty.st c vs ⟨2,sn,sp⟩) (hi:WI n G x) (hf:Few k x) (hk:k≤1000) (ht:there x sn=false):
  Calls Try.prog 138 #[v,vs] w fun e w'=>∃v',e=.returned (.tuple #[v',.int .i64 (doErr x ⟨2,sn,sp⟩)])∧Of Ty.wd (ov c w w') v' (doA x ⟨2,sn,sp⟩)∧Grow w w':=by
 obtain⟨al,cl,ao,co,ah,ch,an,cn,rfl⟩:=hv.wd_form
 obtain⟨ap,cp,rfl⟩:=hs.st_form
 obtain⟨q1,q2,q3⟩:=hv.wd_parts
 have HQ1:=η q1
 have HQ2:=η q2
 have HQ3:=η q3
 have HSP:=η hs.st_parts
 have HHD:=η (hi.hdok hf hk)
 have HWI:=η hi
 have HV:=η hv
 have HC:=η hc
 clear hc hv hs q1 q2 q3 hi hf
 obtain⟨wa,hwa⟩:∃y:World,y=w.alloc (.cells #[.slice al x.head.log.length cl,.int .i64 x.head.boot,.int .i64 x.head.next,.slice ao x.head.opn.length co,.slice ah x.houses.length ch,.slice an x.net.length cn] 93):=⟨_,rfl⟩
 obtain⟨wb,hwb⟩:∃y:World,y=wa.alloc (.cells #[.int .i64 2,.int .i64 sn,.slice ap sp.length cp] 164):=⟨_,rfl⟩
 obtain⟨wz,hwz⟩:∃y:World,y=wb.alloc (.cells #[.slice none 0 0,.int .i64 0,.int .i64 0,.slice none 0 0,.slice none 0 0,.slice none 0 0] 93):=⟨_,rfl⟩
 have hsa:wa.heap.size=w.heap.size+1:=by rw [hwa];simp
 have hsb:wb.heap.size=w.heap.size+2:=by rw [hwb];simp [hsa]
 have R2:Hid (wz.heap[w.heap.size]? =some (.cells #[.slice al x.head.log.length cl,.int .i64 x.head.boot,.int .i64 x.head.next,.slice ao x.head.opn.length co,.slice ah x.houses.length ch,.slice an x.net.length cn] 93 (0,0))):=η (by rw [hwz,hwb,hwa];exact heap_later (heap_later (row_new _ _) _) _)
 have R3:Hid (wz.heap[w.heap.size+1]? =some (.cells #[.int .i64 2,.int .i64 sn,.slice ap sp.length cp] 164 (0,0))):=η (by rw [hwz,hwb,←hsa];exact heap_later (row_new _ _) _)
 have R4:Hid (wz.heap[w.heap.size+2]? =some (.cells #[.slice none 0 0,.int .i64 0,.int .i64 0,.slice none 0 0,.slice none 0 0,.slice none 0 0] 93 (0,0))):=η (by rw [hwz,←hsb];exact row_new _ _)
 have G1:Hid (Grow w wz):=η (by rw [hwz,hwb,hwa];exact(((Grow.refl w).alloc _).alloc _).alloc _)
 have HZ:Hid (wz.heap.size=w.heap.size+3):=η (by rw [hwz];simp [hsb])
 go_enter Try.func138,Try.ntmps138
 go_upto_region 1 with fail
 rw [←hwa]
 try rw [hsa]
 rw [←hwb]
 try rw [hsb]
 rw [←hwz]
 clear hwa hwb hwz hsa hsb
 obtain⟨c0,c1,c2,c3,c4,c5⟩:=cells6 R2.o
 obtain⟨d0,d1,d2⟩:=cells3 R3.o
 have z2:w.heap.size<wz.heap.size:=(γ R2.o)
 have z3:w.heap.size+1<wz.heap.size:=(γ R3.o)
 go_cut [6] from 22 (fun s6 wc=>s6=.bool (there x sn)∧wz=wc)
 case first=>
  by_cases h0:0≤sn
  ·by_cases h1:sn<(x.net.length:Int)
   ·go_wp2
    go_meet
    case rel=>exact⟨by first|rfl|(simp [there,h0,h1];done),rfl⟩
   ·go_wp2
    go_meet
    case rel=>exact⟨by first|rfl|(simp [there,h0,h1];done)|(simp [there,h0];omega),rfl⟩
  ·go_wp2
   go_meet
   case rel=>exact⟨by first|rfl|(simp [there];done)|(simp [there];omega),rfl⟩
 case rest=>
 obtain⟨rfl,rfl⟩:=hcut
 have hE:doA x ⟨2,sn,sp⟩=x:=by unfold doA;simp [ht]
 have hE2:doErr x ⟨2,sn,sp⟩=6:=by unfold doErr;simp [ht]
 have HE:=η hE
 have HE2:=η hE2
 clear hE hE2
 rw [ht]
 go_wp2_with (first|(refine wpList_store_row rfl (.tmp 4) (.tmp 72) rfl rfl rfl R4.o info_wd rfl rfl ?_))
 intro w7 r7 g7
 obtain⟨p0,p1,p2,p3,p4,p5⟩:=cells6 r7
 clear c0 c1 c2 c3 c4 c5
 go_wp2
 refine bodyPost_ret (v:=.tuple #[.agg #[.slice al x.head.log.length cl,.int .i64 x.head.boot,.int .i64 x.head.next,.slice ao x.head.opn.length co,.slice ah x.houses.length ch,.slice an x.net.length cn],.int .i64 6]) (by simp [results,Try.results138,go_sem,p0,p1,p2,p3,p4,p5]) rfl ?_
 have G7:=G1.o.grown g7 (fun q hq=>by simp at hq;omega)
 rw [HE.o,HE2.o]
 exact⟨_,rfl,HV.o.mono (ov_in HC.o),G7⟩
set_option maxRecDepth 100000 in
set_option maxHeartbeats 4000000 in
theorem ref_do_none3 {c:CM} {v vs:Value} {x:AW} {sn:Int} {sp:List Pt} {n:Nat} {G:Reg} {k:Nat} (w:World) (hc:Sub c w.cell?) (hv:Of Ty.wd c v x) (hs:Of Ty.st c vs ⟨3,sn,sp⟩) (hi:WI n G x) (hf:Few k x) (hk:k≤1000) (ht:there x sn=false):
  Calls Try.prog 138 #[v,vs] w fun e w'=>∃v',e=.returned (.tuple #[v',.int .i64 (doErr x ⟨3,sn,sp⟩)])∧Of Ty.wd (ov c w w') v' (doA x ⟨3,sn,sp⟩)∧Grow w w':=by
 obtain⟨al,cl,ao,co,ah,ch,an,cn,rfl⟩:=hv.wd_form
 obtain⟨ap,cp,rfl⟩:=hs.st_form
 obtain⟨q1,q2,q3⟩:=hv.wd_parts
 have HQ1:=η q1
 have HQ2:=η q2
 have HQ3:=η q3
 have HSP:=η hs.st_parts
 have HHD:=η (hi.hdok hf hk)
 have HWI:=η hi
 have HV:=η hv
 have HC:=η hc
 clear hc hv hs q1 q2 q3 hi hf
 obtain⟨wa,hwa⟩:∃y:World,y=w.alloc (.cells #[.slice al x.head.log.length cl,.int .i64 x.head.boot,.int .i64 x.head.next,.slice ao x.head.opn.length co,.slice ah x.houses.length ch,.slice an x.net.length cn] 93):=⟨_,rfl⟩
 obtain⟨wb,hwb⟩:∃y:World,y=wa.alloc (.cells #[.int .i64 3,.int .i64 sn,.slice ap sp.length cp] 164):=⟨_,rfl⟩
 obtain⟨wz,hwz⟩:∃y:World,y=wb.alloc (.cells #[.slice none 0 0,.int .i64 0,.int .i64 0,.slice none 0 0,.slice none 0 0,.slice none 0 0] 93):=⟨_,rfl⟩
 have hsa:wa.heap.size=w.heap.size+1:=by rw [hwa];simp
 have hsb:wb.heap.size=w.heap.size+2:=by rw [hwb];simp [hsa]
 have R2:Hid (wz.heap[w.heap.size]? =some (.cells #[.slice al x.head.log.length cl,.int .i64 x.head.boot,.int .i64 x.head.next,.slice ao x.head.opn.length co,.slice ah x.houses.length ch,.slice an x.net.length cn] 93 (0,0))):=η (by rw [hwz,hwb,hwa];exact heap_later (heap_later (row_new _ _) _) _)
 have R3:Hid (wz.heap[w.heap.size+1]? =some (.cells #[.int .i64 3,.int .i64 sn,.slice ap sp.length cp] 164 (0,0))):=η (by rw [hwz,hwb,←hsa];exact heap_later (row_new _ _) _)
 have R4:Hid (wz.heap[w.heap.size+2]? =some (.cells #[.slice none 0 0,.int .i64 0,.int .i64 0,.slice none 0 0,.slice none 0 0,.slice none 0 0] 93 (0,0))):=η (by rw [hwz,←hsb];exact row_new _ _)
 have G1:Hid (Grow w wz):=η (by rw [hwz,hwb,hwa];exact(((Grow.refl w).alloc _).alloc _).alloc _)
 have HZ:Hid (wz.heap.size=w.heap.size+3):=η (by rw [hwz];simp [hsb])
 go_enter Try.func138,Try.ntmps138
 go_upto_region 1 with fail
 rw [←hwa]
 try rw [hsa]
 rw [←hwb]
 try rw [hsb]
 rw [←hwz]
 clear hwa hwb hwz hsa hsb
 obtain⟨c0,c1,c2,c3,c4,c5⟩:=cells6 R2.o
 obtain⟨d0,d1,d2⟩:=cells3 R3.o
 have z2:w.heap.size<wz.heap.size:=(γ R2.o)
 have z3:w.heap.size+1<wz.heap.size:=(γ R3.o)
 go_cut [6] from 22 (fun s6 wc=>s6=.bool (there x sn)∧wz=wc)
 case first=>
  by_cases h0:0≤sn
  ·by_cases h1:sn<(x.net.length:Int)
   ·go_wp2
    go_meet
    case rel=>exact⟨by first|rfl|(simp [there,h0,h1];done),rfl⟩
   ·go_wp2
    go_meet
    case rel=>exact⟨by first|rfl|(simp [there,h0,h1];done)|(simp [there,h0];omega),rfl⟩
  ·go_wp2
   go_meet
   case rel=>exact⟨by first|rfl|(simp [there];done)|(simp [there];omega),rfl⟩
 case rest=>
 obtain⟨rfl,rfl⟩:=hcut
 have hE:doA x ⟨3,sn,sp⟩=x:=by unfold doA;simp [ht]
 have hE2:doErr x ⟨3,sn,sp⟩=6:=by unfold doErr;simp [ht]
 have HE:=η hE
 have HE2:=η hE2
 clear hE hE2
 rw [ht]
 go_wp2_with (first|(refine wpList_store_row rfl (.tmp 4) (.tmp 72) rfl rfl rfl R4.o info_wd rfl rfl ?_))
 intro w7 r7 g7
 obtain⟨p0,p1,p2,p3,p4,p5⟩:=cells6 r7
 clear c0 c1 c2 c3 c4 c5
 go_wp2
 refine bodyPost_ret (v:=.tuple #[.agg #[.slice al x.head.log.length cl,.int .i64 x.head.boot,.int .i64 x.head.next,.slice ao x.head.opn.length co,.slice ah x.houses.length ch,.slice an x.net.length cn],.int .i64 6]) (by simp [results,Try.results138,go_sem,p0,p1,p2,p3,p4,p5]) rfl ?_
 have G7:=G1.o.grown g7 (fun q hq=>by simp at hq;omega)
 rw [HE.o,HE2.o]
 exact⟨_,rfl,HV.o.mono (ov_in HC.o),G7⟩
set_option maxRecDepth 100000 in
set_option maxHeartbeats 4000000 in
theorem ref_do_none4 {c:CM} {v vs:Value} {x:AW} {sn:Int} {sp:List Pt} {n:Nat} {G:Reg} {k:Nat} (w:World) (hc:Sub c w.cell?) (hv:Of Ty.wd c v x) (hs:Of Ty.st c vs ⟨4,sn,sp⟩) (hi:WI n G x) (hf:Few k x) (hk:k≤1000) (ht:there x sn=false):
  Calls Try.prog 138 #[v,vs] w fun e w'=>∃v',e=.returned (.tuple #[v',.int .i64 (doErr x ⟨4,sn,sp⟩)])∧Of Ty.wd (ov c w w') v' (doA x ⟨4,sn,sp⟩)∧Grow w w':=by
 obtain⟨al,cl,ao,co,ah,ch,an,cn,rfl⟩:=hv.wd_form
 obtain⟨ap,cp,rfl⟩:=hs.st_form
 obtain⟨q1,q2,q3⟩:=hv.wd_parts
 have HQ1:=η q1
 have HQ2:=η q2
 have HQ3:=η q3
 have HSP:=η hs.st_parts
 have HHD:=η (hi.hdok hf hk)
 have HWI:=η hi
 have HV:=η hv
 have HC:=η hc
 clear hc hv hs q1 q2 q3 hi hf
 obtain⟨wa,hwa⟩:∃y:World,y=w.alloc (.cells #[.slice al x.head.log.length cl,.int .i64 x.head.boot,.int .i64 x.head.next,.slice ao x.head.opn.length co,.slice ah x.houses.length ch,.slice an x.net.length cn] 93):=⟨_,rfl⟩
 obtain⟨wb,hwb⟩:∃y:World,y=wa.alloc (.cells #[.int .i64 4,.int .i64 sn,.slice ap sp.length cp] 164):=⟨_,rfl⟩
 obtain⟨wz,hwz⟩:∃y:World,y=wb.alloc (.cells #[.slice none 0 0,.int .i64 0,.int .i64 0,.slice none 0 0,.slice none 0 0,.slice none 0 0] 93):=⟨_,rfl⟩
 have hsa:wa.heap.size=w.heap.size+1:=by rw [hwa];simp
 have hsb:wb.heap.size=w.heap.size+2:=by rw [hwb];simp [hsa]
 have R2:Hid (wz.heap[w.heap.size]? =some (.cells #[.slice al x.head.log.length cl,.int .i64 x.head.boot,.int .i64 x.head.next,.slice ao x.head.opn.length co,.slice ah x.houses.length ch,.slice an x.net.length cn] 93 (0,0))):=η (by rw [hwz,hwb,hwa];exact heap_later (heap_later (row_new _ _) _) _)
 have R3:Hid (wz.heap[w.heap.size+1]? =some (.cells #[.int .i64 4,.int .i64 sn,.slice ap sp.length cp] 164 (0,0))):=η (by rw [hwz,hwb,←hsa];exact heap_later (row_new _ _) _)
 have R4:Hid (wz.heap[w.heap.size+2]? =some (.cells #[.slice none 0 0,.int .i64 0,.int .i64 0,.slice none 0 0,.slice none 0 0,.slice none 0 0] 93 (0,0))):=η (by rw [hwz,←hsb];exact row_new _ _)
 have G1:Hid (Grow w wz):=η (by rw [hwz,hwb,hwa];exact(((Grow.refl w).alloc _).alloc _).alloc _)
 have HZ:Hid (wz.heap.size=w.heap.size+3):=η (by rw [hwz];simp [hsb])
 go_enter Try.func138,Try.ntmps138
 go_upto_region 1 with fail
 rw [←hwa]
 try rw [hsa]
 rw [←hwb]
 try rw [hsb]
 rw [←hwz]
 clear hwa hwb hwz hsa hsb
 obtain⟨c0,c1,c2,c3,c4,c5⟩:=cells6 R2.o
 obtain⟨d0,d1,d2⟩:=cells3 R3.o
 have z2:w.heap.size<wz.heap.size:=(γ R2.o)
 have z3:w.heap.size+1<wz.heap.size:=(γ R3.o)
 go_cut [6] from 22 (fun s6 wc=>s6=.bool (there x sn)∧wz=wc)
 case first=>
  by_cases h0:0≤sn
  ·by_cases h1:sn<(x.net.length:Int)
   ·go_wp2
    go_meet
    case rel=>exact⟨by first|rfl|(simp [there,h0,h1];done),rfl⟩
   ·go_wp2
    go_meet
    case rel=>exact⟨by first|rfl|(simp [there,h0,h1];done)|(simp [there,h0];omega),rfl⟩
  ·go_wp2
   go_meet
   case rel=>exact⟨by first|rfl|(simp [there];done)|(simp [there];omega),rfl⟩
 case rest=>
 obtain⟨rfl,rfl⟩:=hcut
 have hE:doA x ⟨4,sn,sp⟩=x:=by unfold doA;simp [ht]
 have hE2:doErr x ⟨4,sn,sp⟩=6:=by unfold doErr;simp [ht]
 have HE:=η hE
 have HE2:=η hE2
 clear hE hE2
 rw [ht]
 go_wp2_with (first|(refine wpList_store_row rfl (.tmp 4) (.tmp 72) rfl rfl rfl R4.o info_wd rfl rfl ?_))
 intro w7 r7 g7
 obtain⟨p0,p1,p2,p3,p4,p5⟩:=cells6 r7
 clear c0 c1 c2 c3 c4 c5
 go_wp2
 refine bodyPost_ret (v:=.tuple #[.agg #[.slice al x.head.log.length cl,.int .i64 x.head.boot,.int .i64 x.head.next,.slice ao x.head.opn.length co,.slice ah x.houses.length ch,.slice an x.net.length cn],.int .i64 6]) (by simp [results,Try.results138,go_sem,p0,p1,p2,p3,p4,p5]) rfl ?_
 have G7:=G1.o.grown g7 (fun q hq=>by simp at hq;omega)
 rw [HE.o,HE2.o]
 exact⟨_,rfl,HV.o.mono (ov_in HC.o),G7⟩
set_option maxRecDepth 100000 in
set_option maxHeartbeats 4000000 in
theorem ref_do_else {c:CM} {v vs:Value} {x:AW} {kd sn:Int} {sp:List Pt} {n:Nat} {G:Reg} {k:Nat} (w:World) (hc:Sub c w.cell?) (hv:Of Ty.wd c v x) (hs:Of Ty.st c vs ⟨kd,sn,sp⟩) (hi:WI n G x) (hf:Few k x) (hk:k≤1000) (hkd:kd<1∨7<kd):
  Calls Try.prog 138 #[v,vs] w fun e w'=>∃v',e=.returned (.tuple #[v',.int .i64 (doErr x ⟨kd,sn,sp⟩)])∧Of Ty.wd (ov c w w') v' (doA x ⟨kd,sn,sp⟩)∧Grow w w':=by
 obtain⟨al,cl,ao,co,ah,ch,an,cn,rfl⟩:=hv.wd_form
 obtain⟨ap,cp,rfl⟩:=hs.st_form
 obtain⟨q1,q2,q3⟩:=hv.wd_parts
 have HQ1:=η q1
 have HQ2:=η q2
 have HQ3:=η q3
 have HSP:=η hs.st_parts
 have HHD:=η (hi.hdok hf hk)
 have HWI:=η hi
 have HV:=η hv
 have HC:=η hc
 clear hc hv hs q1 q2 q3 hi hf
 obtain⟨wa,hwa⟩:∃y:World,y=w.alloc (.cells #[.slice al x.head.log.length cl,.int .i64 x.head.boot,.int .i64 x.head.next,.slice ao x.head.opn.length co,.slice ah x.houses.length ch,.slice an x.net.length cn] 93):=⟨_,rfl⟩
 obtain⟨wb,hwb⟩:∃y:World,y=wa.alloc (.cells #[.int .i64 kd,.int .i64 sn,.slice ap sp.length cp] 164):=⟨_,rfl⟩
 obtain⟨wz,hwz⟩:∃y:World,y=wb.alloc (.cells #[.slice none 0 0,.int .i64 0,.int .i64 0,.slice none 0 0,.slice none 0 0,.slice none 0 0] 93):=⟨_,rfl⟩
 have hsa:wa.heap.size=w.heap.size+1:=by rw [hwa];simp
 have hsb:wb.heap.size=w.heap.size+2:=by rw [hwb];simp [hsa]
 have R2:Hid (wz.heap[w.heap.size]? =some (.cells #[.slice al x.head.log.length cl,.int .i64 x.head.boot,.int .i64 x.head.next,.slice ao x.head.opn.length co,.slice ah x.houses.length ch,.slice an x.net.length cn] 93 (0,0))):=η (by rw [hwz,hwb,hwa];exact heap_later (heap_later (row_new _ _) _) _)
 have R3:Hid (wz.heap[w.heap.size+1]? =some (.cells #[.int .i64 kd,.int .i64 sn,.slice ap sp.length cp] 164 (0,0))):=η (by rw [hwz,hwb,←hsa];exact heap_later (row_new _ _) _)
 have R4:Hid (wz.heap[w.heap.size+2]? =some (.cells #[.slice none 0 0,.int .i64 0,.int .i64 0,.slice none 0 0,.slice none 0 0,.slice none 0 0] 93 (0,0))):=η (by rw [hwz,←hsb];exact row_new _ _)
 have G1:Hid (Grow w wz):=η (by rw [hwz,hwb,hwa];exact(((Grow.refl w).alloc _).alloc _).alloc _)
 have HZ:Hid (wz.heap.size=w.heap.size+3):=η (by rw [hwz];simp [hsb])
 go_enter Try.func138,Try.ntmps138
 go_upto_region 1 with fail
 rw [←hwa]
 try rw [hsa]
 rw [←hwb]
 try rw [hsb]
 rw [←hwz]
 clear hwa hwb hwz hsa hsb
 obtain⟨c0,c1,c2,c3,c4,c5⟩:=cells6 R2.o
 obtain⟨d0,d1,d2⟩:=cells3 R3.o
 have z2:w.heap.size<wz.heap.size:=(γ R2.o)
 have z3:w.heap.size+1<wz.heap.size:=(γ R3.o)
 go_cut [6] from 22 (fun s6 wc=>s6=.bool (there x sn)∧wz=wc)
 case first=>
  by_cases h0:0≤sn
  ·by_cases h1:sn<(x.net.length:Int)
   ·go_wp2
    go_meet
    case rel=>exact⟨by first|rfl|(simp [there,h0,h1];done),rfl⟩
   ·go_wp2
    go_meet
    case rel=>exact⟨by first|rfl|(simp [there,h0,h1];done)|(simp [there,h0];omega),rfl⟩
  ·go_wp2
   go_meet
   case rel=>exact⟨by first|rfl|(simp [there];done)|(simp [there];omega),rfl⟩
 case rest=>
 obtain⟨rfl,rfl⟩:=hcut
 have e1:(kd==1)=false:=by rw [beq_eq_false_iff_ne];omega
 have e2:(kd==2)=false:=by rw [beq_eq_false_iff_ne];omega
 have e3:(kd==3)=false:=by rw [beq_eq_false_iff_ne];omega
 have e4:(kd==4)=false:=by rw [beq_eq_false_iff_ne];omega
 have e5:(kd==5)=false:=by rw [beq_eq_false_iff_ne];omega
 have e6:(kd==6)=false:=by rw [beq_eq_false_iff_ne];omega
 have e7:(kd==7)=false:=by rw [beq_eq_false_iff_ne];omega
 have HE:Hid (doA x ⟨kd,sn,sp⟩=x):=η (by unfold doA;simp only;rw [if_neg (by omega),if_neg (by omega),if_neg (by omega),if_neg (by omega),if_neg (by omega),if_neg (by omega),if_neg (by omega)])
 have HE2:Hid (doErr x ⟨kd,sn,sp⟩=1):=η (by unfold doErr;simp only;rw [if_neg (by omega),if_neg (by omega),if_neg (by omega),if_neg (by omega),if_neg (by omega)])
 clear hkd
 go_wp2_with (first|(refine wpList_store_row rfl (.tmp 4) (.tmp 35) rfl rfl rfl R4.o info_wd rfl rfl ?_))
 intro w7 r7 g7
 obtain⟨p0,p1,p2,p3,p4,p5⟩:=cells6 r7
 clear c0 c1 c2 c3 c4 c5
 go_wp2
 refine bodyPost_ret (v:=.tuple #[.agg #[.slice al x.head.log.length cl,.int .i64 x.head.boot,.int .i64 x.head.next,.slice ao x.head.opn.length co,.slice ah x.houses.length ch,.slice an x.net.length cn],.int .i64 1]) (by simp [results,Try.results138,go_sem,p0,p1,p2,p3,p4,p5]) rfl ?_
 have G7:=G1.o.grown g7 (fun q hq=>by simp at hq;omega)
 rw [HE.o,HE2.o]
 exact⟨_,rfl,HV.o.mono (ov_in HC.o),G7⟩
theorem ref_do_step {c:CM} {v vs:Value} {x:AW} {s:St} {n:Nat} {G:Reg} {k:Nat} (w:World) (hc:Sub c w.cell?) (hv:Of Ty.wd c v x) (hs:Of Ty.st c vs s) (hi:WI n G x) (hf:Few k x) (hk:k≤1000):
  Calls Try.prog 138 #[v,vs] w fun e w'=>∃v',e=.returned (.tuple #[v',.int .i64 (doErr x s)])∧Of Ty.wd (ov c w w') v' (doA x s)∧Grow w w':=by
 obtain⟨kd,sn,sp⟩:=s
 by_cases h1:kd=1
 ·subst h1
  by_cases hw:wrongE sp x.houses.length=0
  ·exact ref_do_begin w hc hv hs hi hf hk hw
  ·exact ref_do_beginX w hc hv hs hi hf hk hw
 by_cases h2:kd=2
 ·subst h2
  cases ht:there x sn with
  |true=>exact ref_do_come w hc hv hs hi hf hk ht
  |false=>exact ref_do_none2 w hc hv hs hi hf hk ht
 by_cases h3:kd=3
 ·subst h3
  cases ht:there x sn with
  |true=>exact ref_do_lose w hc hv hs hi hf hk ht
  |false=>exact ref_do_none3 w hc hv hs hi hf hk ht
 by_cases h4:kd=4
 ·subst h4
  cases ht:there x sn with
  |true=>exact ref_do_twice w hc hv hs hi hf hk ht
  |false=>exact ref_do_none4 w hc hv hs hi hf hk ht
 by_cases h5:kd=5
 ·subst h5
  by_cases hs3:sn=3
  ·exact ref_do_fall3 w hc hv hs hi hf hk hs3
  ·exact ref_do_fallH w hc hv hs hi hf hk hs3
 by_cases h6:kd=6
 ·subst h6
  by_cases hs3:sn=3
  ·exact ref_do_tick3 w hc hv hs hi hf hk hs3
  ·cases hh:hereN x sn with
   |true=>exact ref_do_tickH w hc hv hs hi hf hk hh
   |false=>exact ref_do_tickN w hc hv hs hi hf hk hs3 hh
 by_cases h7:kd=7
 ·subst h7
  exact ref_do_quit w hc hv hs hi hf hk
 ·exact ref_do_else w hc hv hs hi hf hk (by omega)
theorem fc_cell {c:CM} {W0 w:World} {X:List (Option Nat)} (h:Sub c w.cell?):Sub (fc c W0 w X) w.cell?:=fun a v e=>by
 unfold fc at e
 split at e
 ·exact h _ _ e
 ·exact fr_sub _ _ _ _ _ e
theorem fc_call {c:CM} {W0 wr W W1:World} {X:List (Option Nat)} (h1:Grow wr W1) (h0:W0.heap.size≤W.heap.size) (hX:∀k,W.heap.size≤k→some k∉X):Sub (ov (fc c W0 wr X) W W1) (fc c W0 W1 X):=fun a v e=>by
 unfold ov at e
 split at e
 ·exact fc_grow h1 a v e
 ·rw [fc_new (by omega) (hX _ (by omega))];exact e
theorem wrongGo_le (h:Int):∀(l:List Pt) (had:List (Int×Int)),0≤wrongGo h had l∧wrongGo h had l≤5
 | [],had=>by simp [wrongGo]
 |p::l,had=>by
  unfold wrongGo
  split
  ·omega
  ·split
   ·omega
   ·exact wrongGo_le h l _
theorem doErr_ok (x:AW) (s:St):I64 (doErr x s):=by
 have h:0≤doErr x s∧doErr x s≤9:=by
  unfold doErr
  split
  ·split
   ·unfold beginE;split<;>omega
   ·unfold wrongE
    split
    ·omega
    ·have:=wrongGo_le x.houses.length s.parts []
     omega
  ·split
   ·split<;>omega
   ·split
    ·split
     ·unfold fallE;split<;>omega
     ·split<;>omega
    ·split
     ·split<;>omega
     ·split<;>omega
 exact i64_of (by omega) (by omega)
set_option maxRecDepth 100000 in
set_option maxHeartbeats 4000000 in
theorem ref_playC {c:CM} {v:Value} {l:List St} {n:Nat} (w:World) (hn:1≤n∧n≤3) (hc:Sub c w.cell?) (hv:Sl Ty.st c v l):
  Calls Try.prog 72 #[.int .i64 n,v] w fun e w'=>∃v1 v2,e=.returned (.tuple #[v1,v2])∧Of Ty.wd (ov c w w') v1 (playA (newA n) (l.take 150))∧Sl Ty.int (ov (fun _=>none) w w') v2 (playE (newA n) (l.take 150))∧Grow w w':=by
 have HC:=η hc
 clear hc
 obtain⟨a,cap,rfl,h1,h2,-,hel⟩:=hv
 unfold maxLen at h2
 have HN:=η hn
 clear hn
 obtain⟨wb,hwb⟩:∃y:World,y=w.alloc (.cells #[.slice none 0 0,.int .i64 0,.int .i64 0,.slice none 0 0,.slice none 0 0,.slice none 0 0] 93):=⟨_,rfl⟩
 have RB:Hid (wb.heap[w.heap.size]? =some (.cells #[.slice none 0 0,.int .i64 0,.int .i64 0,.slice none 0 0,.slice none 0 0,.slice none 0 0] 93 (0,0))):=η (by rw [hwb];exact row_new _ _)
 have GB0:Hid (Grow w wb):=η (by rw [hwb];exact(Grow.refl w).alloc _)
 have HSB:Hid (wb.heap.size=w.heap.size+1):=η (by rw [hwb];simp)
 have HWB:=η hwb
 clear hwb
 go_enter Try.func72,Try.ntmps72
 go_upto_region 1 with fail
 rw [←HWB.o]
 clear HWB
 go_wp2_with fail
 refine(ref_newN wb HN.o).mono ?_
 rintro e w2 ⟨v2,rfl,hx2,hb2⟩
 obtain⟨al,cl,ao,co,ah,ch,an,cn,rfl⟩:=hx2.wd_form
 have HX2:Hid (Of Ty.wd (wo w.heap.size (ov c w w2)) _ (newA n)):=η (hx2.mono (fun a9 v9 e9=>by
  unfold ov at e9
  split at e9
  ·cases e9
  ·unfold wo
   rw [if_neg (by have:=HSB.o;omega),ov_new (by have:=HSB.o;omega)];exact e9))
 have G2:=η (GB0.o.trans hb2)
 have RB2:=η (row_grow RB.o hb2)
 have HSW:Hid (w.heap.size<w2.heap.size):=η (by have:=hb2.size;have:=HSB.o;omega)
 have HC2:Hid (Sub c (wo w.heap.size (ov c w w2))):=η (wo_ov_in HC.o (Nat.le_refl _))
 clear hx2 hb2
 obtain⟨x0,hx0⟩:∃y,y=newA n:=⟨_,rfl⟩
 rw [←hx0] at HX2 ⊢
 have HX0:=η hx0
 clear hx0
 go_upto_region 2 with fail
 obtain⟨wz,hwz⟩:∃y:World,y=w2.alloc (.cells #[.slice al x0.head.log.length cl,.int .i64 x0.head.boot,.int .i64 x0.head.next,.slice ao x0.head.opn.length co,.slice ah x0.houses.length ch,.slice an x0.net.length cn] 93):=⟨_,rfl⟩
 obtain⟨B6,hB6⟩:∃y,y=w2.heap.size:=⟨_,rfl⟩
 have GZ:Hid (Grow w2 wz):=η (by rw [hwz];exact(Grow.refl _).alloc _)
 have R6:Hid (wz.heap[B6]? =some (.cells #[.slice al x0.head.log.length cl,.int .i64 x0.head.boot,.int .i64 x0.head.next,.slice ao x0.head.opn.length co,.slice ah x0.houses.length ch,.slice an x0.net.length cn] 93 (0,0))):=η (by rw [hwz,hB6];exact row_new _ _)
 have HZB:Hid (wz.heap.size=B6+1):=η (by rw [hwz,hB6];simp)
 have HB2:Hid (B6=w2.heap.size):=η hB6
 rw [←hwz,←hB6]
 clear hwz hB6
 go_wp2
 go_loopw [8,20] (fun s8 i wr=>∃(k:Nat) (row:Array Value),k≤l.length∧k≤150∧i=.int .i64 k∧wr.heap[B6]? =some (.cells row 93 (0,0))∧Of Ty.wd (fc (wo w.heap.size (ov c w w2)) wz wr [s8.ownBlock]) (.agg row) (playA x0 (l.take k))∧OwnC Ty.int (fun _=>none) wr (B6+1) 40 s8 (playE x0 (l.take k))∧Grow w2 wr) (fun _ i _=>l.length - (intOf i).toNat)
 case atStart=>exact⟨0,_,by omega,by omega,rfl,R6.o,HX2.o.mono (fc_in ((wo_ov_sub HC.o G2.o).trans GZ.o.sub)),OwnC.nil _ _ _ _ _,GZ.o⟩
 case round=>
  obtain⟨k,row,hk',hk5,rfl,hrow,hx,how,hb⟩:=hrel
  have HEL:Hid (I64 (0:Int)):=η zero_ok
  obtain⟨a8,c8,rfl⟩:=how.form
  obtain⟨al2,cl2,ao2,co2,ah2,ch2,an2,cn2,hrw⟩:=hx.wd_form
  simp only [Value.agg.injEq] at hrw
  subst hrw
  have HPL:Hid ((playE x0 (l.take k)).length≤150):=η (by rw [playE_len,List.length_take];omega)
  have HWI:Hid (∃G,WI n G (playA x0 (l.take k))):=η (by rw [HX0.o];obtain⟨G,hw,-⟩:=WI.of_play HN.o (l.take k);exact⟨G,hw⟩)
  have HFW:Hid (Few k (playA x0 (l.take k))):=η (by rw [HX0.o];have h9:=Few.play n (l.take k) (Few.zero n);rw [List.length_take,Nat.min_eq_left hk',Nat.zero_add] at h9;exact h9)
  have HROW:=η hrow
  have HX:=η hx
  have HOW:=η how
  have HB:=η hb
  have RZR:=η (row_grow RB2.o hb)
  have hBr:B6<wr.heap.size:=(γ hrow)
  have HCR:Hid (Sub (fc (wo w.heap.size (ov c w w2)) wz wr [(Value.slice a8 (playE x0 (l.take k)).length c8).ownBlock]) wr.cell?):=η (fc_cell ((wo_ov_sub HC.o G2.o).trans hb.sub))
  have HLT8:Hid (∀q,(Value.slice a8 (playE x0 (l.take k)).length c8).ownBlock=some q→B6+1≤q∧q<wr.heap.size):=η how.lt
  clear hrow hx how hb
  by_cases hlt:k<l.length
  ·obtain⟨b,o,vp,rfl,c0,c1,c2,i0,i1,hP⟩:=Sts.at_ hel k hlt
   obtain⟨ap,cp,rfl,-⟩:=id hP
   have HST:Hid (Of Ty.st c (.agg #[.int .i64 l[k].kind,.int .i64 l[k].n,.slice ap l[k].parts.length cp]) l[k]):=η ⟨_,rfl,_,rfl,i0,i1,hP⟩
   have HNA:Hid (playA x0 (l.take (k+1))=doA (playA x0 (l.take k)) l[k]):=η (playA_next hlt x0)
   have HNE:Hid (playE x0 (l.take (k+1))=playE x0 (l.take k)++ [doErr (playA x0 (l.take k)) l[k]]):=η (playE_next hlt x0)
   have HTA:Hid (k=150→playA x0 (l.take 150)=playA x0 (l.take k)∧playE x0 (l.take 150)=playE x0 (l.take k)):=η (fun e=>by rw [e];exact⟨rfl,rfl⟩)
   have gs:=G2.o.trans HB.o
   replace c0:=gs.sub _ _ (HC.o _ _ c0)
   replace c1:=gs.sub _ _ (HC.o _ _ c1)
   replace c2:=gs.sub _ _ (HC.o _ _ c2)
   clear hel hP i0 i1 gs
   generalize l[k]=st at*
   generalize playA x0 (l.take k)=x at*
   generalize playE x0 (l.take k)=es at*
   go_upto_region 6 with fail
   obtain⟨ws,hws⟩:∃y:World,y=wr.alloc (.cells #[.int .i64 st.kind,.int .i64 st.n,.slice ap st.parts.length cp] 164):=⟨_,rfl⟩
   obtain⟨BS,hBS⟩:∃y,y=wr.heap.size:=⟨_,rfl⟩
   have GS:Hid (Grow wr ws):=η (by rw [hws];exact(Grow.refl _).alloc _)
   have RS:Hid (ws.heap[BS]? =some (.cells #[.int .i64 st.kind,.int .i64 st.n,.slice ap st.parts.length cp] 164 (0,0))):=η (by rw [hws,hBS];exact row_new _ _)
   rw [←hws,←hBS]
   clear hws hBS c0 c1 c2
   have RWS:=η (row_grow HROW.o GS.o)
   have RZS:=η (row_grow RZR.o GS.o)
   have GBS:=η (HB.o.trans GS.o)
   have HXS:=η (HX.o.mono (fc_grow GS.o))
   have HOS:=η (HOW.o.grow GS.o)
   obtain⟨x1,x2,x3,x4,x5,x6⟩:=cells6 RWS.o
   obtain⟨s0,s1,s2⟩:=cells3 RS.o
   have zX:B6<ws.heap.size:=(γ RWS.o)
   have zS:BS<ws.heap.size:=(γ RS.o)
   by_cases h150:k=150
   ·have hb150:((k:Int)==150)=true:=by simp;omega
    obtain⟨ea,ee⟩:=HTA.o h150
    have HEA:=η ea
    have HEE:=η ee
    clear ea ee h150
    go_wp2_with (first|(refine wpList_store_row rfl (.tmp 4) (.tmp 39) rfl rfl rfl RZS.o info_wd rfl rfl ?_))
    intro w7 r7 g7
    obtain⟨p0,p1,p2,p3,p4,p5⟩:=cells6 r7
    clear x1 x2 x3 x4 x5 x6
    go_wp2
    refine bodyPost_ret (v:=.tuple #[.agg #[.slice al2 x.head.log.length cl2,.int .i64 x.head.boot,.int .i64 x.head.next,.slice ao2 x.head.opn.length co2,.slice ah2 x.houses.length ch2,.slice an2 x.net.length cn2],.slice a8 es.length c8]) (by simp [results,Try.results72,go_sem,p0,p1,p2,p3,p4,p5]) rfl ?_
    have hs1:=HSW.o
    have hs2:=HB2.o
    have hsub:Sub (fc (wo w.heap.size (ov c w w2)) wz ws [(Value.slice a8 es.length c8).ownBlock]) (ov c w w7):=fun a9 v9 e9=>by
     have hl:=HZB.o
     unfold fc at e9
     split at e9
     ·have e8:=wo_sub _ _ _ _ e9
      unfold ov at e8 ⊢
      split at e8
      ·rw [if_pos ‹_›];exact e8
      ·rw [if_neg ‹_›];exact cell_past (GBS.o.sub _ _ e8) g7 (wo_ne e9)
     ·rw [ov_new (by omega)];exact cell_past (fr_sub _ _ _ _ _ e9) g7 (by omega)
    have G7:Grow w w7:=(G2.o.trans GBS.o).grown g7 (fun q hq=>by have:=Option.some.inj hq;omega)
    rw [←HX0.o,HEA.o,HEE.o]
    exact⟨_,_,rfl,HXS.o.mono hsub,(HOS.o.kept g7 (own_apart HOS.o (by omega))).slc (by decide) (fun _ _ e9=>by cases e9) fun a9 h9=>ov_new (by omega),G7⟩
   ·have hb150:((k:Int)==150)=false:=by simp;omega
    obtain⟨G,hwi⟩:=HWI.o
    have HDO:=η (ref_do_step (s:=st) ws ((HCR.o).trans GS.o.sub) HX.o (HST.o.mono (HC2.o.trans (fc_in ((wo_ov_sub HC.o G2.o).trans GZ.o.sub)))) hwi HFW.o (by omega))
    clear hwi HWI HFW HTA
    go_wp2_with fail
    refine HDO.o.mono ?_
    rintro e w3 ⟨v3,rfl,hx3,hb3⟩
    obtain⟨al3,cl3,ao3,co3,ah3,ch3,an3,cn3,rfl⟩:=hx3.wd_form
    have HX3:Hid (Of Ty.wd (fc (wo w.heap.size (ov c w w2)) wz w3 [(Value.slice a8 es.length c8).ownBlock]) (.agg #[.slice al3 (doA x st).head.log.length cl3,.int .i64 (doA x st).head.boot,.int .i64 (doA x st).head.next,.slice ao3 (doA x st).head.opn.length co3,.slice ah3 (doA x st).houses.length ch3,.slice an3 (doA x st).net.length cn3]) (doA x st)):=η (hx3.mono (fc_call (GS.o.trans hb3) (by have:=HZB.o;omega) (fun k9 hk9=>by simp only [List.mem_singleton];intro e9;have:=(HLT8.o _ e9.symm).2;have:=GS.o.size;omega)))
    have RW3:=η (row_grow RWS.o hb3)
    have RZ3:=η (row_grow RZS.o hb3)
    have GB3:=η (GBS.o.trans hb3)
    have HO3:=η (HOS.o.grow hb3)
    have HEI:=η (doErr_ok x st)
    clear hx3 hb3 HDO x1 x2 x3 x4 x5 x6 s0 s1 s2 zX zS
    generalize doA x st=y at*
    generalize doErr x st=er at*
    go_upto_region 8 with fail
    obtain⟨w4,hw4⟩:∃y9:World,y9=w3.alloc (.cells #[.slice al3 y.head.log.length cl3,.int .i64 y.head.boot,.int .i64 y.head.next,.slice ao3 y.head.opn.length co3,.slice ah3 y.houses.length ch3,.slice an3 y.net.length cn3] 93):=⟨_,rfl⟩
    obtain⟨BX,hBX⟩:∃y9,y9=w3.heap.size:=⟨_,rfl⟩
    have G34:Hid (Grow w3 w4):=η (by rw [hw4];exact(Grow.refl _).alloc _)
    have RX4:Hid (w4.heap[BX]? =some (.cells #[.slice al3 y.head.log.length cl3,.int .i64 y.head.boot,.int .i64 y.head.next,.slice ao3 y.head.opn.length co3,.slice ah3 y.houses.length ch3,.slice an3 y.net.length cn3] 93 (0,0))):=η (by rw [hw4,hBX];exact row_new _ _)
    have HBX:Hid (BX=w3.heap.size):=η hBX
    rw [←hw4,←hBX]
    clear hw4 hBX
    have RW4:=η (row_grow RW3.o G34.o)
    obtain⟨x1,x2,x3,x4,x5,x6⟩:=cells6 RX4.o
    have zX:BX<w4.heap.size:=(γ RX4.o)
    go_wp2_with (first|(refine wpList_store_row rfl (.tmp 6) (.tmp 33) rfl rfl rfl RW4.o info_wd rfl rfl ?_))
    intro w5 r5 g5
    have R65:=η r5
    have GB5:=η ((GB3.o.trans G34.o).grown g5 (fun q hq=>by have:=Option.some.inj hq;have:=HB2.o;omega))
    have HX5:=η ((HX3.o.mono (fc_grow G34.o)).mono (fc_box g5 (by have:=HZB.o;omega)))
    have HO5:=η ((HO3.o.grow G34.o).kept g5 (own_apart HO3.o (by omega)))
    have HS5:Hid (B6+1≤w5.heap.size):=η (by have:=(γ r5);omega)
    clear r5 g5 x1 x2 x3 x4 x5 x6 zX
    go_wp2_with (first|(at_builtin;refine wpList_appc (c:=fun _=>none) (base:=B6+1) (l:=es) (m:=[er]) ei_errno rfl one_Tint (by decide) rfl (.tmp 34) (.tmp 36) rfl rfl (HO5.o.grow ((Grow.refl _).alloc _)) rfl (Src.of_new (T:=Ty.int) (x:=er) (cs:=#[.int .i64 er]) ⟨rfl,HEI.o⟩ _ _ ?d1) ?d2 ?d3 ?_))
    case d1=>first|rfl|simp
    case d2=>have:=HPL.o;simp;omega
    case d3=>have:=HS5.o;simp;omega
    intro a9 c9 w9 ho9 hg9 hb9
    have HLT5:=HO5.o.lt
    have HX9:=η ((HX5.o.mono (fc_grow ((Grow.refl w5).alloc (.cells #[.int .i64 er] 40)))).mono (fc_app hg9 (hb9.imp_right fun⟨g,e,hge⟩=>⟨g,e,by simpa using hge⟩)))
    have R69:=η (row_by (row_grow R65.o ((Grow.refl w5).alloc (.cells #[.int .i64 er] 40))) hg9 (by intro e;have:=(HLT5 _ e.symm).1;omega))
    have GB9:=η ((GB5.o.alloc (.cells #[.int .i64 er] 40)).grown hg9 (fun q hq=>by have:=(HLT5 q hq).1;have:=HB2.o;omega))
    have HO9:=η ho9
    clear ho9 hg9 hb9 HLT5
    go_wp2
    go_roundw
    case rel=>exact⟨k+1,_,by omega,by omega,by go_num,R69.o,by rw [HNA.o];exact HX9.o,by rw [HNE.o];exact HO9.o,GB9.o⟩
    case measure=>simp [intOf];omega
  ·have HEA:Hid (playA x0 (l.take 150)=playA x0 (l.take k)):=η (by rw [List.take_of_length_le (by omega),List.take_of_length_le (by omega)])
   have HEE:Hid (playE x0 (l.take 150)=playE x0 (l.take k)):=η (by rw [List.take_of_length_le (by omega),List.take_of_length_le (by omega)])
   clear hel
   generalize playA x0 (l.take k)=x at*
   generalize playE x0 (l.take k)=es at*
   have RZS:=η RZR.o
   have GBS:=η HB.o
   have HXS:=η HX.o
   have HOS:=η HOW.o
   obtain⟨x1,x2,x3,x4,x5,x6⟩:=cells6 HROW.o
   go_wp2_with (first|(refine wpList_store_row rfl (.tmp 4) (.tmp 39) rfl rfl rfl RZS.o info_wd rfl rfl ?_))
   intro w7 r7 g7
   obtain⟨p0,p1,p2,p3,p4,p5⟩:=cells6 r7
   clear x1 x2 x3 x4 x5 x6
   go_wp2
   refine bodyPost_ret (v:=.tuple #[.agg #[.slice al2 x.head.log.length cl2,.int .i64 x.head.boot,.int .i64 x.head.next,.slice ao2 x.head.opn.length co2,.slice ah2 x.houses.length ch2,.slice an2 x.net.length cn2],.slice a8 es.length c8]) (by simp [results,Try.results72,go_sem,p0,p1,p2,p3,p4,p5]) rfl ?_
   have hs1:=HSW.o
   have hs2:=HB2.o
   have hsub:Sub (fc (wo w.heap.size (ov c w w2)) wz wr [(Value.slice a8 es.length c8).ownBlock]) (ov c w w7):=fun a9 v9 e9=>by
    have hl:=HZB.o
    unfold fc at e9
    split at e9
    ·have e8:=wo_sub _ _ _ _ e9
     unfold ov at e8 ⊢
     split at e8
     ·rw [if_pos ‹_›];exact e8
     ·rw [if_neg ‹_›];exact cell_past (GBS.o.sub _ _ e8) g7 (wo_ne e9)
    ·rw [ov_new (by omega)];exact cell_past (fr_sub _ _ _ _ _ e9) g7 (by omega)
   have G7:Grow w w7:=(G2.o.trans GBS.o).grown g7 (fun q hq=>by have:=Option.some.inj hq;omega)
   rw [←HX0.o,HEA.o,HEE.o]
   exact⟨_,_,rfl,HXS.o.mono hsub,(HOS.o.kept g7 (own_apart HOS.o (by omega))).slc (by decide) (fun _ _ e9=>by cases e9) fun a9 h9=>ov_new (by omega),G7⟩
theorem ref_play {v:Value} {l:List St} {n:Nat} (w:World) (hn:1≤n∧n≤3) (hv:Sl Ty.st w.cell? v l):
  Calls Try.prog 72 #[.int .i64 n,v] w fun e w'=>∃v1 v2,e=.returned (.tuple #[v1,v2])∧Of Ty.wd w'.cell? v1 (playA (newA n) (l.take 150))∧Sl Ty.int w'.cell? v2 (playE (newA n) (l.take 150))∧Grow w w':=
 (ref_playC w hn (Sub.refl _) hv).mono fun _ w' ⟨v1,v2,he,h1,h2,hg⟩=>⟨v1,v2,he,h1.mono (ov_sub (Sub.refl _) hg),h2.mono (ov_none_sub w w'),hg⟩
section
variable {P:Program} {ops:Array Oper} {Q:Exit→Act→World→Prop} {md:Region.Mode} {S:World→Prop} {C:List Nat}
theorem tUc {i:Nat} {is:List Nat} {fuel:Nat} {listed:Array Bool} {a:Act} {w:World} {oi:Oper} (hi:ops[i]? =some oi) (hw:Region.wanted oi (yielded ops a.tmps)=false)
  (h:tkC P md ops Q S C w is fuel (listed.setIfInBounds i true) (a.put oi.dst undef)):tkC P md ops Q S C w (i::is) (fuel+1) listed a:=⟨fuel,oi,undef,rfl,hi,.inr ⟨hw,rfl⟩,h⟩
end
end Go.Proofs.Ytgbhpghgohggcaa
