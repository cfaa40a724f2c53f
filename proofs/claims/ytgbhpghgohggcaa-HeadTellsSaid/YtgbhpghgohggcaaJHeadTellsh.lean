/- The parts that HeadTells is proved of, joined: U14, U23, U25, G12, K23, Trod, Trod2, Trod3. No condition beside those that each theorem names. -/
import Derived.Deep.Slices
import Derived.OpenShut
import Derived.Below
import Derived.ChangeOld
import Derived.ProofKit
import Derived.SizedLaws
import Derived.Test.YtgbhpghgohggcaaJHeadTellsg
namespace Go.Proofs.Ytgbhpghgohggcaa
open Go.RowKit
set_option maxRecDepth 100000 in
set_option maxHeartbeats 4000000 in
theorem ref_do_fall3 {c:CM} {v vs:Value} {x:AW} {sn:Int} {sp:List Pt} {n:Nat} {G:Reg} {k:Nat} (w:World) (hc:Sub c w.cell?) (hv:Of Ty.wd c v x) (hs:Of Ty.st c vs ⟨5,sn,sp⟩) (hi:WI n G x) (hf:Few k x) (hk:k ≤ 1000) (h3:sn = 3) :
  Calls Try.prog 138 #[v,vs] w fun e w'=>∃ v',e = .returned (.tuple #[v',.int .i64 (doErr x ⟨5,sn,sp⟩)])∧Of Ty.wd (ov c w w') v' (doA x ⟨5,sn,sp⟩)∧Grow w w':=by
 obtain ⟨al,cl,ao,co,ah,ch,an,cn,rfl⟩:=hv.wd_form
 obtain ⟨ap,cp,rfl⟩:=hs.st_form
 obtain ⟨q1,q2,q3⟩:=hv.wd_parts
 have HQ1:=Lib.hid q1
 have HQ2:=Lib.hid q2
 have HQ3:=Lib.hid q3
 have HSP:=Lib.hid hs.st_parts
 have HHD:=Lib.hid (hi.hdok hf hk)
 have HWI:=Lib.hid hi
 have HV:=Lib.hid hv
 have HC:=Lib.hid hc
 have H3:=Lib.hid h3
 clear h3
 clear hc hv hs q1 q2 q3 hi hf
 obtain ⟨wa,hwa⟩:∃ y:World,y = w.alloc (.cells #[.slice al x.head.log.length cl,.int .i64 x.head.boot,.int .i64 x.head.next,.slice ao x.head.opn.length co,.slice ah x.houses.length ch,.slice an x.net.length cn] 93):=⟨_,rfl⟩
 obtain ⟨wb,hwb⟩:∃ y:World,y = wa.alloc (.cells #[.int .i64 5,.int .i64 sn,.slice ap sp.length cp] 164):=⟨_,rfl⟩
 obtain ⟨wz,hwz⟩:∃ y:World,y = wb.alloc (.cells #[.slice none 0 0,.int .i64 0,.int .i64 0,.slice none 0 0,.slice none 0 0,.slice none 0 0] 93):=⟨_,rfl⟩
 have hsa:wa.heap.size = w.heap.size + 1:=by rw [hwa];simp
 have hsb:wb.heap.size = w.heap.size + 2:=by rw [hwb];simp [hsa]
 have R2:Hid (wz.heap[w.heap.size]? = some (.cells #[.slice al x.head.log.length cl,.int .i64 x.head.boot,.int .i64 x.head.next,.slice ao x.head.opn.length co,.slice ah x.houses.length ch,.slice an x.net.length cn] 93 (0,0))):=Lib.hid (by rw [hwz,hwb,hwa];exact heap_later (heap_later (row_new _ _) _) _)
 have R3:Hid (wz.heap[w.heap.size + 1]? = some (.cells #[.int .i64 5,.int .i64 sn,.slice ap sp.length cp] 164 (0,0))):=Lib.hid (by rw [hwz,hwb,← hsa];exact heap_later (row_new _ _) _)
 have R4:Hid (wz.heap[w.heap.size + 2]? = some (.cells #[.slice none 0 0,.int .i64 0,.int .i64 0,.slice none 0 0,.slice none 0 0,.slice none 0 0] 93 (0,0))):=Lib.hid (by rw [hwz,← hsb];exact row_new _ _)
 have G1:Hid (Grow w wz):=Lib.hid (by rw [hwz,hwb,hwa];exact (((Grow.refl w).alloc _).alloc _).alloc _)
 have HZ:Hid (wz.heap.size = w.heap.size + 3):=Lib.hid (by rw [hwz];simp [hsb])
 go_enter Try.func138,Try.ntmps138
 go_upto_region 1 with fail
 rw [← hwa]
 try rw [hsa]
 rw [← hwb]
 try rw [hsb]
 rw [← hwz]
 clear hwa hwb hwz hsa hsb
 obtain ⟨c0,c1,c2,c3,c4,c5⟩:=cells6 R2.out
 obtain ⟨d0,d1,d2⟩:=cells3 R3.out
 have z2:w.heap.size < wz.heap.size:=(Array.getElem?_eq_some_iff.1 R2.out).1
 have z3:w.heap.size + 1 < wz.heap.size:=(Array.getElem?_eq_some_iff.1 R3.out).1
 go_cut [6] from 22 (fun s6 wc=>s6 = .bool (there x sn)∧wz = wc)
 case first=>
  by_cases h0:0 ≤ sn
  ·by_cases h1:sn < (x.net.length:Int)
   ·go_wp2
    go_meet
    case rel=>exact ⟨by first | rfl | (simp [there,h0,h1];done),rfl⟩
   ·go_wp2
    go_meet
    case rel=>exact ⟨by first | rfl | (simp [there,h0,h1];done) | (simp [there,h0];omega),rfl⟩
  ·go_wp2
   go_meet
   case rel=>exact ⟨by first | rfl | (simp [there];done) | (simp [there];omega),rfl⟩
 case rest=>
 obtain ⟨rfl,rfl⟩:=hcut
 have hE:doA x ⟨5,sn,sp⟩ = { x with head:=fallH x.head }:=by unfold doA;simp [H3.out]
 have hE2:doErr x ⟨5,sn,sp⟩ = fallE x.head:=by unfold doErr;simp [H3.out]
 have HE:=Lib.hid hE
 have HE2:=Lib.hid hE2
 have hb33:(sn == 3) = true:=by simp [H3.out]
 clear hE hE2 H3
 go_wp2_with fail
 refine (ref_fall (c:=c) wz (HC.out.trans G1.out.sub) HQ1.out HHD.out).mono ?_
 rintro e w1 ⟨v1,rfl,hx1,hb1⟩
 obtain ⟨al2,cl2,ao2,co2,rfl⟩:=hx1.hd_form
 have HX1:=Lib.hid hx1
 have R21:=Lib.hid (row_grow R2.out hb1)
 have R41:=Lib.hid (row_grow R4.out hb1)
 have GZ1:=Lib.hid hb1
 clear hx1 hb1 c0 c1 c2 c3 c4 c5 d0 d1 d2 z2 z3
 generalize hqh:fallH x.head = qh at *
 generalize hqe:fallE x.head = qe at *
 clear hqh hqe
 go_upto_region 35 with fail
 obtain ⟨w2,hw2⟩:∃ y:World,y = w1.alloc (.cells #[.slice al2 qh.log.length cl2,.int .i64 qh.boot,.int .i64 qh.next,.slice ao2 qh.opn.length co2] 57):=⟨_,rfl⟩
 obtain ⟨BH,hBH⟩:∃ y,y = w1.heap.size:=⟨_,rfl⟩
 have G12:Hid (Grow w1 w2):=Lib.hid (by rw [hw2];exact (Grow.refl _).alloc _)
 have RH:Hid (w2.heap[BH]? = some (.cells #[.slice al2 qh.log.length cl2,.int .i64 qh.boot,.int .i64 qh.next,.slice ao2 qh.opn.length co2] 57 (0,0))):=Lib.hid (by rw [hw2,hBH];exact row_new _ _)
 rw [← hw2,← hBH]
 clear hw2 hBH
 have R22:=Lib.hid (row_grow R21.out G12.out)
 have R42:=Lib.hid (row_grow R41.out G12.out)
 have GW2:=Lib.hid (G1.out.trans (GZ1.out.trans G12.out))
 obtain ⟨k0,k1,k2,k3⟩:=cells4 RH.out
 have zh:BH < w2.heap.size:=(Array.getElem?_eq_some_iff.1 RH.out).1
 go_wp2_with (first | (refine wpList_store_part rfl (.tmp 194) (.tmp 193) (p:=0) (cells:=#[.slice al2 qh.log.length cl2,.int .i64 qh.boot,.int .i64 qh.next,.slice ao2 qh.opn.length co2]) (new:=#[.slice al2 qh.log.length cl2,.int .i64 qh.boot,.int .i64 qh.next,.slice ao2 qh.opn.length co2,.slice ah x.houses.length ch,.slice an x.net.length cn]) rfl rfl (by rfl) R22.out info_hd (by simp) (by rfl) (by rfl) ?_))
 intro w4 r4 g4
 have R44:=Lib.hid r4
 have HG4:=Lib.hid g4
 have R45:=Lib.hid (row_by R42.out g4 (by intro e;have:=Option.some.inj e;omega))
 have G5:=Lib.hid (GW2.out.grown g4 (fun q hq=>by simp at hq;omega))
 clear r4 g4 k0 k1 k2 k3 zh
 obtain ⟨c0,c1,c2,c3,c4,c5⟩:=cells6 R44.out
 have z2:w.heap.size < w4.heap.size:=(Array.getElem?_eq_some_iff.1 R44.out).1
 go_wp2_with (first | (refine wpList_store_row rfl (.tmp 4) (.tmp 195) rfl rfl rfl R45.out info_wd rfl rfl ?_))
 intro w7 r7 g7
 obtain ⟨p0,p1,p2,p3,p4,p5⟩:=cells6 r7
 clear c0 c1 c2 c3 c4 c5
 go_wp2
 refine bodyPost_ret (v:=.tuple #[.agg #[.slice al2 qh.log.length cl2,.int .i64 qh.boot,.int .i64 qh.next,.slice ao2 qh.opn.length co2,.slice ah x.houses.length ch,.slice an x.net.length cn],.int .i64 qe]) (by simp [results,Try.results138,go_sem,p0,p1,p2,p3,p4,p5]) rfl ?_
 have G7:=G5.out.grown g7 (fun q hq=>by simp at hq;omega)
 rw [HE.out,HE2.out]
 refine ⟨_,rfl,Of.wd_mk ?_ (HQ2.out.mono (ov_in HC.out)) (HQ3.out.mono (ov_in HC.out)),G7⟩
 refine HX1.out.mono fun a u e=>?_
 have e1:=ov_mono (Sub.refl _) G12.out a u e
 have e4:=ov_past (w:=w) HG4.out (Nat.le_refl _) (by have:=HZ.out;omega) a u e1
 have e7:=ov_past (w:=w) g7 (by omega) (by have:=HZ.out;omega) a u e4
 exact ovz_sub HC.out G1.out a u e7
set_option maxRecDepth 100000 in
set_option maxHeartbeats 4000000 in
theorem ref_do_fallH {c:CM} {v vs:Value} {x:AW} {sn:Int} {sp:List Pt} {n:Nat} {G:Reg} {k:Nat} (w:World) (hc:Sub c w.cell?) (hv:Of Ty.wd c v x) (hs:Of Ty.st c vs ⟨5,sn,sp⟩) (hi:WI n G x) (hf:Few k x) (hk:k ≤ 1000) (h3:¬ sn = 3) :
  Calls Try.prog 138 #[v,vs] w fun e w'=>∃ v',e = .returned (.tuple #[v',.int .i64 (doErr x ⟨5,sn,sp⟩)])∧Of Ty.wd (ov c w w') v' (doA x ⟨5,sn,sp⟩)∧Grow w w':=by
 obtain ⟨al,cl,ao,co,ah,ch,an,cn,rfl⟩:=hv.wd_form
 obtain ⟨ap,cp,rfl⟩:=hs.st_form
 obtain ⟨q1,q2,q3⟩:=hv.wd_parts
 have HQ1:=Lib.hid q1
 have HQ2:=Lib.hid q2
 have HQ3:=Lib.hid q3
 have HSP:=Lib.hid hs.st_parts
 have HHD:=Lib.hid (hi.hdok hf hk)
 have HWI:=Lib.hid hi
 have HV:=Lib.hid hv
 have HC:=Lib.hid hc
 clear hc hv hs q1 q2 q3 hi hf
 obtain ⟨wa,hwa⟩:∃ y:World,y = w.alloc (.cells #[.slice al x.head.log.length cl,.int .i64 x.head.boot,.int .i64 x.head.next,.slice ao x.head.opn.length co,.slice ah x.houses.length ch,.slice an x.net.length cn] 93):=⟨_,rfl⟩
 obtain ⟨wb,hwb⟩:∃ y:World,y = wa.alloc (.cells #[.int .i64 5,.int .i64 sn,.slice ap sp.length cp] 164):=⟨_,rfl⟩
 obtain ⟨wz,hwz⟩:∃ y:World,y = wb.alloc (.cells #[.slice none 0 0,.int .i64 0,.int .i64 0,.slice none 0 0,.slice none 0 0,.slice none 0 0] 93):=⟨_,rfl⟩
 have hsa:wa.heap.size = w.heap.size + 1:=by rw [hwa];simp
 have hsb:wb.heap.size = w.heap.size + 2:=by rw [hwb];simp [hsa]
 have R2:Hid (wz.heap[w.heap.size]? = some (.cells #[.slice al x.head.log.length cl,.int .i64 x.head.boot,.int .i64 x.head.next,.slice ao x.head.opn.length co,.slice ah x.houses.length ch,.slice an x.net.length cn] 93 (0,0))):=Lib.hid (by rw [hwz,hwb,hwa];exact heap_later (heap_later (row_new _ _) _) _)
 have R3:Hid (wz.heap[w.heap.size + 1]? = some (.cells #[.int .i64 5,.int .i64 sn,.slice ap sp.length cp] 164 (0,0))):=Lib.hid (by rw [hwz,hwb,← hsa];exact heap_later (row_new _ _) _)
 have R4:Hid (wz.heap[w.heap.size + 2]? = some (.cells #[.slice none 0 0,.int .i64 0,.int .i64 0,.slice none 0 0,.slice none 0 0,.slice none 0 0] 93 (0,0))):=Lib.hid (by rw [hwz,← hsb];exact row_new _ _)
 have G1:Hid (Grow w wz):=Lib.hid (by rw [hwz,hwb,hwa];exact (((Grow.refl w).alloc _).alloc _).alloc _)
 have HZ:Hid (wz.heap.size = w.heap.size + 3):=Lib.hid (by rw [hwz];simp [hsb])
 go_enter Try.func138,Try.ntmps138
 go_upto_region 1 with fail
 rw [← hwa]
 try rw [hsa]
 rw [← hwb]
 try rw [hsb]
 rw [← hwz]
 clear hwa hwb hwz hsa hsb
 obtain ⟨c0,c1,c2,c3,c4,c5⟩:=cells6 R2.out
 obtain ⟨d0,d1,d2⟩:=cells3 R3.out
 have z2:w.heap.size < wz.heap.size:=(Array.getElem?_eq_some_iff.1 R2.out).1
 have z3:w.heap.size + 1 < wz.heap.size:=(Array.getElem?_eq_some_iff.1 R3.out).1
 go_cut [6] from 22 (fun s6 wc=>s6 = .bool (there x sn)∧wz = wc)
 case first=>
  by_cases h0:0 ≤ sn
  ·by_cases h1:sn < (x.net.length:Int)
   ·go_wp2
    go_meet
    case rel=>exact ⟨by first | rfl | (simp [there,h0,h1];done),rfl⟩
   ·go_wp2
    go_meet
    case rel=>exact ⟨by first | rfl | (simp [there,h0,h1];done) | (simp [there,h0];omega),rfl⟩
  ·go_wp2
   go_meet
   case rel=>exact ⟨by first | rfl | (simp [there];done) | (simp [there];omega),rfl⟩
 case rest=>
 obtain ⟨rfl,rfl⟩:=hcut
 have hE:doA x ⟨5,sn,sp⟩ = x:=by unfold doA;simp [h3]
 have HE:=Lib.hid hE
 have hb33:(sn == 3) = false:=by simp [h3]
 by_cases hl:sn < 0
 ·have HE2:Hid (doErr x ⟨5,sn,sp⟩ = 6):=Lib.hid (by unfold doErr hereN;simp [h3];omega)
  clear hE h3
  go_wp2_with (first | (refine wpList_store_row rfl (.tmp 4) (.tmp 208) rfl rfl rfl R4.out info_wd rfl rfl ?_))
  intro w7 r7 g7
  obtain ⟨p0,p1,p2,p3,p4,p5⟩:=cells6 r7
  clear c0 c1 c2 c3 c4 c5
  go_wp2
  refine bodyPost_ret (v:=.tuple #[.agg #[.slice al x.head.log.length cl,.int .i64 x.head.boot,.int .i64 x.head.next,.slice ao x.head.opn.length co,.slice ah x.houses.length ch,.slice an x.net.length cn],.int .i64 6]) (by simp [results,Try.results138,go_sem,p0,p1,p2,p3,p4,p5]) rfl ?_
  have G7:=G1.out.grown g7 (fun q hq=>by simp at hq;omega)
  rw [HE.out,HE2.out]
  exact ⟨_,rfl,HV.out.mono (ov_in HC.out),G7⟩
 by_cases hg:(x.houses.length:Int) ≤ sn
 ·have HE2:Hid (doErr x ⟨5,sn,sp⟩ = 6):=Lib.hid (by unfold doErr hereN;simp [h3];omega)
  clear hE h3
  go_wp2_with (first | (refine wpList_store_row rfl (.tmp 4) (.tmp 208) rfl rfl rfl R4.out info_wd rfl rfl ?_))
  intro w7 r7 g7
  obtain ⟨p0,p1,p2,p3,p4,p5⟩:=cells6 r7
  clear c0 c1 c2 c3 c4 c5
  go_wp2
  refine bodyPost_ret (v:=.tuple #[.agg #[.slice al x.head.log.length cl,.int .i64 x.head.boot,.int .i64 x.head.next,.slice ao x.head.opn.length co,.slice ah x.houses.length ch,.slice an x.net.length cn],.int .i64 6]) (by simp [results,Try.results138,go_sem,p0,p1,p2,p3,p4,p5]) rfl ?_
  have G7:=G1.out.grown g7 (fun q hq=>by simp at hq;omega)
  rw [HE.out,HE2.out]
  exact ⟨_,rfl,HV.out.mono (ov_in HC.out),G7⟩
 have HE2:Hid (doErr x ⟨5,sn,sp⟩ = 0):=Lib.hid (by unfold doErr hereN;simp [h3];omega)
 clear hE h3
 go_wp2_with (first | (refine wpList_store_row rfl (.tmp 4) (.tmp 262) rfl rfl rfl R4.out info_wd rfl rfl ?_))
 intro w7 r7 g7
 obtain ⟨p0,p1,p2,p3,p4,p5⟩:=cells6 r7
 clear c0 c1 c2 c3 c4 c5
 go_wp2
 refine bodyPost_ret (v:=.tuple #[.agg #[.slice al x.head.log.length cl,.int .i64 x.head.boot,.int .i64 x.head.next,.slice ao x.head.opn.length co,.slice ah x.houses.length ch,.slice an x.net.length cn],.int .i64 0]) (by simp [results,Try.results138,go_sem,p0,p1,p2,p3,p4,p5]) rfl ?_
 have G7:=G1.out.grown g7 (fun q hq=>by simp at hq;omega)
 rw [HE.out,HE2.out]
 exact ⟨_,rfl,HV.out.mono (ov_in HC.out),G7⟩
set_option maxRecDepth 100000 in
set_option maxHeartbeats 4000000 in
theorem ref_do_none2 {c:CM} {v vs:Value} {x:AW} {sn:Int} {sp:List Pt} {n:Nat} {G:Reg} {k:Nat} (w:World) (hc:Sub c w.cell?) (hv:Of Ty.wd c v x) (hs:Of Ty.st c vs ⟨2,sn,sp⟩) (hi:WI n G x) (hf:Few k x) (hk:k ≤ 1000) (ht:there x sn = false) :
  Calls Try.prog 138 #[v,vs] w fun e w'=>∃ v',e = .returned (.tuple #[v',.int .i64 (doErr x ⟨2,sn,sp⟩)])∧Of Ty.wd (ov c w w') v' (doA x ⟨2,sn,sp⟩)∧Grow w w':=by
 obtain ⟨al,cl,ao,co,ah,ch,an,cn,rfl⟩:=hv.wd_form
 obtain ⟨ap,cp,rfl⟩:=hs.st_form
 obtain ⟨q1,q2,q3⟩:=hv.wd_parts
 have HQ1:=Lib.hid q1
 have HQ2:=Lib.hid q2
 have HQ3:=Lib.hid q3
 have HSP:=Lib.hid hs.st_parts
 have HHD:=Lib.hid (hi.hdok hf hk)
 have HWI:=Lib.hid hi
 have HV:=Lib.hid hv
 have HC:=Lib.hid hc
 clear hc hv hs q1 q2 q3 hi hf
 obtain ⟨wa,hwa⟩:∃ y:World,y = w.alloc (.cells #[.slice al x.head.log.length cl,.int .i64 x.head.boot,.int .i64 x.head.next,.slice ao x.head.opn.length co,.slice ah x.houses.length ch,.slice an x.net.length cn] 93):=⟨_,rfl⟩
 obtain ⟨wb,hwb⟩:∃ y:World,y = wa.alloc (.cells #[.int .i64 2,.int .i64 sn,.slice ap sp.length cp] 164):=⟨_,rfl⟩
 obtain ⟨wz,hwz⟩:∃ y:World,y = wb.alloc (.cells #[.slice none 0 0,.int .i64 0,.int .i64 0,.slice none 0 0,.slice none 0 0,.slice none 0 0] 93):=⟨_,rfl⟩
 have hsa:wa.heap.size = w.heap.size + 1:=by rw [hwa];simp
 have hsb:wb.heap.size = w.heap.size + 2:=by rw [hwb];simp [hsa]
 have R2:Hid (wz.heap[w.heap.size]? = some (.cells #[.slice al x.head.log.length cl,.int .i64 x.head.boot,.int .i64 x.head.next,.slice ao x.head.opn.length co,.slice ah x.houses.length ch,.slice an x.net.length cn] 93 (0,0))):=Lib.hid (by rw [hwz,hwb,hwa];exact heap_later (heap_later (row_new _ _) _) _)
 have R3:Hid (wz.heap[w.heap.size + 1]? = some (.cells #[.int .i64 2,.int .i64 sn,.slice ap sp.length cp] 164 (0,0))):=Lib.hid (by rw [hwz,hwb,← hsa];exact heap_later (row_new _ _) _)
 have R4:Hid (wz.heap[w.heap.size + 2]? = some (.cells #[.slice none 0 0,.int .i64 0,.int .i64 0,.slice none 0 0,.slice none 0 0,.slice none 0 0] 93 (0,0))):=Lib.hid (by rw [hwz,← hsb];exact row_new _ _)
 have G1:Hid (Grow w wz):=Lib.hid (by rw [hwz,hwb,hwa];exact (((Grow.refl w).alloc _).alloc _).alloc _)
 have HZ:Hid (wz.heap.size = w.heap.size + 3):=Lib.hid (by rw [hwz];simp [hsb])
 go_enter Try.func138,Try.ntmps138
 go_upto_region 1 with fail
 rw [← hwa]
 try rw [hsa]
 rw [← hwb]
 try rw [hsb]
 rw [← hwz]
 clear hwa hwb hwz hsa hsb
 obtain ⟨c0,c1,c2,c3,c4,c5⟩:=cells6 R2.out
 obtain ⟨d0,d1,d2⟩:=cells3 R3.out
 have z2:w.heap.size < wz.heap.size:=(Array.getElem?_eq_some_iff.1 R2.out).1
 have z3:w.heap.size + 1 < wz.heap.size:=(Array.getElem?_eq_some_iff.1 R3.out).1
 go_cut [6] from 22 (fun s6 wc=>s6 = .bool (there x sn)∧wz = wc)
 case first=>
  by_cases h0:0 ≤ sn
  ·by_cases h1:sn < (x.net.length:Int)
   ·go_wp2
    go_meet
    case rel=>exact ⟨by first | rfl | (simp [there,h0,h1];done),rfl⟩
   ·go_wp2
    go_meet
    case rel=>exact ⟨by first | rfl | (simp [there,h0,h1];done) | (simp [there,h0];omega),rfl⟩
  ·go_wp2
   go_meet
   case rel=>exact ⟨by first | rfl | (simp [there];done) | (simp [there];omega),rfl⟩
 case rest=>
 obtain ⟨rfl,rfl⟩:=hcut
 have hE:doA x ⟨2,sn,sp⟩ = x:=by unfold doA;simp [ht]
 have hE2:doErr x ⟨2,sn,sp⟩ = 6:=by unfold doErr;simp [ht]
 have HE:=Lib.hid hE
 have HE2:=Lib.hid hE2
 clear hE hE2
 rw [ht]
 go_wp2_with (first | (refine wpList_store_row rfl (.tmp 4) (.tmp 72) rfl rfl rfl R4.out info_wd rfl rfl ?_))
 intro w7 r7 g7
 obtain ⟨p0,p1,p2,p3,p4,p5⟩:=cells6 r7
 clear c0 c1 c2 c3 c4 c5
 go_wp2
 refine bodyPost_ret (v:=.tuple #[.agg #[.slice al x.head.log.length cl,.int .i64 x.head.boot,.int .i64 x.head.next,.slice ao x.head.opn.length co,.slice ah x.houses.length ch,.slice an x.net.length cn],.int .i64 6]) (by simp [results,Try.results138,go_sem,p0,p1,p2,p3,p4,p5]) rfl ?_
 have G7:=G1.out.grown g7 (fun q hq=>by simp at hq;omega)
 rw [HE.out,HE2.out]
 exact ⟨_,rfl,HV.out.mono (ov_in HC.out),G7⟩
set_option maxRecDepth 100000 in
set_option maxHeartbeats 4000000 in
theorem ref_do_none3 {c:CM} {v vs:Value} {x:AW} {sn:Int} {sp:List Pt} {n:Nat} {G:Reg} {k:Nat} (w:World) (hc:Sub c w.cell?) (hv:Of Ty.wd c v x) (hs:Of Ty.st c vs ⟨3,sn,sp⟩) (hi:WI n G x) (hf:Few k x) (hk:k ≤ 1000) (ht:there x sn = false) :
  Calls Try.prog 138 #[v,vs] w fun e w'=>∃ v',e = .returned (.tuple #[v',.int .i64 (doErr x ⟨3,sn,sp⟩)])∧Of Ty.wd (ov c w w') v' (doA x ⟨3,sn,sp⟩)∧Grow w w':=by
 obtain ⟨al,cl,ao,co,ah,ch,an,cn,rfl⟩:=hv.wd_form
 obtain ⟨ap,cp,rfl⟩:=hs.st_form
 obtain ⟨q1,q2,q3⟩:=hv.wd_parts
 have HQ1:=Lib.hid q1
 have HQ2:=Lib.hid q2
 have HQ3:=Lib.hid q3
 have HSP:=Lib.hid hs.st_parts
 have HHD:=Lib.hid (hi.hdok hf hk)
 have HWI:=Lib.hid hi
 have HV:=Lib.hid hv
 have HC:=Lib.hid hc
 clear hc hv hs q1 q2 q3 hi hf
 obtain ⟨wa,hwa⟩:∃ y:World,y = w.alloc (.cells #[.slice al x.head.log.length cl,.int .i64 x.head.boot,.int .i64 x.head.next,.slice ao x.head.opn.length co,.slice ah x.houses.length ch,.slice an x.net.length cn] 93):=⟨_,rfl⟩
 obtain ⟨wb,hwb⟩:∃ y:World,y = wa.alloc (.cells #[.int .i64 3,.int .i64 sn,.slice ap sp.length cp] 164):=⟨_,rfl⟩
 obtain ⟨wz,hwz⟩:∃ y:World,y = wb.alloc (.cells #[.slice none 0 0,.int .i64 0,.int .i64 0,.slice none 0 0,.slice none 0 0,.slice none 0 0] 93):=⟨_,rfl⟩
 have hsa:wa.heap.size = w.heap.size + 1:=by rw [hwa];simp
 have hsb:wb.heap.size = w.heap.size + 2:=by rw [hwb];simp [hsa]
 have R2:Hid (wz.heap[w.heap.size]? = some (.cells #[.slice al x.head.log.length cl,.int .i64 x.head.boot,.int .i64 x.head.next,.slice ao x.head.opn.length co,.slice ah x.houses.length ch,.slice an x.net.length cn] 93 (0,0))):=Lib.hid (by rw [hwz,hwb,hwa];exact heap_later (heap_later (row_new _ _) _) _)
 have R3:Hid (wz.heap[w.heap.size + 1]? = some (.cells #[.int .i64 3,.int .i64 sn,.slice ap sp.length cp] 164 (0,0))):=Lib.hid (by rw [hwz,hwb,← hsa];exact heap_later (row_new _ _) _)
 have R4:Hid (wz.heap[w.heap.size + 2]? = some (.cells #[.slice none 0 0,.int .i64 0,.int .i64 0,.slice none 0 0,.slice none 0 0,.slice none 0 0] 93 (0,0))):=Lib.hid (by rw [hwz,← hsb];exact row_new _ _)
 have G1:Hid (Grow w wz):=Lib.hid (by rw [hwz,hwb,hwa];exact (((Grow.refl w).alloc _).alloc _).alloc _)
 have HZ:Hid (wz.heap.size = w.heap.size + 3):=Lib.hid (by rw [hwz];simp [hsb])
 go_enter Try.func138,Try.ntmps138
 go_upto_region 1 with fail
 rw [← hwa]
 try rw [hsa]
 rw [← hwb]
 try rw [hsb]
 rw [← hwz]
 clear hwa hwb hwz hsa hsb
 obtain ⟨c0,c1,c2,c3,c4,c5⟩:=cells6 R2.out
 obtain ⟨d0,d1,d2⟩:=cells3 R3.out
 have z2:w.heap.size < wz.heap.size:=(Array.getElem?_eq_some_iff.1 R2.out).1
 have z3:w.heap.size + 1 < wz.heap.size:=(Array.getElem?_eq_some_iff.1 R3.out).1
 go_cut [6] from 22 (fun s6 wc=>s6 = .bool (there x sn)∧wz = wc)
 case first=>
  by_cases h0:0 ≤ sn
  ·by_cases h1:sn < (x.net.length:Int)
   ·go_wp2
    go_meet
    case rel=>exact ⟨by first | rfl | (simp [there,h0,h1];done),rfl⟩
   ·go_wp2
    go_meet
    case rel=>exact ⟨by first | rfl | (simp [there,h0,h1];done) | (simp [there,h0];omega),rfl⟩
  ·go_wp2
   go_meet
   case rel=>exact ⟨by first | rfl | (simp [there];done) | (simp [there];omega),rfl⟩
 case rest=>
 obtain ⟨rfl,rfl⟩:=hcut
 have hE:doA x ⟨3,sn,sp⟩ = x:=by unfold doA;simp [ht]
 have hE2:doErr x ⟨3,sn,sp⟩ = 6:=by unfold doErr;simp [ht]
 have HE:=Lib.hid hE
 have HE2:=Lib.hid hE2
 clear hE hE2
 rw [ht]
 go_wp2_with (first | (refine wpList_store_row rfl (.tmp 4) (.tmp 72) rfl rfl rfl R4.out info_wd rfl rfl ?_))
 intro w7 r7 g7
 obtain ⟨p0,p1,p2,p3,p4,p5⟩:=cells6 r7
 clear c0 c1 c2 c3 c4 c5
 go_wp2
 refine bodyPost_ret (v:=.tuple #[.agg #[.slice al x.head.log.length cl,.int .i64 x.head.boot,.int .i64 x.head.next,.slice ao x.head.opn.length co,.slice ah x.houses.length ch,.slice an x.net.length cn],.int .i64 6]) (by simp [results,Try.results138,go_sem,p0,p1,p2,p3,p4,p5]) rfl ?_
 have G7:=G1.out.grown g7 (fun q hq=>by simp at hq;omega)
 rw [HE.out,HE2.out]
 exact ⟨_,rfl,HV.out.mono (ov_in HC.out),G7⟩
set_option maxRecDepth 100000 in
set_option maxHeartbeats 4000000 in
theorem ref_do_none4 {c:CM} {v vs:Value} {x:AW} {sn:Int} {sp:List Pt} {n:Nat} {G:Reg} {k:Nat} (w:World) (hc:Sub c w.cell?) (hv:Of Ty.wd c v x) (hs:Of Ty.st c vs ⟨4,sn,sp⟩) (hi:WI n G x) (hf:Few k x) (hk:k ≤ 1000) (ht:there x sn = false) :
  Calls Try.prog 138 #[v,vs] w fun e w'=>∃ v',e = .returned (.tuple #[v',.int .i64 (doErr x ⟨4,sn,sp⟩)])∧Of Ty.wd (ov c w w') v' (doA x ⟨4,sn,sp⟩)∧Grow w w':=by
 obtain ⟨al,cl,ao,co,ah,ch,an,cn,rfl⟩:=hv.wd_form
 obtain ⟨ap,cp,rfl⟩:=hs.st_form
 obtain ⟨q1,q2,q3⟩:=hv.wd_parts
 have HQ1:=Lib.hid q1
 have HQ2:=Lib.hid q2
 have HQ3:=Lib.hid q3
 have HSP:=Lib.hid hs.st_parts
 have HHD:=Lib.hid (hi.hdok hf hk)
 have HWI:=Lib.hid hi
 have HV:=Lib.hid hv
 have HC:=Lib.hid hc
 clear hc hv hs q1 q2 q3 hi hf
 obtain ⟨wa,hwa⟩:∃ y:World,y = w.alloc (.cells #[.slice al x.head.log.length cl,.int .i64 x.head.boot,.int .i64 x.head.next,.slice ao x.head.opn.length co,.slice ah x.houses.length ch,.slice an x.net.length cn] 93):=⟨_,rfl⟩
 obtain ⟨wb,hwb⟩:∃ y:World,y = wa.alloc (.cells #[.int .i64 4,.int .i64 sn,.slice ap sp.length cp] 164):=⟨_,rfl⟩
 obtain ⟨wz,hwz⟩:∃ y:World,y = wb.alloc (.cells #[.slice none 0 0,.int .i64 0,.int .i64 0,.slice none 0 0,.slice none 0 0,.slice none 0 0] 93):=⟨_,rfl⟩
 have hsa:wa.heap.size = w.heap.size + 1:=by rw [hwa];simp
 have hsb:wb.heap.size = w.heap.size + 2:=by rw [hwb];simp [hsa]
 have R2:Hid (wz.heap[w.heap.size]? = some (.cells #[.slice al x.head.log.length cl,.int .i64 x.head.boot,.int .i64 x.head.next,.slice ao x.head.opn.length co,.slice ah x.houses.length ch,.slice an x.net.length cn] 93 (0,0))):=Lib.hid (by rw [hwz,hwb,hwa];exact heap_later (heap_later (row_new _ _) _) _)
 have R3:Hid (wz.heap[w.heap.size + 1]? = some (.cells #[.int .i64 4,.int .i64 sn,.slice ap sp.length cp] 164 (0,0))):=Lib.hid (by rw [hwz,hwb,← hsa];exact heap_later (row_new _ _) _)
 have R4:Hid (wz.heap[w.heap.size + 2]? = some (.cells #[.slice none 0 0,.int .i64 0,.int .i64 0,.slice none 0 0,.slice none 0 0,.slice none 0 0] 93 (0,0))):=Lib.hid (by rw [hwz,← hsb];exact row_new _ _)
 have G1:Hid (Grow w wz):=Lib.hid (by rw [hwz,hwb,hwa];exact (((Grow.refl w).alloc _).alloc _).alloc _)
 have HZ:Hid (wz.heap.size = w.heap.size + 3):=Lib.hid (by rw [hwz];simp [hsb])
 go_enter Try.func138,Try.ntmps138
 go_upto_region 1 with fail
 rw [← hwa]
 try rw [hsa]
 rw [← hwb]
 try rw [hsb]
 rw [← hwz]
 clear hwa hwb hwz hsa hsb
 obtain ⟨c0,c1,c2,c3,c4,c5⟩:=cells6 R2.out
 obtain ⟨d0,d1,d2⟩:=cells3 R3.out
 have z2:w.heap.size < wz.heap.size:=(Array.getElem?_eq_some_iff.1 R2.out).1
 have z3:w.heap.size + 1 < wz.heap.size:=(Array.getElem?_eq_some_iff.1 R3.out).1
 go_cut [6] from 22 (fun s6 wc=>s6 = .bool (there x sn)∧wz = wc)
 case first=>
  by_cases h0:0 ≤ sn
  ·by_cases h1:sn < (x.net.length:Int)
   ·go_wp2
    go_meet
    case rel=>exact ⟨by first | rfl | (simp [there,h0,h1];done),rfl⟩
   ·go_wp2
    go_meet
    case rel=>exact ⟨by first | rfl | (simp [there,h0,h1];done) | (simp [there,h0];omega),rfl⟩
  ·go_wp2
   go_meet
   case rel=>exact ⟨by first | rfl | (simp [there];done) | (simp [there];omega),rfl⟩
 case rest=>
 obtain ⟨rfl,rfl⟩:=hcut
 have hE:doA x ⟨4,sn,sp⟩ = x:=by unfold doA;simp [ht]
 have hE2:doErr x ⟨4,sn,sp⟩ = 6:=by unfold doErr;simp [ht]
 have HE:=Lib.hid hE
 have HE2:=Lib.hid hE2
 clear hE hE2
 rw [ht]
 go_wp2_with (first | (refine wpList_store_row rfl (.tmp 4) (.tmp 72) rfl rfl rfl R4.out info_wd rfl rfl ?_))
 intro w7 r7 g7
 obtain ⟨p0,p1,p2,p3,p4,p5⟩:=cells6 r7
 clear c0 c1 c2 c3 c4 c5
 go_wp2
 refine bodyPost_ret (v:=.tuple #[.agg #[.slice al x.head.log.length cl,.int .i64 x.head.boot,.int .i64 x.head.next,.slice ao x.head.opn.length co,.slice ah x.houses.length ch,.slice an x.net.length cn],.int .i64 6]) (by simp [results,Try.results138,go_sem,p0,p1,p2,p3,p4,p5]) rfl ?_
 have G7:=G1.out.grown g7 (fun q hq=>by simp at hq;omega)
 rw [HE.out,HE2.out]
 exact ⟨_,rfl,HV.out.mono (ov_in HC.out),G7⟩
set_option maxRecDepth 100000 in
set_option maxHeartbeats 4000000 in
theorem ref_do_else {c:CM} {v vs:Value} {x:AW} {kd sn:Int} {sp:List Pt} {n:Nat} {G:Reg} {k:Nat} (w:World) (hc:Sub c w.cell?) (hv:Of Ty.wd c v x) (hs:Of Ty.st c vs ⟨kd,sn,sp⟩) (hi:WI n G x) (hf:Few k x) (hk:k ≤ 1000) (hkd:kd < 1 ∨ 7 < kd) :
  Calls Try.prog 138 #[v,vs] w fun e w'=>∃ v',e = .returned (.tuple #[v',.int .i64 (doErr x ⟨kd,sn,sp⟩)])∧Of Ty.wd (ov c w w') v' (doA x ⟨kd,sn,sp⟩)∧Grow w w':=by
 obtain ⟨al,cl,ao,co,ah,ch,an,cn,rfl⟩:=hv.wd_form
 obtain ⟨ap,cp,rfl⟩:=hs.st_form
 obtain ⟨q1,q2,q3⟩:=hv.wd_parts
 have HQ1:=Lib.hid q1
 have HQ2:=Lib.hid q2
 have HQ3:=Lib.hid q3
 have HSP:=Lib.hid hs.st_parts
 have HHD:=Lib.hid (hi.hdok hf hk)
 have HWI:=Lib.hid hi
 have HV:=Lib.hid hv
 have HC:=Lib.hid hc
 clear hc hv hs q1 q2 q3 hi hf
 obtain ⟨wa,hwa⟩:∃ y:World,y = w.alloc (.cells #[.slice al x.head.log.length cl,.int .i64 x.head.boot,.int .i64 x.head.next,.slice ao x.head.opn.length co,.slice ah x.houses.length ch,.slice an x.net.length cn] 93):=⟨_,rfl⟩
 obtain ⟨wb,hwb⟩:∃ y:World,y = wa.alloc (.cells #[.int .i64 kd,.int .i64 sn,.slice ap sp.length cp] 164):=⟨_,rfl⟩
 obtain ⟨wz,hwz⟩:∃ y:World,y = wb.alloc (.cells #[.slice none 0 0,.int .i64 0,.int .i64 0,.slice none 0 0,.slice none 0 0,.slice none 0 0] 93):=⟨_,rfl⟩
 have hsa:wa.heap.size = w.heap.size + 1:=by rw [hwa];simp
 have hsb:wb.heap.size = w.heap.size + 2:=by rw [hwb];simp [hsa]
 have R2:Hid (wz.heap[w.heap.size]? = some (.cells #[.slice al x.head.log.length cl,.int .i64 x.head.boot,.int .i64 x.head.next,.slice ao x.head.opn.length co,.slice ah x.houses.length ch,.slice an x.net.length cn] 93 (0,0))):=Lib.hid (by rw [hwz,hwb,hwa];exact heap_later (heap_later (row_new _ _) _) _)
 have R3:Hid (wz.heap[w.heap.size + 1]? = some (.cells #[.int .i64 kd,.int .i64 sn,.slice ap sp.length cp] 164 (0,0))):=Lib.hid (by rw [hwz,hwb,← hsa];exact heap_later (row_new _ _) _)
 have R4:Hid (wz.heap[w.heap.size + 2]? = some (.cells #[.slice none 0 0,.int .i64 0,.int .i64 0,.slice none 0 0,.slice none 0 0,.slice none 0 0] 93 (0,0))):=Lib.hid (by rw [hwz,← hsb];exact row_new _ _)
 have G1:Hid (Grow w wz):=Lib.hid (by rw [hwz,hwb,hwa];exact (((Grow.refl w).alloc _).alloc _).alloc _)
 have HZ:Hid (wz.heap.size = w.heap.size + 3):=Lib.hid (by rw [hwz];simp [hsb])
 go_enter Try.func138,Try.ntmps138
 go_upto_region 1 with fail
 rw [← hwa]
 try rw [hsa]
 rw [← hwb]
 try rw [hsb]
 rw [← hwz]
 clear hwa hwb hwz hsa hsb
 obtain ⟨c0,c1,c2,c3,c4,c5⟩:=cells6 R2.out
 obtain ⟨d0,d1,d2⟩:=cells3 R3.out
 have z2:w.heap.size < wz.heap.size:=(Array.getElem?_eq_some_iff.1 R2.out).1
 have z3:w.heap.size + 1 < wz.heap.size:=(Array.getElem?_eq_some_iff.1 R3.out).1
 go_cut [6] from 22 (fun s6 wc=>s6 = .bool (there x sn)∧wz = wc)
 case first=>
  by_cases h0:0 ≤ sn
  ·by_cases h1:sn < (x.net.length:Int)
   ·go_wp2
    go_meet
    case rel=>exact ⟨by first | rfl | (simp [there,h0,h1];done),rfl⟩
   ·go_wp2
    go_meet
    case rel=>exact ⟨by first | rfl | (simp [there,h0,h1];done) | (simp [there,h0];omega),rfl⟩
  ·go_wp2
   go_meet
   case rel=>exact ⟨by first | rfl | (simp [there];done) | (simp [there];omega),rfl⟩
 case rest=>
 obtain ⟨rfl,rfl⟩:=hcut
 have e1:(kd == 1) = false:=by rw [beq_eq_false_iff_ne];omega
 have e2:(kd == 2) = false:=by rw [beq_eq_false_iff_ne];omega
 have e3:(kd == 3) = false:=by rw [beq_eq_false_iff_ne];omega
 have e4:(kd == 4) = false:=by rw [beq_eq_false_iff_ne];omega
 have e5:(kd == 5) = false:=by rw [beq_eq_false_iff_ne];omega
 have e6:(kd == 6) = false:=by rw [beq_eq_false_iff_ne];omega
 have e7:(kd == 7) = false:=by rw [beq_eq_false_iff_ne];omega
 have HE:Hid (doA x ⟨kd,sn,sp⟩ = x):=Lib.hid (by unfold doA;simp only;rw [if_neg (by omega),if_neg (by omega),if_neg (by omega),if_neg (by omega),if_neg (by omega),if_neg (by omega),if_neg (by omega)])
 have HE2:Hid (doErr x ⟨kd,sn,sp⟩ = 1):=Lib.hid (by unfold doErr;simp only;rw [if_neg (by omega),if_neg (by omega),if_neg (by omega),if_neg (by omega),if_neg (by omega)])
 clear hkd
 go_wp2_with (first | (refine wpList_store_row rfl (.tmp 4) (.tmp 35) rfl rfl rfl R4.out info_wd rfl rfl ?_))
 intro w7 r7 g7
 obtain ⟨p0,p1,p2,p3,p4,p5⟩:=cells6 r7
 clear c0 c1 c2 c3 c4 c5
 go_wp2
 refine bodyPost_ret (v:=.tuple #[.agg #[.slice al x.head.log.length cl,.int .i64 x.head.boot,.int .i64 x.head.next,.slice ao x.head.opn.length co,.slice ah x.houses.length ch,.slice an x.net.length cn],.int .i64 1]) (by simp [results,Try.results138,go_sem,p0,p1,p2,p3,p4,p5]) rfl ?_
 have G7:=G1.out.grown g7 (fun q hq=>by simp at hq;omega)
 rw [HE.out,HE2.out]
 exact ⟨_,rfl,HV.out.mono (ov_in HC.out),G7⟩
theorem ref_do_step {c:CM} {v vs:Value} {x:AW} {s:St} {n:Nat} {G:Reg} {k:Nat} (w:World) (hc:Sub c w.cell?) (hv:Of Ty.wd c v x) (hs:Of Ty.st c vs s) (hi:WI n G x) (hf:Few k x) (hk:k ≤ 1000) :
  Calls Try.prog 138 #[v,vs] w fun e w'=>∃ v',e = .returned (.tuple #[v',.int .i64 (doErr x s)])∧Of Ty.wd (ov c w w') v' (doA x s)∧Grow w w':=by
 obtain ⟨kd,sn,sp⟩:=s
 by_cases h1:kd = 1
 ·subst h1
  by_cases hw:wrongE sp x.houses.length = 0
  ·exact ref_do_begin w hc hv hs hi hf hk hw
  ·exact ref_do_beginX w hc hv hs hi hf hk hw
 by_cases h2:kd = 2
 ·subst h2
  cases ht:there x sn with
  | true=>exact ref_do_come w hc hv hs hi hf hk ht
  | false=>exact ref_do_none2 w hc hv hs hi hf hk ht
 by_cases h3:kd = 3
 ·subst h3
  cases ht:there x sn with
  | true=>exact ref_do_lose w hc hv hs hi hf hk ht
  | false=>exact ref_do_none3 w hc hv hs hi hf hk ht
 by_cases h4:kd = 4
 ·subst h4
  cases ht:there x sn with
  | true=>exact ref_do_twice w hc hv hs hi hf hk ht
  | false=>exact ref_do_none4 w hc hv hs hi hf hk ht
 by_cases h5:kd = 5
 ·subst h5
  by_cases hs3:sn = 3
  ·exact ref_do_fall3 w hc hv hs hi hf hk hs3
  ·exact ref_do_fallH w hc hv hs hi hf hk hs3
 by_cases h6:kd = 6
 ·subst h6
  by_cases hs3:sn = 3
  ·exact ref_do_tick3 w hc hv hs hi hf hk hs3
  ·cases hh:hereN x sn with
   | true=>exact ref_do_tickH w hc hv hs hi hf hk hh
   | false=>exact ref_do_tickN w hc hv hs hi hf hk hs3 hh
 by_cases h7:kd = 7
 ·subst h7
  exact ref_do_quit w hc hv hs hi hf hk
 ·exact ref_do_else w hc hv hs hi hf hk (by omega)
theorem fc_cell {c:CM} {W0 w:World} {X:List (Option Nat)} (h:Sub c w.cell?):Sub (fc c W0 w X) w.cell?:=fun a v e=>by
 unfold fc at e
 split at e
 ·exact h _ _ e
 ·exact fr_sub _ _ _ _ _ e
theorem fc_call {c:CM} {W0 wr W W1:World} {X:List (Option Nat)} (h1:Grow wr W1) (h0:W0.heap.size ≤ W.heap.size) (hX:∀ k,W.heap.size ≤ k→some k ∉ X):Sub (ov (fc c W0 wr X) W W1) (fc c W0 W1 X):=fun a v e=>by
 unfold ov at e
 split at e
 ·exact fc_grow h1 a v e
 ·rw [fc_new (by omega) (hX _ (by omega))];exact e
theorem wrongGo_le (h:Int):∀ (l:List Pt) (had:List (Int × Int)),0 ≤ wrongGo h had l∧wrongGo h had l ≤ 5
 | [],had=>by simp [wrongGo]
 | p :: l,had=>by
  unfold wrongGo
  split
  ·omega
  ·split
   ·omega
   ·exact wrongGo_le h l _
theorem doErr_ok (x:AW) (s:St):I64 (doErr x s):=by
 have h:0 ≤ doErr x s∧doErr x s ≤ 9:=by
  unfold doErr
  split
  ·split
   ·unfold beginE;split <;> omega
   ·unfold wrongE
    split
    ·omega
    ·have:=wrongGo_le x.houses.length s.parts []
     omega
  ·split
   ·split <;> omega
   ·split
    ·split
     ·unfold fallE;split <;> omega
     ·split <;> omega
    ·split
     ·split <;> omega
     ·split <;> omega
 exact i64_of (by omega) (by omega)
set_option maxRecDepth 100000 in
set_option maxHeartbeats 4000000 in
theorem ref_playC {c:CM} {v:Value} {l:List St} {n:Nat} (w:World) (hn:1 ≤ n∧n ≤ 3) (hc:Sub c w.cell?) (hv:Sl Ty.st c v l) :
  Calls Try.prog 72 #[.int .i64 n,v] w fun e w'=>∃ v1 v2,e = .returned (.tuple #[v1,v2])∧Of Ty.wd (ov c w w') v1 (playA (newA n) (l.take 150))∧Sl Ty.int (ov (fun _=>none) w w') v2 (playE (newA n) (l.take 150))∧Grow w w':=by
 have HC:=Lib.hid hc
 clear hc
 obtain ⟨a,cap,rfl,h1,h2,-,hel⟩:=hv
 unfold maxLen at h2
 have HN:=Lib.hid hn
 clear hn
 obtain ⟨wb,hwb⟩:∃ y:World,y = w.alloc (.cells #[.slice none 0 0,.int .i64 0,.int .i64 0,.slice none 0 0,.slice none 0 0,.slice none 0 0] 93):=⟨_,rfl⟩
 have RB:Hid (wb.heap[w.heap.size]? = some (.cells #[.slice none 0 0,.int .i64 0,.int .i64 0,.slice none 0 0,.slice none 0 0,.slice none 0 0] 93 (0,0))):=Lib.hid (by rw [hwb];exact row_new _ _)
 have GB0:Hid (Grow w wb):=Lib.hid (by rw [hwb];exact (Grow.refl w).alloc _)
 have HSB:Hid (wb.heap.size = w.heap.size + 1):=Lib.hid (by rw [hwb];simp)
 have HWB:=Lib.hid hwb
 clear hwb
 go_enter Try.func72,Try.ntmps72
 go_upto_region 1 with fail
 rw [← HWB.out]
 clear HWB
 go_wp2_with fail
 refine (ref_newN wb HN.out).mono ?_
 rintro e w2 ⟨v2,rfl,hx2,hb2⟩
 obtain ⟨al,cl,ao,co,ah,ch,an,cn,rfl⟩:=hx2.wd_form
 have HX2:Hid (Of Ty.wd (wo w.heap.size (ov c w w2)) _ (newA n)):=Lib.hid (hx2.mono (fun a9 v9 e9=>by
  unfold ov at e9
  split at e9
  ·cases e9
  ·unfold wo
   rw [if_neg (by have:=HSB.out;omega),ov_new (by have:=HSB.out;omega)];exact e9))
 have G2:=Lib.hid (GB0.out.trans hb2)
 have RB2:=Lib.hid (row_grow RB.out hb2)
 have HSW:Hid (w.heap.size < w2.heap.size):=Lib.hid (by have:=hb2.size;have:=HSB.out;omega)
 have HC2:Hid (Sub c (wo w.heap.size (ov c w w2))):=Lib.hid (wo_ov_in HC.out (Nat.le_refl _))
 clear hx2 hb2
 obtain ⟨x0,hx0⟩:∃ y,y = newA n:=⟨_,rfl⟩
 rw [← hx0] at HX2 ⊢
 have HX0:=Lib.hid hx0
 clear hx0
 go_upto_region 2 with fail
 obtain ⟨wz,hwz⟩:∃ y:World,y = w2.alloc (.cells #[.slice al x0.head.log.length cl,.int .i64 x0.head.boot,.int .i64 x0.head.next,.slice ao x0.head.opn.length co,.slice ah x0.houses.length ch,.slice an x0.net.length cn] 93):=⟨_,rfl⟩
 obtain ⟨B6,hB6⟩:∃ y,y = w2.heap.size:=⟨_,rfl⟩
 have GZ:Hid (Grow w2 wz):=Lib.hid (by rw [hwz];exact (Grow.refl _).alloc _)
 have R6:Hid (wz.heap[B6]? = some (.cells #[.slice al x0.head.log.length cl,.int .i64 x0.head.boot,.int .i64 x0.head.next,.slice ao x0.head.opn.length co,.slice ah x0.houses.length ch,.slice an x0.net.length cn] 93 (0,0))):=Lib.hid (by rw [hwz,hB6];exact row_new _ _)
 have HZB:Hid (wz.heap.size = B6 + 1):=Lib.hid (by rw [hwz,hB6];simp)
 have HB2:Hid (B6 = w2.heap.size):=Lib.hid hB6
 rw [← hwz,← hB6]
 clear hwz hB6
 go_wp2
 go_loopw [8,20] (fun s8 i wr=>∃ (k:Nat) (row:Array Value),k ≤ l.length∧k ≤ 150∧i = .int .i64 k∧wr.heap[B6]? = some (.cells row 93 (0,0))∧Of Ty.wd (fc (wo w.heap.size (ov c w w2)) wz wr [s8.ownBlock]) (.agg row) (playA x0 (l.take k))∧OwnC Ty.int (fun _=>none) wr (B6 + 1) 40 s8 (playE x0 (l.take k))∧Grow w2 wr) (fun _ i _=>l.length - (intOf i).toNat)
 case atStart=>exact ⟨0,_,by omega,by omega,rfl,R6.out,HX2.out.mono (fc_in ((wo_ov_sub HC.out G2.out).trans GZ.out.sub)),OwnC.nil _ _ _ _ _,GZ.out⟩
 case round=>
  obtain ⟨k,row,hk',hk5,rfl,hrow,hx,how,hb⟩:=hrel
  have HEL:Hid (I64 (0:Int)):=Lib.hid zero_ok
  obtain ⟨a8,c8,rfl⟩:=how.form
  obtain ⟨al2,cl2,ao2,co2,ah2,ch2,an2,cn2,hrw⟩:=hx.wd_form
  simp only [Value.agg.injEq] at hrw
  subst hrw
  have HPL:Hid ((playE x0 (l.take k)).length ≤ 150):=Lib.hid (by rw [playE_len,List.length_take];omega)
  have HWI:Hid (∃ G,WI n G (playA x0 (l.take k))):=Lib.hid (by rw [HX0.out];obtain ⟨G,hw,-⟩:=WI.of_play HN.out (l.take k);exact ⟨G,hw⟩)
  have HFW:Hid (Few k (playA x0 (l.take k))):=Lib.hid (by rw [HX0.out];have h9:=Few.play n (l.take k) (Few.zero n);rw [List.length_take,Nat.min_eq_left hk',Nat.zero_add] at h9;exact h9)
  have HROW:=Lib.hid hrow
  have HX:=Lib.hid hx
  have HOW:=Lib.hid how
  have HB:=Lib.hid hb
  have RZR:=Lib.hid (row_grow RB2.out hb)
  have hBr:B6 < wr.heap.size:=(Array.getElem?_eq_some_iff.1 hrow).1
  have HCR:Hid (Sub (fc (wo w.heap.size (ov c w w2)) wz wr [(Value.slice a8 (playE x0 (l.take k)).length c8).ownBlock]) wr.cell?):=Lib.hid (fc_cell ((wo_ov_sub HC.out G2.out).trans hb.sub))
  have HLT8:Hid (∀ q,(Value.slice a8 (playE x0 (l.take k)).length c8).ownBlock = some q→B6 + 1 ≤ q∧q < wr.heap.size):=Lib.hid how.lt
  clear hrow hx how hb
  by_cases hlt:k < l.length
  ·obtain ⟨b,o,vp,rfl,c0,c1,c2,i0,i1,hP⟩:=Sts.at_ hel k hlt
   obtain ⟨ap,cp,rfl,-⟩:=id hP
   have HST:Hid (Of Ty.st c (.agg #[.int .i64 l[k].kind,.int .i64 l[k].n,.slice ap l[k].parts.length cp]) l[k]):=Lib.hid ⟨_,rfl,_,rfl,i0,i1,hP⟩
   have HNA:Hid (playA x0 (l.take (k + 1)) = doA (playA x0 (l.take k)) l[k]):=Lib.hid (playA_next hlt x0)
   have HNE:Hid (playE x0 (l.take (k + 1)) = playE x0 (l.take k) ++ [doErr (playA x0 (l.take k)) l[k]]):=Lib.hid (playE_next hlt x0)
   have HTA:Hid (k = 150→playA x0 (l.take 150) = playA x0 (l.take k)∧playE x0 (l.take 150) = playE x0 (l.take k)):=Lib.hid (fun e=>by rw [e];exact ⟨rfl,rfl⟩)
   have gs:=G2.out.trans HB.out
   replace c0:=gs.sub _ _ (HC.out _ _ c0)
   replace c1:=gs.sub _ _ (HC.out _ _ c1)
   replace c2:=gs.sub _ _ (HC.out _ _ c2)
   clear hel hP i0 i1 gs
   generalize l[k] = st at *
   generalize playA x0 (l.take k) = x at *
   generalize playE x0 (l.take k) = es at *
   go_upto_region 6 with fail
   obtain ⟨ws,hws⟩:∃ y:World,y = wr.alloc (.cells #[.int .i64 st.kind,.int .i64 st.n,.slice ap st.parts.length cp] 164):=⟨_,rfl⟩
   obtain ⟨BS,hBS⟩:∃ y,y = wr.heap.size:=⟨_,rfl⟩
   have GS:Hid (Grow wr ws):=Lib.hid (by rw [hws];exact (Grow.refl _).alloc _)
   have RS:Hid (ws.heap[BS]? = some (.cells #[.int .i64 st.kind,.int .i64 st.n,.slice ap st.parts.length cp] 164 (0,0))):=Lib.hid (by rw [hws,hBS];exact row_new _ _)
   rw [← hws,← hBS]
   clear hws hBS c0 c1 c2
   have RWS:=Lib.hid (row_grow HROW.out GS.out)
   have RZS:=Lib.hid (row_grow RZR.out GS.out)
   have GBS:=Lib.hid (HB.out.trans GS.out)
   have HXS:=Lib.hid (HX.out.mono (fc_grow GS.out))
   have HOS:=Lib.hid (HOW.out.grow GS.out)
   obtain ⟨x1,x2,x3,x4,x5,x6⟩:=cells6 RWS.out
   obtain ⟨s0,s1,s2⟩:=cells3 RS.out
   have zX:B6 < ws.heap.size:=(Array.getElem?_eq_some_iff.1 RWS.out).1
   have zS:BS < ws.heap.size:=(Array.getElem?_eq_some_iff.1 RS.out).1
   by_cases h150:k = 150
   ·have hb150:((k:Int) == 150) = true:=by simp;omega
    obtain ⟨ea,ee⟩:=HTA.out h150
    have HEA:=Lib.hid ea
    have HEE:=Lib.hid ee
    clear ea ee h150
    go_wp2_with (first | (refine wpList_store_row rfl (.tmp 4) (.tmp 39) rfl rfl rfl RZS.out info_wd rfl rfl ?_))
    intro w7 r7 g7
    obtain ⟨p0,p1,p2,p3,p4,p5⟩:=cells6 r7
    clear x1 x2 x3 x4 x5 x6
    go_wp2
    refine bodyPost_ret (v:=.tuple #[.agg #[.slice al2 x.head.log.length cl2,.int .i64 x.head.boot,.int .i64 x.head.next,.slice ao2 x.head.opn.length co2,.slice ah2 x.houses.length ch2,.slice an2 x.net.length cn2],.slice a8 es.length c8]) (by simp [results,Try.results72,go_sem,p0,p1,p2,p3,p4,p5]) rfl ?_
    have hs1:=HSW.out
    have hs2:=HB2.out
    have hsub:Sub (fc (wo w.heap.size (ov c w w2)) wz ws [(Value.slice a8 es.length c8).ownBlock]) (ov c w w7):=fun a9 v9 e9=>by
     have hl:=HZB.out
     unfold fc at e9
     split at e9
     ·have e8:=wo_sub _ _ _ _ e9
      unfold ov at e8 ⊢
      split at e8
      ·rw [if_pos ‹_›];exact e8
      ·rw [if_neg ‹_›];exact cell_past (GBS.out.sub _ _ e8) g7 (wo_ne e9)
     ·rw [ov_new (by omega)];exact cell_past (fr_sub _ _ _ _ _ e9) g7 (by omega)
    have G7:Grow w w7:=(G2.out.trans GBS.out).grown g7 (fun q hq=>by have:=Option.some.inj hq;omega)
    rw [← HX0.out,HEA.out,HEE.out]
    exact ⟨_,_,rfl,HXS.out.mono hsub,(HOS.out.kept g7 (own_apart HOS.out (by omega))).slc (by decide) (fun _ _ e9=>by cases e9) fun a9 h9=>ov_new (by omega),G7⟩
   ·have hb150:((k:Int) == 150) = false:=by simp;omega
    obtain ⟨G,hwi⟩:=HWI.out
    have HDO:=Lib.hid (ref_do_step (s:=st) ws ((HCR.out).trans GS.out.sub) HX.out (HST.out.mono (HC2.out.trans (fc_in ((wo_ov_sub HC.out G2.out).trans GZ.out.sub)))) hwi HFW.out (by omega))
    clear hwi HWI HFW HTA
    go_wp2_with fail
    refine HDO.out.mono ?_
    rintro e w3 ⟨v3,rfl,hx3,hb3⟩
    obtain ⟨al3,cl3,ao3,co3,ah3,ch3,an3,cn3,rfl⟩:=hx3.wd_form
    have HX3:Hid (Of Ty.wd (fc (wo w.heap.size (ov c w w2)) wz w3 [(Value.slice a8 es.length c8).ownBlock]) (.agg #[.slice al3 (doA x st).head.log.length cl3,.int .i64 (doA x st).head.boot,.int .i64 (doA x st).head.next,.slice ao3 (doA x st).head.opn.length co3,.slice ah3 (doA x st).houses.length ch3,.slice an3 (doA x st).net.length cn3]) (doA x st)):=Lib.hid (hx3.mono (fc_call (GS.out.trans hb3) (by have:=HZB.out;omega) (fun k9 hk9=>by simp only [List.mem_singleton];intro e9;have:=(HLT8.out _ e9.symm).2;have:=GS.out.size;omega)))
    have RW3:=Lib.hid (row_grow RWS.out hb3)
    have RZ3:=Lib.hid (row_grow RZS.out hb3)
    have GB3:=Lib.hid (GBS.out.trans hb3)
    have HO3:=Lib.hid (HOS.out.grow hb3)
    have HEI:=Lib.hid (doErr_ok x st)
    clear hx3 hb3 HDO x1 x2 x3 x4 x5 x6 s0 s1 s2 zX zS
    generalize doA x st = y at *
    generalize doErr x st = er at *
    go_upto_region 8 with fail
    obtain ⟨w4,hw4⟩:∃ y9:World,y9 = w3.alloc (.cells #[.slice al3 y.head.log.length cl3,.int .i64 y.head.boot,.int .i64 y.head.next,.slice ao3 y.head.opn.length co3,.slice ah3 y.houses.length ch3,.slice an3 y.net.length cn3] 93):=⟨_,rfl⟩
    obtain ⟨BX,hBX⟩:∃ y9,y9 = w3.heap.size:=⟨_,rfl⟩
    have G34:Hid (Grow w3 w4):=Lib.hid (by rw [hw4];exact (Grow.refl _).alloc _)
    have RX4:Hid (w4.heap[BX]? = some (.cells #[.slice al3 y.head.log.length cl3,.int .i64 y.head.boot,.int .i64 y.head.next,.slice ao3 y.head.opn.length co3,.slice ah3 y.houses.length ch3,.slice an3 y.net.length cn3] 93 (0,0))):=Lib.hid (by rw [hw4,hBX];exact row_new _ _)
    have HBX:Hid (BX = w3.heap.size):=Lib.hid hBX
    rw [← hw4,← hBX]
    clear hw4 hBX
    have RW4:=Lib.hid (row_grow RW3.out G34.out)
    obtain ⟨x1,x2,x3,x4,x5,x6⟩:=cells6 RX4.out
    have zX:BX < w4.heap.size:=(Array.getElem?_eq_some_iff.1 RX4.out).1
    go_wp2_with (first | (refine wpList_store_row rfl (.tmp 6) (.tmp 33) rfl rfl rfl RW4.out info_wd rfl rfl ?_))
    intro w5 r5 g5
    have R65:=Lib.hid r5
    have GB5:=Lib.hid ((GB3.out.trans G34.out).grown g5 (fun q hq=>by have:=Option.some.inj hq;have:=HB2.out;omega))
    have HX5:=Lib.hid ((HX3.out.mono (fc_grow G34.out)).mono (fc_box g5 (by have:=HZB.out;omega)))
    have HO5:=Lib.hid ((HO3.out.grow G34.out).kept g5 (own_apart HO3.out (by omega)))
    have HS5:Hid (B6 + 1 ≤ w5.heap.size):=Lib.hid (by have:=(Array.getElem?_eq_some_iff.1 r5).1;omega)
    clear r5 g5 x1 x2 x3 x4 x5 x6 zX
    go_wp2_with (first | (at_builtin;refine wpList_appc (c:=fun _=>none) (base:=B6 + 1) (l:=es) (m:=[er]) ei_errno rfl one_Tint (by decide) rfl (.tmp 34) (.tmp 36) rfl rfl (HO5.out.grow ((Grow.refl _).alloc _)) rfl (Src.of_new (T:=Ty.int) (x:=er) (cs:=#[.int .i64 er]) ⟨rfl,HEI.out⟩ _ _ ?d1) ?d2 ?d3 ?_))
    case d1=>first | rfl | simp
    case d2=>have:=HPL.out;simp;omega
    case d3=>have:=HS5.out;simp;omega
    intro a9 c9 w9 ho9 hg9 hb9
    have HLT5:=HO5.out.lt
    have HX9:=Lib.hid ((HX5.out.mono (fc_grow ((Grow.refl w5).alloc (.cells #[.int .i64 er] 40)))).mono (fc_app hg9 (hb9.imp_right fun ⟨g,e,hge⟩=>⟨g,e,by simpa using hge⟩)))
    have R69:=Lib.hid (row_by (row_grow R65.out ((Grow.refl w5).alloc (.cells #[.int .i64 er] 40))) hg9 (by intro e;have:=(HLT5 _ e.symm).1;omega))
    have GB9:=Lib.hid ((GB5.out.alloc (.cells #[.int .i64 er] 40)).grown hg9 (fun q hq=>by have:=(HLT5 q hq).1;have:=HB2.out;omega))
    have HO9:=Lib.hid ho9
    clear ho9 hg9 hb9 HLT5
    go_wp2
    go_roundw
    case rel=>exact ⟨k + 1,_,by omega,by omega,by go_num,R69.out,by rw [HNA.out];exact HX9.out,by rw [HNE.out];exact HO9.out,GB9.out⟩
    case measure=>simp [intOf];omega
  ·have HEA:Hid (playA x0 (l.take 150) = playA x0 (l.take k)):=Lib.hid (by rw [List.take_of_length_le (by omega),List.take_of_length_le (by omega)])
   have HEE:Hid (playE x0 (l.take 150) = playE x0 (l.take k)):=Lib.hid (by rw [List.take_of_length_le (by omega),List.take_of_length_le (by omega)])
   clear hel
   generalize playA x0 (l.take k) = x at *
   generalize playE x0 (l.take k) = es at *
   have RZS:=Lib.hid RZR.out
   have GBS:=Lib.hid HB.out
   have HXS:=Lib.hid HX.out
   have HOS:=Lib.hid HOW.out
   obtain ⟨x1,x2,x3,x4,x5,x6⟩:=cells6 HROW.out
   go_wp2_with (first | (refine wpList_store_row rfl (.tmp 4) (.tmp 39) rfl rfl rfl RZS.out info_wd rfl rfl ?_))
   intro w7 r7 g7
   obtain ⟨p0,p1,p2,p3,p4,p5⟩:=cells6 r7
   clear x1 x2 x3 x4 x5 x6
   go_wp2
   refine bodyPost_ret (v:=.tuple #[.agg #[.slice al2 x.head.log.length cl2,.int .i64 x.head.boot,.int .i64 x.head.next,.slice ao2 x.head.opn.length co2,.slice ah2 x.houses.length ch2,.slice an2 x.net.length cn2],.slice a8 es.length c8]) (by simp [results,Try.results72,go_sem,p0,p1,p2,p3,p4,p5]) rfl ?_
   have hs1:=HSW.out
   have hs2:=HB2.out
   have hsub:Sub (fc (wo w.heap.size (ov c w w2)) wz wr [(Value.slice a8 es.length c8).ownBlock]) (ov c w w7):=fun a9 v9 e9=>by
    have hl:=HZB.out
    unfold fc at e9
    split at e9
    ·have e8:=wo_sub _ _ _ _ e9
     unfold ov at e8 ⊢
     split at e8
     ·rw [if_pos ‹_›];exact e8
     ·rw [if_neg ‹_›];exact cell_past (GBS.out.sub _ _ e8) g7 (wo_ne e9)
    ·rw [ov_new (by omega)];exact cell_past (fr_sub _ _ _ _ _ e9) g7 (by omega)
   have G7:Grow w w7:=(G2.out.trans GBS.out).grown g7 (fun q hq=>by have:=Option.some.inj hq;omega)
   rw [← HX0.out,HEA.out,HEE.out]
   exact ⟨_,_,rfl,HXS.out.mono hsub,(HOS.out.kept g7 (own_apart HOS.out (by omega))).slc (by decide) (fun _ _ e9=>by cases e9) fun a9 h9=>ov_new (by omega),G7⟩
theorem ptsR_of {l:List Pt} {n:Nat} (hn:n ≤ 3) (h:wrongE l n = 0):PtsR l where
 ne:=fun e=>by have:=(wrong_ok h).1;rw [e] at this;simp at this
 lt:=fun p hp=>by have:=(wrong_ok h).2.2.1 p hp;omega
 len:=(wrong_ok h).2.1
theorem WI.hdinv {n:Nat} {G:Reg} {x:AW} (i:WI n G x) (h:LogP x.head.log):HdInv x.head where
 parts:=fun o ho=>ptsR_of i.core.n3.2 (i.core.reg.ok _ (i.core.oreg o ho)).2
 few:=fun o ho k _ _=>(i.core.onew o ho).2.2
 logp:=fun r hr=>by have:=logP_len i h r hr;omega
set_option maxRecDepth 100000 in
set_option maxHeartbeats 2000000 in
theorem build_no {n0:Int} {v:Value} (w:World) (hn:n0 < 1 ∨ 3 < n0) :
  Calls Try.prog 101 #[.int .i64 n0,v] w fun e w'=>e = .returned (.tuple #[.agg #[.slice none 0 0,.int .i64 0,.int .i64 0,.slice none 0 0],.bool false])∧Grow w w':=by
 obtain ⟨wz,hwz⟩:∃ y:World,y = w.alloc (.cells #[.slice none 0 0,.int .i64 0,.int .i64 0,.slice none 0 0] 57):=⟨_,rfl⟩
 have R1:Hid (wz.heap[w.heap.size]? = some (.cells #[.slice none 0 0,.int .i64 0,.int .i64 0,.slice none 0 0] 57 (0,0))):=Lib.hid (by rw [hwz];exact row_new _ _)
 have G1:Hid (Grow w wz):=Lib.hid (by rw [hwz];exact (Grow.refl w).alloc _)
 by_cases h1:n0 < 1
 ·clear hn
  go_enter Try.func101,Try.ntmps101
  go_upto_region 1 with fail
  rw [← hwz]
  clear hwz
  go_upto_region 2 with fail
  go_wp2_with (first | (refine wpList_store_row rfl (.tmp 4) (.tmp 14) rfl rfl rfl R1.out info_hd rfl rfl ?_))
  intro w7 r7 g7
  obtain ⟨p0,p1,p2,p3⟩:=cells4 r7
  go_wp2
  refine bodyPost_ret (v:=.tuple #[.agg #[.slice none 0 0,.int .i64 0,.int .i64 0,.slice none 0 0],.bool false]) (by simp [results,Try.results101,go_sem,p0,p1,p2,p3]) rfl ?_
  exact ⟨rfl,G1.out.grown g7 (fun q hq=>by have:=Option.some.inj hq;omega)⟩
 ·have h3:3 < n0:=hn.resolve_left h1
  clear hn
  go_enter Try.func101,Try.ntmps101
  go_upto_region 1 with fail
  rw [← hwz]
  clear hwz
  go_upto_region 2 with fail
  go_wp2_with (first | (refine wpList_store_row rfl (.tmp 4) (.tmp 14) rfl rfl rfl R1.out info_hd rfl rfl ?_))
  intro w7 r7 g7
  obtain ⟨p0,p1,p2,p3⟩:=cells4 r7
  go_wp2
  refine bodyPost_ret (v:=.tuple #[.agg #[.slice none 0 0,.int .i64 0,.int .i64 0,.slice none 0 0],.bool false]) (by simp [results,Try.results101,go_sem,p0,p1,p2,p3]) rfl ?_
  exact ⟨rfl,G1.out.grown g7 (fun q hq=>by have:=Option.some.inj hq;omega)⟩
set_option maxRecDepth 100000 in
set_option maxHeartbeats 2000000 in
theorem build_yes {n:Nat} {v:Value} {l:List St} (w:World) (hn:1 ≤ n∧n ≤ 3) (hv:Sl Ty.st w.cell? v l) :
  Calls Try.prog 101 #[.int .i64 n,v] w fun e w'=>∃ v',e = .returned (.tuple #[v',.bool true])∧Of Ty.hd w'.cell? v' (playA (newA n) (l.take 150)).head∧Grow w w':=by
 have HPL:=Lib.hid (fun (W:World) (hW:Grow w W)=>ref_playC (c:=w.cell?) (l:=l) W hn hW.sub hv)
 have h1:¬ (n:Int) < 1:=by omega
 have h3:¬ (3:Int) < (n:Int):=by omega
 obtain ⟨a1,c1,rfl,-⟩:=id hv
 clear hv
 generalize playA (newA n) (l.take 150) = x at *
 obtain ⟨wz,hwz⟩:∃ y:World,y = w.alloc (.cells #[.slice none 0 0,.int .i64 0,.int .i64 0,.slice none 0 0] 57):=⟨_,rfl⟩
 have R1:Hid (wz.heap[w.heap.size]? = some (.cells #[.slice none 0 0,.int .i64 0,.int .i64 0,.slice none 0 0] 57 (0,0))):=Lib.hid (by rw [hwz];exact row_new _ _)
 have G1:Hid (Grow w wz):=Lib.hid (by rw [hwz];exact (Grow.refl w).alloc _)
 go_enter Try.func101,Try.ntmps101
 go_upto_region 1 with fail
 rw [← hwz]
 clear hwz
 go_upto_region 3 with fail
 go_wp2_with fail
 refine (HPL.out _ G1.out).mono ?_
 rintro e w2 ⟨v2,v3,rfl,hx2,hes,hb2⟩
 obtain ⟨al,cl,ao,co,ah,ch,an,cn,rfl⟩:=hx2.wd_form
 have HX2:=Lib.hid hx2
 have R12:=Lib.hid (row_grow R1.out hb2)
 have HB2:=Lib.hid hb2
 clear hx2 hes hb2 HPL
 go_upto_region 4 with fail
 obtain ⟨w3,hw3⟩:∃ y:World,y = w2.alloc (.cells #[.slice al x.head.log.length cl,.int .i64 x.head.boot,.int .i64 x.head.next,.slice ao x.head.opn.length co,.slice ah x.houses.length ch,.slice an x.net.length cn] 93):=⟨_,rfl⟩
 obtain ⟨B5,hB5⟩:∃ y,y = w2.heap.size:=⟨_,rfl⟩
 have G23:Hid (Grow w2 w3):=Lib.hid (by rw [hw3];exact (Grow.refl _).alloc _)
 have R5:Hid (w3.heap[B5]? = some (.cells #[.slice al x.head.log.length cl,.int .i64 x.head.boot,.int .i64 x.head.next,.slice ao x.head.opn.length co,.slice ah x.houses.length ch,.slice an x.net.length cn] 93 (0,0))):=Lib.hid (by rw [hw3,hB5];exact row_new _ _)
 rw [← hw3,← hB5]
 clear hw3 hB5
 have R13:=Lib.hid (row_grow R12.out G23.out)
 have G3:=Lib.hid ((G1.out.trans HB2.out).trans G23.out)
 obtain ⟨k0,k1,k2,k3,k4,k5⟩:=cells6 R5.out
 have z5:B5 < w3.heap.size:=(Array.getElem?_eq_some_iff.1 R5.out).1
 go_wp2_with (first | (refine wpList_store_row rfl (.tmp 4) (.tmp 22) rfl rfl rfl R13.out info_hd rfl rfl ?_))
 intro w7 r7 g7
 obtain ⟨p0,p1,p2,p3⟩:=cells4 r7
 go_wp2
 refine bodyPost_ret (v:=.tuple #[.agg #[.slice al x.head.log.length cl,.int .i64 x.head.boot,.int .i64 x.head.next,.slice ao x.head.opn.length co],.bool true]) (by simp [results,Try.results101,go_sem,p0,p1,p2,p3]) rfl ?_
 have z1:=(Array.getElem?_eq_some_iff.1 R1.out).1
 have hs:=G1.out.size
 refine ⟨_,rfl,HX2.out.wd_parts.1.mono (fun a u e=>?_),G3.out.grown g7 (fun q hq=>by have:=Option.some.inj hq;omega)⟩
 unfold ov at e
 split at e
 ·have hl:=World.block_lt_of_cell? w a e
  exact cell_past (G3.out.sub _ _ e) g7 (by omega)
 ·exact cell_past (G23.out.sub _ _ e) g7 (by omega)
theorem whead_hear2 {v vm:Value} {h:Hd} {m:Ms} (w:World) (hv:Of Ty.hd w.cell? v h) (hm:Of Ty.ms w.cell? vm m) (hk:HdOk h) (hi:HdInv h) :
  Calls Try.prog 112 #[v,vm] w fun e w'=>∃ v1 v2,e = .returned (.tuple #[v1,v2])∧Of Ty.hd (ov (fun _=>none) w w') v1 (hHearH h m)∧Sl Ty.ms (ov (fun _=>none) w w') v2 (hHearM h m)∧Grow w w':=
 (whead_hear w hv hm hk hi).mono fun _ _ ⟨v1,v2,he,h1,h2,h3⟩=>⟨v1,v2,he,h1,h2,h3⟩
theorem ov_by {c:CM} {W W2 w':World} {A:Nat} (hA:A < W.heap.size) (h2:W2.grownBy w' (some A)):Sub (ov c W W2) (ov c W w'):=fun a v e=>by
 unfold ov at e
 split at e
 ·unfold ov;rw [if_pos ‹_›];exact e
 ·rw [ov_new (by omega)];exact cell_past e h2 (by omega)
theorem ov_go {c:CM} {W W2 w':World} (h:Grow W2 w'):Sub (ov c W W2) (ov c W w'):=ov_mono (Sub.refl _) h
theorem ov_all {c:CM} {W w':World} (hc:Sub c w'.cell?):Sub (ov c W w') w'.cell?:=fun a v e=>by
 unfold ov at e
 split at e
 ·exact hc _ _ e
 ·exact e
set_option maxRecDepth 100000 in
set_option maxHeartbeats 8000000 in
theorem headTells_walk {n0:Int} {v vm vp:Value} {l:List St} {m:Ms} {P:List Pt} (w:World) (_hn:I64 n0) (hv:Sl Ty.st w.cell? v l) (_hs:l.length * 40 ≤ 140737488351232) (hm:Of Ty.ms w.cell? vm m) (hp:Pts w.cell? vp P) (_hs2:P.length * 24 ≤ 140737488351232) :
  Calls Try.prog 25 #[.int .i64 n0,v,vm,vp] w fun e w'=>e = .returned (.bool true)∧Grow w w':=by
 obtain ⟨apm,cpm,rfl⟩:=hm.ms_form
 obtain ⟨app,cpp,rfl,-⟩:=id hp
 obtain ⟨wa,hwa⟩:∃ y:World,y = w.alloc (.cells #[.int .i64 m.kind,.int .i64 m.deed,.int .i64 m.house,.slice apm m.parts.length cpm] 39):=⟨_,rfl⟩
 have RM:Hid (wa.heap[w.heap.size]? = some (.cells #[.int .i64 m.kind,.int .i64 m.deed,.int .i64 m.house,.slice apm m.parts.length cpm] 39 (0,0))):=Lib.hid (by rw [hwa];exact row_new _ _)
 have GA:Hid (Grow w wa):=Lib.hid (by rw [hwa];exact (Grow.refl w).alloc _)
 by_cases hin:n0 < 1 ∨ 3 < n0
 ·have HB:=Lib.hid (build_no (v:=v) wa hin)
  clear hin hv hm hp
  go_enter Try.func25,Try.ntmps25
  go_upto_region 1 with fail
  rw [← hwa]
  clear hwa
  go_wp2_with fail
  refine HB.out.mono ?_
  rintro e w2 ⟨rfl,hb2⟩
  have G2:=Lib.hid (GA.out.trans hb2)
  clear hb2
  go_wp2
  go_ret
  exact ⟨rfl,G2.out.alloc _⟩
 obtain ⟨n,rfl⟩:∃ n:Nat,n0 = (n:Int):=⟨n0.toNat,by omega⟩
 have hn:1 ≤ n∧n ≤ 3:=by omega
 obtain ⟨G,hwi,-⟩:=WI.of_play hn (l.take 150)
 have hfw:=Few.play n (l.take 150) (Few.zero n)
 have hlp:=logP_play (l.take 150) (logP_new n)
 rw [Nat.zero_add] at hfw
 have HOK:=Lib.hid (hwi.hdok hfw (by rw [List.length_take];omega))
 have HINV:=Lib.hid (hwi.hdinv hlp)
 have HBY:=Lib.hid (build_yes (l:=l) wa hn (hv.mono GA.out.sub))
 have HN3:=Lib.hid hn.2
 have HM:=Lib.hid hm
 have HP:=Lib.hid hp
 clear hfw hlp hwi hv hn hin hm hp
 generalize (playA (newA n) (l.take 150)).head = h at *
 go_enter Try.func25,Try.ntmps25
 go_upto_region 1 with fail
 rw [← hwa]
 clear hwa
 go_wp2_with fail
 refine HBY.out.mono ?_
 rintro e w2 ⟨v2,rfl,hx2,hb2⟩
 obtain ⟨al,cl,ar,cr,rfl⟩:=hx2.hd_form
 have HX2:=Lib.hid hx2
 have G2:=Lib.hid (GA.out.trans hb2)
 have RM2:=Lib.hid (row_grow RM.out hb2)
 clear hx2 hb2 HBY
 obtain ⟨w3,hw3⟩:∃ y:World,y = w2.alloc (.cells #[.slice al h.log.length cl,.int .i64 h.boot,.int .i64 h.next,.slice ar h.opn.length cr] 57):=⟨_,rfl⟩
 obtain ⟨B9,hB9⟩:∃ y,y = w2.heap.size:=⟨_,rfl⟩
 have G23:Hid (Grow w2 w3):=Lib.hid (by rw [hw3];exact (Grow.refl _).alloc _)
 have RH:Hid (w3.heap[B9]? = some (.cells #[.slice al h.log.length cl,.int .i64 h.boot,.int .i64 h.next,.slice ar h.opn.length cr] 57 (0,0))):=Lib.hid (by rw [hw3,hB9];exact row_new _ _)
 have HB9:Hid (B9 = w2.heap.size∧w3.heap.size = B9 + 1):=Lib.hid ⟨hB9,by rw [hw3,hB9];simp⟩
 go_upto_region 4 with fail
 rw [← hw3,← hB9]
 clear hw3 hB9
 have HX:=Lib.hid (HX2.out.mono G23.out.sub)
 have G3:=Lib.hid (G2.out.trans G23.out)
 have RM3:=Lib.hid (row_grow RM2.out G23.out)
 obtain ⟨d0,d1,d2,d3⟩:=cells4 RH.out
 have z9:B9 < w3.heap.size:=(Array.getElem?_eq_some_iff.1 RH.out).1
 have HFE:Hid (I64 (fallE h)):=Lib.hid (by unfold fallE;split <;> exact i64_of (by omega) (by omega))
 go_wp2_with fail
 refine (whead_fall w3 HX.out HOK.out HINV.out.logp).mono ?_
 rintro e w4 ⟨v4,rfl,hx4,hb4⟩
 obtain ⟨al4,cl4,ar4,cr4,rfl⟩:=hx4.hd_form
 have HX4:=Lib.hid (hx4.mono (ov_none_sub _ _))
 have G4:=Lib.hid hb4
 clear hx4 hb4 d0 d1 d2 d3 z9
 obtain ⟨y,hy⟩:∃ y,y = fallH h:=⟨_,rfl⟩
 obtain ⟨fe,hfe⟩:∃ y,y = fallE h:=⟨_,rfl⟩
 rw [← hy,← hfe]
 rw [← hy] at HX4
 have HY:=Lib.hid hy
 have HFE2:=Lib.hid hfe
 clear hy hfe
 obtain ⟨w5,hw5⟩:∃ y9:World,y9 = w4.alloc (.cells #[.slice al4 y.log.length cl4,.int .i64 y.boot,.int .i64 y.next,.slice ar4 y.opn.length cr4] 57):=⟨_,rfl⟩
 obtain ⟨B11,hB11⟩:∃ y,y = w4.heap.size:=⟨_,rfl⟩
 have G45:Hid (Grow w4 w5):=Lib.hid (by rw [hw5];exact (Grow.refl _).alloc _)
 have R11:Hid (w5.heap[B11]? = some (.cells #[.slice al4 y.log.length cl4,.int .i64 y.boot,.int .i64 y.next,.slice ar4 y.opn.length cr4] 57 (0,0))):=Lib.hid (by rw [hw5,hB11];exact row_new _ _)
 have HB11:Hid (B11 = w4.heap.size∧w5.heap.size = B11 + 1):=Lib.hid ⟨hB11,by rw [hw5,hB11];simp⟩
 have RH5:=Lib.hid (row_grow RH.out (G4.out.trans G45.out))
 go_upto_region 5 with fail
 rw [← hw5,← hB11]
 clear hw5 hB11
 obtain ⟨d0,d1,d2,d3⟩:=cells4 RH5.out
 have z9:B9 < w5.heap.size:=(Array.getElem?_eq_some_iff.1 RH5.out).1
 have G35:=Lib.hid (G4.out.trans G45.out)
 go_wp2_with fail
 refine (ref_fall w5 (Sub.refl _) (HX.out.mono G35.out.sub) HOK.out).mono ?_
 rintro e w6 ⟨v6,rfl,hx6,hb6⟩
 obtain ⟨al6,cl6,ar6,cr6,rfl⟩:=hx6.hd_form
 have HX6:=Lib.hid (hx6.mono (ov_sub (Sub.refl _) hb6))
 have G6:=Lib.hid hb6
 clear hx6 hb6 d0 d1 d2 d3 z9
 rw [← HY.out] at HX6 ⊢
 rw [← HFE2.out]
 obtain ⟨w7,hw7⟩:∃ y9:World,y9 = w6.alloc (.cells #[.slice al6 y.log.length cl6,.int .i64 y.boot,.int .i64 y.next,.slice ar6 y.opn.length cr6] 57):=⟨_,rfl⟩
 obtain ⟨B13,hB13⟩:∃ y,y = w6.heap.size:=⟨_,rfl⟩
 have G67:Hid (Grow w6 w7):=Lib.hid (by rw [hw7];exact (Grow.refl _).alloc _)
 have R13:Hid (w7.heap[B13]? = some (.cells #[.slice al6 y.log.length cl6,.int .i64 y.boot,.int .i64 y.next,.slice ar6 y.opn.length cr6] 57 (0,0))):=Lib.hid (by rw [hw7,hB13];exact row_new _ _)
 have HB13:Hid (B13 = w6.heap.size):=Lib.hid hB13
 have G57:=Lib.hid (G6.out.trans G67.out)
 have R117:=Lib.hid (row_grow R11.out G57.out)
 have G37:=Lib.hid (G35.out.trans G57.out)
 have RH7:=Lib.hid (row_grow RH.out G37.out)
 have HX47:=Lib.hid (HX4.out.mono (G45.out.trans G57.out).sub)
 have HX67:=Lib.hid (HX6.out.mono G67.out.sub)
 have HX7:=Lib.hid (HX.out.mono G37.out.sub)
 have HZ7:Hid (w2.heap.size ≤ B11∧w2.heap.size ≤ B13∧B9 ≠ B11∧B9 ≠ B13∧B11 ≠ B13∧w3.heap.size ≤ B11∧w3.heap.size ≤ B13):=Lib.hid (by have:=HB9.out;have:=HB11.out;have:=HB13.out;have:=G4.out.size;have:=G6.out.size;have:=G23.out.size;omega)
 go_upto_region 6 with fail
 rw [← hw7,← hB13]
 clear hw7 hB13
 have hfe2:(fe != fe) = false:=by simp
 have HS:Hid (∀ W,Grow w7 W→W.cell? ⟨B9,0,none⟩ = some (.slice al h.log.length cl)∧W.cell? ⟨B9,1,none⟩ = some (.int .i64 h.boot)∧W.cell? ⟨B9,2,none⟩ = some (.int .i64 h.next)∧W.cell? ⟨B9,3,none⟩ = some (.slice ar h.opn.length cr)∧W.cell? ⟨B11,0,none⟩ = some (.slice al4 y.log.length cl4)∧W.cell? ⟨B11,1,none⟩ = some (.int .i64 y.boot)∧W.cell? ⟨B11,2,none⟩ = some (.int .i64 y.next)∧W.cell? ⟨B11,3,none⟩ = some (.slice ar4 y.opn.length cr4)∧W.cell? ⟨B13,0,none⟩ = some (.slice al6 y.log.length cl6)∧W.cell? ⟨B13,1,none⟩ = some (.int .i64 y.boot)∧W.cell? ⟨B13,2,none⟩ = some (.int .i64 y.next)∧W.cell? ⟨B13,3,none⟩ = some (.slice ar6 y.opn.length cr6)):=fun W hW=>by
  obtain ⟨a0,a1,a2,a3⟩:=cells4 (row_grow RH7.out hW)
  obtain ⟨b0,b1,b2,b3⟩:=cells4 (row_grow R117.out hW)
  obtain ⟨e0,e1,e2,e3⟩:=cells4 (row_grow R13.out hW)
  exact ⟨a0,a1,a2,a3,b0,b1,b2,b3,e0,e1,e2,e3⟩
 go_cut [58] from 35 (fun s58 wc=>s58 = .bool false∧Grow w7 wc)
 case first=>
  refine bSc (fun w'=>w'.cell? ⟨B9,0,none⟩ = some (.slice al h.log.length cl)∧w'.cell? ⟨B9,1,none⟩ = some (.int .i64 h.boot)∧w'.cell? ⟨B9,2,none⟩ = some (.int .i64 h.next)∧w'.cell? ⟨B9,3,none⟩ = some (.slice ar h.opn.length cr)∧w'.cell? ⟨B11,0,none⟩ = some (.slice al4 y.log.length cl4)∧w'.cell? ⟨B11,1,none⟩ = some (.int .i64 y.boot)∧w'.cell? ⟨B11,2,none⟩ = some (.int .i64 y.next)∧w'.cell? ⟨B11,3,none⟩ = some (.slice ar4 y.opn.length cr4)∧w'.cell? ⟨B13,0,none⟩ = some (.slice al6 y.log.length cl6)∧w'.cell? ⟨B13,1,none⟩ = some (.int .i64 y.boot)∧w'.cell? ⟨B13,2,none⟩ = some (.int .i64 y.next)∧w'.cell? ⟨B13,3,none⟩ = some (.slice ar6 y.opn.length cr6)) [23] (by kernel_rfl) ?_
  intro wd GD zD
  have ZD:=Lib.hid zD
  clear zD
  refine bLc [0,1,2,3,4,5] 26 (by kernel_rfl) (fun _ _ _ _ _ h=>h) (HS.out _ GD) ?_
  repeat (refine tNc (v:=?_) rfl (by rfl) ?_ ?_;rotate_left;(· (intro w' hSw;(try dsimp only at hSw);obtain ⟨hs0,hs1,hs2,hs3,hs4,hs5,hs6,hs7,hs8,hs9,hs10,hs11⟩:=hSw;go_simp <;> with_reducible rfl));try simp only [Act.put,lzA,lzB,lzC,lzD,lzE,lzF])
  refine tEc ?_
  refine bOc 6 (by kernel_rfl) rfl ?_
  intro K HK
  refine wanted_yes (by rfl) ?_
  try simp only [lzA,lzB,lzC]
  go_simp
  go_at_call 41
  refine ((ref_sameHead _ (HX47.out.mono (Grow.sub GD)) (HX67.out.mono (Grow.sub GD))).mono fun e9 w9 h9=>(⟨h9.1.trans (by rw [decide_eq_true rfl]),h9.2⟩:e9 = Ending.returned (.bool true)∧Grow _ w9)).mono ?_
  rintro eA wA ⟨rfl,hbA⟩
  have GA:=Lib.hid (Grow.trans GD hbA)
  clear hbA
  refine HK.out _ _ ⟨.inr (HS.out _ GA.out),?_⟩
  clear HK K
  try simp only [Act.put,lzA,lzB,lzC,lzD,lzE,lzF]
  refine bLc [7,8,9,10,12] 26 (by kernel_rfl) (fun _ _ _ _ _ h=>h) (HS.out _ GA.out) ?_
  repeat (refine tNc (v:=?_) rfl (by rfl) ?_ ?_;rotate_left;(· (intro w' hSw;(try dsimp only at hSw);obtain ⟨hs0,hs1,hs2,hs3,hs4,hs5,hs6,hs7,hs8,hs9,hs10,hs11⟩:=hSw;go_simp <;> with_reducible rfl));try simp only [Act.put,lzA,lzB,lzC,lzD,lzE,lzF])
  refine tEc ?_
  refine bOc 11 (by kernel_rfl) rfl ?_
  intro K HK
  refine wanted_yes (by rfl) ?_
  try simp only [lzA,lzB,lzC]
  go_simp
  go_at_call 104
  refine (head_own _ (HX7.out.mono (Grow.sub GA.out)) HOK.out HINV.out.logp).mono ?_
  rintro eo wo ⟨vlo,voo,Bo,Lo,rfl,hlo,hro9⟩
  obtain ⟨alo,clo,aro,cro,rfl,rfl⟩:=hro9.form
  have HIB:Hid (I64 h.boot∧I64 h.next):=Lib.hid (by obtain ⟨cs,he,_,_,rfl,_,h1,h2,_⟩:=HX7.out;exact ⟨h1,h2⟩)
  have HXO:=Lib.hid ((hro9.head hlo HIB.out.1 HIB.out.2).mono (ov_none_sub _ _))
  have Go:=Lib.hid (Grow.trans GA.out hro9.grow)
  clear hro9 hlo
  refine HK.out _ _ ⟨.inr (HS.out _ Go.out),?_⟩
  clear HK K
  try simp only [Act.put,lzA,lzB,lzC,lzD,lzE,lzF]
  refine bOc 13 (by kernel_rfl) rfl ?_
  intro K HK
  refine wanted_yes (by rfl) ?_
  try simp only [lzA,lzB,lzC]
  go_simp
  go_at_call 41
  refine ((ref_sameHead _ HXO.out (HX7.out.mono (Grow.sub Go.out))).mono fun e9 w9 h9=>(⟨h9.1.trans (by rw [decide_eq_true rfl]),h9.2⟩:e9 = Ending.returned (.bool true)∧Grow _ w9)).mono ?_
  rintro eB wB ⟨rfl,hbB⟩
  have GB:=Lib.hid (Grow.trans Go.out hbB)
  clear hbB
  refine HK.out _ _ ⟨.inr (HS.out _ GB.out),?_⟩
  clear HK K
  try simp only [Act.put,lzA,lzB,lzC,lzD,lzE,lzF]
  refine bLc [14,15,16,18] 26 (by kernel_rfl) (fun _ _ _ _ _ h=>h) (HS.out _ GB.out) ?_
  repeat (refine tNc (v:=?_) rfl (by rfl) ?_ ?_;rotate_left;(· (intro w' hSw;(try dsimp only at hSw);obtain ⟨hs0,hs1,hs2,hs3,hs4,hs5,hs6,hs7,hs8,hs9,hs10,hs11⟩:=hSw;go_simp <;> with_reducible rfl));try simp only [Act.put,lzA,lzB,lzC,lzD,lzE,lzF])
  refine tEc ?_
  refine bPc 17 19 (by kernel_rfl) rfl rfl ?_ ?_
  ·intro K HK
   refine wanted_yes (by rfl) ?_
   try simp only [lzA,lzB,lzC]
   go_simp
   go_at_call 105
   refine (whead_new _).mono ?_
   rintro en wn ⟨vn,rfl,hxn,hbn⟩
   obtain ⟨aln,cln,arn,crn,rfl⟩:=hxn.hd_form
   have HXN:=Lib.hid (hxn.mono (ov_none_sub _ _))
   have Gn:=Lib.hid (Grow.trans GB.out hbn)
   have GBn:=Lib.hid hbn
   clear hxn hbn
   refine HK.out _ _ ⟨.inr (HS.out _ Gn.out),?_⟩
   clear HK K
   try simp only [Act.put,lzA,lzB,lzC,lzD,lzE,lzF]
   refine bOc 19 (by kernel_rfl) rfl ?_
   intro K HK
   refine wanted_yes (by rfl) ?_
   try simp only [lzA,lzB,lzC]
   go_simp
   obtain ⟨wl,hwl⟩:∃ y9:World,y9 = wn.alloc (.cells #[.int .i64 4,.int .i64 0,.slice none 0 0] 48):=⟨_,rfl⟩
   obtain ⟨BL,hBL⟩:∃ y,y = wn.heap.size:=⟨_,rfl⟩
   have HLT:Hid (OwnC Ty.rc (fun _=>none) wl 0 48 (.slice (some ⟨BL,0,none⟩) 1 1) [⟨4,0,[]⟩]):=Lib.hid (by rw [hwl,hBL];exact one_boot _ (Nat.zero_le _))
   have GL:Hid (Grow wn wl):=Lib.hid (by rw [hwl];exact (Grow.refl _).alloc _)
   have GLL:=Lib.hid (Grow.trans Gn.out GL.out)
   rw [← hwl,← hBL]
   clear hwl hBL
   have HXN2:=Lib.hid (HXN.out.mono GL.out.sub)
   refine HK.out _ _ ⟨.inr (HS.out _ GLL.out),?_⟩
   clear HK K
   try simp only [Act.put,lzA,lzB,lzC,lzD,lzE,lzF]
   refine bOc 20 (by kernel_rfl) rfl ?_
   intro K HK
   refine wanted_yes (by rfl) ?_
   try simp only [lzA,lzB,lzC]
   go_simp
   go_at_call 43
   refine (ref_head (l:=[⟨4,0,[]⟩]) wl (Sub.refl _) (OwnC.slc (d:=World.cell? wl) (by decide) HLT.out (fun _ _ e=>by cases e) fun _ _=>rfl) (by decide)).mono ?_
   rintro eh wh ⟨vh,rfl,hxh,hbh⟩
   obtain ⟨alh,clh,arh,crh,rfl⟩:=hxh.hd_form
   have HXH:=Lib.hid (hxh.mono (ov_sub (Sub.refl _) hbh))
   have HXN9:=Lib.hid (HXN2.out.mono (Grow.sub hbh))
   have Gh:=Lib.hid (Grow.trans GLL.out hbh)
   clear hxh hbh
   refine HK.out _ _ ⟨.inr (HS.out _ Gh.out),?_⟩
   clear HK K
   try simp only [Act.put,lzA,lzB,lzC,lzD,lzE,lzF]
   refine bOc 21 (by kernel_rfl) rfl ?_
   intro K HK
   refine wanted_yes (by rfl) ?_
   try simp only [lzA,lzB,lzC]
   go_simp
   go_at_call 41
   refine ((ref_sameHead _ HXN9.out HXH.out).mono fun e9 w9 h9=>(⟨h9.1.trans (by rw [decide_eq_true rfl]),h9.2⟩:e9 = Ending.returned (.bool true)∧Grow _ w9)).mono ?_
   rintro eC wC ⟨rfl,hbC⟩
   have GC:=Lib.hid (Grow.trans Gh.out hbC)
   clear hbC
   refine HK.out _ _ ⟨.inr (HS.out _ GC.out),?_⟩
   clear HK K
   try simp only [Act.put,lzA,lzB,lzC,lzD,lzE,lzF]
   refine bLc [22] 26 (by kernel_rfl) (fun _ _ _ _ _ h=>h) (HS.out _ GC.out) ?_
   repeat (refine tNc (v:=?_) rfl (by rfl) ?_ ?_;rotate_left;(· (intro w' hSw;(try dsimp only at hSw);obtain ⟨hs0,hs1,hs2,hs3,hs4,hs5,hs6,hs7,hs8,hs9,hs10,hs11⟩:=hSw;go_simp <;> with_reducible rfl));try simp only [Act.put,lzA,lzB,lzC,lzD,lzE,lzF])
   refine tEc ?_
   refine bOc 23 (by kernel_rfl) rfl ?_
   intro K HK
   try simp only [lzA,lzB,lzC]
   go_simp
   refine HK.out _ _ ⟨.inl (by decide),?_⟩
   clear HK K
   try simp only [Act.put,lzA,lzB,lzC,lzD,lzE,lzF]
   refine bDc (by kernel_rfl) ?_
   go_wp2
   go_meet
   case rel=>exact ⟨rfl,GC.out⟩
  ·intro K HK
   refine wanted_yes (by rfl) ?_
   try simp only [lzA,lzB,lzC]
   go_simp
   obtain ⟨wl,hwl⟩:∃ y9:World,y9 = wB.alloc (.cells #[.int .i64 4,.int .i64 0,.slice none 0 0] 48):=⟨_,rfl⟩
   obtain ⟨BL,hBL⟩:∃ y,y = wB.heap.size:=⟨_,rfl⟩
   have HLT:Hid (OwnC Ty.rc (fun _=>none) wl 0 48 (.slice (some ⟨BL,0,none⟩) 1 1) [⟨4,0,[]⟩]):=Lib.hid (by rw [hwl,hBL];exact one_boot _ (Nat.zero_le _))
   have GL:Hid (Grow wB wl):=Lib.hid (by rw [hwl];exact (Grow.refl _).alloc _)
   have GLL:=Lib.hid (Grow.trans GB.out GL.out)
   rw [← hwl,← hBL]
   clear hwl hBL
   refine HK.out _ _ ⟨.inr (HS.out _ GLL.out),?_⟩
   clear HK K
   try simp only [Act.put,lzA,lzB,lzC,lzD,lzE,lzF]
   refine bOc 17 (by kernel_rfl) rfl ?_
   intro K HK
   refine wanted_yes (by rfl) ?_
   try simp only [lzA,lzB,lzC]
   go_simp
   go_at_call 105
   refine (whead_new _).mono ?_
   rintro en wn ⟨vn,rfl,hxn,hbn⟩
   obtain ⟨aln,cln,arn,crn,rfl⟩:=hxn.hd_form
   have HXN:=Lib.hid (hxn.mono (ov_none_sub _ _))
   have Gn:=Lib.hid (Grow.trans GLL.out hbn)
   have GBn:=Lib.hid hbn
   clear hxn hbn
   have HLT2:=Lib.hid (OwnC.grow HLT.out GBn.out)
   refine HK.out _ _ ⟨.inr (HS.out _ Gn.out),?_⟩
   clear HK K
   try simp only [Act.put,lzA,lzB,lzC,lzD,lzE,lzF]
   refine bOc 20 (by kernel_rfl) rfl ?_
   intro K HK
   refine wanted_yes (by rfl) ?_
   try simp only [lzA,lzB,lzC]
   go_simp
   go_at_call 43
   refine (ref_head (l:=[⟨4,0,[]⟩]) wn (Sub.refl _) (OwnC.slc (d:=World.cell? wn) (by decide) HLT2.out (fun _ _ e=>by cases e) fun _ _=>rfl) (by decide)).mono ?_
   rintro eh wh ⟨vh,rfl,hxh,hbh⟩
   obtain ⟨alh,clh,arh,crh,rfl⟩:=hxh.hd_form
   have HXH:=Lib.hid (hxh.mono (ov_sub (Sub.refl _) hbh))
   have HXN9:=Lib.hid (HXN.out.mono (Grow.sub hbh))
   have Gh:=Lib.hid (Grow.trans Gn.out hbh)
   clear hxh hbh
   refine HK.out _ _ ⟨.inr (HS.out _ Gh.out),?_⟩
   clear HK K
   try simp only [Act.put,lzA,lzB,lzC,lzD,lzE,lzF]
   refine bOc 21 (by kernel_rfl) rfl ?_
   intro K HK
   refine wanted_yes (by rfl) ?_
   try simp only [lzA,lzB,lzC]
   go_simp
   go_at_call 41
   refine ((ref_sameHead _ HXN9.out HXH.out).mono fun e9 w9 h9=>(⟨h9.1.trans (by rw [decide_eq_true rfl]),h9.2⟩:e9 = Ending.returned (.bool true)∧Grow _ w9)).mono ?_
   rintro eC wC ⟨rfl,hbC⟩
   have GC:=Lib.hid (Grow.trans Gh.out hbC)
   clear hbC
   refine HK.out _ _ ⟨.inr (HS.out _ GC.out),?_⟩
   clear HK K
   try simp only [Act.put,lzA,lzB,lzC,lzD,lzE,lzF]
   refine bLc [22] 26 (by kernel_rfl) (fun _ _ _ _ _ h=>h) (HS.out _ GC.out) ?_
   repeat (refine tNc (v:=?_) rfl (by rfl) ?_ ?_;rotate_left;(· (intro w' hSw;(try dsimp only at hSw);obtain ⟨hs0,hs1,hs2,hs3,hs4,hs5,hs6,hs7,hs8,hs9,hs10,hs11⟩:=hSw;go_simp <;> with_reducible rfl));try simp only [Act.put,lzA,lzB,lzC,lzD,lzE,lzF])
   refine tEc ?_
   refine bOc 23 (by kernel_rfl) rfl ?_
   intro K HK
   try simp only [lzA,lzB,lzC]
   go_simp
   refine HK.out _ _ ⟨.inl (by decide),?_⟩
   clear HK K
   try simp only [Act.put,lzA,lzB,lzC,lzD,lzE,lzF]
   refine bDc (by kernel_rfl) ?_
   go_wp2
   go_meet
   case rel=>exact ⟨rfl,GC.out⟩
 case rest=>
 obtain ⟨rfl,hgc⟩:=hcut
 obtain ⟨wx,rfl⟩:∃ y:World,y = wc:=⟨_,rfl⟩
 have GX:=Lib.hid hgc
 have G3x:=Lib.hid (G37.out.trans hgc)
 have R11x:=Lib.hid (row_grow R117.out hgc)
 have R13x:=Lib.hid (row_grow R13.out hgc)
 have HC3:=Lib.hid (Sub.refl w3.cell?)
 clear HS hgc hfe2
 obtain ⟨d0,d1,d2,d3⟩:=cells4 (row_grow RH.out G3x.out)
 have z9:B9 < wx.heap.size:=(Array.getElem?_eq_some_iff.1 (row_grow RH.out G3x.out)).1
 go_wp2_with fail
 refine (whead_quit wx (HX.out.mono G3x.out.sub) HOK.out HINV.out.logp HINV.out.parts).mono ?_
 rintro e w1a ⟨v1a,u1a,rfl,hx1,hm1,hb1⟩
 obtain ⟨alpa,clpa,arpa,crpa,rfl⟩:=hx1.hd_form
 obtain ⟨ampa,cmpa,rfl,-⟩:=id hm1
 have XA1:=Lib.hid hx1
 have MA1:=Lib.hid hm1
 have G1a:=Lib.hid hb1
 clear hx1 hm1 hb1
 clear d0 d1 d2 d3 z9
 go_wp2_with (first | (refine wpList_store_row rfl (.tmp 11) (.tmp 62) rfl rfl rfl (row_grow R11x.out G1a.out) info_hd rfl rfl ?_))
 intro w2a r2 g2
 have R11ba:=Lib.hid r2
 have hz:=HZ7.out
 have hs0:=G3x.out.size
 have hsB:B11 < wx.heap.size∧B13 < wx.heap.size:=⟨(Array.getElem?_eq_some_iff.1 R11x.out).1,(Array.getElem?_eq_some_iff.1 R13x.out).1⟩
 have XA2:=Lib.hid (XA1.out.mono (ov_by hsB.1 g2))
 have MA2:=Lib.hid (MA1.out.mono (ov_by hsB.1 g2))
 have R13ba:=Lib.hid (row_by (row_grow R13x.out G1a.out) g2 (fun e=>by have:=Option.some.inj e;omega))
 have G2a:Hid (Grow w3 w2a):=Lib.hid ((G3x.out.trans G1a.out).grown g2 (fun q hq=>by have:=Option.some.inj hq;omega))
 have HSB:Hid (B11 < wx.heap.size∧B13 < wx.heap.size∧wx.heap.size ≤ w2a.heap.size):=Lib.hid ⟨hsB.1,hsB.2,by have:=G1a.out.size;have:=g2.size;omega⟩
 clear r2 g2 hz hs0 hsB XA1 MA1
 obtain ⟨d0,d1,d2,d3⟩:=cells4 (row_grow RH.out G2a.out)
 have z9:B9 < w2a.heap.size:=(Array.getElem?_eq_some_iff.1 (row_grow RH.out G2a.out)).1
 go_wp2_with fail
 refine (ref_quit (c:=w3.cell?) w2a G2a.out.sub HX.out HOK.out).mono ?_
 rintro e w3a ⟨v3a,u3a,rfl,hx1,hm1,hb1⟩
 obtain ⟨alqa,clqa,arqa,crqa,rfl⟩:=hx1.hd_form
 obtain ⟨amqa,cmqa,rfl,-⟩:=id hm1
 have XB1:=Lib.hid hx1
 have MB1:=Lib.hid hm1
 have XA3:=Lib.hid (XA2.out.mono (ov_go hb1))
 have MA3:=Lib.hid (MA2.out.mono (ov_go hb1))
 have G3a:=Lib.hid hb1
 clear hx1 hm1 hb1 XA2 MA2
 clear d0 d1 d2 d3 z9
 go_wp2_with (first | (refine wpList_store_row rfl (.tmp 13) (.tmp 67) rfl rfl rfl (row_grow R13ba.out G3a.out) info_hd rfl rfl ?_))
 intro w4a r4 g4
 have R13a:=Lib.hid r4
 have hz:=HZ7.out
 have hsB:=HSB.out
 have G4a:Hid (Grow w3 w4a):=Lib.hid ((G2a.out.trans G3a.out).grown g4 (fun q hq=>by have:=Option.some.inj hq;omega))
 have XAa:=Lib.hid ((XA3.out.mono (ov_by hsB.2.1 g4)).mono (ov_all (fun _ _ e=>by cases e)))
 have MAa:=Lib.hid ((MA3.out.mono (ov_by hsB.2.1 g4)).mono (ov_all (fun _ _ e=>by cases e)))
 have XBa:=Lib.hid ((XB1.out.mono (ov_by (by omega) g4)).mono (ov_all G4a.out.sub))
 have MBa:=Lib.hid ((MB1.out.mono (ov_by (by omega) g4)).mono (ov_all G4a.out.sub))
 have R11a:=Lib.hid (row_by (row_grow R11ba.out G3a.out) g4 (fun e=>by have:=Option.some.inj e;omega))
 clear r4 g4 hz hsB XA3 MA3 XB1 MB1 HSB R11ba R13ba
 have HS:Hid (∀ W,Grow w4a W→W.cell? ⟨B9,0,none⟩ = some (.slice al h.log.length cl)∧W.cell? ⟨B9,1,none⟩ = some (.int .i64 h.boot)∧W.cell? ⟨B9,2,none⟩ = some (.int .i64 h.next)∧W.cell? ⟨B9,3,none⟩ = some (.slice ar h.opn.length cr)∧W.cell? ⟨B11,0,none⟩ = some (.slice alpa (quitH h).log.length clpa)∧W.cell? ⟨B11,1,none⟩ = some (.int .i64 (quitH h).boot)∧W.cell? ⟨B11,2,none⟩ = some (.int .i64 (quitH h).next)∧W.cell? ⟨B11,3,none⟩ = some (.slice arpa (quitH h).opn.length crpa)∧W.cell? ⟨B13,0,none⟩ = some (.slice alqa (quitH h).log.length clqa)∧W.cell? ⟨B13,1,none⟩ = some (.int .i64 (quitH h).boot)∧W.cell? ⟨B13,2,none⟩ = some (.int .i64 (quitH h).next)∧W.cell? ⟨B13,3,none⟩ = some (.slice arqa (quitH h).opn.length crqa)):=fun W hW=>by
  obtain ⟨a0,a1,a2,a3⟩:=cells4 (row_grow RH.out (G4a.out.trans hW))
  obtain ⟨b0,b1,b2,b3⟩:=cells4 (row_grow R11a.out hW)
  obtain ⟨e0,e1,e2,e3⟩:=cells4 (row_grow R13a.out hW)
  exact ⟨a0,a1,a2,a3,b0,b1,b2,b3,e0,e1,e2,e3⟩
 go_upto_region 10 with fail
 go_cut [86] from 69 (fun s86 wc=>s86 = .bool false∧Grow w4a wc)
 case first=>
  refine bSc (fun w'=>w'.cell? ⟨B9,0,none⟩ = some (.slice al h.log.length cl)∧w'.cell? ⟨B9,1,none⟩ = some (.int .i64 h.boot)∧w'.cell? ⟨B9,2,none⟩ = some (.int .i64 h.next)∧w'.cell? ⟨B9,3,none⟩ = some (.slice ar h.opn.length cr)∧w'.cell? ⟨B11,0,none⟩ = some (.slice alpa (quitH h).log.length clpa)∧w'.cell? ⟨B11,1,none⟩ = some (.int .i64 (quitH h).boot)∧w'.cell? ⟨B11,2,none⟩ = some (.int .i64 (quitH h).next)∧w'.cell? ⟨B11,3,none⟩ = some (.slice arpa (quitH h).opn.length crpa)∧w'.cell? ⟨B13,0,none⟩ = some (.slice alqa (quitH h).log.length clqa)∧w'.cell? ⟨B13,1,none⟩ = some (.int .i64 (quitH h).boot)∧w'.cell? ⟨B13,2,none⟩ = some (.int .i64 (quitH h).next)∧w'.cell? ⟨B13,3,none⟩ = some (.slice arqa (quitH h).opn.length crqa)) [17] (by kernel_rfl) ?_
  intro wd GD zD
  have ZD:=Lib.hid zD
  clear zD
  refine bLc [0,1] 20 (by kernel_rfl) (fun _ _ _ _ _ h=>h) (HS.out _ GD) ?_
  repeat (refine tNc (v:=?_) rfl (by rfl) ?_ ?_;rotate_left;(· (intro w' hSw;(try dsimp only at hSw);obtain ⟨hs0,hs1,hs2,hs3,hs4,hs5,hs6,hs7,hs8,hs9,hs10,hs11⟩:=hSw;go_simp <;> with_reducible rfl));try simp only [Act.put,lzA,lzB,lzC,lzD,lzE,lzF])
  refine tEc ?_
  refine bOc 2 (by kernel_rfl) rfl ?_
  intro K HK
  try simp only [lzA,lzB,lzC]
  go_simp
  go_at_call 41
  refine ((ref_sameHead _ (XAa.out.mono (Grow.sub GD)) (XBa.out.mono (Grow.sub GD))).mono fun e9 w9 h9=>(⟨h9.1.trans (by rw [decide_eq_true rfl]),h9.2⟩:e9 = Ending.returned (.bool true)∧Grow _ w9)).mono ?_
  rintro eD wD ⟨rfl,hbD⟩
  have GD:=Lib.hid (Grow.trans GD hbD)
  clear hbD
  refine HK.out _ _ ⟨.inr (HS.out _ GD.out),?_⟩
  clear HK K
  try simp only [Act.put,lzA,lzB,lzC,lzD,lzE,lzF]
  refine bLc [3,4,5,6] 20 (by kernel_rfl) (fun _ _ _ _ _ h=>h) (HS.out _ GD.out) ?_
  repeat (refine tNc (v:=?_) rfl (by rfl) ?_ ?_;rotate_left;(· (intro w' hSw;(try dsimp only at hSw);obtain ⟨hs0,hs1,hs2,hs3,hs4,hs5,hs6,hs7,hs8,hs9,hs10,hs11⟩:=hSw;go_simp <;> with_reducible rfl));try simp only [Act.put,lzA,lzB,lzC,lzD,lzE,lzF])
  refine tEc ?_
  refine bOc 7 (by kernel_rfl) rfl ?_
  intro K HK
  refine wanted_yes (by rfl) ?_
  try simp only [lzA,lzB,lzC]
  go_simp
  go_at_call 53
  refine ((ref_sameMsgs _ (MAa.out.mono (Grow.sub GD.out)) (MBa.out.mono (Grow.sub GD.out))).mono fun e9 w9 h9=>(⟨h9.1.trans (by rw [decide_eq_true rfl]),h9.2⟩:e9 = Ending.returned (.bool true)∧Grow _ w9)).mono ?_
  rintro eE wE ⟨rfl,hbE⟩
  have GE:=Lib.hid (Grow.trans GD.out hbE)
  clear hbE
  refine HK.out _ _ ⟨.inr (HS.out _ GE.out),?_⟩
  clear HK K
  try simp only [Act.put,lzA,lzB,lzC,lzD,lzE,lzF]
  refine bLc [8,9,10,11,13] 20 (by kernel_rfl) (fun _ _ _ _ _ h=>h) (HS.out _ GE.out) ?_
  repeat (refine tNc (v:=?_) rfl (by rfl) ?_ ?_;rotate_left;(· (intro w' hSw;(try dsimp only at hSw);obtain ⟨hs0,hs1,hs2,hs3,hs4,hs5,hs6,hs7,hs8,hs9,hs10,hs11⟩:=hSw;go_simp <;> with_reducible rfl));try simp only [Act.put,lzA,lzB,lzC,lzD,lzE,lzF])
  refine tEc ?_
  refine bOc 12 (by kernel_rfl) rfl ?_
  intro K HK
  refine wanted_yes (by rfl) ?_
  try simp only [lzA,lzB,lzC]
  go_simp
  go_at_call 108
  refine (whead_tick _ (HX.out.mono (G4a.out.trans GE.out).sub) HOK.out HINV.out.parts).mono ?_
  rintro et wt ⟨vt,rfl,hot,hbt⟩
  obtain ⟨at_,ct_,rfl⟩:=hot.form
  have HTA:=Lib.hid ((OwnC.ovn (by decide) hot).mono (ov_none_sub _ _))
  have Gt:=Lib.hid (Grow.trans GE.out hbt)
  clear hot hbt
  refine HK.out _ _ ⟨.inr (HS.out _ Gt.out),?_⟩
  clear HK K
  try simp only [Act.put,lzA,lzB,lzC,lzD,lzE,lzF]
  refine bOc 14 (by kernel_rfl) rfl ?_
  intro K HK
  refine wanted_yes (by rfl) ?_
  try simp only [lzA,lzB,lzC]
  go_simp
  go_at_call 109
  refine (ref_headTick _ (HX.out.mono (G4a.out.trans Gt.out).sub) HOK.out).mono ?_
  rintro eu wu ⟨vu,rfl,hou,hbu⟩
  obtain ⟨au_,cu_,rfl⟩:=hou.form
  have HTB:=Lib.hid ((OwnC.ovn (by decide) hou).mono (ov_none_sub _ _))
  have HTA2:=Lib.hid (HTA.out.mono hbu.sub)
  have Gu:=Lib.hid (Grow.trans Gt.out hbu)
  clear hou hbu
  refine HK.out _ _ ⟨.inr (HS.out _ Gu.out),?_⟩
  clear HK K
  try simp only [Act.put,lzA,lzB,lzC,lzD,lzE,lzF]
  refine bOc 15 (by kernel_rfl) rfl ?_
  intro K HK
  refine wanted_yes (by rfl) ?_
  try simp only [lzA,lzB,lzC]
  go_simp
  go_at_call 53
  refine ((ref_sameMsgs _ HTA2.out HTB.out).mono fun e9 w9 h9=>(⟨h9.1.trans (by rw [decide_eq_true rfl]),h9.2⟩:e9 = Ending.returned (.bool true)∧Grow _ w9)).mono ?_
  rintro eF wF ⟨rfl,hbF⟩
  have GF:=Lib.hid (Grow.trans Gu.out hbF)
  clear hbF
  refine HK.out _ _ ⟨.inr (HS.out _ GF.out),?_⟩
  clear HK K
  try simp only [Act.put,lzA,lzB,lzC,lzD,lzE,lzF]
  refine bLc [16] 20 (by kernel_rfl) (fun _ _ _ _ _ h=>h) (HS.out _ GF.out) ?_
  repeat (refine tNc (v:=?_) rfl (by rfl) ?_ ?_;rotate_left;(· (intro w' hSw;(try dsimp only at hSw);obtain ⟨hs0,hs1,hs2,hs3,hs4,hs5,hs6,hs7,hs8,hs9,hs10,hs11⟩:=hSw;go_simp <;> with_reducible rfl));try simp only [Act.put,lzA,lzB,lzC,lzD,lzE,lzF])
  refine tEc ?_
  refine bOc 17 (by kernel_rfl) rfl ?_
  intro K HK
  try simp only [lzA,lzB,lzC]
  go_simp
  refine HK.out _ _ ⟨.inl (by decide),?_⟩
  clear HK K
  try simp only [Act.put,lzA,lzB,lzC,lzD,lzE,lzF]
  refine bDc (by kernel_rfl) ?_
  go_wp2
  go_meet
  case rel=>exact ⟨rfl,GF.out⟩
 case rest=>
 obtain ⟨rfl,hgc⟩:=hcut
 obtain ⟨wy,rfl⟩:∃ y:World,y = wc:=⟨_,rfl⟩
 have GY:=Lib.hid hgc
 have G3y:=Lib.hid (G4a.out.trans hgc)
 have R11y:=Lib.hid (row_grow R11a.out hgc)
 have R13y:=Lib.hid (row_grow R13a.out hgc)
 clear HS hgc
 go_upto_region 12 with fail
 go_wp2_with fail
 refine (ref_wrongParts wy (HP.out.mono (G3.out.trans G3y.out).sub)).mono ?_
 rintro e wv ⟨rfl,hbv⟩
 have G3v:=Lib.hid (G3y.out.trans hbv)
 have R11v:=Lib.hid (row_grow R11y.out hbv)
 have R13v:=Lib.hid (row_grow R13y.out hbv)
 clear hbv
 obtain ⟨bw,hbw⟩:∃ b,b = (wrongE P n == 0):=⟨_,rfl⟩
 have HBW:=Lib.hid hbw
 go_upto_if 90 with fail
 rw [← hbw]
 clear hbw
 go_cut [12,14,15,16] from 91 (fun s12 s14 s15 s16 wc=>(∃ a0 a1 a2 a3:Value,wc.heap[B11]? = some (.cells #[a0,a1,a2,a3] 57 (0,0)))∧(∃ a0 a1 a2 a3:Value,wc.heap[B13]? = some (.cells #[a0,a1,a2,a3] 57 (0,0)))∧Grow w3 wc)
 case first=>
  cases bw with
  | true=>
   have HPR:=Lib.hid (ptsR_of HN3.out (by simpa using HBW.out.symm))
   have HBE:Hid (I64 (beginE h)):=Lib.hid (by unfold beginE;split <;> exact i64_of (by omega) (by omega))
   obtain ⟨d0,d1,d2,d3⟩:=cells4 (row_grow RH.out G3v.out)
   have z9:B9 < wv.heap.size:=(Array.getElem?_eq_some_iff.1 (row_grow RH.out G3v.out)).1
   go_wp2_with fail
   refine (whead_begin wv (HX.out.mono G3v.out.sub) (HP.out.mono (G3.out.trans G3v.out).sub) HOK.out HINV.out.logp HPR.out).mono ?_
   rintro e w1b ⟨v1b,u1b,rfl,hx1,hm1,hb1⟩
   obtain ⟨alpb,clpb,arpb,crpb,rfl⟩:=hx1.hd_form
   obtain ⟨ampb,cmpb,rfl,-⟩:=id hm1
   have XA1:=Lib.hid hx1
   have MA1:=Lib.hid hm1
   have G1b:=Lib.hid hb1
   clear hx1 hm1 hb1
   clear d0 d1 d2 d3 z9
   go_wp2_with (first | (refine wpList_store_row rfl (.tmp 11) (.tmp 95) rfl rfl rfl (row_grow R11v.out G1b.out) info_hd rfl rfl ?_))
   intro w2b r2 g2
   have R11bb:=Lib.hid r2
   have hz:=HZ7.out
   have hs0:=G3v.out.size
   have hsB:B11 < wv.heap.size∧B13 < wv.heap.size:=⟨(Array.getElem?_eq_some_iff.1 R11v.out).1,(Array.getElem?_eq_some_iff.1 R13v.out).1⟩
   have XA2:=Lib.hid (XA1.out.mono (ov_by hsB.1 g2))
   have MA2:=Lib.hid (MA1.out.mono (ov_by hsB.1 g2))
   have R13bb:=Lib.hid (row_by (row_grow R13v.out G1b.out) g2 (fun e=>by have:=Option.some.inj e;omega))
   have G2b:Hid (Grow w3 w2b):=Lib.hid ((G3v.out.trans G1b.out).grown g2 (fun q hq=>by have:=Option.some.inj hq;omega))
   have HSB:Hid (B11 < wv.heap.size∧B13 < wv.heap.size∧wv.heap.size ≤ w2b.heap.size):=Lib.hid ⟨hsB.1,hsB.2,by have:=G1b.out.size;have:=g2.size;omega⟩
   clear r2 g2 hz hs0 hsB XA1 MA1
   obtain ⟨d0,d1,d2,d3⟩:=cells4 (row_grow RH.out G2b.out)
   have z9:B9 < w2b.heap.size:=(Array.getElem?_eq_some_iff.1 (row_grow RH.out G2b.out)).1
   go_wp2_with fail
   refine (ref_begin (c:=w3.cell?) w2b G2b.out.sub HX.out (HP.out.mono G3.out.sub) HOK.out HPR.out.len).mono ?_
   rintro e w3b ⟨v3b,u3b,rfl,hx1,hm1,hb1⟩
   obtain ⟨alqb,clqb,arqb,crqb,rfl⟩:=hx1.hd_form
   obtain ⟨amqb,cmqb,rfl,-⟩:=id hm1
   have XB1:=Lib.hid hx1
   have MB1:=Lib.hid hm1
   have XA3:=Lib.hid (XA2.out.mono (ov_go hb1))
   have MA3:=Lib.hid (MA2.out.mono (ov_go hb1))
   have G3b:=Lib.hid hb1
   clear hx1 hm1 hb1 XA2 MA2
   clear d0 d1 d2 d3 z9
   go_wp2_with (first | (refine wpList_store_row rfl (.tmp 13) (.tmp 102) rfl rfl rfl (row_grow R13bb.out G3b.out) info_hd rfl rfl ?_))
   intro w4b r4 g4
   have R13b:=Lib.hid r4
   have hz:=HZ7.out
   have hsB:=HSB.out
   have G4b:Hid (Grow w3 w4b):=Lib.hid ((G2b.out.trans G3b.out).grown g4 (fun q hq=>by have:=Option.some.inj hq;omega))
   have XAb:=Lib.hid ((XA3.out.mono (ov_by hsB.2.1 g4)).mono (ov_all (fun _ _ e=>by cases e)))
   have MAb:=Lib.hid ((MA3.out.mono (ov_by hsB.2.1 g4)).mono (ov_all (fun _ _ e=>by cases e)))
   have XBb:=Lib.hid ((XB1.out.mono (ov_by (by omega) g4)).mono (ov_all G4b.out.sub))
   have MBb:=Lib.hid ((MB1.out.mono (ov_by (by omega) g4)).mono (ov_all G4b.out.sub))
   have R11b:=Lib.hid (row_by (row_grow R11bb.out G3b.out) g4 (fun e=>by have:=Option.some.inj e;omega))
   clear r4 g4 hz hsB XA3 MA3 XB1 MB1 HSB R11bb R13bb
   obtain ⟨be,hbe⟩:∃ y,y = beginE h:=⟨_,rfl⟩
   rw [← hbe]
   have hbe2:(be != be) = false:=by simp
   clear hbe
   obtain ⟨b0,b1,b2,b3⟩:=cells4 R11b.out
   obtain ⟨e0,e1,e2,e3⟩:=cells4 R13b.out
   have zb:B11 < w4b.heap.size:=(Array.getElem?_eq_some_iff.1 R11b.out).1
   have ze:B13 < w4b.heap.size:=(Array.getElem?_eq_some_iff.1 R13b.out).1
   go_wp2_with fail
   refine ((ref_sameHead _ XAb.out XBb.out).mono fun e9 w9 h9=>(⟨h9.1.trans (by rw [decide_eq_true rfl]),h9.2⟩:e9 = Ending.returned (.bool true)∧Grow _ w9)).mono ?_
   rintro e7 w7b ⟨rfl,hb7⟩
   have G7b:=Lib.hid hb7
   clear hb7 b0 b1 b2 b3 e0 e1 e2 e3 zb ze
   go_wp2_with fail
   refine ((ref_sameMsgs _ (MAb.out.mono G7b.out.sub) (MBb.out.mono G7b.out.sub)).mono fun e9 w9 h9=>(⟨h9.1.trans (by rw [decide_eq_true rfl]),h9.2⟩:e9 = Ending.returned (.bool true)∧Grow _ w9)).mono ?_
   rintro e8 w8b ⟨rfl,hb8⟩
   have G8b:=Lib.hid (G7b.out.trans hb8)
   clear hb8
   go_wp2
   go_meet
   case rel=>exact ⟨⟨_,_,_,_,row_grow R11b.out G8b.out⟩,⟨_,_,_,_,row_grow R13b.out G8b.out⟩,G4b.out.trans G8b.out⟩
  | false=>
   go_wp2
   go_meet
   case rel=>exact ⟨⟨_,_,_,_,R11v.out⟩,⟨_,_,_,_,R13v.out⟩,G3v.out⟩
 case rest=>
 obtain ⟨⟨a0,a1,a2,a3,r11⟩,⟨b0,b1,b2,b3,r13⟩,gz⟩:=hcut
 obtain ⟨wk,rfl⟩:∃ y:World,y = wc:=⟨_,rfl⟩
 have R11k:=Lib.hid r11
 have R13k:=Lib.hid r13
 have G3k:=Lib.hid gz
 clear r11 r13 gz
 obtain ⟨m0,m1,m2,m3⟩:=cells4 (row_grow RM3.out G3k.out)
 have zm:w.heap.size < wk.heap.size:=(Array.getElem?_eq_some_iff.1 (row_grow RM3.out G3k.out)).1
 go_wp2_with fail
 refine (ref_wrong wk (HM.out.mono (G3.out.trans G3k.out).sub)).mono ?_
 rintro e wv ⟨rfl,hbv⟩
 have G3v:=Lib.hid (G3k.out.trans hbv)
 have R11v:=Lib.hid (row_grow R11k.out hbv)
 have R13v:=Lib.hid (row_grow R13k.out hbv)
 clear hbv m0 m1 m2 m3 zm
 by_cases hw:wrongM m = 0
 ·have hwb:(wrongM m != 0) = false:=by simp [hw]
  clear hw
  obtain ⟨d0,d1,d2,d3⟩:=cells4 (row_grow RH.out G3v.out)
  have z9:B9 < wv.heap.size:=(Array.getElem?_eq_some_iff.1 (row_grow RH.out G3v.out)).1
  obtain ⟨m0,m1,m2,m3⟩:=cells4 (row_grow RM3.out G3v.out)
  have zm:w.heap.size < wv.heap.size:=(Array.getElem?_eq_some_iff.1 (row_grow RM3.out G3v.out)).1
  go_wp2_with fail
  refine (whead_hear2 wv (HX.out.mono G3v.out.sub) (HM.out.mono (G3.out.trans G3v.out).sub) HOK.out HINV.out).mono ?_
  rintro e w1c ⟨v1c,u1c,rfl,hx1,hm1,hb1⟩
  obtain ⟨alpc,clpc,arpc,crpc,rfl⟩:=hx1.hd_form
  obtain ⟨ampc,cmpc,rfl,-⟩:=id hm1
  have XA1:=Lib.hid hx1
  have MA1:=Lib.hid hm1
  have G1c:=Lib.hid hb1
  clear hx1 hm1 hb1
  clear d0 d1 d2 d3 z9 m0 m1 m2 m3 zm
  go_wp2_with (first | (refine wpList_store_row rfl (.tmp 11) (.tmp 127) rfl rfl rfl (row_grow R11v.out G1c.out) info_hd rfl rfl ?_))
  intro w2c r2 g2
  have R11bc:=Lib.hid r2
  have hz:=HZ7.out
  have hs0:=G3v.out.size
  have hsB:B11 < wv.heap.size∧B13 < wv.heap.size:=⟨(Array.getElem?_eq_some_iff.1 R11v.out).1,(Array.getElem?_eq_some_iff.1 R13v.out).1⟩
  have XA2:=Lib.hid (XA1.out.mono (ov_by hsB.1 g2))
  have MA2:=Lib.hid (MA1.out.mono (ov_by hsB.1 g2))
  have R13bc:=Lib.hid (row_by (row_grow R13v.out G1c.out) g2 (fun e=>by have:=Option.some.inj e;omega))
  have G2c:Hid (Grow w3 w2c):=Lib.hid ((G3v.out.trans G1c.out).grown g2 (fun q hq=>by have:=Option.some.inj hq;omega))
  have HSB:Hid (B11 < wv.heap.size∧B13 < wv.heap.size∧wv.heap.size ≤ w2c.heap.size):=Lib.hid ⟨hsB.1,hsB.2,by have:=G1c.out.size;have:=g2.size;omega⟩
  clear r2 g2 hz hs0 hsB XA1 MA1
  obtain ⟨d0,d1,d2,d3⟩:=cells4 (row_grow RH.out G2c.out)
  have z9:B9 < w2c.heap.size:=(Array.getElem?_eq_some_iff.1 (row_grow RH.out G2c.out)).1
  obtain ⟨m0,m1,m2,m3⟩:=cells4 (row_grow RM3.out G2c.out)
  have zm:w.heap.size < w2c.heap.size:=(Array.getElem?_eq_some_iff.1 (row_grow RM3.out G2c.out)).1
  go_wp2_with fail
  refine (ref_headHear (c:=w3.cell?) w2c G2c.out.sub HX.out (HM.out.mono G3.out.sub) HOK.out).mono ?_
  rintro e w3c ⟨v3c,u3c,rfl,hx1,hm1,hb1⟩
  obtain ⟨alqc,clqc,arqc,crqc,rfl⟩:=hx1.hd_form
  obtain ⟨amqc,cmqc,rfl,-⟩:=id hm1
  have XB1:=Lib.hid hx1
  have MB1:=Lib.hid hm1
  have XA3:=Lib.hid (XA2.out.mono (ov_go hb1))
  have MA3:=Lib.hid (MA2.out.mono (ov_go hb1))
  have G3c:=Lib.hid hb1
  clear hx1 hm1 hb1 XA2 MA2
  clear d0 d1 d2 d3 z9 m0 m1 m2 m3 zm
  go_wp2_with (first | (refine wpList_store_row rfl (.tmp 13) (.tmp 133) rfl rfl rfl (row_grow R13bc.out G3c.out) info_hd rfl rfl ?_))
  intro w4c r4 g4
  have R13c:=Lib.hid r4
  have hz:=HZ7.out
  have hsB:=HSB.out
  have G4c:Hid (Grow w3 w4c):=Lib.hid ((G2c.out.trans G3c.out).grown g4 (fun q hq=>by have:=Option.some.inj hq;omega))
  have XAc:=Lib.hid ((XA3.out.mono (ov_by hsB.2.1 g4)).mono (ov_all (fun _ _ e=>by cases e)))
  have MAc:=Lib.hid ((MA3.out.mono (ov_by hsB.2.1 g4)).mono (ov_all (fun _ _ e=>by cases e)))
  have XBc:=Lib.hid ((XB1.out.mono (ov_by (by omega) g4)).mono (ov_all G4c.out.sub))
  have MBc:=Lib.hid ((MB1.out.mono (ov_by (by omega) g4)).mono (ov_all G4c.out.sub))
  have R11c:=Lib.hid (row_by (row_grow R11bc.out G3c.out) g4 (fun e=>by have:=Option.some.inj e;omega))
  clear r4 g4 hz hsB XA3 MA3 XB1 MB1 HSB R11bc R13bc
  obtain ⟨b0,b1,b2,b3⟩:=cells4 R11c.out
  obtain ⟨e0,e1,e2,e3⟩:=cells4 R13c.out
  have zb:B11 < w4c.heap.size:=(Array.getElem?_eq_some_iff.1 R11c.out).1
  have ze:B13 < w4c.heap.size:=(Array.getElem?_eq_some_iff.1 R13c.out).1
  go_wp2_with fail
  refine ((ref_sameHead _ XAc.out XBc.out).mono fun e9 w9 h9=>(⟨h9.1.trans (by rw [decide_eq_true rfl]),h9.2⟩:e9 = Ending.returned (.bool true)∧Grow _ w9)).mono ?_
  rintro e7 w7c ⟨rfl,hb7⟩
  have G7c:=Lib.hid hb7
  clear hb7 b0 b1 b2 b3 e0 e1 e2 e3 zb ze
  go_wp2_with fail
  refine ((ref_sameMsgs _ (MAc.out.mono G7c.out.sub) (MBc.out.mono G7c.out.sub)).mono fun e9 w9 h9=>(⟨h9.1.trans (by rw [decide_eq_true rfl]),h9.2⟩:e9 = Ending.returned (.bool true)∧Grow _ w9)).mono ?_
  rintro e8 w8c ⟨rfl,hb8⟩
  have G8c:=Lib.hid (G7c.out.trans hb8)
  clear hb8
  go_wp2
  go_ret
  exact ⟨rfl,G3.out.trans (G4c.out.trans G8c.out)⟩
 ·have hwb:(wrongM m != 0) = true:=by simp [hw]
  clear hw
  go_wp2
  go_ret
  exact ⟨rfl,G3.out.trans G3v.out⟩
end Go.Proofs.Ytgbhpghgohggcaa
namespace Go.Proofs.Ytgbhpghgohggcaa
open Go.RowKit Go.ChangeShapes Go.WideShapes Go.ChangeAt
def Reads {α:Type} (P:Program) (t:TypeId) (T:Ty α):Prop:=∀ (H:Type) (enc:TypeId × Value→H) (W:World) (fuel:Nat) (cs:List Value) (x:DataW H × List MemPlace),
 DataW.trod enc P W 0 (fun _=>true) true fuel t cs = some x→∃ y,T.R W.cell? cs y
theorem reads_int {P:Program} {t:TypeId} (ht:P.underlying t = some (.int .i64)):Reads P t Ty.int:=by
 intro H enc W fuel cs x h
 obtain ⟨n,rfl,_,hw⟩:=DataW.trod_int ht h
 exact ⟨n,rfl,hw⟩
theorem reads_sl {α:Type} {P:Program} {t e:TypeId} {T:Ty α} (hR:Reads P e T) (ht:P.underlying t = some (.slice e)) (hc:P.cellsOf e = T.size) (h0:0 < T.size):Reads P t T.sl:=by
 intro H enc W fuel cs x h
 rcases Deep.open_slice ht h with ⟨rfl,_⟩ | ⟨a,len,cap,m,n,D,Pl,rfl,_,hl,hm,hmm,hxe,hx⟩
 ·exact ⟨[],_,rfl,none,0,rfl,Nat.le_refl _,Nat.zero_le _,fun _=>rfl,fun i x e=>by simp at e⟩
 ·simp only [if_true] at hmm
  subst m
  have h2:∀ i,i < len→∃ (p:List Value × α),T.R W.cell? p.1 p.2∧W.cells? 0 (a.add (i * T.size)) T.size = some p.1:=by
   intro i hi
   obtain ⟨cs',h1,h2⟩:=hx i (by omega)
   obtain ⟨y,hy⟩:=hR H enc W n cs' _ h2
   rw [hc] at h1
   exact ⟨(cs',y),hy,h1⟩
  have h3:∃ l:List α,l.length = len∧∀ i y,l[i]? = some y→∃ cs',T.R W.cell? cs' y∧W.cells? 0 (a.add (i * T.size)) T.size = some cs':=by
   clear hx hl h hxe
   induction len with
   | zero=>exact ⟨[],rfl,by simp⟩
   | succ len ih=>
    obtain ⟨l,hl,hi⟩:=ih (by intro i hi;exact h2 i (by omega))
    obtain ⟨⟨cs',y⟩,hy,h1⟩:=h2 len (by omega)
    refine ⟨l ++ [y],by simp [hl],fun i z hz=>?_⟩
    rcases Nat.lt_or_ge i l.length with hlt | hge
    ·rw [List.getElem?_append_left hlt] at hz;exact hi i z hz
    ·have hb:=(List.getElem?_eq_some_iff.1 hz).1
     simp at hb
     obtain rfl:i = len:=by omega
     rw [List.getElem?_append_right hge,hl] at hz
     simp at hz
     subst hz
     exact ⟨cs',hy,h1⟩
  obtain ⟨l,hlen,hl2⟩:=h3
  refine ⟨l,_,rfl,some a,cap,by rw [hlen],by omega,hm,by simp,fun i y hy=>?_⟩
  obtain ⟨cs',hR',hcs⟩:=hl2 i y hy
  obtain ⟨_,hlen',hat⟩:=World.cells?_some hcs
  have hpos:0 < l.length:=by have:=(List.getElem?_eq_some_iff.1 hy).1;omega
  obtain ⟨cs0,_,hcs0⟩:=hl2 0 l[0] (List.getElem?_eq_getElem hpos)
  obtain ⟨_,hlen0,hat0⟩:=World.cells?_some hcs0
  have hfirst:=hat0 0 h0
  rw [List.getElem?_eq_getElem (by omega)] at hfirst
  have hsp:=World.cell?_spot hfirst
  obtain ⟨b,o,s⟩:=a
  have hs:s = none:=by simpa [Addr.add] using hsp
  subst hs
  refine ⟨b,o,cs',rfl,hR',fun j u hu=>?_⟩
  have hj:j < T.size:=by rw [← hlen'];exact (List.getElem?_eq_some_iff.1 hu).1
  have:=hat j hj
  rw [Addr.add_lit,Addr.add_lit,hu] at this
  exact this
def structOf (P:Program) (t:TypeId):Option (List (TypeId × Nat × Nat)):=
 match P.underlying t with
 | some (.struct fs)=>some (fs.toList.map fun f=>(f.type,f.offset,P.cellsOf f.type))
 | _=>none
theorem struct_fields {P:Program} {t:TypeId} {fs':List (TypeId × Nat × Nat)} (hs:structOf P t = some fs') {H:Type} {enc:TypeId × Value→H} {W:World} {fuel:Nat} {cs:List Value} {x:DataW H × List MemPlace}
  (h:DataW.trod enc P W 0 (fun _=>true) true fuel t cs = some x):cs.length = P.cellsOf t∧∀ (i:Nat) (f:TypeId × Nat × Nat),fs'[i]? = some f→∃ n y,DataW.trod enc P W 0 (fun _=>true) true n f.1 ((cs.drop f.2.1).take f.2.2) = some y:=by
 unfold structOf at hs
 split at hs
 ·rename_i fs hu
  obtain rfl:=Option.some.inj hs
  obtain ⟨xs,n,_,_,hl,hlen,hf⟩:=DataW.trod_struct hu h
  refine ⟨hl,fun i f hi=>?_⟩
  rw [List.getElem?_map] at hi
  cases hfi:fs.toList[i]? with
  | none=>rw [hfi] at hi;cases hi
  | some fd=>
   rw [hfi] at hi
   obtain rfl:=Option.some.inj hi
   have hfi':fs[i]? = some fd:=by simpa using hfi
   have hlt:i < xs.length:=by rw [hlen];exact (Array.getElem?_eq_some_iff.1 hfi').1
   have:=hf i fd hfi'
   rw [List.getElem?_eq_getElem hlt] at this
   exact ⟨n,_,this⟩
 ·cases hs
theorem reads_pt:Reads Try.prog 32 Ty.pt:=by
 intro H enc W fuel cs x h
 obtain ⟨hl,hf⟩:=struct_fields (fs':=[(3,0,1),(3,1,1),(3,2,1)]) (by kernel_rfl) h
 rw [show (Try.prog).cellsOf 32 = 3 by kernel_rfl] at hl
 match cs,hl with
 | [a,b,c],_=>
  obtain ⟨_,_,h0⟩:=hf 0 _ rfl
  obtain ⟨_,_,h1⟩:=hf 1 _ rfl
  obtain ⟨_,_,h2⟩:=hf 2 _ rfl
  obtain ⟨x0,e0,w0⟩:=reads_int (by kernel_rfl) _ _ _ _ _ _ h0
  obtain ⟨x1,e1,w1⟩:=reads_int (by kernel_rfl) _ _ _ _ _ _ h1
  obtain ⟨x2,e2,w2⟩:=reads_int (by kernel_rfl) _ _ _ _ _ _ h2
  refine ⟨⟨x0,x1,x2⟩,?_,w0,w1,w2⟩
  simp at e0 e1 e2
  subst e0 e1 e2
  rfl
theorem reads_pts:Reads Try.prog 23 Ty.pts:=reads_sl reads_pt (by kernel_rfl) (by kernel_rfl) (by decide)
theorem reads_ms:Reads Try.prog 39 Ty.ms:=by
 intro H enc W fuel cs x h
 obtain ⟨hl,hf⟩:=struct_fields (fs':=[(3,0,1),(3,1,1),(3,2,1),(23,3,1)]) (by kernel_rfl) h
 rw [show (Try.prog).cellsOf 39 = 4 by kernel_rfl] at hl
 match cs,hl with
 | [a,b,c,d],_=>
  obtain ⟨_,_,h0⟩:=hf 0 _ rfl
  obtain ⟨_,_,h1⟩:=hf 1 _ rfl
  obtain ⟨_,_,h2⟩:=hf 2 _ rfl
  obtain ⟨_,_,h3⟩:=hf 3 _ rfl
  obtain ⟨x0,e0,w0⟩:=reads_int (by kernel_rfl) _ _ _ _ _ _ h0
  obtain ⟨x1,e1,w1⟩:=reads_int (by kernel_rfl) _ _ _ _ _ _ h1
  obtain ⟨x2,e2,w2⟩:=reads_int (by kernel_rfl) _ _ _ _ _ _ h2
  obtain ⟨x3,v3,e3,w3⟩:=reads_pts _ _ _ _ _ _ h3
  refine ⟨⟨x0,x1,x2,x3⟩,v3,?_,w0,w1,w2,w3⟩
  simp at e0 e1 e2 e3
  subst e0 e1 e2 e3
  rfl
theorem arg_sl {α:Type} {P:Program} {t e:TypeId} {T:Ty α} (hR:Reads P t T.sl) (ht:P.underlying t = some (.slice e)) {H:Type} {enc:TypeId × Value→H} {W:World} {r:Reach} {b:Nat} {v:Value} {d:DataW H} {p:List MemPlace}
  (hval:Value.okWide P W r b t v) (h:DataW.Trod enc P W 0 (fun _=>true) true t v d p):∃ l,Sl T W.cell? v l:=by
 obtain ⟨a,len,cap,rfl⟩:=okWide_slice ht hval
 obtain ⟨fuel,hf⟩:=h
 obtain ⟨l,v,e,hv⟩:=hR _ _ _ _ _ _ hf
 simp [Value.cells] at e
 subst e
 exact ⟨l,hv⟩
theorem own:ownKnob (Try.prog).godebug = none:=by kernel_rfl
theorem laidOut:laidOutB Try.prog = true:=by kernel_rfl
end Go.Proofs.Ytgbhpghgohggcaa
namespace Go.Proofs.Ytgbhpghgohggcaa
open Go.RowKit Go.ChangeShapes Go.WideShapes Go.ChangeAt
theorem sl_len {α:Type} {T:Ty α} {c:CM} {a:Option Addr} {n cap:Nat} {l:List α} (h:Sl T c (.slice a n cap) l):l.length = n:=by
 obtain ⟨a',cap',he,_⟩:=h
 simp only [Value.slice.injEq] at he
 exact he.2.1.symm
theorem arg_size {α:Type} {P:Program} {t e:TypeId} {T:Ty α} {k:Nat} (ht:P.underlying t = some (.slice e)) (hb:P.bytesOf e = k) {H:Type} {enc:TypeId × Value→H} {W:World} {r:Reach} {b:Nat} {v:Value} {d:DataW H} {p:List MemPlace} {ts:List TypeId} {ds:List (DataW H)} {j:Nat}
  (hsz:(DataW.weightsEach P ts ds).all (· ≤ reachBytes) = true) (hj:ts[j]? = some t) (hd:ds[j]? = some d)
  (hval:Value.okWide P W r b t v) (h:DataW.Trod enc P W 0 (fun _=>true) true t v d p) {l:List α} (hl:Sl T W.cell? v l):l.length * k ≤ 140737488351232:=by
 obtain ⟨a,len,cap,rfl⟩:=okWide_slice ht hval
 obtain ⟨fuel,hf⟩:=h
 have hll:=sl_len hl
 rcases Deep.open_slice ht hf with ⟨he,_⟩ | ⟨a',len',cap',m,n,D,Pl,he,_,hlc,_,hmm,hxe,_⟩
 ·simp [Value.cells] at he
  rw [hll,he.2.1];simp
 ·simp [Value.cells] at he
  obtain ⟨_,rfl,rfl⟩:=he
  obtain rfl:d = .slice ((List.range len).map D) ((List.range (m - len)).map fun j=>D (len + j)):=by simpa using congrArg Prod.fst hxe
  have:=sized_slice hsz hj hd ht
  rw [hb,List.length_map,List.length_range] at this
  rw [hll]
  have h2:len * k ≤ (len + ((List.range (m - len)).map fun j=>D (len + j)).length) * k:=Nat.mul_le_mul_right _ (Nat.le_add_right _ _)
  have h3:reachBytes = 140737488351232:=rfl
  omega
theorem arg_of {α:Type} {P:Program} {t:TypeId} {fs:Array Field} {T:Ty α} (hR:Reads P t T) (ht:P.underlying t = some (.struct fs)) {H:Type} {enc:TypeId × Value→H} {W:World} {r:Reach} {b:Nat} {v:Value} {d:DataW H} {p:List MemPlace}
  (hval:Value.okWide P W r b t v) (h:DataW.Trod enc P W 0 (fun _=>true) true t v d p):∃ x,Of T W.cell? v x:=by
 obtain ⟨cs,rfl,_⟩:=okWide_struct ht hval
 obtain ⟨fuel,hf⟩:=h
 obtain ⟨x,hx⟩:=hR _ _ _ _ _ _ hf
 exact ⟨x,cs.toList,rfl,hx⟩
theorem reads_st:Reads Try.prog 164 Ty.st:=by
 intro H enc W fuel cs x h
 obtain ⟨hl,hf⟩:=struct_fields (fs':=[(3,0,1),(3,1,1),(23,2,1)]) (by kernel_rfl) h
 rw [show (Try.prog).cellsOf 164 = 3 by kernel_rfl] at hl
 match cs,hl with
 | [a,b,c],_=>
  obtain ⟨_,_,h0⟩:=hf 0 _ rfl
  obtain ⟨_,_,h1⟩:=hf 1 _ rfl
  obtain ⟨_,_,h2⟩:=hf 2 _ rfl
  obtain ⟨x0,e0,w0⟩:=reads_int (by kernel_rfl) _ _ _ _ _ _ h0
  obtain ⟨x1,e1,w1⟩:=reads_int (by kernel_rfl) _ _ _ _ _ _ h1
  obtain ⟨x2,v2,e2,w2⟩:=reads_pts _ _ _ _ _ _ h2
  refine ⟨⟨x0,x1,x2⟩,v2,?_,w0,w1,w2⟩
  simp at e0 e1 e2
  subst e0 e1 e2
  rfl
theorem reads_sts:Reads Try.prog 90 (Ty.sl Ty.st):=reads_sl reads_st (by kernel_rfl) (by kernel_rfl) (by decide)
end Go.Proofs.Ytgbhpghgohggcaa
