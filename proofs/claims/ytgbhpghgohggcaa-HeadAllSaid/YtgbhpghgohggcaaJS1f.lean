/- The parts that laws are proved of, joined: U22. No condition beside those that each theorem names. -/
import Derived.Test.YtgbhpghgohggcaaJS1e
namespace Go.Proofs.Ytgbhpghgohggcaa
open Go.RowKit
def dm (c:CM) (w W:World):CM:=wk w.heap.size 3 (ov c w W)
theorem dm_in {c:CM} {w W:World} (hc:Sub c w.cell?):Sub c (dm c w W):=wk_in hc 3
theorem dm_sub {c:CM} {w W:World} (hc:Sub c w.cell?) (hg:Grow w W):Sub (dm c w W) W.cell?:=wk_ov hc hg 3
theorem dm_end (c:CM) (w W:World):Sub (dm c w W) (ov c w W):=wk_sub _ _ _
theorem dm_new {c:CM} {w W:World} {a:Addr} (h:w.heap.size+3≤a.block):dm c w W a=W.cell? a:=wk_new h
theorem dm_step {c:CM} {w W W':World} (h:∀a v,w.heap.size+3≤a.block→W.cell? a=some v→W'.cell? a=some v):Sub (dm c w W) (dm c w W'):=fun a v e=>by
 unfold dm wk ov at e ⊢
 split at e
 ·cases e
 ·rename_i hn
  rw [if_neg hn]
  split at e
  ·rw [if_pos ‹_›];exact e
  ·rw [if_neg ‹_›];exact h a v (by omega) e
theorem dm_grow {c:CM} {w W W':World} (h:Grow W W'):Sub (dm c w W) (dm c w W'):=dm_step fun a v _ e=>h.sub a v e
theorem dm_box {c:CM} {w W W':World} {b:Nat} (hg:W.grownBy W' (some b)) (hb:b<w.heap.size+3):Sub (dm c w W) (dm c w W'):=dm_step fun a v hl e=>cell_past e hg (by omega)
theorem dm_past {c:CM} {w w6 W w7 w8:World} (g6:Grow w6 w8) (h:∀a v,W.heap.size≤a.block→w7.cell? a=some v→w8.cell? a=some v) (hk:w.heap.size+3≤W.heap.size):Sub (ov (dm c w w6) W w7) (dm c w w8):=fun a v e=>by
 unfold ov at e
 split at e
 ·exact dm_grow g6 a v e
 ·rw [dm_new (by omega)];exact h a v (by omega) e
theorem ms_keys {m:Ms} (h:RightM m):KeysOk m.parts:=by
 by_cases hk:m.kind=1
 ·exact wrong_keys (h.parts hk).1
 ·rw [h.none hk];intro p hp;simp at hp
theorem dm_none {c:CM} {w W W1:World} (hk:w.heap.size+3≤W.heap.size):Sub (ov (fun _=>none) W W1) (dm c w W1):=fun a v e=>by
 unfold ov at e
 split at e
 ·cases e
 ·rw [dm_new (by omega)];exact e
theorem forHouse_iff {m:Ms}:forHouse m=decide (m.kind=1∨m.kind=4∨m.kind=5):=rfl
theorem come_house {w:AW} {m:Ms} {h:Hs} (e:w.houses[m.house.toNat]? =some h) (f:forHouse m=true):comeA w m={ w with houses:=w.houses.set m.house.toNat (hearH h m),net:=sendA w.net (hearM h m.house m) }:=by unfold comeA;rw [e];simp only;rw [if_pos f]
theorem come_head {w:AW} {m:Ms} {h:Hs} (e:w.houses[m.house.toNat]? =some h) (f:forHouse m=false):comeA w m={ w with head:=hHearH w.head m,net:=sendA w.net (hHearM w.head m) }:=by unfold comeA;rw [e];simp only;rw [if_neg (by rw [f];simp)]
set_option maxRecDepth 100000 in
set_option maxHeartbeats 4000000 in
theorem ref_do_come {c:CM} {v vs:Value} {x:AW} {sn:Int} {sp:List Pt} {n:Nat} {G:Reg} {k:Nat} (w:World) (hc:Sub c w.cell?) (hv:Of Ty.wd c v x) (hs:Of Ty.st c vs ⟨2,sn,sp⟩) (hi:WI n G x) (hf:Few k x) (hk:k≤1000) (ht:there x sn=true):
  Calls Try.prog 138 #[v,vs] w fun e w'=>∃v',e=.returned (.tuple #[v',.int .i64 (doErr x ⟨2,sn,sp⟩)])∧Of Ty.wd (ov c w w') v' (doA x ⟨2,sn,sp⟩)∧Grow w w':=by
 obtain⟨al,cl,ao,co,ah,ch,an,cn,rfl⟩:=hv.wd_form
 obtain⟨ap,cp,rfl⟩:=hs.st_form
 obtain⟨q1,q2,q3⟩:=hv.wd_parts
 have HQ1:=η q1
 have HQ2:=η q2
 have HQ3:=η q3
 have HSP:=η hs.st_parts
 have HHD:=η (hi.hdok hf hk)
 have HWI:=η hi
 have HV:=η hv
 have HC:=η hc
 have HT:=η ht
 have HFW:=η hf
 clear hc hv hs q1 q2 q3 hi hf
 obtain⟨wa,hwa⟩:∃y:World,y=w.alloc (.cells #[.slice al x.head.log.length cl,.int .i64 x.head.boot,.int .i64 x.head.next,.slice ao x.head.opn.length co,.slice ah x.houses.length ch,.slice an x.net.length cn] 93):=⟨_,rfl⟩
 obtain⟨wb,hwb⟩:∃y:World,y=wa.alloc (.cells #[.int .i64 2,.int .i64 sn,.slice ap sp.length cp] 164):=⟨_,rfl⟩
 obtain⟨wz,hwz⟩:∃y:World,y=wb.alloc (.cells #[.slice none 0 0,.int .i64 0,.int .i64 0,.slice none 0 0,.slice none 0 0,.slice none 0 0] 93):=⟨_,rfl⟩
 have hsa:wa.heap.size=w.heap.size+1:=by rw [hwa];simp
 have hsb:wb.heap.size=w.heap.size+2:=by rw [hwb];simp [hsa]
 have R2:Hid (wz.heap[w.heap.size]? =some (.cells #[.slice al x.head.log.length cl,.int .i64 x.head.boot,.int .i64 x.head.next,.slice ao x.head.opn.length co,.slice ah x.houses.length ch,.slice an x.net.length cn] 93 (0,0))):=η (by rw [hwz,hwb,hwa];exact heap_later (heap_later (row_new _ _) _) _)
 have R3:Hid (wz.heap[w.heap.size+1]? =some (.cells #[.int .i64 2,.int .i64 sn,.slice ap sp.length cp] 164 (0,0))):=η (by rw [hwz,hwb,←hsa];exact heap_later (row_new _ _) _)
 have R4:Hid (wz.heap[w.heap.size+2]? =some (.cells #[.slice none 0 0,.int .i64 0,.int .i64 0,.slice none 0 0,.slice none 0 0,.slice none 0 0] 93 (0,0))):=η (by rw [hwz,←hsb];exact row_new _ _)
 have G1:Hid (Grow w wz):=η (by rw [hwz,hwb,hwa];exact(((Grow.refl w).alloc _).alloc _).alloc _)
 have HZ:Hid (wz.heap.size=w.heap.size+3):=η (by rw [hwz];simp [hsb])
 go_enter Try.func138,Try.ntmps138
 go_upto_region 1 with fail
 rw [←hwa]
 try rw [hsa]
 rw [←hwb]
 try rw [hsb]
 rw [←hwz]
 clear hwa hwb hwz hsa hsb
 obtain⟨c0,c1,c2,c3,c4,c5⟩:=cells6 R2.o
 obtain⟨d0,d1,d2⟩:=cells3 R3.o
 have z2:w.heap.size<wz.heap.size:=(γ R2.o)
 have z3:w.heap.size+1<wz.heap.size:=(γ R3.o)
 go_cut [6] from 22 (fun s6 wc=>s6=.bool (there x sn)∧wz=wc)
 case first=>
  by_cases h0:0≤sn
  ·by_cases h1:sn<(x.net.length:Int)
   ·go_wp2
    go_meet
    case rel=>exact⟨by first|rfl|(simp [there,h0,h1];done),rfl⟩
   ·go_wp2
    go_meet
    case rel=>exact⟨by first|rfl|(simp [there,h0,h1];done)|(simp [there,h0];omega),rfl⟩
  ·go_wp2
   go_meet
   case rel=>exact⟨by first|rfl|(simp [there];done)|(simp [there];omega),rfl⟩
 case rest=>
 obtain⟨rfl,rfl⟩:=hcut
 obtain⟨h0,h1⟩:0≤sn∧sn<(x.net.length:Int):=of_decide_eq_true HT.o
 have HE2:Hid (doErr x ⟨2,sn,sp⟩=0):=η (by unfold doErr;simp [ht])
 have HE0:Hid (doA x ⟨2,sn,sp⟩=comeA { x with net:=x.net.eraseIdx sn.toNat } (x.net.getD sn.toNat ⟨0,0,0,[]⟩)):=η (by unfold doA;simp [ht])
 rw [ht]
 obtain⟨i,hi⟩:∃i:Nat,sn=(i:Int):=⟨sn.toNat,by omega⟩
 have hil:i<x.net.length:=by omega
 have hti:sn.toNat=i:=by omega
 have hq3:=HQ3.o
 obtain⟨an',cn',he9,hcc,-,-,hel⟩:=hq3
 simp only [Value.slice.injEq] at he9
 obtain⟨rfl,-,rfl⟩:=he9
 rw [List.length_map] at hcc
 obtain⟨bb,o,u,rfl,ci,hbi⟩:=Nts.at_ hel i (by simpa using hil)
 obtain⟨au,cu,rfl,-⟩:=id hbi
 have HMI:Hid ((x.net.map bytesM)[i]'(by simpa using hil)=bytesM x.net[i]):=η (by rw [List.getElem_map])
 rw [HMI.o] at hbi ci
 have HRD:=η (fun(W:World) (hW:Grow w W)=>ref_readN W (hbi.mono (HC.o.trans hW.sub)))
 have HRB:=η (read_bytes (HWI.o.right _ (List.getElem_mem hil)))
 rw [HRB.o] at HRD
 have H24:=η HWI.o.len
 have HN3:Hid (Nts c (.slice (some ⟨bb,o,none⟩) x.net.length cn) (x.net.map bytesM)):=η HQ3.o
 rw [hti] at HE0
 have HGD:Hid (x.net.getD i ⟨0,0,0,[]⟩=x.net[i]):=η (by rw [List.getD_eq_getElem?_getD,List.getElem?_eq_getElem hil];rfl)
 rw [HGD.o] at HE0
 have HMO:Hid (MOk n G x.head x.houses x.net[i]):=η (HWI.o.net _ (List.getElem_mem hil))
 clear HGD
 have HSI:Hid (sn=(i:Int)):=η hi
 replace ci:=(HC.o.trans G1.o.sub) _ _ ci
 clear hel hbi ht HT HRB HMI
 generalize x.net[i]=m at*
 have hi0:(0:Int)≤sn:=by omega
 have hi9:sn<(x.net.length:Int):=by omega
 subst hi
 go_upto_region 21 with fail
 clear c0 c1 c2 c3 c4 c5 d0 d1 d2 ci z2 z3
 have hll:(x.net.map bytesM).length=x.net.length:=List.length_map _
 have HTK:=η (HN3.o.take' i (by omega))
 have HDR0:=η (HN3.o.drop (i+1) (by omega))
 have HEM:=η (erase_map x.net i)
 have HLE:Hid ((x.net.eraseIdx i).length=i+(x.net.length - (i+1))):=η (by rw [List.length_eraseIdx,if_pos hil];omega)
 have hii:IntKind.i64.wrap ((i:Int)+1)=(i:Int)+1:=IntWalk.i64_in _ (by have:=H24.o;omega)
 have hi2:(0:Int)≤(i:Int)+1:=by omega
 have hi3:(i:Int)+1≤(x.net.length:Int):=by omega
 have hi4:((i:Int)+1).toNat=i+1:=by omega
 have hi5:(i:Int)≤(cn:Int):=by omega
 have hi7:(x.net.length:Int)≤(cn:Int):=by omega
 have HS:Hid (∀W,Grow wz W→W.cell? ⟨w.heap.size,5,none⟩=some (.slice (some ⟨bb,o,none⟩) x.net.length cn)∧W.cell? ⟨w.heap.size+1,1,none⟩=some (.int .i64 i)):=fun W hW=>by
  obtain⟨-,-,-,-,-,j5⟩:=cells6 (row_grow R2.o hW)
  obtain⟨-,f1,-⟩:=cells3 (row_grow R3.o hW)
  exact⟨j5,f1⟩
 go_cut [11] from 95 (fun s11 wc=>s11=.slice au (bytesM m).length cu∧∃a9 n9 c9,wc.heap[w.heap.size]? =some (.cells #[.slice al x.head.log.length cl,.int .i64 x.head.boot,.int .i64 x.head.next,.slice ao x.head.opn.length co,.slice ah x.houses.length ch,.slice a9 n9 c9] 93 (0,0))∧wc.heap[w.heap.size+1]? =some (.cells #[.int .i64 2,.int .i64 i,.slice ap sp.length cp] 164 (0,0))∧wc.heap[w.heap.size+2]? =some (.cells #[.slice none 0 0,.int .i64 0,.int .i64 0,.slice none 0 0,.slice none 0 0,.slice none 0 0] 93 (0,0))∧OwnC Ty.bs c wc (w.heap.size+3) 69 (.slice a9 n9 c9) ((x.net.eraseIdx i).map bytesM)∧Grow w wc)
 case first=>
  by_cases hcap:cn=i+1
  ·have HDR:Hid (Sl Ty.bs c (.slice (some ⟨bb,o,none⟩) 0 0) ((x.net.map bytesM).drop (i+1))):=η (Sl.none' _ _ _ (List.drop_eq_nil_of_le (by omega)))
   obtain rfl:=hcap
   have hi5b:(i:Int)≤(i:Int)+1:=by omega
   refine but_start (fun w'=>w'.cell? ⟨w.heap.size,5,none⟩=some (.slice (some ⟨bb,o,none⟩) x.net.length (i+1))∧w'.cell? ⟨w.heap.size+1,1,none⟩=some (.int .i64 i)) 15 (by kernel_rfl) ?_
   obtain⟨wd,hWd⟩:∃x:World,x=wz.drew:=⟨_,rfl⟩
   rw [←hWd]
   have GD:Grow wz wd:=by rw [hWd];exact(Grow.refl _).drew
   have zD:wz.heap.size=wd.heap.size:=by rw [hWd];rfl
   have ZD:=η zD
   clear hWd zD
   refine bLm [1,2,3,4,5,7,8,9,10,11,12] 20 (by kernel_rfl) (fun _ _ _ _ _ h=>h) (HS.o _ GD) ?_
   repeat (refine tNm (v:=?_) rfl (by rfl) ?_ ?_;rotate_left;(· (intro w' hSw;(try dsimp only at hSw);obtain⟨hs0,hs1⟩:=hSw;go_simp<;>with_reducible rfl));try simp only [Act.put,lzA,lzB,lzC,lzD,lzE,lzF])
   refine tEm ?_
   refine bO 0 (by kernel_rfl) rfl ?_
   intro K HK
   try simp only [lzA,lzC]
   go_simp
   obtain⟨w7,hw7⟩:∃y:World,y=wd.alloc (.cells #[] 69):=⟨_,rfl⟩
   have HO7:Hid (OwnC Ty.bs c w7 (w.heap.size+3) 69 (.slice (some ⟨wd.heap.size,0,none⟩) 0 0) []):=η (by rw [hw7];exact OwnC.made0 Ty.bs _ _ _ _ (by have:=ZD.o;have:=HZ.o;omega) rfl)
   have HG7:Hid (Grow wz w7):=η (by rw [hw7];exact GD.alloc _)
   rw [←hw7]
   clear hw7
   refine HK.o _ _ ⟨fun _=>HS.o _ HG7.o,?_⟩
   clear HK K
   try simp only [Act.put,lzA,lzB,lzC,lzD,lzE,lzF]
   refine bO 6 (by kernel_rfl) rfl ?_
   intro K HK
   refine wanted_go rfl ?_
   try simp only [lzA,lzB,lzC]
   refine wp_appv (c:=c) (base:=w.heap.size+3) (l:=[]) (m:=(x.net.map bytesM).take i) (k:=(x.net.map bytesM).take i) (v:=.slice (some ⟨wd.heap.size,0,none⟩) 0 0) ei_bts rfl (one_Tsl Ty.byte) (by decide) (.tmp 95) (.tmp 100) rfl (List.nil_append _) rfl HO7.o rfl (Src.of_sl_c (by decide) (HC.o.trans (G1.o.trans HG7.o).sub) HTK.o) (by have:=H24.o;rw [List.length_take];simp;omega) (by have:=HG7.o.size;have:=HZ.o;omega) ?_
   intro a8 n8 c8 w8 hn8 ho8 hg8 hb8
   have HO8:=η ho8
   have HG8:=η (grow_by (w0:=wz) HG7.o hg8 (fun q hq=>by have:=(HO7.o.lt q hq).1;have:=HZ.o;omega))
   clear hn8 ho8 hg8 hb8
   refine HK.o _ _ ⟨fun _=>HS.o _ HG8.o,?_⟩
   clear HK K
   try simp only [Act.put,lzD,lzE,lzF]
   refine bO 13 (by kernel_rfl) rfl ?_
   intro K HK
   refine wanted_go rfl ?_
   try simp only [lzA,lzB,lzC]
   refine wp_appv (c:=c) (base:=w.heap.size+3) (l:=(x.net.map bytesM).take i) (m:=(x.net.map bytesM).drop (i+1)) (k:=(x.net.eraseIdx i).map bytesM) (v:=.slice a8 n8 c8) ei_bts rfl (one_Tsl Ty.byte) (by decide) (.tmp 101) (.tmp 107) rfl HEM.o rfl HO8.o rfl (Src.of_sl_c (by decide) (HC.o.trans (G1.o.trans HG8.o).sub) ?srcd) (by have:=H24.o;rw [List.length_take,List.length_drop,List.length_map];omega) (by have:=HG8.o.size;have:=HZ.o;omega) ?_
   case srcd=>exact HDR.o
   intro a9 n9 c9 w9 hn9 ho9 hg9 hb9
   have HO9:=η ho9
   have HG9:=η (grow_by (w0:=wz) HG8.o hg9 (fun q hq=>by have:=(HO8.o.lt q hq).1;have:=HZ.o;omega))
   clear hn9 ho9 hg9 hb9
   refine HK.o _ _ ⟨fun _=>HS.o _ HG9.o,?_⟩
   clear HK K
   try simp only [Act.put,lzD,lzE,lzF]
   refine bO 14 (by kernel_rfl) rfl ?_
   intro K HK
   try simp only [lzA,lzB,lzC]
   go_simp
   refine HK.o _ _ ⟨fun _=>HS.o _ HG9.o,?_⟩
   clear HK K
   try simp only [Act.put,lzA,lzB,lzC,lzD,lzE,lzF]
   refine bO 15 (by kernel_rfl) rfl ?_
   intro K HK
   refine wanted_go rfl ?_
   try simp only [lzA,lzB,lzC]
   refine wp_store_cell (.tmp 109) (.tmp 108) (v:=.slice a9 n9 c9) (new:=#[.slice al x.head.log.length cl,.int .i64 x.head.boot,.int .i64 x.head.next,.slice ao x.head.opn.length co,.slice ah x.houses.length ch,.slice a9 n9 c9]) rfl rfl (by rfl) (by rfl) (row_grow R2.o HG9.o) info_nets (by simp) (by rfl) (by rfl) ?_
   intro w5 r5 g5
   refine HK.o _ _ ⟨fun h=>absurd rfl h,?_⟩
   clear HK K
   try simp only [Act.put]
   refine but_done (by kernel_rfl) ?_
   go_wp2
   go_meet
   case rel=>exact⟨rfl,a9,n9,c9,r5,row_by (row_grow R3.o HG9.o) g5 (by intro e;have:=Option.some.inj e;omega),row_by (row_grow R4.o HG9.o) g5 (by intro e;have:=Option.some.inj e;omega),HO9.o.kept g5 (own_apart HO9.o (by omega)),(G1.o.trans HG9.o).grown g5 (fun q hq=>by simp at hq;omega)⟩
  ·have HDR:Hid (Sl Ty.bs c (.slice (some ⟨bb,o+(i+1),none⟩) (x.net.length - (i+1)) (cn - (i+1))) ((x.net.map bytesM).drop (i+1))):=η (by simpa [show Ty.bs.size=1 from rfl] using HDR0.o)
   refine but_start (fun w'=>w'.cell? ⟨w.heap.size,5,none⟩=some (.slice (some ⟨bb,o,none⟩) x.net.length cn)∧w'.cell? ⟨w.heap.size+1,1,none⟩=some (.int .i64 i)) 15 (by kernel_rfl) ?_
   obtain⟨wd,hWd⟩:∃x:World,x=wz.drew:=⟨_,rfl⟩
   rw [←hWd]
   have GD:Grow wz wd:=by rw [hWd];exact(Grow.refl _).drew
   have zD:wz.heap.size=wd.heap.size:=by rw [hWd];rfl
   have ZD:=η zD
   clear hWd zD
   refine bLm [1,2,3,4,5,7,8,9,10,11,12] 20 (by kernel_rfl) (fun _ _ _ _ _ h=>h) (HS.o _ GD) ?_
   repeat (refine tNm (v:=?_) rfl (by rfl) ?_ ?_;rotate_left;(· (intro w' hSw;(try dsimp only at hSw);obtain⟨hs0,hs1⟩:=hSw;go_simp<;>with_reducible rfl));try simp only [Act.put,lzA,lzB,lzC,lzD,lzE,lzF])
   refine tEm ?_
   refine bO 0 (by kernel_rfl) rfl ?_
   intro K HK
   try simp only [lzA,lzC]
   go_simp
   obtain⟨w7,hw7⟩:∃y:World,y=wd.alloc (.cells #[] 69):=⟨_,rfl⟩
   have HO7:Hid (OwnC Ty.bs c w7 (w.heap.size+3) 69 (.slice (some ⟨wd.heap.size,0,none⟩) 0 0) []):=η (by rw [hw7];exact OwnC.made0 Ty.bs _ _ _ _ (by have:=ZD.o;have:=HZ.o;omega) rfl)
   have HG7:Hid (Grow wz w7):=η (by rw [hw7];exact GD.alloc _)
   rw [←hw7]
   clear hw7
   refine HK.o _ _ ⟨fun _=>HS.o _ HG7.o,?_⟩
   clear HK K
   try simp only [Act.put,lzA,lzB,lzC,lzD,lzE,lzF]
   refine bO 6 (by kernel_rfl) rfl ?_
   intro K HK
   refine wanted_go rfl ?_
   try simp only [lzA,lzB,lzC]
   refine wp_appv (c:=c) (base:=w.heap.size+3) (l:=[]) (m:=(x.net.map bytesM).take i) (k:=(x.net.map bytesM).take i) (v:=.slice (some ⟨wd.heap.size,0,none⟩) 0 0) ei_bts rfl (one_Tsl Ty.byte) (by decide) (.tmp 95) (.tmp 100) rfl (List.nil_append _) rfl HO7.o rfl (Src.of_sl_c (by decide) (HC.o.trans (G1.o.trans HG7.o).sub) HTK.o) (by have:=H24.o;rw [List.length_take];simp;omega) (by have:=HG7.o.size;have:=HZ.o;omega) ?_
   intro a8 n8 c8 w8 hn8 ho8 hg8 hb8
   have HO8:=η ho8
   have HG8:=η (grow_by (w0:=wz) HG7.o hg8 (fun q hq=>by have:=(HO7.o.lt q hq).1;have:=HZ.o;omega))
   clear hn8 ho8 hg8 hb8
   refine HK.o _ _ ⟨fun _=>HS.o _ HG8.o,?_⟩
   clear HK K
   try simp only [Act.put,lzD,lzE,lzF]
   refine bO 13 (by kernel_rfl) rfl ?_
   intro K HK
   refine wanted_go rfl ?_
   try simp only [lzA,lzB,lzC]
   refine wp_appv (c:=c) (base:=w.heap.size+3) (l:=(x.net.map bytesM).take i) (m:=(x.net.map bytesM).drop (i+1)) (k:=(x.net.eraseIdx i).map bytesM) (v:=.slice a8 n8 c8) ei_bts rfl (one_Tsl Ty.byte) (by decide) (.tmp 101) (.tmp 107) rfl HEM.o rfl HO8.o rfl (Src.of_sl_c (by decide) (HC.o.trans (G1.o.trans HG8.o).sub) ?srcd) (by have:=H24.o;rw [List.length_take,List.length_drop,List.length_map];omega) (by have:=HG8.o.size;have:=HZ.o;omega) ?_
   case srcd=>exact HDR.o
   intro a9 n9 c9 w9 hn9 ho9 hg9 hb9
   have HO9:=η ho9
   have HG9:=η (grow_by (w0:=wz) HG8.o hg9 (fun q hq=>by have:=(HO8.o.lt q hq).1;have:=HZ.o;omega))
   clear hn9 ho9 hg9 hb9
   refine HK.o _ _ ⟨fun _=>HS.o _ HG9.o,?_⟩
   clear HK K
   try simp only [Act.put,lzD,lzE,lzF]
   refine bO 14 (by kernel_rfl) rfl ?_
   intro K HK
   try simp only [lzA,lzB,lzC]
   go_simp
   refine HK.o _ _ ⟨fun _=>HS.o _ HG9.o,?_⟩
   clear HK K
   try simp only [Act.put,lzA,lzB,lzC,lzD,lzE,lzF]
   refine bO 15 (by kernel_rfl) rfl ?_
   intro K HK
   refine wanted_go rfl ?_
   try simp only [lzA,lzB,lzC]
   refine wp_store_cell (.tmp 109) (.tmp 108) (v:=.slice a9 n9 c9) (new:=#[.slice al x.head.log.length cl,.int .i64 x.head.boot,.int .i64 x.head.next,.slice ao x.head.opn.length co,.slice ah x.houses.length ch,.slice a9 n9 c9]) rfl rfl (by rfl) (by rfl) (row_grow R2.o HG9.o) info_nets (by simp) (by rfl) (by rfl) ?_
   intro w5 r5 g5
   refine HK.o _ _ ⟨fun h=>absurd rfl h,?_⟩
   clear HK K
   try simp only [Act.put]
   refine but_done (by kernel_rfl) ?_
   go_wp2
   go_meet
   case rel=>exact⟨rfl,a9,n9,c9,r5,row_by (row_grow R3.o HG9.o) g5 (by intro e;have:=Option.some.inj e;omega),row_by (row_grow R4.o HG9.o) g5 (by intro e;have:=Option.some.inj e;omega),HO9.o.kept g5 (own_apart HO9.o (by omega)),(G1.o.trans HG9.o).grown g5 (fun q hq=>by simp at hq;omega)⟩
 case rest=>
 obtain⟨rfl,a9,n9,c9,r9,r3,r4,ho9,hgw⟩:=hcut
 have R29:=η r9
 have R39:=η r3
 have R49:=η r4
 have HO9:=η ho9
 have GW9:=η hgw
 obtain⟨w9,rfl⟩:∃y:World,y=wc:=⟨_,rfl⟩
 clear r9 r3 r4 ho9 hgw HS HTK HDR0 hii hi2 hi3 hi4 hi5 hi7
 go_wp2_with fail
 refine(HRD.o _ GW9.o).mono ?_
 rintro e w5 ⟨v5,rfl,hx5,hb5⟩
 have HNN:=η HWI.o.core.len
 have HN3':=η HWI.o.core.n3
 have HRM:=η HMO.o.right
 obtain⟨j,hj⟩:∃j:Nat,m.house=(j:Int):=⟨m.house.toNat,by have:=HRM.o.house;omega⟩
 have hjn:j<x.houses.length:=by have:=HMO.o.here;have:=HNN.o;omega
 have hj3:x.houses.length≤3:=by have:=HNN.o;have:=HN3'.o;omega
 have HMI:Hid (I64 m.kind∧I64 m.deed∧I64 m.house):=η (by obtain⟨cs,he,vp,rfl,i0,i1,i2,-⟩:=hx5;exact⟨i0,i1,i2⟩)
 obtain⟨ap5,cp5,rfl⟩:=hx5.ms_form
 have HMJ:Hid (m.house=(j:Int)):=η hj
 have HXM:=η hx5
 rw [hj] at HXM ⊢
 have G5:=η (GW9.o.trans hb5)
 have HZ9:Hid (w.heap.size+3≤w9.heap.size):=η (by have:=(γ R49.o);omega)
 have GB5:=η hb5
 have R25:=η (row_grow R29.o hb5)
 have R35:=η (row_grow R39.o hb5)
 have R45:=η (row_grow R49.o hb5)
 have HO5:=η (HO9.o.grow hb5)
 clear hx5 hb5 hj
 obtain⟨c0,c1,c2,c3,c4,c5⟩:=cells6 R25.o
 obtain⟨d0,d1,d2⟩:=cells3 R35.o
 have z2:w.heap.size<w5.heap.size:=(γ R25.o)
 have z3:w.heap.size+1<w5.heap.size:=(γ R35.o)
 go_upto_region 23 with fail
 obtain⟨w6,hw6⟩:∃y:World,y=w5.alloc (.cells #[.int .i64 m.kind,.int .i64 m.deed,.int .i64 (j:Int),.slice ap5 m.parts.length cp5] 39):=⟨_,rfl⟩
 have G56:Hid (Grow w5 w6):=η (by rw [hw6];exact(Grow.refl _).alloc _)
 obtain⟨BM,hBM⟩:∃y,y=w5.heap.size:=⟨_,rfl⟩
 have RM6:Hid (w6.heap[BM]? =some (.cells #[.int .i64 m.kind,.int .i64 m.deed,.int .i64 (j:Int),.slice ap5 m.parts.length cp5] 39 (0,0))):=η (by rw [hw6,hBM];exact row_new _ _)
 have HBM:Hid (w.heap.size+3≤BM):=η (by have:=HZ9.o;have:=GB5.o.size;omega)
 rw [←hw6,←hBM]
 clear hw6 hBM c0 c1 c2 c3 c4 c5 d0 d1 d2 z2 z3
 have R26:=η (row_grow R25.o G56.o)
 have R36:=η (row_grow R35.o G56.o)
 have R46:=η (row_grow R45.o G56.o)
 have HO6:=η (HO5.o.grow G56.o)
 have G6:=η (G5.o.trans G56.o)
 have HM6:Hid (Of Ty.ms (dm c w w6) (.agg #[.int .i64 m.kind,.int .i64 m.deed,.int .i64 (j:Int),.slice ap5 m.parts.length cp5]) m):=η (HXM.o.mono ((dm_none HZ9.o).trans (dm_grow G56.o)))
 have HN6:Hid (Nts (dm c w w6) (.slice a9 n9 c9) ((x.net.eraseIdx i).map bytesM)):=η (HO6.o.slc (by decide) (dm_in HC.o) fun a9 ha9=>dm_new (by omega))
 have HW6:Hid (w.heap.size+3≤w6.heap.size):=η (by have:=HBM.o;have:=(γ RM6.o);omega)
 have HLE:Hid ((x.net.eraseIdx i).length≤24):=η (by have:=H24.o;rw [List.length_eraseIdx];split<;>omega)
 have HHJ:Hid (x.houses[m.house.toNat]? =some x.houses[j]):=η (by rw [HMJ.o,Int.toNat_natCast];exact List.getElem?_eq_getElem hjn)
 have hjl:¬(x.houses.length:Int)≤(j:Int):=by omega
 obtain⟨c0,c1,c2,c3,c4,c5⟩:=cells6 R26.o
 obtain⟨d0,d1,d2⟩:=cells3 R36.o
 obtain⟨m0,m1,m2,m3⟩:=cells4 RM6.o
 have z2:w.heap.size<w6.heap.size:=(γ R26.o)
 have z3:w.heap.size+1<w6.heap.size:=(γ R36.o)
 have zM:BM<w6.heap.size:=(γ RM6.o)
 go_upto_region 25 with fail
 obtain⟨tf,htf⟩:∃b:Bool,b=forHouse m:=⟨_,rfl⟩
 have HTF:=η htf
 clear htf
 go_cut [143] from 131 (fun s143 wc=>s143=.bool tf∧w6=wc)
 case first=>
  by_cases hk1:m.kind=1
  ·have hb1:(m.kind==1)=true:=by simp [hk1]
   have HK1:=η hk1
   clear hk1
   go_wp2
   go_meet
   case rel=>exact⟨by rw [HTF.o,forHouse_iff];have h1:=HK1.o;simp [h1],rfl⟩
  ·have hb1:(m.kind==1)=false:=by simp [hk1]
   have HK1:=η hk1
   clear hk1
   by_cases hk4:m.kind=4
   ·have hb4:(m.kind==4)=true:=by simp [hk4]
    have HK4:=η hk4
    clear hk4
    go_wp2
    go_meet
    case rel=>exact⟨by rw [HTF.o,forHouse_iff];have h1:=HK4.o;simp [h1],rfl⟩
   ·have hb4:(m.kind==4)=false:=by simp [hk4]
    have HK4:=η hk4
    clear hk4
    by_cases hk5:m.kind=5
    ·have hb5:(m.kind==5)=true:=by simp [hk5]
     have HK5:=η hk5
     clear hk5
     go_wp2
     go_meet
     case rel=>exact⟨by rw [HTF.o,forHouse_iff];have h1:=HK5.o;simp [h1],rfl⟩
    ·have hb5:(m.kind==5)=false:=by simp [hk5]
     have HK5:=η hk5
     clear hk5
     go_wp2
     go_meet
     case rel=>exact⟨by rw [HTF.o,forHouse_iff];have h1:=HK1.o;have h4:=HK4.o;have h5:=HK5.o;simp [h1,h4,h5],rfl⟩
 case rest=>
 obtain⟨rfl,rfl⟩:=hcut
 clear c0 c1 c2 c3 c4 c5 d0 d1 d2 m0 m1 m2 m3 z2 z3 zM
 cases tf with
 |true=>
  have HEC:=η (come_house (w:={ x with net:=x.net.eraseIdx i }) HHJ.o HTF.o.symm)
  rw [HEC.o,HMJ.o,Int.toNat_natCast] at HE0
  as_aux_lemma=>
   have hq2:=HQ2.o
   obtain⟨ah',ch',he9,-,-,-,hel⟩:=hq2
   simp only [Value.slice.injEq,true_and] at he9
   obtain⟨rfl,rfl⟩:=he9
   obtain⟨bh,oh,vl,vr,vd,rfl,e0,e1,e2,e3,e4,e5,e6,hH1,s1,s2,s3,s4,hH2,hH3⟩:=Hss.at_ hel j hjn
   obtain⟨il,jl,rfl,-⟩:=id hH1
   obtain⟨ir,jr,rfl,-⟩:=id hH2
   obtain⟨id9,jd,rfl,-⟩:=id hH3
   have HHS:Hid (Of Ty.hs c (.agg #[.slice il x.houses[j].log.length jl,.int .i64 x.houses[j].sums.a,.int .i64 x.houses[j].sums.b,.int .i64 x.houses[j].sums.c,.int .i64 x.houses[j].sums.d,.slice ir x.houses[j].ready.length jr,.slice id9 x.houses[j].done.length jd]) x.houses[j]):=η ⟨_,rfl,_,_,_,rfl,hH1,s1,s2,s3,s4,hH2,hH3⟩
   have HE7:=η (And.intro e0 (And.intro e1 (And.intro e2 (And.intro e3 (And.intro e4 (And.intro e5 e6))))))
   have HHI:=η (HWI.o.core.house j _ (List.getElem?_eq_getElem hjn))
   have HKL:Hid (x.houses[j].log.length≤k):=η (HFW.o.logs _ (List.getElem_mem hjn))
   have HSY:Hid (∀q∈hearM x.houses[j] m.house m,wrongM q=0):=η (WI.says (HWI.o.core.hear HMO.o HHJ.o).2.2)
   rw [HMJ.o] at HSY
   have HSR:=η HHI.o.keys
   have HMD:=η HHI.o.calm.made
   clear hel hH1 hH2 hH3 s1 s2 s3 s4 e0 e1 e2 e3 e4 e5 e6
   generalize x.houses[j]=hh at*
   have HS:Hid (∀W,Grow w6 W→W.cell? ⟨w.heap.size,4,none⟩=some (.slice (some ⟨bh,oh,none⟩) x.houses.length ch)∧W.cell? ⟨BM,0,none⟩=some (.int .i64 m.kind)∧W.cell? ⟨BM,1,none⟩=some (.int .i64 m.deed)∧W.cell? ⟨BM,2,none⟩=some (.int .i64 (j:Int))∧W.cell? ⟨BM,3,none⟩=some (.slice ap5 m.parts.length cp5)∧W.cell? ⟨bh,oh+j*7,none⟩=some (.slice il hh.log.length jl)∧W.cell? ⟨bh,oh+j*7+1,none⟩=some (.int .i64 hh.sums.a)∧W.cell? ⟨bh,oh+j*7+2,none⟩=some (.int .i64 hh.sums.b)∧W.cell? ⟨bh,oh+j*7+3,none⟩=some (.int .i64 hh.sums.c)∧W.cell? ⟨bh,oh+j*7+4,none⟩=some (.int .i64 hh.sums.d)∧W.cell? ⟨bh,oh+j*7+5,none⟩=some (.slice ir hh.ready.length jr)∧W.cell? ⟨bh,oh+j*7+6,none⟩=some (.slice id9 hh.done.length jd)):=fun W hW=>by
    obtain⟨-,-,-,-,j4,-⟩:=cells6 (row_grow R26.o hW)
    obtain⟨k0,k1,k2,k3⟩:=cells4 (row_grow RM6.o hW)
    have gs:=HC.o.trans (G6.o.trans hW).sub
    obtain⟨e0,e1,e2,e3,e4,e5,e6⟩:=HE7.o
    exact⟨j4,k0,k1,k2,k3,gs _ _ e0,gs _ _ e1,gs _ _ e2,gs _ _ e3,gs _ _ e4,gs _ _ e5,gs _ _ e6⟩
   have hj0:(0:Int)≤(j:Int):=by omega
   have hj1:(j:Int)<(x.houses.length:Int):=by omega
   go_upto_region 26 with fail
   refine but_start (fun w'=>w'.cell? ⟨w.heap.size,4,none⟩=some (.slice (some ⟨bh,oh,none⟩) x.houses.length ch)∧w'.cell? ⟨BM,0,none⟩=some (.int .i64 m.kind)∧w'.cell? ⟨BM,1,none⟩=some (.int .i64 m.deed)∧w'.cell? ⟨BM,2,none⟩=some (.int .i64 (j:Int))∧w'.cell? ⟨BM,3,none⟩=some (.slice ap5 m.parts.length cp5)∧w'.cell? ⟨bh,oh+j*7,none⟩=some (.slice il hh.log.length jl)∧w'.cell? ⟨bh,oh+j*7+1,none⟩=some (.int .i64 hh.sums.a)∧w'.cell? ⟨bh,oh+j*7+2,none⟩=some (.int .i64 hh.sums.b)∧w'.cell? ⟨bh,oh+j*7+3,none⟩=some (.int .i64 hh.sums.c)∧w'.cell? ⟨bh,oh+j*7+4,none⟩=some (.int .i64 hh.sums.d)∧w'.cell? ⟨bh,oh+j*7+5,none⟩=some (.slice ir hh.ready.length jr)∧w'.cell? ⟨bh,oh+j*7+6,none⟩=some (.slice id9 hh.done.length jd)) 15 (by kernel_rfl) ?_
   obtain⟨wd,hWd⟩:∃x:World,x=w6.drew:=⟨_,rfl⟩
   rw [←hWd]
   have GD:Grow w6 wd:=by rw [hWd];exact(Grow.refl _).drew
   have zD:w6.heap.size=wd.heap.size:=by rw [hWd];rfl
   have ZD:=η zD
   clear hWd zD
   refine bLm [0] 20 (by kernel_rfl) (fun _ _ _ _ _ h=>h) (HS.o _ GD) ?_
   repeat (refine tNm (v:=?_) rfl (by rfl) ?_ ?_;rotate_left;(· (intro w' hSw;(try dsimp only at hSw);obtain⟨hs0,hs1,hs2,hs3,hs4,hs5,hs6,hs7,hs8,hs9,hs10,hs11⟩:=hSw;go_simp<;>with_reducible rfl));try simp only [Act.put,lzA,lzC,lzD,lzE,lzF])
   refine tEm ?_
   refine bLm [1,2,3,4,5,6,7,8] 20 (by kernel_rfl) (fun _ _ _ _ _ h=>h) (HS.o _ GD) ?_
   repeat (refine tNm (v:=?_) rfl (by rfl) ?_ ?_;rotate_left;(· (intro w' hSw;(try dsimp only at hSw);obtain⟨hs0,hs1,hs2,hs3,hs4,hs5,hs6,hs7,hs8,hs9,hs10,hs11⟩:=hSw;go_simp<;>with_reducible rfl));try simp only [Act.put,lzA,lzB,lzC,lzD,lzE,lzF])
   refine tEm ?_
   refine bP 9 13 (by kernel_rfl) rfl rfl ?_ ?_
   ·intro K HK
    try simp only [lzA,lzB,lzC]
    go_simp
    go_at_call 35
    refine(ref_hear (c:=dm c w w6) (h:=hh) (m:=m) (me:=(j:Int)) _ ((dm_sub HC.o G6.o).trans (Grow.sub GD)) (HHS.o.mono (dm_in HC.o)) HM6.o HSR.o (ms_keys HRM.o) (by have:=HKL.o;omega) (i64_of (by omega) (by omega)) HMD.o).mono ?_
    rintro e7 w7 ⟨v7,y7,rfl,hx7,hy7,hb7⟩
    have GX7:=η (Grow.trans GD hb7)
    have GB7:=η hb7
    obtain⟨al7,cl7,ar7,cr7,ad7,cd7,rfl⟩:=hx7.hs_form
    obtain⟨ay7,cy7,rfl,-⟩:=id hy7
    have HX7:=η hx7
    have HY7:=η hy7
    clear hx7 hy7 hb7
    generalize hearH hh m=gh at*
    generalize hearM hh (j:Int) m=gm at*
    refine HK.o _ _ ⟨fun _=>HS.o _ GX7.o,?_⟩
    clear HK K
    try simp only [Act.put,lzA,lzB,lzC,lzD,lzE,lzF]
    refine bLm [10,11,12] 20 (by kernel_rfl) (fun _ _ _ _ _ h=>h) (HS.o _ GX7.o) ?_
    repeat (refine tNm (v:=?_) rfl (by rfl) ?_ ?_;rotate_left;(· (intro w' hSw;(try dsimp only at hSw);obtain⟨hs0,hs1,hs2,hs3,hs4,hs5,hs6,hs7,hs8,hs9,hs10,hs11⟩:=hSw;go_simp<;>with_reducible rfl));try simp only [Act.put,lzA,lzB,lzC,lzD,lzE,lzF])
    refine tEm ?_
    refine bO 13 (by kernel_rfl) rfl ?_
    intro K HK
    try simp only [lzA,lzB,lzC]
    go_simp
    obtain⟨wg,hwg⟩:∃y:World,y=w7.alloc (.cells #[.slice none 0 0,.int .i64 0,.int .i64 0,.int .i64 0,.int .i64 0,.slice none 0 0,.slice none 0 0] 29):=⟨_,rfl⟩
    obtain⟨BG,hBG⟩:∃y,y=w7.heap.size:=⟨_,rfl⟩
    have GG:Hid (Grow w7 wg):=η (by rw [hwg];exact(Grow.refl _).alloc _)
    have GW6:Hid (Grow w6 wg):=η (Grow.trans GX7.o GG.o)
    have RG:Hid (wg.heap[BG]? =some (.cells #[.slice none 0 0,.int .i64 0,.int .i64 0,.int .i64 0,.int .i64 0,.slice none 0 0,.slice none 0 0] 29 (0,0))):=η (by rw [hwg,hBG];exact row_new _ _)
    have HBG:Hid (BG=w7.heap.size):=η hBG
    have HGW:Hid (w6.heap.size≤w7.heap.size):=η (GX7.o).size
    rw [←hwg,←hBG]
    clear hwg hBG
    have RG7:=η RG.o
    refine HK.o _ _ ⟨fun _=>HS.o _ GW6.o,?_⟩
    clear HK K
    try simp only [Act.put,lzA,lzB,lzC,lzD,lzE,lzF]
    refine bO 14 (by kernel_rfl) rfl ?_
    intro K HK
    refine wanted_go rfl ?_
    try simp only [lzA,lzB,lzC]
    refine wp_store_row (.tmp 14) (.tmp 155) rfl rfl rfl RG7.o info_hs rfl rfl ?_
    intro w8 r8 g8
    have RG8:=η r8
    have GX8:Hid (Grow w6 w8):=η (Grow.grown GW6.o g8 (fun q hq=>by have:=Option.some.inj hq;have:=HBG.o;have:=HGW.o;omega))
    have HP8:Hid (Sub (ov (dm c w w6) wd w7) (dm c w w8)):=η (dm_past GX8.o (fun a9 v9 hl9 e9=>cell_past (GG.o.sub _ _ e9) g8 (by have:=World.block_lt_of_cell? w7 a9 e9;have:=HBG.o;omega)) (by have:=HW6.o;have:=(GD).size;omega))
    have HX8:=η (HX7.o.mono HP8.o)
    have HY8:=η (HY7.o.mono HP8.o)
    clear r8 g8
    refine HK.o _ _ ⟨fun _=>(HS.o _ GX8.o),?_⟩
    clear HK K
    try simp only [Act.put]
    refine bO 15 (by kernel_rfl) rfl ?_
    intro K HK
    try simp only [lzA,lzB,lzC]
    go_simp
    refine HK.o _ _ ⟨fun h=>absurd rfl h,?_⟩
    clear HK K
    try simp only [Act.put,lzA,lzB,lzC,lzD,lzE,lzF]
    refine but_done (by kernel_rfl) ?_
    have G8:=η (G6.o.trans GX8.o)
    have R28:=η (row_grow R26.o GX8.o)
    have R48:=η (row_grow R46.o GX8.o)
    have RM8:=η (row_grow RM6.o GX8.o)
    have HN8:=η (HN6.o.mono (dm_grow GX8.o))
    have HWD8:Hid (Of Ty.wd (dm c w w8) (.agg #[.slice al x.head.log.length cl,.int .i64 x.head.boot,.int .i64 x.head.next,.slice ao x.head.opn.length co,.slice (some ⟨bh,oh,none⟩) x.houses.length ch,.slice a9 n9 c9]) { x with net:=x.net.eraseIdx i }):=η (Of.wd_mk (HQ1.o.mono (dm_in HC.o)) (HQ2.o.mono (dm_in HC.o)) HN8.o)
    clear HS HN6
    obtain⟨c0,c1,c2,c3,c4,c5⟩:=cells6 R28.o
    obtain⟨m0,m1,m2,m3⟩:=cells4 RM8.o
    obtain⟨g0,g1,g2,g3,g4,g5,g6⟩:=cells7 RG8.o
    have z2:w.heap.size<w8.heap.size:=(γ R28.o)
    have zM:BM<w8.heap.size:=(γ RM8.o)
    have zG:BG<w8.heap.size:=(γ RG8.o)
    go_wp2_with fail
    refine(ref_with (c:=dm c w w8) (x:={ x with net:=x.net.eraseIdx i }) (h:=gh) (k:=j) _ (dm_sub HC.o G8.o) HWD8.o HX8.o hjn hj3).mono ?_
    rintro e9 w9x ⟨v9,rfl,hx9,hb9⟩
    have HW8:Hid (w.heap.size+3≤w8.heap.size):=η (by have:=HW6.o;have:=GX8.o.size;omega)
    have HX9:=η (hx9.mono (dm_past hb9 (fun _ _ _ e=>e) HW8.o))
    have HY9:=η (HY8.o.mono (dm_grow hb9))
    have R29:=η (row_grow R28.o hb9)
    have R49x:=η (row_grow R48.o hb9)
    have G9:=η (G8.o.trans hb9)
    obtain⟨al9,cl9,ao9,co9,ah9,ch9,an9,cn9,rfl⟩:=hx9.wd_form
    clear hx9 hb9 c0 c1 c2 c3 c4 c5 m0 m1 m2 m3 g0 g1 g2 g3 g4 g5 g6 z2 zM zG
    have HHL:Hid ((x.houses.set j gh).length=x.houses.length):=η List.length_set
    have HLM:Hid (((x.net.eraseIdx i).map bytesM).length*24+1000≤140737488355328):=η (by rw [List.length_map];have:=HLE.o;omega)
    dsimp only at HX9 ⊢
    generalize (x.houses.set j gh).length=nh at*
    generalize (x.net.eraseIdx i).length=nn at*
    go_wp2_with (first|(refine wpList_store_row rfl (.tmp 2) (.tmp 161) rfl rfl rfl R29.o info_wd rfl rfl ?_))
    intro w10 r10 g10
    have R210:=η r10
    have R410:=η (row_by R49x.o g10 (by intro e;have:=Option.some.inj e;omega))
    have G10:=η (G9.o.grown g10 (fun q hq=>by have:=Option.some.inj hq;omega))
    have HX10:=η (HX9.o.mono (dm_box g10 (by omega)))
    have HY10:=η (HY9.o.mono (dm_box g10 (by omega)))
    have HSZ10:Hid (w.heap.size+3≤w10.heap.size):=η (by have:=g10.size;have:=(γ R49x.o);omega)
    clear r10 g10
    obtain⟨c0,c1,c2,c3,c4,c5⟩:=cells6 R210.o
    have z2:w.heap.size<w10.heap.size:=(γ R210.o)
    have HNP:=η HX10.o.wd_parts.2.2
    go_wp2_with fail
    refine(ref_sendC (c:=dm c w w10) (l:=(x.net.eraseIdx i).map bytesM) (ms:=gm) _ (dm_sub HC.o G10.o) HNP.o (HY10.o.mono (dm_sub HC.o G10.o)) HSY.o HLM.o).mono ?_
    rintro e11 w11 ⟨v11,rfl,hn11,hb11⟩
    rw [send_map] at hn11
    obtain⟨a11,c11,rfl,-⟩:=id hn11
    have HN11:=η (hn11.mono (dm_past hb11 (fun _ _ _ e=>e) HSZ10.o))
    have HX11:=η (HX10.o.mono (dm_grow hb11))
    have R211:=η (row_grow R210.o hb11)
    have R411:=η (row_grow R410.o hb11)
    have G11:=η (G10.o.trans hb11)
    clear hn11 hb11 c0 c1 c2 c3 c4 c5 z2
    generalize ((sendA (x.net.eraseIdx i) gm).map bytesM).length=ns at*
    go_wp2_with (first|(refine wpList_store_cell rfl (.tmp 166) (.tmp 165) (v:=.slice a11 ns c11) (new:=#[.slice al9 x.head.log.length cl9,.int .i64 x.head.boot,.int .i64 x.head.next,.slice ao9 x.head.opn.length co9,.slice ah9 nh ch9,.slice a11 ns c11]) rfl rfl (by rfl) (by rfl) R211.o info_nets (by simp) (by rfl) (by rfl) ?_))
    intro w12 r12 g12
    have R212:=η r12
    have R412:=η (row_by R411.o g12 (by intro e;have:=Option.some.inj e;omega))
    have G12:=η (G11.o.grown g12 (fun q hq=>by have:=Option.some.inj hq;omega))
    have HX12:=η (HX11.o.mono (dm_box g12 (by omega)))
    have HN12:=η (HN11.o.mono (dm_box g12 (by omega)))
    clear r12 g12
    obtain⟨c0,c1,c2,c3,c4,c5⟩:=cells6 R212.o
    have z2:w.heap.size<w12.heap.size:=(γ R212.o)
    go_upto_region 29 with fail
    go_wp2_with (first|(refine wpList_store_row rfl (.tmp 4) (.tmp 167) rfl rfl rfl R412.o info_wd rfl rfl ?_))
    intro w7 r7 g7
    obtain⟨p0,p1,p2,p3,p4,p5⟩:=cells6 r7
    clear c0 c1 c2 c3 c4 c5
    go_wp2
    refine bodyPost_ret (v:=.tuple #[.agg #[.slice al9 x.head.log.length cl9,.int .i64 x.head.boot,.int .i64 x.head.next,.slice ao9 x.head.opn.length co9,.slice ah9 nh ch9,.slice a11 ns c11],.int .i64 0]) (by simp [results,Try.results138,go_sem,p0,p1,p2,p3,p4,p5]) rfl ?_
    have G7:=G12.o.grown g7 (fun q hq=>by simp at hq;omega)
    rw [HE0.o,HE2.o]
    have hsub:Sub (dm c w w12) (ov c w w7):=(dm_box g7 (by omega)).trans (dm_end _ _ _)
    obtain⟨q1,q2,-⟩:=HX12.o.wd_parts
    exact⟨_,rfl,Of.wd_mk (q1.mono hsub) (q2.mono hsub) (HN12.o.mono hsub),G7⟩
   ·intro K HK
    try simp only [lzA,lzB,lzC]
    go_simp
    obtain⟨wg,hwg⟩:∃y:World,y=wd.alloc (.cells #[.slice none 0 0,.int .i64 0,.int .i64 0,.int .i64 0,.int .i64 0,.slice none 0 0,.slice none 0 0] 29):=⟨_,rfl⟩
    obtain⟨BG,hBG⟩:∃y,y=wd.heap.size:=⟨_,rfl⟩
    have GG:Hid (Grow wd wg):=η (by rw [hwg];exact(Grow.refl _).alloc _)
    have GW6:Hid (Grow w6 wg):=η (Grow.trans GD GG.o)
    have RG:Hid (wg.heap[BG]? =some (.cells #[.slice none 0 0,.int .i64 0,.int .i64 0,.int .i64 0,.int .i64 0,.slice none 0 0,.slice none 0 0] 29 (0,0))):=η (by rw [hwg,hBG];exact row_new _ _)
    have HBG:Hid (BG=wd.heap.size):=η hBG
    have HGW:Hid (w6.heap.size≤wd.heap.size):=η (GD).size
    rw [←hwg,←hBG]
    clear hwg hBG
    refine HK.o _ _ ⟨fun _=>HS.o _ GW6.o,?_⟩
    clear HK K
    try simp only [Act.put,lzA,lzB,lzC,lzD,lzE,lzF]
    refine bO 9 (by kernel_rfl) rfl ?_
    intro K HK
    try simp only [lzA,lzB,lzC]
    go_simp
    go_at_call 35
    refine(ref_hear (c:=dm c w w6) (h:=hh) (m:=m) (me:=(j:Int)) _ ((dm_sub HC.o G6.o).trans (Grow.sub GW6.o)) (HHS.o.mono (dm_in HC.o)) HM6.o HSR.o (ms_keys HRM.o) (by have:=HKL.o;omega) (i64_of (by omega) (by omega)) HMD.o).mono ?_
    rintro e7 w7 ⟨v7,y7,rfl,hx7,hy7,hb7⟩
    have GX7:=η (Grow.trans GW6.o hb7)
    have GB7:=η hb7
    obtain⟨al7,cl7,ar7,cr7,ad7,cd7,rfl⟩:=hx7.hs_form
    obtain⟨ay7,cy7,rfl,-⟩:=id hy7
    have HX7:=η hx7
    have HY7:=η hy7
    clear hx7 hy7 hb7
    generalize hearH hh m=gh at*
    generalize hearM hh (j:Int) m=gm at*
    have RG7:=η (row_grow RG.o GB7.o)
    refine HK.o _ _ ⟨fun _=>HS.o _ GX7.o,?_⟩
    clear HK K
    try simp only [Act.put,lzA,lzB,lzC,lzD,lzE,lzF]
    refine bLm [10,11,12] 20 (by kernel_rfl) (fun _ _ _ _ _ h=>h) (HS.o _ GX7.o) ?_
    repeat (refine tNm (v:=?_) rfl (by rfl) ?_ ?_;rotate_left;(· (intro w' hSw;(try dsimp only at hSw);obtain⟨hs0,hs1,hs2,hs3,hs4,hs5,hs6,hs7,hs8,hs9,hs10,hs11⟩:=hSw;go_simp<;>with_reducible rfl));try simp only [Act.put,lzA,lzB,lzC,lzD,lzE,lzF])
    refine tEm ?_
    refine bO 14 (by kernel_rfl) rfl ?_
    intro K HK
    refine wanted_go rfl ?_
    try simp only [lzA,lzB,lzC]
    refine wp_store_row (.tmp 14) (.tmp 155) rfl rfl rfl RG7.o info_hs rfl rfl ?_
    intro w8 r8 g8
    have RG8:=η r8
    have GX8:Hid (Grow w6 w8):=η (Grow.grown GX7.o g8 (fun q hq=>by have:=Option.some.inj hq;have:=HBG.o;have:=HGW.o;omega))
    have HP8:Hid (Sub (ov (dm c w w6) wg w7) (dm c w w8)):=η (dm_past GX8.o (fun a9 v9 hl9 e9=>cell_past e9 g8 (by have:=(γ RG.o);omega)) (by have:=HW6.o;have:=(GW6.o).size;omega))
    have HX8:=η (HX7.o.mono HP8.o)
    have HY8:=η (HY7.o.mono HP8.o)
    clear r8 g8
    refine HK.o _ _ ⟨fun _=>(HS.o _ GX8.o),?_⟩
    clear HK K
    try simp only [Act.put]
    refine bO 15 (by kernel_rfl) rfl ?_
    intro K HK
    try simp only [lzA,lzB,lzC]
    go_simp
    refine HK.o _ _ ⟨fun h=>absurd rfl h,?_⟩
    clear HK K
    try simp only [Act.put,lzA,lzB,lzC,lzD,lzE,lzF]
    refine but_done (by kernel_rfl) ?_
    have G8:=η (G6.o.trans GX8.o)
    have R28:=η (row_grow R26.o GX8.o)
    have R48:=η (row_grow R46.o GX8.o)
    have RM8:=η (row_grow RM6.o GX8.o)
    have HN8:=η (HN6.o.mono (dm_grow GX8.o))
    have HWD8:Hid (Of Ty.wd (dm c w w8) (.agg #[.slice al x.head.log.length cl,.int .i64 x.head.boot,.int .i64 x.head.next,.slice ao x.head.opn.length co,.slice (some ⟨bh,oh,none⟩) x.houses.length ch,.slice a9 n9 c9]) { x with net:=x.net.eraseIdx i }):=η (Of.wd_mk (HQ1.o.mono (dm_in HC.o)) (HQ2.o.mono (dm_in HC.o)) HN8.o)
    clear HS HN6
    obtain⟨c0,c1,c2,c3,c4,c5⟩:=cells6 R28.o
    obtain⟨m0,m1,m2,m3⟩:=cells4 RM8.o
    obtain⟨g0,g1,g2,g3,g4,g5,g6⟩:=cells7 RG8.o
    have z2:w.heap.size<w8.heap.size:=(γ R28.o)
    have zM:BM<w8.heap.size:=(γ RM8.o)
    have zG:BG<w8.heap.size:=(γ RG8.o)
    go_wp2_with fail
    refine(ref_with (c:=dm c w w8) (x:={ x with net:=x.net.eraseIdx i }) (h:=gh) (k:=j) _ (dm_sub HC.o G8.o) HWD8.o HX8.o hjn hj3).mono ?_
    rintro e9 w9x ⟨v9,rfl,hx9,hb9⟩
    have HW8:Hid (w.heap.size+3≤w8.heap.size):=η (by have:=HW6.o;have:=GX8.o.size;omega)
    have HX9:=η (hx9.mono (dm_past hb9 (fun _ _ _ e=>e) HW8.o))
    have HY9:=η (HY8.o.mono (dm_grow hb9))
    have R29:=η (row_grow R28.o hb9)
    have R49x:=η (row_grow R48.o hb9)
    have G9:=η (G8.o.trans hb9)
    obtain⟨al9,cl9,ao9,co9,ah9,ch9,an9,cn9,rfl⟩:=hx9.wd_form
    clear hx9 hb9 c0 c1 c2 c3 c4 c5 m0 m1 m2 m3 g0 g1 g2 g3 g4 g5 g6 z2 zM zG
    have HHL:Hid ((x.houses.set j gh).length=x.houses.length):=η List.length_set
    have HLM:Hid (((x.net.eraseIdx i).map bytesM).length*24+1000≤140737488355328):=η (by rw [List.length_map];have:=HLE.o;omega)
    dsimp only at HX9 ⊢
    generalize (x.houses.set j gh).length=nh at*
    generalize (x.net.eraseIdx i).length=nn at*
    go_wp2_with (first|(refine wpList_store_row rfl (.tmp 2) (.tmp 161) rfl rfl rfl R29.o info_wd rfl rfl ?_))
    intro w10 r10 g10
    have R210:=η r10
    have R410:=η (row_by R49x.o g10 (by intro e;have:=Option.some.inj e;omega))
    have G10:=η (G9.o.grown g10 (fun q hq=>by have:=Option.some.inj hq;omega))
    have HX10:=η (HX9.o.mono (dm_box g10 (by omega)))
    have HY10:=η (HY9.o.mono (dm_box g10 (by omega)))
    have HSZ10:Hid (w.heap.size+3≤w10.heap.size):=η (by have:=g10.size;have:=(γ R49x.o);omega)
    clear r10 g10
    obtain⟨c0,c1,c2,c3,c4,c5⟩:=cells6 R210.o
    have z2:w.heap.size<w10.heap.size:=(γ R210.o)
    have HNP:=η HX10.o.wd_parts.2.2
    go_wp2_with fail
    refine(ref_sendC (c:=dm c w w10) (l:=(x.net.eraseIdx i).map bytesM) (ms:=gm) _ (dm_sub HC.o G10.o) HNP.o (HY10.o.mono (dm_sub HC.o G10.o)) HSY.o HLM.o).mono ?_
    rintro e11 w11 ⟨v11,rfl,hn11,hb11⟩
    rw [send_map] at hn11
    obtain⟨a11,c11,rfl,-⟩:=id hn11
    have HN11:=η (hn11.mono (dm_past hb11 (fun _ _ _ e=>e) HSZ10.o))
    have HX11:=η (HX10.o.mono (dm_grow hb11))
    have R211:=η (row_grow R210.o hb11)
    have R411:=η (row_grow R410.o hb11)
    have G11:=η (G10.o.trans hb11)
    clear hn11 hb11 c0 c1 c2 c3 c4 c5 z2
    generalize ((sendA (x.net.eraseIdx i) gm).map bytesM).length=ns at*
    go_wp2_with (first|(refine wpList_store_cell rfl (.tmp 166) (.tmp 165) (v:=.slice a11 ns c11) (new:=#[.slice al9 x.head.log.length cl9,.int .i64 x.head.boot,.int .i64 x.head.next,.slice ao9 x.head.opn.length co9,.slice ah9 nh ch9,.slice a11 ns c11]) rfl rfl (by rfl) (by rfl) R211.o info_nets (by simp) (by rfl) (by rfl) ?_))
    intro w12 r12 g12
    have R212:=η r12
    have R412:=η (row_by R411.o g12 (by intro e;have:=Option.some.inj e;omega))
    have G12:=η (G11.o.grown g12 (fun q hq=>by have:=Option.some.inj hq;omega))
    have HX12:=η (HX11.o.mono (dm_box g12 (by omega)))
    have HN12:=η (HN11.o.mono (dm_box g12 (by omega)))
    clear r12 g12
    obtain⟨c0,c1,c2,c3,c4,c5⟩:=cells6 R212.o
    have z2:w.heap.size<w12.heap.size:=(γ R212.o)
    go_upto_region 29 with fail
    go_wp2_with (first|(refine wpList_store_row rfl (.tmp 4) (.tmp 167) rfl rfl rfl R412.o info_wd rfl rfl ?_))
    intro w7 r7 g7
    obtain⟨p0,p1,p2,p3,p4,p5⟩:=cells6 r7
    clear c0 c1 c2 c3 c4 c5
    go_wp2
    refine bodyPost_ret (v:=.tuple #[.agg #[.slice al9 x.head.log.length cl9,.int .i64 x.head.boot,.int .i64 x.head.next,.slice ao9 x.head.opn.length co9,.slice ah9 nh ch9,.slice a11 ns c11],.int .i64 0]) (by simp [results,Try.results138,go_sem,p0,p1,p2,p3,p4,p5]) rfl ?_
    have G7:=G12.o.grown g7 (fun q hq=>by simp at hq;omega)
    rw [HE0.o,HE2.o]
    have hsub:Sub (dm c w w12) (ov c w w7):=(dm_box g7 (by omega)).trans (dm_end _ _ _)
    obtain⟨q1,q2,-⟩:=HX12.o.wd_parts
    exact⟨_,rfl,Of.wd_mk (q1.mono hsub) (q2.mono hsub) (HN12.o.mono hsub),G7⟩
 |false=>
  have HEC:=η (come_head (w:={ x with net:=x.net.eraseIdx i }) HHJ.o HTF.o.symm)
  rw [HEC.o] at HE0
  as_aux_lemma=>
   have HSYH:Hid (∀q∈hHearM x.head m,wrongM q=0):=η (WI.says (HWI.o.core.hHear HMO.o).2.2)
   obtain⟨c0,c1,c2,c3,c4,c5⟩:=cells6 R26.o
   obtain⟨m0,m1,m2,m3⟩:=cells4 RM6.o
   have z2:w.heap.size<w6.heap.size:=(γ R26.o)
   have zM:BM<w6.heap.size:=(γ RM6.o)
   go_wp2_with fail
   refine(ref_headHear (c:=dm c w w6) (h:=x.head) (m:=m) _ (dm_sub HC.o G6.o) (HQ1.o.mono (dm_in HC.o)) HM6.o HHD.o).mono ?_
   rintro e7 w7 ⟨v7,y7,rfl,hx7,hy7,hb7⟩
   have HX7:=η (hx7.mono (dm_past hb7 (fun _ _ _ e=>e) HW6.o))
   have HY7:=η (hy7.mono (dm_past hb7 (fun _ _ _ e=>e) HW6.o))
   have GX7:=η hb7
   obtain⟨al8,cl8,ao8,co8,rfl⟩:=hx7.hd_form
   obtain⟨ay8,cy8,rfl,-⟩:=id hy7
   have R27:=η (row_grow R26.o hb7)
   have R47:=η (row_grow R46.o hb7)
   have HN7:=η (HN6.o.mono (dm_grow hb7))
   have G7x:=η (G6.o.trans hb7)
   clear hx7 hy7 hb7 c0 c1 c2 c3 c4 c5 m0 m1 m2 m3 z2 zM HN6
   generalize hHearH x.head m=qh at*
   generalize hHearM x.head m=qm at*
   go_upto_region 31 with fail
   obtain⟨w8,hw8⟩:∃y:World,y=w7.alloc (.cells #[.slice al8 qh.log.length cl8,.int .i64 qh.boot,.int .i64 qh.next,.slice ao8 qh.opn.length co8] 57):=⟨_,rfl⟩
   obtain⟨BH,hBH⟩:∃y,y=w7.heap.size:=⟨_,rfl⟩
   have G78:Hid (Grow w7 w8):=η (by rw [hw8];exact(Grow.refl _).alloc _)
   have RH8:Hid (w8.heap[BH]? =some (.cells #[.slice al8 qh.log.length cl8,.int .i64 qh.boot,.int .i64 qh.next,.slice ao8 qh.opn.length co8] 57 (0,0))):=η (by rw [hw8,hBH];exact row_new _ _)
   have HBHN:Hid (BH≠w.heap.size):=η (by have:=(γ R27.o);omega)
   rw [←hw8,←hBH]
   clear hw8 hBH
   have R28:=η (row_grow R27.o G78.o)
   have R48:=η (row_grow R47.o G78.o)
   have G8:=η (G7x.o.trans G78.o)
   have HN8:=η (HN7.o.mono (dm_grow G78.o))
   have HX8:=η (HX7.o.mono (dm_grow G78.o))
   have HY8:=η (HY7.o.mono (dm_grow G78.o))
   have HW8:Hid (w.heap.size+3≤w8.heap.size):=η (by have:=HW6.o;have:=GX7.o.size;have:=G78.o.size;omega)
   have HS:Hid (∀W,Grow w8 W→W.cell? ⟨BH,0,none⟩=some (.slice al8 qh.log.length cl8)∧W.cell? ⟨BH,1,none⟩=some (.int .i64 qh.boot)∧W.cell? ⟨BH,2,none⟩=some (.int .i64 qh.next)∧W.cell? ⟨BH,3,none⟩=some (.slice ao8 qh.opn.length co8)∧W.cell? ⟨w.heap.size,5,none⟩=some (.slice a9 n9 c9)):=fun W hW=>by
    obtain⟨k0,k1,k2,k3⟩:=cells4 (row_grow RH8.o hW)
    obtain⟨-,-,-,-,-,j5⟩:=cells6 (row_grow R28.o hW)
    exact⟨k0,k1,k2,k3,j5⟩
   refine but_start (fun w'=>w'.cell? ⟨BH,0,none⟩=some (.slice al8 qh.log.length cl8)∧w'.cell? ⟨BH,1,none⟩=some (.int .i64 qh.boot)∧w'.cell? ⟨BH,2,none⟩=some (.int .i64 qh.next)∧w'.cell? ⟨BH,3,none⟩=some (.slice ao8 qh.opn.length co8)∧w'.cell? ⟨w.heap.size,5,none⟩=some (.slice a9 n9 c9)) 8 (by kernel_rfl) ?_
   obtain⟨wd,hWd⟩:∃x:World,x=w8.drew:=⟨_,rfl⟩
   rw [←hWd]
   have GD:Grow w8 wd:=by rw [hWd];exact(Grow.refl _).drew
   have zD:w8.heap.size=wd.heap.size:=by rw [hWd];rfl
   have ZD:=η zD
   clear hWd zD
   refine bLm [0] 12 (by kernel_rfl) (fun _ _ _ _ _ h=>h) (HS.o _ GD) ?_
   repeat (refine tNm (v:=?_) rfl (by rfl) ?_ ?_;rotate_left;(· (intro w' hSw;(try dsimp only at hSw);obtain⟨hs0,hs1,hs2,hs3,hs4⟩:=hSw;go_simp<;>with_reducible rfl));try simp only [Act.put,lzA,lzC,lzD,lzE,lzF])
   refine tEm ?_
   refine bLm [1,2,3] 12 (by kernel_rfl) (fun _ _ _ _ _ h=>h) (HS.o _ GD) ?_
   repeat (refine tNm (v:=?_) rfl (by rfl) ?_ ?_;rotate_left;(· (intro w' hSw;(try dsimp only at hSw);obtain⟨hs0,hs1,hs2,hs3,hs4⟩:=hSw;go_simp<;>with_reducible rfl));try simp only [Act.put,lzA,lzB,lzC,lzD,lzE,lzF])
   refine tEm ?_
   refine bP 4 5 (by kernel_rfl) rfl rfl ?_ ?_
   ·intro K HK
    try simp only [lzA,lzB,lzC]
    go_simp
    go_at_call 70
    refine(ref_sendC (c:=dm c w w8) (l:=(x.net.eraseIdx i).map bytesM) (ms:=qm) _ ((dm_sub HC.o G8.o).trans (Grow.sub GD)) HN8.o (HY8.o.mono ((dm_sub HC.o G8.o).trans (Grow.sub GD))) HSYH.o (by rw [List.length_map];have:=HLE.o;omega)).mono ?_
    rintro e10 w10 ⟨v10,rfl,hn10,hb10⟩
    rw [send_map] at hn10
    obtain⟨a10,c10,rfl,-⟩:=id hn10
    have G10:=η (Grow.trans GD hb10)
    have HN10:=η (hn10.mono (dm_past (w8:=w10) G10.o (fun _ _ _ e=>e) (by have:=HW8.o;have:=(GD).size;omega)))
    clear hn10 hb10
    generalize ((sendA (x.net.eraseIdx i) qm).map bytesM).length=ns at*
    refine HK.o _ _ ⟨fun _=>HS.o _ G10.o,?_⟩
    clear HK K
    try simp only [Act.put,lzA,lzB,lzC,lzD,lzE,lzF]
    refine bO 5 (by kernel_rfl) rfl ?_
    intro K HK
    try simp only [lzA,lzB,lzC]
    go_simp
    refine HK.o _ _ ⟨fun _=>HS.o _ G10.o,?_⟩
    clear HK K
    try simp only [Act.put,lzA,lzB,lzC,lzD,lzE,lzF]
    refine bO 6 (by kernel_rfl) rfl ?_
    intro K HK
    refine wanted_go rfl ?_
    try simp only [lzA,lzB,lzC]
    refine wp_store_part (.tmp 180) (.tmp 175) (p:=0) (cells:=#[.slice al8 qh.log.length cl8,.int .i64 qh.boot,.int .i64 qh.next,.slice ao8 qh.opn.length co8]) (new:=#[.slice al8 qh.log.length cl8,.int .i64 qh.boot,.int .i64 qh.next,.slice ao8 qh.opn.length co8,.slice ah x.houses.length ch,.slice a9 n9 c9]) rfl rfl (by rfl) (row_grow R28.o G10.o) info_hd (by simp) (by rfl) (by rfl) ?_
    intro w11 r11 g11
    have R211:=η r11
    have HG11:=η g11
    have R411:=η (row_by (row_grow R48.o G10.o) g11 (by intro e;have:=Option.some.inj e;omega))
    have HN11:=η (HN10.o.mono (dm_box g11 (by omega)))
    have HX11:=η ((HX8.o.mono (dm_grow G10.o)).mono (dm_box g11 (by omega)))
    have G11:=η ((G8.o.trans G10.o).grown g11 (fun q hq=>by have:=Option.some.inj hq;omega))
    have HS11:Hid (w11.cell? ⟨BH,0,none⟩=some (.slice al8 qh.log.length cl8)∧w11.cell? ⟨BH,1,none⟩=some (.int .i64 qh.boot)∧w11.cell? ⟨BH,2,none⟩=some (.int .i64 qh.next)∧w11.cell? ⟨BH,3,none⟩=some (.slice ao8 qh.opn.length co8)∧w11.cell? ⟨w.heap.size,5,none⟩=some (.slice a9 n9 c9)):=η (by obtain⟨k0,k1,k2,k3,-⟩:=HS.o _ G10.o;obtain⟨-,-,-,-,-,j5⟩:=cells6 r11;have hne:BH≠w.heap.size:=HBHN.o;exact⟨cell_past k0 g11 hne,cell_past k1 g11 hne,cell_past k2 g11 hne,cell_past k3 g11 hne,j5⟩)
    clear r11 g11
    refine HK.o _ _ ⟨fun _=>HS11.o,?_⟩
    clear HK K
    try simp only [Act.put]
    refine bO 7 (by kernel_rfl) rfl ?_
    intro K HK
    try simp only [lzA,lzB,lzC]
    go_simp
    refine HK.o _ _ ⟨fun _=>HS11.o,?_⟩
    clear HK K
    try simp only [Act.put,lzA,lzB,lzC,lzD,lzE,lzF]
    refine bO 8 (by kernel_rfl) rfl ?_
    intro K HK
    refine wanted_go rfl ?_
    try simp only [lzA,lzB,lzC]
    refine wp_store_cell (.tmp 181) (.tmp 179) (v:=.slice a10 ns c10) (new:=#[.slice al8 qh.log.length cl8,.int .i64 qh.boot,.int .i64 qh.next,.slice ao8 qh.opn.length co8,.slice ah x.houses.length ch,.slice a10 ns c10]) rfl rfl (by rfl) (by rfl) R211.o info_nets (by simp) (by rfl) (by rfl) ?_
    intro w12 r12 g12
    have R212:=η r12
    have R412:=η (row_by R411.o g12 (by intro e;have:=Option.some.inj e;omega))
    have HN12:=η (HN11.o.mono (dm_box g12 (by omega)))
    have HX12:=η (HX11.o.mono (dm_box g12 (by omega)))
    have G12:=η (G11.o.grown g12 (fun q hq=>by have:=Option.some.inj hq;omega))
    clear r12 g12
    refine HK.o _ _ ⟨fun h=>absurd rfl h,?_⟩
    clear HK K
    try simp only [Act.put]
    refine but_done (by kernel_rfl) ?_
    obtain⟨c0,c1,c2,c3,c4,c5⟩:=cells6 R212.o
    have z2:w.heap.size<w12.heap.size:=(γ R212.o)
    go_wp2_with (first|(refine wpList_store_row rfl (.tmp 4) (.tmp 262) rfl rfl rfl R412.o info_wd rfl rfl ?_))
    intro w7y r7 g7
    obtain⟨p0,p1,p2,p3,p4,p5⟩:=cells6 r7
    clear c0 c1 c2 c3 c4 c5
    go_wp2
    refine bodyPost_ret (v:=.tuple #[.agg #[.slice al8 qh.log.length cl8,.int .i64 qh.boot,.int .i64 qh.next,.slice ao8 qh.opn.length co8,.slice ah x.houses.length ch,.slice a10 ns c10],.int .i64 0]) (by simp [results,Try.results138,go_sem,p0,p1,p2,p3,p4,p5]) rfl ?_
    have G7:=G12.o.grown g7 (fun q hq=>by simp at hq;omega)
    rw [HE0.o,HE2.o]
    have hsub:Sub (dm c w w12) (ov c w w7y):=(dm_box g7 (by omega)).trans (dm_end _ _ _)
    exact⟨_,rfl,Of.wd_mk (HX12.o.mono hsub) (HQ2.o.mono (ov_in HC.o)) (HN12.o.mono hsub),G7⟩
   ·intro K HK
    try simp only [lzA,lzB,lzC]
    go_simp
    refine HK.o _ _ ⟨fun _=>HS.o _ GD,?_⟩
    clear HK K
    try simp only [Act.put,lzA,lzB,lzC,lzD,lzE,lzF]
    refine bO 4 (by kernel_rfl) rfl ?_
    intro K HK
    try simp only [lzA,lzB,lzC]
    go_simp
    go_at_call 70
    refine(ref_sendC (c:=dm c w w8) (l:=(x.net.eraseIdx i).map bytesM) (ms:=qm) _ ((dm_sub HC.o G8.o).trans (Grow.sub GD)) HN8.o (HY8.o.mono ((dm_sub HC.o G8.o).trans (Grow.sub GD))) HSYH.o (by rw [List.length_map];have:=HLE.o;omega)).mono ?_
    rintro e10 w10 ⟨v10,rfl,hn10,hb10⟩
    rw [send_map] at hn10
    obtain⟨a10,c10,rfl,-⟩:=id hn10
    have G10:=η (Grow.trans GD hb10)
    have HN10:=η (hn10.mono (dm_past (w8:=w10) G10.o (fun _ _ _ e=>e) (by have:=HW8.o;have:=(GD).size;omega)))
    clear hn10 hb10
    generalize ((sendA (x.net.eraseIdx i) qm).map bytesM).length=ns at*
    refine HK.o _ _ ⟨fun _=>HS.o _ G10.o,?_⟩
    clear HK K
    try simp only [Act.put,lzA,lzB,lzC,lzD,lzE,lzF]
    refine bO 6 (by kernel_rfl) rfl ?_
    intro K HK
    refine wanted_go rfl ?_
    try simp only [lzA,lzB,lzC]
    refine wp_store_part (.tmp 180) (.tmp 175) (p:=0) (cells:=#[.slice al8 qh.log.length cl8,.int .i64 qh.boot,.int .i64 qh.next,.slice ao8 qh.opn.length co8]) (new:=#[.slice al8 qh.log.length cl8,.int .i64 qh.boot,.int .i64 qh.next,.slice ao8 qh.opn.length co8,.slice ah x.houses.length ch,.slice a9 n9 c9]) rfl rfl (by rfl) (row_grow R28.o G10.o) info_hd (by simp) (by rfl) (by rfl) ?_
    intro w11 r11 g11
    have R211:=η r11
    have HG11:=η g11
    have R411:=η (row_by (row_grow R48.o G10.o) g11 (by intro e;have:=Option.some.inj e;omega))
    have HN11:=η (HN10.o.mono (dm_box g11 (by omega)))
    have HX11:=η ((HX8.o.mono (dm_grow G10.o)).mono (dm_box g11 (by omega)))
    have G11:=η ((G8.o.trans G10.o).grown g11 (fun q hq=>by have:=Option.some.inj hq;omega))
    have HS11:Hid (w11.cell? ⟨BH,0,none⟩=some (.slice al8 qh.log.length cl8)∧w11.cell? ⟨BH,1,none⟩=some (.int .i64 qh.boot)∧w11.cell? ⟨BH,2,none⟩=some (.int .i64 qh.next)∧w11.cell? ⟨BH,3,none⟩=some (.slice ao8 qh.opn.length co8)∧w11.cell? ⟨w.heap.size,5,none⟩=some (.slice a9 n9 c9)):=η (by obtain⟨k0,k1,k2,k3,-⟩:=HS.o _ G10.o;obtain⟨-,-,-,-,-,j5⟩:=cells6 r11;have hne:BH≠w.heap.size:=HBHN.o;exact⟨cell_past k0 g11 hne,cell_past k1 g11 hne,cell_past k2 g11 hne,cell_past k3 g11 hne,j5⟩)
    clear r11 g11
    refine HK.o _ _ ⟨fun _=>HS11.o,?_⟩
    clear HK K
    try simp only [Act.put]
    refine bO 7 (by kernel_rfl) rfl ?_
    intro K HK
    try simp only [lzA,lzB,lzC]
    go_simp
    refine HK.o _ _ ⟨fun _=>HS11.o,?_⟩
    clear HK K
    try simp only [Act.put,lzA,lzB,lzC,lzD,lzE,lzF]
    refine bO 8 (by kernel_rfl) rfl ?_
    intro K HK
    refine wanted_go rfl ?_
    try simp only [lzA,lzB,lzC]
    refine wp_store_cell (.tmp 181) (.tmp 179) (v:=.slice a10 ns c10) (new:=#[.slice al8 qh.log.length cl8,.int .i64 qh.boot,.int .i64 qh.next,.slice ao8 qh.opn.length co8,.slice ah x.houses.length ch,.slice a10 ns c10]) rfl rfl (by rfl) (by rfl) R211.o info_nets (by simp) (by rfl) (by rfl) ?_
    intro w12 r12 g12
    have R212:=η r12
    have R412:=η (row_by R411.o g12 (by intro e;have:=Option.some.inj e;omega))
    have HN12:=η (HN11.o.mono (dm_box g12 (by omega)))
    have HX12:=η (HX11.o.mono (dm_box g12 (by omega)))
    have G12:=η (G11.o.grown g12 (fun q hq=>by have:=Option.some.inj hq;omega))
    clear r12 g12
    refine HK.o _ _ ⟨fun h=>absurd rfl h,?_⟩
    clear HK K
    try simp only [Act.put]
    refine but_done (by kernel_rfl) ?_
    obtain⟨c0,c1,c2,c3,c4,c5⟩:=cells6 R212.o
    have z2:w.heap.size<w12.heap.size:=(γ R212.o)
    go_wp2_with (first|(refine wpList_store_row rfl (.tmp 4) (.tmp 262) rfl rfl rfl R412.o info_wd rfl rfl ?_))
    intro w7y r7 g7
    obtain⟨p0,p1,p2,p3,p4,p5⟩:=cells6 r7
    clear c0 c1 c2 c3 c4 c5
    go_wp2
    refine bodyPost_ret (v:=.tuple #[.agg #[.slice al8 qh.log.length cl8,.int .i64 qh.boot,.int .i64 qh.next,.slice ao8 qh.opn.length co8,.slice ah x.houses.length ch,.slice a10 ns c10],.int .i64 0]) (by simp [results,Try.results138,go_sem,p0,p1,p2,p3,p4,p5]) rfl ?_
    have G7:=G12.o.grown g7 (fun q hq=>by simp at hq;omega)
    rw [HE0.o,HE2.o]
    have hsub:Sub (dm c w w12) (ov c w w7y):=(dm_box g7 (by omega)).trans (dm_end _ _ _)
    exact⟨_,rfl,Of.wd_mk (HX12.o.mono hsub) (HQ2.o.mono (ov_in HC.o)) (HN12.o.mono hsub),G7⟩
end Go.Proofs.Ytgbhpghgohggcaa
