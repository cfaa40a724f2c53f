/- The parts that laws are proved of, joined: U30, U32, U31, U26, U33, U34, A11. No condition beside those that each theorem names. -/
import Derived.Test.YtgbhpghgohggcaaJS1g
namespace Go.Proofs.Ytgbhpghgohggcaa
open Go.RowKit
theorem flat_short' {α β:Type} {f:α→List β} {b:Nat}:∀(l:List α),(∀x∈l,(f x).length≤b)→(l.flatMap f).length≤l.length*b
 | [],_=>by simp
 |x::l,h=>by
  rw [List.flatMap_cons,List.length_append,List.length_cons,Nat.add_mul,Nat.one_mul]
  have:=h x List.mem_cons_self
  have:=flat_short' l fun y hy=>h y (List.mem_cons_of_mem _ hy)
  omega
structure OpnIn (x:AW) (O:List Int):Prop where
 len:x.houses.length≤3
 log:x.head.log.length≤100000
 logp:∀r∈x.head.log,r.parts.length≤4
 ready:∀h∈x.houses,h.ready.length≤4
 dec:∀r∈decidedR x.head.log,r.parts.length≤4∧r.parts≠ []∧(∀p∈r.parts,0≤p.h∧p.h<3)∧∀q∈housesE r.parts,0≤q∧q<(x.houses.length:Int)
 eq:Lib.compact ((openReady x.houses++openDec x.houses (decidedR x.head.log)).mergeSort fun x y=>decide (x≤y))=O
 small:∀d∈O,I64 d
theorem WI.opnIn {n:Nat} {G:Reg} {x:AW} (hi:WI n G x) (hg:x.head.log.length≤100000) (hlp:LogP x.head.log):OpnIn x (opensE x) where
 len:=by rw [hi.core.len];exact hi.core.n3.2
 log:=hg
 logp:=logP_len hi hlp
 ready:=fun h hh=>by obtain⟨j,hj⟩:=List.mem_iff_getElem?.1 hh;exact ready_len hi.core hj
 dec:=fun r hr=>by
  have hw:wrongE r.parts n=0:=(hi.core.reg.ok _ (hi.core.dec.reg r hr)).2
  have h9:=wrong_ok hw
  have hn:=hi.core.n3
  refine⟨h9.2.1,fun e=>by rw [e] at hw;simp [wrongE] at hw,fun p hp=>by have:=h9.2.2.1 p hp;omega,fun q hq=>?_⟩
  have hq2:=houses_lt hw hq
  have hq3:=houses_mem.1 hq
  rw [hi.core.len]
  omega
 eq:=open_all hi
 small:=fun y hy=>by
  unfold opensE at hy
  obtain⟨d,hd,rfl⟩:=List.mem_map.1 (List.mem_filter.1 hy).1
  have:=List.mem_range.1 hd
  exact i64_of (by omega) (by omega)
set_option maxRecDepth 100000 in
set_option maxHeartbeats 4000000 in
theorem look_openX {v:Value} {x:AW} {O:List Int} (w:World) (hv:Of Ty.wd w.cell? v x) (hi:OpnIn x O):
  Calls Try.prog 76 #[v] w fun e w'=>∃v',e=.returned v'∧OwnC Ty.int (fun _=>none) w' w.heap.size 3 v' O∧Grow w w':=by
 obtain⟨al,cl,ao,co,ah,ch,an,cn,rfl⟩:=hv.wd_form
 obtain⟨q1,q2,-⟩:=hv.wd_parts
 have HLG:=η (Of.hd_log q1).1
 obtain⟨ah',ch',he9,h1,h2,-,hel⟩:=q2
 simp only [Value.slice.injEq,true_and] at he9
 obtain⟨rfl,rfl⟩:=he9
 unfold maxLen at h2
 have HEL:=η hel
 have HOQ:=η hi.eq
 have HSM:=η hi.small
 have HGG:=η hi.log
 have HLL:=η hi.logp
 have hl:x.houses.length≤3:=hi.len
 have HRL:=η hi.ready
 have HRB:Hid (∀k,(openReady (x.houses.take k)).length≤12):=η (fun k=>by
  have h9:=flat_short' (f:=fun h:Hs=>h.ready.map (·.deed)) (b:=4) (x.houses.take k) (fun h hh=>by rw [List.length_map];exact HRL.o h (List.mem_of_mem_take hh))
  rw [List.length_take] at h9
  unfold openReady
  omega)
 have HDP:=η hi.dec
 clear hv q1 hel hi
 obtain⟨wa,hwa⟩:∃y:World,y=w.alloc (.cells #[.slice al x.head.log.length cl,.int .i64 x.head.boot,.int .i64 x.head.next,.slice ao x.head.opn.length co,.slice ah x.houses.length ch,.slice an x.net.length cn] 93):=⟨_,rfl⟩
 have R1:Hid (wa.heap[w.heap.size]? =some (.cells #[.slice al x.head.log.length cl,.int .i64 x.head.boot,.int .i64 x.head.next,.slice ao x.head.opn.length co,.slice ah x.houses.length ch,.slice an x.net.length cn] 93 (0,0))):=η (by rw [hwa];exact row_new _ _)
 have G1:Hid (Grow w wa):=η (by rw [hwa];exact(Grow.refl w).alloc _)
 have HZ:Hid (wa.heap.size=w.heap.size+1):=η (by rw [hwa];simp)
 have HWA:=η hwa
 clear hwa
 go_enter Try.func76,Try.ntmps76
 go_upto_region 1 with fail
 rw [←HWA.o]
 clear HWA
 obtain⟨c0,c1,c2,c3,c4,c5⟩:=cells6 R1.o
 have z1:w.heap.size<wa.heap.size:=(γ R1.o)
 go_wp2
 clear c0 c1 c2 c3 c4 c5 z1
 go_loopw [3,15] (fun s3 i wr=>∃k:Nat,k≤x.houses.length∧i=.int .i64 k∧Grow w wr∧wr.heap[w.heap.size]? =some (.cells #[.slice al x.head.log.length cl,.int .i64 x.head.boot,.int .i64 x.head.next,.slice ao x.head.opn.length co,.slice ah x.houses.length ch,.slice an x.net.length cn] 93 (0,0))∧OwnC Ty.int (fun _=>none) wr (w.heap.size+1) 3 s3 (openReady (x.houses.take k))∧w.heap.size+1≤wr.heap.size) (fun _ i _=>x.houses.length - (intOf i).toNat)
 case atStart=>exact⟨0,by omega,rfl,G1.o,R1.o,OwnC.nil _ _ _ _ _,by have:=HZ.o;omega⟩
 case round=>
  obtain⟨k,hk',rfl,hb,hrow,how,hsz⟩:=hrel
  by_cases hlt:k<x.houses.length
  ·obtain⟨bh,oh,vl,vr,vd,rfl,e0,e1,e2,e3,e4,e5,e6,hH1,-,-,-,-,hH2,hH3⟩:=Hss.at_ HEL.o k hlt
   obtain⟨il,jl,rfl,-⟩:=id hH1
   obtain⟨id9,jd,rfl,-⟩:=id hH3
   obtain⟨ir,jr,rfl,hr1,hr2,-,hrel9⟩:=hH2
   unfold maxLen at hr2
   have HNX:Hid (openReady (x.houses.take (k+1))=openReady (x.houses.take k)++x.houses[k].ready.map (·.deed)):=η (flat_next _ hlt)
   have HLK:=η (HRB.o k)
   have HRK:=η (HRL.o _ (List.getElem_mem hlt))
   have HRE:=η hrel9
   have HO:=η how
   have HROW:=η hrow
   have HB:=η hb
   have HSZ:=η hsz
   obtain⟨a3,p3,rfl⟩:=how.form
   replace e0:=hb.sub _ _ e0
   replace e1:=hb.sub _ _ e1
   replace e2:=hb.sub _ _ e2
   replace e3:=hb.sub _ _ e3
   replace e4:=hb.sub _ _ e4
   replace e5:=hb.sub _ _ e5
   replace e6:=hb.sub _ _ e6
   clear hH1 hH3 hrel9 how hrow hb hsz
   generalize x.houses[k]=h at*
   generalize openReady (x.houses.take k)=ls at*
   go_upto_region 5 with fail
   obtain⟨wo,hwo⟩:∃y:World,y=wr.alloc (.cells #[.slice il h.log.length jl,.int .i64 h.sums.a,.int .i64 h.sums.b,.int .i64 h.sums.c,.int .i64 h.sums.d,.slice ir h.ready.length jr,.slice id9 h.done.length jd] 29):=⟨_,rfl⟩
   obtain⟨BO,hBO⟩:∃y,y=wr.heap.size:=⟨_,rfl⟩
   have GO:Hid (Grow wr wo):=η (by rw [hwo];exact(Grow.refl _).alloc _)
   have RO:Hid (wo.heap[BO]? =some (.cells #[.slice il h.log.length jl,.int .i64 h.sums.a,.int .i64 h.sums.b,.int .i64 h.sums.c,.int .i64 h.sums.d,.slice ir h.ready.length jr,.slice id9 h.done.length jd] 29 (0,0))):=η (by rw [hwo,hBO];exact row_new _ _)
   rw [←hwo,←hBO]
   clear hwo hBO e0 e1 e2 e3 e4 e5 e6
   obtain⟨f0,f1,f2,f3,f4,f5,f6⟩:=cells7 RO.o
   have zO:BO<wo.heap.size:=(γ RO.o)
   go_wp2
   clear f0 f1 f2 f3 f4 f5 f6 zO
   obtain⟨wx,hwx⟩:∃y:World,y=wr:=⟨_,rfl⟩
   rw [←hwx] at GO HROW HB HO HSZ
   clear hwx
   go_loopw [3,22] (fun s3 i2 wr=>∃j:Nat,j≤h.ready.length∧i2=.int .i64 j∧Grow w wr∧wr.heap[w.heap.size]? =some (.cells #[.slice al x.head.log.length cl,.int .i64 x.head.boot,.int .i64 x.head.next,.slice ao x.head.opn.length co,.slice (some ⟨bh,oh,none⟩) x.houses.length ch,.slice an x.net.length cn] 93 (0,0))∧OwnC Ty.int (fun _=>none) wr (w.heap.size+1) 3 s3 (ls++(h.ready.take j).map (·.deed))∧w.heap.size+1≤wr.heap.size) (fun _ i2 _=>h.ready.length - (intOf i2).toNat)
   case atStart=>exact⟨0,by omega,rfl,HB.o.trans GO.o,row_grow HROW.o GO.o,by simpa using HO.o.grow GO.o,Nat.le_trans HSZ.o GO.o.size⟩
   case round=>
    obtain⟨j,hj',rfl,hb2,hrow2,how2,hsz2⟩:=hrel
    obtain⟨a4,p4,rfl⟩:=how2.form
    have HR2:=η hrow2
    have HB2:=η hb2
    have HO2:=η how2
    have HS2:=η hsz2
    clear hrow2 how2 hsz2
    by_cases hjl:j<h.ready.length
    ·obtain⟨br,orr,vp,rfl,t0,t1,ti,hP⟩:=Rds.at_ HRE.o j hjl
     obtain⟨ap,cp,rfl,-⟩:=id hP
     have HN2:=η (map_next (fun r:Rd=>r.deed) hjl)
     have HL2:Hid ((ls++(h.ready.take j).map (·.deed)).length≤16):=η (by rw [List.length_append,List.length_map,List.length_take];have:=HLK.o;have:=HRK.o;omega)
     have HTI:=η ti
     replace t0:=hb2.sub _ _ t0
     replace t1:=hb2.sub _ _ t1
     clear hP hb2 ti
     generalize h.ready[j]=r at*
     generalize (h.ready.take j).map (·.deed)=ms at*
     generalize hlm:ls++ms=lm at*
     have HLM:=η hlm
     clear hlm
     go_wp2_with (first|(at_builtin;refine wpList_appc (c:=fun _=>none) (base:=w.heap.size+1) (l:=lm) (m:=[r.deed]) ei_int rfl one_Tint (by decide) rfl (.tmp 26) (.tmp 29) rfl rfl (HO2.o.grow (((Grow.refl _).alloc _).alloc _)) rfl (Src.of_new (T:=Ty.int) (x:=r.deed) (cs:=#[.int .i64 r.deed]) ⟨rfl,HTI.o⟩ _ _ ?d1) ?d2 ?d3 ?_))
     case d1=>first|rfl|simp
     case d2=>have:=HL2.o;simp;omega
     case d3=>have:=HS2.o;simp;omega
     intro a9 c9 w9 ho9 hg9 hb9
     have HLT:=HO2.o.lt
     have HG9:Hid (Grow w w9):=η (((HB2.o.alloc _).alloc _).grown hg9 (fun q hq=>by have:=(HLT q hq).1;omega))
     have HR9:=η (row_by (row_grow HR2.o (((Grow.refl wr).alloc (.cells #[.int .i64 r.deed,.slice ap r.parts.length cp] 45)).alloc (.cells #[.int .i64 r.deed] 3))) hg9 (by intro e;have:=(HLT _ e.symm).1;omega))
     have HO9:=η ho9
     have HS9:Hid (w.heap.size+1≤w9.heap.size):=η (by have h8:=hg9.size;simp at h8;have:=HS2.o;omega)
     clear ho9 hg9 hb9 HLT
     go_wp2
     go_roundw
     case rel=>exact⟨j+1,by omega,by go_num,HG9.o,HR9.o,by rw [HN2.o,←List.append_assoc,HLM.o];exact HO9.o,HS9.o⟩
     case measure=>simp [intOf];omega
    ·have hTL:h.ready.take j=h.ready:=List.take_of_length_le (by omega)
     rw [hTL] at HO2 ⊢
     clear hTL hb2
     generalize hlm:ls++h.ready.map (·.deed)=lm at*
     have HLM:=η hlm
     clear hlm
     go_wp2
     go_roundw
     case rel=>exact⟨k+1,by omega,by go_num,HB2.o,HR2.o,by rw [HNX.o];exact HO2.o,HS2.o⟩
     case measure=>simp [intOf];omega
  ·have hTL:x.houses.take k=x.houses:=List.take_of_length_le (by omega)
   obtain⟨a3,p3,rfl⟩:=how.form
   have HO:=η how
   have HROW:=η hrow
   have HB:=η hb
   have HSZ:=η hsz
   have HLK:Hid ((openReady x.houses).length≤12):=η (by have:=HRB.o x.houses.length;rw [List.take_length] at this;exact this)
   have HOA:=η HOQ.o
   clear how hrow hb hsz
   rw [hTL] at HO ⊢
   clear hTL
   generalize openReady x.houses=ls at*
   obtain⟨D,hD⟩:∃y,y=decidedR x.head.log:=⟨_,rfl⟩
   rw [←hD] at HOA HDP
   have HDD:=η hD
   have hdl:D.length≤100000:=by rw [hD];unfold decidedR;rw [List.length_map];exact Nat.le_trans (List.length_filter_le _ _) HGG.o
   clear hD
   obtain⟨c0,c1,c2,c3,c4,c5⟩:=cells6 HROW.o
   have z1:w.heap.size<wr.heap.size:=(γ HROW.o)
   go_wp2_with fail
   refine(wlog_decided (l:=x.head.log) _ (HLG.o.mono HB.o.sub) (by have:=HGG.o;omega) (fun r hr=>by have:=HLL.o r hr;omega)).mono ?_
   rintro e w5 ⟨v5,rfl,ho5,hb5⟩
   rw [←HDD.o] at ho5
   have hsl5:=ho5.ovn (by decide)
   obtain⟨a5,p5,rfl,hd1,hd2,-,held⟩:=hsl5
   have HLD:=η held
   have HB5:=η (HB.o.trans hb5)
   have HR5:=η (row_grow HROW.o hb5)
   have HO5:=η (HO.o.grow hb5)
   have HX5:=η (ov_none_sub wr w5)
   have HQ5:=η HO.o.lt
   have HS5:=η hb5.size
   clear ho5 hb5 held c0 c1 c2 c3 c4 c5 z1
   obtain⟨wB,hwB⟩:∃y:World,y=wr:=⟨_,rfl⟩
   rw [←hwB] at HLD HX5 HQ5 HS5 HSZ
   clear hwB
   go_wp2
   go_loopw [3,38] (fun s3 i wr=>∃k:Nat,k≤D.length∧i=.int .i64 k∧Grow w wr∧wr.heap[w.heap.size]? =some (.cells #[.slice al x.head.log.length cl,.int .i64 x.head.boot,.int .i64 x.head.next,.slice ao x.head.opn.length co,.slice ah x.houses.length ch,.slice an x.net.length cn] 93 (0,0))∧OwnC Ty.int (fun _=>none) wr (w.heap.size+1) 3 s3 (ls++openDec x.houses (D.take k))∧Sub (ov (fun _=>none) wB w5) wr.cell?∧(∀q,s3.ownBlock=some q→q<wB.heap.size∨w5.heap.size≤q)∧w5.heap.size≤wr.heap.size) (fun _ i _=>D.length - (intOf i).toNat)
   case atStart=>exact⟨0,by omega,rfl,HB5.o,HR5.o,by simpa [openDec] using HO5.o,HX5.o,fun q hq=>.inl (HQ5.o q hq).2,Nat.le_refl _⟩
   case round=>
    obtain⟨k3,hk3,rfl,hb3,hrow3,how3,hx3,hq3,hs3⟩:=hrel
    obtain⟨a6,p6,rfl⟩:=how3.form
    have HO3:=η how3
    have HR3:=η hrow3
    have HB3:=η hb3
    have HX3:=η hx3
    have HQ3:=η hq3
    have HS3:=η hs3
    clear how3 hrow3 hb3 hx3 hq3 hs3
    by_cases hlt3:k3<D.length
    ·have HRP:=η (HDP.o _ (List.getElem_mem hlt3))
     have HDX:Hid (openDec x.houses (D.take (k3+1))=openDec x.houses (D.take k3)++openAt x.houses D[k3]):=η (flat_next _ hlt3)
     have HLA:Hid ((ls++openDec x.houses (D.take k3)).length≤300012):=η (by
      rw [List.length_append]
      have h9:=flat_short (f:=openAt x.houses) (b:=3) (fun r=>by unfold openAt;rw [List.length_map];exact Nat.le_trans (List.length_filter_le _ _) (houses_short _)) (D.take k3)
      rw [List.length_take] at h9
      unfold openDec
      have:=HLK.o
      omega)
     obtain⟨bd,od,vp,rfl,t0,t1,ti,hP⟩:=Rds.at_ HLD.o k3 hlt3
     obtain⟨ap,cp,rfl,-⟩:=id hP
     have HTI:=η ti
     have HPR:=η hP
     replace t0:=HX3.o _ _ t0
     replace t1:=HX3.o _ _ t1
     clear hP ti
     generalize D[k3]=r at*
     generalize hlm:ls++openDec x.houses (D.take k3)=lm at*
     have HLM:=η hlm
     clear hlm
     go_upto_region 14 with fail
     obtain⟨wq,hwq⟩:∃y:World,y=wr.alloc (.cells #[.int .i64 r.deed,.slice ap r.parts.length cp] 45):=⟨_,rfl⟩
     obtain⟨BR,hBR⟩:∃y,y=wr.heap.size:=⟨_,rfl⟩
     have GQ:Hid (Grow wr wq):=η (by rw [hwq];exact(Grow.refl _).alloc _)
     have RQ:Hid (wq.heap[BR]? =some (.cells #[.int .i64 r.deed,.slice ap r.parts.length cp] 45 (0,0))):=η (by rw [hwq,hBR];exact row_new _ _)
     have HBR:Hid (BR=wr.heap.size):=η hBR
     have HQL:Hid (wq.heap.size=BR+1):=η (by rw [hwq,hBR];simp)
     rw [←hwq,←hBR]
     clear hwq hBR t0 t1
     obtain⟨s0,s1⟩:=cells2 RQ.o
     have zR:BR<wq.heap.size:=(γ RQ.o)
     go_wp2_with fail
     refine(part_houses _ (HPR.o.mono (HX3.o.trans GQ.o.sub)) (by have:=HRP.o.1;omega) HRP.o.2.1 HRP.o.2.2.1).mono ?_
     rintro e w6 ⟨v6,rfl,ho6,hb6⟩
     obtain⟨a7,c7,rfl⟩:=owns_form ho6
     have hn6:=(OwnC.ints (c:=fun _=>none) ho6 (houses_ok r.parts)).slc (d:=ov (fun _=>none) wq w6) (by decide) (fun _ _ e9=>by cases e9) fun a ha=>ov_new ha
     obtain⟨a7',c7',he7,-,-,-,heln⟩:=hn6
     simp only [Value.slice.injEq,true_and] at he7
     obtain⟨rfl,rfl⟩:=he7
     have HNS:=η heln
     have HRQ:=η HRP.o.2.2.2
     have HAT:Hid (openAt x.houses r=((housesE r.parts).filter (fun n9:Int=>!decide (r.deed∈(x.houses.getD n9.toNat hs0).done))).map fun _=>r.deed):=η rfl
     have hns:=houses_short r.parts
     have HB6:=η (HB3.o.trans (GQ.o.trans hb6))
     have HR6:=η (row_grow HR3.o (GQ.o.trans hb6))
     have HO6:=η (HO3.o.grow (GQ.o.trans hb6))
     have HX6:=η (HX3.o.trans (GQ.o.trans hb6).sub)
     have HY6:=η (ov_none_sub wq w6)
     have RQ6:=η (row_grow RQ.o hb6)
     have HQ6:=η (fun q (hq:(Value.slice a6 lm.length p6).ownBlock=some q)=>And.intro (HQ3.o q hq) ((HO3.o.lt q hq).2))
     have HLW:Hid (BR<w6.heap.size):=η (by have:=hb6.size;have:=HQL.o;omega)
     have HS6:Hid (w5.heap.size≤w6.heap.size∧w5.heap.size≤BR):=η (by have:=HS3.o;have:=HBR.o;have:=hb6.size;have:=HQL.o;omega)
     clear ho6 hb6 heln s0 s1 zR HX3 HR3 HB3 HO3
     generalize housesE r.parts=ns at*
     have HBQ:=η HBR.o
     clear HBR
     rw [←HBQ.o] at HQ6
     clear HBQ HS3 HQ3
     clear GQ
     go_wp2
     go_loopw [3,46] (fun s3 i2 wr=>∃j:Nat,j≤ns.length∧i2=.int .i64 j∧Grow w wr∧wr.heap[w.heap.size]? =some (.cells #[.slice al x.head.log.length cl,.int .i64 x.head.boot,.int .i64 x.head.next,.slice ao x.head.opn.length co,.slice ah x.houses.length ch,.slice an x.net.length cn] 93 (0,0))∧OwnC Ty.int (fun _=>none) wr (w.heap.size+1) 3 s3 (lm++((ns.take j).filter (fun n9:Int=>!decide (r.deed∈(x.houses.getD n9.toNat hs0).done))).map fun _=>r.deed)∧Sub (ov (fun _=>none) wB w5) wr.cell?∧Sub (ov (fun _=>none) wq w6) wr.cell?∧wr.heap[BR]? =some (.cells #[.int .i64 r.deed,.slice ap r.parts.length cp] 45 (0,0))∧(∀q,s3.ownBlock=some q→(q<wB.heap.size∨w5.heap.size≤q)∧(q<BR∨w6.heap.size≤q))∧w6.heap.size≤wr.heap.size) (fun _ i2 _=>ns.length - (intOf i2).toNat)
     case atStart=>exact⟨0,by omega,rfl,HB6.o,HR6.o,by simpa using HO6.o,HX6.o,HY6.o,RQ6.o,fun q hq=>⟨(HQ6.o q hq).1,.inl (HQ6.o q hq).2⟩,Nat.le_refl _⟩
     case round=>
      obtain⟨j,hj',rfl,hb7,hrow7,how7,hx7,hy7,hrq7,hq7,hs7⟩:=hrel
      obtain⟨a8,p8,rfl⟩:=how7.form
      have HO7:=η how7
      have HR7:=η hrow7
      have HB7:=η hb7
      have HX7:=η hx7
      have HY7:=η hy7
      have HW7:=η hrq7
      have HQ7:=η hq7
      have HS7:=η hs7
      clear how7 hrow7 hb7 hx7 hy7 hrq7 hq7 hs7
      by_cases hjl:j<ns.length
      ·obtain⟨hn0,hn1⟩:=HRQ.o _ (List.getElem_mem hjl)
       obtain⟨m,hm⟩:∃m:Nat,ns[j]=(m:Int):=⟨ns[j].toNat,by omega⟩
       have hml:m<x.houses.length:=by omega
       have HQM:Hid ((fun n9:Int=>!decide (r.deed∈(x.houses.getD n9.toNat hs0).done)) ns[j]=!decide (r.deed∈x.houses[m].done)):=η (by
        show(!decide (r.deed∈(x.houses.getD (ns[j]).toNat hs0).done))=_
        rw [hm,Int.toNat_natCast,List.getD_eq_getElem?_getD,List.getElem?_eq_getElem hml]
        rfl)
       have HFN:Hid (((ns.take (j+1)).filter (fun n9:Int=>!decide (r.deed∈(x.houses.getD n9.toNat hs0).done))).map (fun _=>r.deed)=if(!decide (r.deed∈x.houses[m].done))=true then((ns.take j).filter (fun n9:Int=>!decide (r.deed∈(x.houses.getD n9.toNat hs0).done))).map (fun _=>r.deed)++ [r.deed] else((ns.take j).filter (fun n9:Int=>!decide (r.deed∈(x.houses.getD n9.toNat hs0).done))).map (fun _=>r.deed)):=η (by
        have h9:=fmap_next (fun n9:Int=>!decide (r.deed∈(x.houses.getD n9.toNat hs0).done)) (fun _=>r.deed) hjl
        rw [←HQM.o]
        exact h9)
       obtain⟨bx,ox,rfl,x0,hni⟩:=intAt HNS.o j hjl
       replace x0:=HY7.o _ _ x0
       rw [hm] at x0
       have HL8:Hid ((lm++((ns.take j).filter (fun n9:Int=>!decide (r.deed∈(x.houses.getD n9.toNat hs0).done))).map fun _=>r.deed).length≤300015):=η (by
        rw [List.length_append,List.length_map]
        have h9:=List.length_filter_le (fun n9:Int=>!decide (r.deed∈(x.houses.getD n9.toNat hs0).done)) (ns.take j)
        rw [List.length_take] at h9
        have:=HLA.o
        omega)
       obtain⟨bh,oh,vl,vr,vd,rfl,e0,e1,e2,e3,e4,e5,e6,hH1,-,-,-,-,hH2,hH3⟩:=Hss.at_ HEL.o m hml
       obtain⟨id9,jd,rfl,-⟩:=id hH3
       have HDI:=η hH3
       have HE6:=η e6
       have hm0:(0:Int)≤(m:Int):=by omega
       have hm1:(m:Int)<(x.houses.length:Int):=by omega
       clear e0 e1 e2 e3 e4 e5 e6 hH1 hH2 hH3 hni hn0 hn1 hm
       generalize x.houses[m]=h at*
       generalize ns[j]=nj at*
       generalize ((ns.take j).filter (fun n9:Int=>!decide (r.deed∈(x.houses.getD n9.toNat hs0).done))).map (fun _=>r.deed)=ms at*
       generalize hlr:lm++ms=lr at*
       have HLR:=η hlr
       clear hlr
       go_upto_region 17 with fail
       clear x0
       have HS:Hid (∀W,Grow wr W→W.cell? ⟨w.heap.size,4,none⟩=some (.slice (some ⟨bh,oh,none⟩) x.houses.length ch)∧W.cell? ⟨bh,oh+m*7+6,none⟩=some (.slice id9 h.done.length jd)∧W.cell? ⟨BR,0,none⟩=some (.int .i64 r.deed)):=fun W hW=>by
        obtain⟨-,-,-,-,j4,-⟩:=cells6 (row_grow HR7.o hW)
        obtain⟨k0,-⟩:=cells2 (row_grow HW7.o hW)
        exact⟨j4,(HB7.o.trans hW).sub _ _ HE6.o,k0⟩
       refine but_start (fun w'=>w'.cell? ⟨w.heap.size,4,none⟩=some (.slice (some ⟨bh,oh,none⟩) x.houses.length ch)∧w'.cell? ⟨bh,oh+m*7+6,none⟩=some (.slice id9 h.done.length jd)∧w'.cell? ⟨BR,0,none⟩=some (.int .i64 r.deed)) 9 (by kernel_rfl) ?_
       obtain⟨wd,hWd⟩:∃x:World,x=wr.drew:=⟨_,rfl⟩
       rw [←hWd]
       have GD:Grow wr wd:=by rw [hWd];exact(Grow.refl _).drew
       have zD:wr.heap.size=wd.heap.size:=by rw [hWd];rfl
       have ZD:=η zD
       clear hWd zD
       refine bLm [0] 12 (by kernel_rfl) (fun _ _ _ _ _ h=>h) (HS.o _ GD) ?_
       repeat (refine tNm (v:=?_) rfl (by rfl) ?_ ?_;rotate_left;(· (intro w' hSw;(try dsimp only at hSw);obtain⟨hs0,hs1,hs2⟩:=hSw;go_simp<;>with_reducible rfl));try simp only [Act.put,lzA,lzC,lzD,lzE,lzF])
       refine tEm ?_
       refine bLm [1,2,3,4,5,6,7] 12 (by kernel_rfl) (fun _ _ _ _ _ h=>h) (HS.o _ GD) ?_
       repeat (refine tNm (v:=?_) rfl (by rfl) ?_ ?_;rotate_left;(· (intro w' hSw;(try dsimp only at hSw);obtain⟨hs0,hs1,hs2⟩:=hSw;go_simp<;>with_reducible rfl));try simp only [Act.put,lzA,lzB,lzC,lzD,lzE,lzF])
       refine tEm ?_
       refine bO 8 (by kernel_rfl) rfl ?_
       intro K HK
       try simp only [lzA,lzB,lzC]
       go_simp
       go_at_call 128
       refine(contains_int (n:=r.deed) _ (HDI.o.mono (HB7.o.trans GD).sub)).mono ?_
       rintro e8 w8 ⟨rfl,hb8⟩
       have G8:=η (Grow.trans GD hb8)
       clear hb8
       obtain⟨tn,htn⟩:∃b:Bool,b=decide (r.deed∈h.done):=⟨_,rfl⟩
       rw [←htn]
       have HTN:=η htn
       clear htn
       refine HK.o _ _ ⟨fun _=>HS.o _ G8.o,?_⟩
       clear HK K
       try simp only [Act.put,lzA,lzB,lzC,lzD,lzE,lzF]
       refine bO 9 (by kernel_rfl) rfl ?_
       intro K HK
       try simp only [lzA,lzB,lzC]
       go_simp
       refine HK.o _ _ ⟨fun h=>absurd rfl h,?_⟩
       clear HK K
       try simp only [Act.put,lzA,lzB,lzC,lzD,lzE,lzF]
       refine but_done (by kernel_rfl) ?_
       have HO8:=η (HO7.o.grow G8.o)
       have HR8:=η (row_grow HR7.o G8.o)
       have HB8:=η (HB7.o.trans G8.o)
       have HX8:=η (HX7.o.trans G8.o.sub)
       have HY8:=η (HY7.o.trans G8.o.sub)
       have HW8:=η (row_grow HW7.o G8.o)
       have HS8:=η (Nat.le_trans HS7.o G8.o.size)
       cases tn with
       |true=>
        rw [←HTN.o,if_neg (by simp)] at HFN
        go_wp2
        go_roundw
        case rel=>exact⟨j+1,by omega,by go_num,HB8.o,HR8.o,by rw [HFN.o,HLR.o];exact HO8.o,HX8.o,HY8.o,HW8.o,HQ7.o,HS8.o⟩
        case measure=>simp [intOf];omega
       |false=>
        rw [←HTN.o,if_pos (by simp)] at HFN
        obtain⟨s0,s1⟩:=cells2 HW8.o
        have zR:BR<w8.heap.size:=(γ HW8.o)
        go_wp2_with (first|(at_builtin;refine wpList_appc (c:=fun _=>none) (base:=w.heap.size+1) (l:=lr) (m:=[r.deed]) ei_int rfl one_Tint (by decide) rfl (.tmp 60) (.tmp 63) rfl rfl (HO8.o.grow ((Grow.refl _).alloc _)) rfl (Src.of_new (T:=Ty.int) (x:=r.deed) (cs:=#[.int .i64 r.deed]) ⟨rfl,HTI.o⟩ _ _ ?d1) ?d2 ?d3 ?_))
        case d1=>first|rfl|simp
        case d2=>have:=HL8.o;simp;omega
        case d3=>have:=HO8.o;have h8:=HS8.o;have h9:=HS6.o;have:=HSZ.o;have:=HS5.o;simp;omega
        intro a9 c9 w9 ho9 hg9 hb9
        have HLT:=HO8.o.lt
        have HG9:Hid (Grow w w9):=η ((HB8.o.alloc _).grown hg9 (fun q hq=>by have:=(HLT q hq).1;omega))
        have ha8:Grow w8 (w8.alloc (.cells #[.int .i64 r.deed] 3)):=(Grow.refl _).alloc _
        have HR9:=η (row_by (row_grow HR8.o ha8) hg9 (by intro e;have:=(HLT _ e.symm).1;omega))
        have HW9:=η (row_by (row_grow HW8.o ha8) hg9 (by intro e;have h5:=(HQ7.o _ e.symm).2;have h6:=HLW.o;omega))
        have HX9:=η (keep_rg (HX8.o.trans ha8.sub) hg9 (fun q hq=>(HQ7.o q hq).1))
        have HY9:=η (keep_rg (HY8.o.trans ha8.sub) hg9 (fun q hq=>by have h5:=(HQ7.o q hq).2;have:=HQL.o;omega))
        have HO9:=η ho9
        have HQ9:Hid (∀q,(Value.slice a9 (lr.length+ [r.deed].length) c9).ownBlock=some q→(q<wB.heap.size∨w5.heap.size≤q)∧(q<BR∨w6.heap.size≤q)):=η (fun q hq=>by
         rcases hb9 with hb9|⟨g,hb9,hge⟩
         ·exact HQ7.o q (hb9.symm.trans hq)
         ·obtain rfl:=Option.some.inj (hb9.symm.trans hq)
          have h1:=HS8.o;have h2:=HS6.o;(try simp at hge);exact⟨.inr (by omega),.inr (by omega)⟩)
        have HS9:Hid (w6.heap.size≤w9.heap.size):=η (by have h8:=hg9.size;simp at h8;have:=HS8.o;omega)
        clear ho9 hg9 hb9 HLT s0 s1 zR ha8
        go_wp2
        go_roundw
        case rel=>exact⟨j+1,by omega,by go_num,HG9.o,HR9.o,by rw [HFN.o,←List.append_assoc,HLR.o];exact HO9.o,HX9.o,HY9.o,HW9.o,HQ9.o,HS9.o⟩
        case measure=>simp [intOf];omega
      ·have hTL:ns.take j=ns:=List.take_of_length_le (by omega)
       rw [hTL,←HAT.o] at HO7 HQ7 ⊢
       clear hTL
       generalize hl9:lm++openAt x.houses r=l9 at*
       have HL9:=η hl9
       clear hl9
       go_wp2
       go_roundw
       case rel=>exact⟨k3+1,by omega,by go_num,HB7.o,HR7.o,by rw [HDX.o,←List.append_assoc,HLM.o,HL9.o];exact HO7.o,HX7.o,fun q hq=>(HQ7.o q hq).1,Nat.le_trans HS6.o.1 HS7.o⟩
       case measure=>simp [intOf];omega
    ·have hTL:D.take k3=D:=List.take_of_length_le (by omega)
     have HLZ:Hid ((ls++openDec x.houses D).length≤300012):=η (by
      rw [List.length_append]
      have h9:=flat_short (f:=openAt x.houses) (b:=3) (fun r=>by unfold openAt;rw [List.length_map];exact Nat.le_trans (List.length_filter_le _ _) (houses_short _)) D
      unfold openDec
      have:=HLK.o
      omega)
     rw [hTL] at HO3 ⊢
     clear hTL
     generalize ls++openDec x.houses D=lm at*
     have HLT:=η HO3.o.lt
     go_wp2_with fail
     refine(own_sort' HO3.o.toInts (by have:=HLZ.o;omega)).mono ?_
     rintro e w8 ⟨rfl,ho8,hg8⟩
     have HO8:=η ho8
     have HG8:=η (HB3.o.grown hg8 (fun q hq=>by have:=(HLT.o q hq).1;omega))
     have hml:(lm.mergeSort fun x y=>decide (x≤y)).length=lm.length:=List.length_mergeSort _
     have HML:=η hml
     clear ho8 hg8 hml
     go_wp2_with fail
     refine(own_compact HO8.o (by rw [HML.o];have:=HLZ.o;omega)).mono ?_
     rintro e w9 ⟨v9,rfl,ho9,hg9⟩
     rw [HOA.o] at ho9
     have HO9:=η ho9
     have HG9:=η (HG8.o.grown hg9 (fun q hq=>by have:=(HLT.o q hq).1;omega))
     clear ho9 hg9
     go_wp2
     go_ret
     exact⟨_,rfl,(OwnC.ints HO9.o HSM.o).base (Nat.le_succ _),HG9.o⟩
theorem look_open {v:Value} {x:AW} {n:Nat} {G:Reg} (w:World) (hv:Of Ty.wd w.cell? v x) (hi:WI n G x) (hg:x.head.log.length≤100000) (hlp:LogP x.head.log):
  Calls Try.prog 76 #[v] w fun e w'=>∃v',e=.returned v'∧OwnC Ty.int (fun _=>none) w' w.heap.size 3 v' (opensE x)∧Grow w w':=look_openX w hv (hi.opnIn hg hlp)
theorem whole_tells (w:World) (B:Nat) (d:Int) (l:List Rd) (hc:w.cell? ⟨B,0,none⟩=some (.int .i64 d)):Tells Try.prog Ty.rd aggOf w 146 #[.pointer (some ⟨B,0,none⟩)] l (isD d) where
 ent:=fun args w=>by kernel_rfl
 say:=fun wx cs x hg _ hR=>by
  obtain⟨vp,rfl,-,hp⟩:=hR
  obtain⟨ap,cp,rfl,-⟩:=hp
  have hc':=hg.sub _ _ hc
  have hz:B<wx.heap.size:=World.block_lt_of_cell? wx _ hc'
  have hE:(x.deed==d)=isD d x:=rfl
  show Calls _ _ #[.agg #[.int .i64 x.deed,.slice ap x.parts.length cp],.pointer (some ⟨B,0,none⟩)] _ _
  go_enter Try.func146,Try.ntmps146
  go_wp2
  go_ret
  exact⟨ret_bool hE,grA⟩
theorem find_idx {l:List Rd} {d:Int} {i:Nat} (h:l.findIdx? (isD d)=some i):∃hi:i<l.length,l.find? (isD d)=some l[i]:=by
 obtain⟨h1,h2,-⟩:=idx_some h
 exact⟨h1,h2⟩
theorem ints_take {c:CM} {a:Option Addr} {n cap j:Nat} {l:List Int} (h:Ints c (.slice a n cap) l) (hj:j≤l.length):Ints c (.slice a j cap) (l.take j):=by
 obtain⟨a',cap',he,h1,h2,h0,hel⟩:=h
 simp only [Value.slice.injEq] at he
 obtain⟨rfl,rfl,rfl⟩:=he
 refine⟨a,cap,by rw [List.length_take,Nat.min_eq_left hj],by rw [List.length_take];omega,h2,h0,fun i x e=>hel i x ?_⟩
 rw [List.getElem?_take] at e
 split at e
 ·exact e
 ·cases e
def WholeP (D:List Rd) (hs:List Hs):Prop:=∀(k:Nat) h,hs[k]? =some h→wholeGo D k [] ⟨0,0,0,0⟩ h.done=some h.sums
theorem keysOf_of {l:List Pt} (h:KeysOk l) (n:Int):KeysOk (ofL l n):=fun p hp=>h p (List.mem_filter.1 hp).1
set_option maxRecDepth 100000 in
set_option maxHeartbeats 8000000 in
theorem look_whole {v:Value} {x:AW} (w:World) (hv:Of Ty.wd w.cell? v x) (hl:x.houses.length≤3) (hg:x.head.log.length≤100000) (hlp:∀r∈x.head.log,r.parts.length*24≤140737488355328)
  (hD:∀r∈decidedR x.head.log,KeysOk r.parts∧r.parts.length≤4):
  Calls Try.prog 99 #[v] w fun e w'=>∃b:Bool,e=.returned (.bool b)∧(b=true↔WholeP (decidedR x.head.log) x.houses)∧Grow w w':=by
 obtain⟨al,cl,ao,co,ah,ch,an,cn,rfl⟩:=hv.wd_form
 obtain⟨q1,q2,-⟩:=hv.wd_parts
 have HLOG:=η (Of.hd_log q1).1
 obtain⟨ah',ch',he9,h1,h2,-,hel⟩:=q2
 simp only [Value.slice.injEq,true_and] at he9
 obtain⟨rfl,rfl⟩:=he9
 unfold maxLen at h2
 have HEL:=η hel
 have HG:=η hg
 have HLP:=η hlp
 have HDD:=η hD
 have HWP:Hid (∀D,WholeP D x.houses=WholeP D x.houses):=η fun _=>rfl
 clear hv q1 hel hg hlp hD
 obtain⟨wa,hwa⟩:∃y:World,y=w.alloc (.cells #[.slice al x.head.log.length cl,.int .i64 x.head.boot,.int .i64 x.head.next,.slice ao x.head.opn.length co,.slice ah x.houses.length ch,.slice an x.net.length cn] 93):=⟨_,rfl⟩
 have R1:Hid (wa.heap[w.heap.size]? =some (.cells #[.slice al x.head.log.length cl,.int .i64 x.head.boot,.int .i64 x.head.next,.slice ao x.head.opn.length co,.slice ah x.houses.length ch,.slice an x.net.length cn] 93 (0,0))):=η (by rw [hwa];exact row_new _ _)
 have G1:Hid (Grow w wa):=η (by rw [hwa];exact(Grow.refl w).alloc _)
 have HWA:=η hwa
 clear hwa
 go_enter Try.func99,Try.ntmps99
 go_upto_region 1 with fail
 rw [←HWA.o]
 clear HWA
 obtain⟨c0,c1,c2,c3,c4,c5⟩:=cells6 R1.o
 have z1:w.heap.size<wa.heap.size:=(γ R1.o)
 go_wp2_with fail
 refine(wlog_decided wa (HLOG.o.mono G1.o.sub) (by have:=HG.o;omega) HLP.o).mono ?_
 rintro e w2 ⟨v2,rfl,ho2,hb2⟩
 obtain⟨a2,cp2,rfl⟩:=ho2.form
 have HO2:=η (ho2.mono (fr_sub _ _ _))
 have HB2:=η hb2
 have G2:=η (G1.o.trans hb2)
 have R12:=η (row_grow R1.o hb2)
 have HDL:Hid ((decidedR x.head.log).length≤100000):=η (by unfold decidedR;rw [List.length_map];exact Nat.le_trans (List.length_filter_le _ _) HG.o)
 clear ho2 hb2 c0 c1 c2 c3 c4 c5 z1
 obtain⟨D,hD⟩:∃q,q=decidedR x.head.log:=⟨_,rfl⟩
 rw [←hD] at HO2 HDD HDL ⊢
 have HDE:=η hD
 clear hD
 obtain⟨c0,c1,c2,c3,c4,c5⟩:=cells6 R12.o
 have z1:w.heap.size<w2.heap.size:=(γ R12.o)
 go_wp2
 clear c0 c1 c2 c3 c4 c5 z1
 go_loopw [17] (fun i wr=>∃k:Nat,k≤x.houses.length∧i=.int .i64 k∧Grow w2 wr∧∀(q:Nat) h,q<k→x.houses[q]? =some h→wholeGo D q [] ⟨0,0,0,0⟩ h.done=some h.sums) (fun i _=>x.houses.length - (intOf i).toNat)
 case atStart=>exact⟨0,by omega,rfl,Grow.refl _,fun q h hq=>by omega⟩
 case round=>
  obtain⟨k,hk',rfl,hb,hall⟩:=hrel
  have HALL:=η hall
  have GB:=η (G2.o.trans hb)
  have HB:=η hb
  clear hall hb
  by_cases hlt:k<x.houses.length
  ·obtain⟨bh,oh,vl,vr,vd,rfl,e0,e1,e2,e3,e4,e5,e6,hH1,s1,s2,s3,s4,hH2,hH3⟩:=Hss.at_ HEL.o k hlt
   obtain⟨il,jl,rfl,-⟩:=id hH1
   obtain⟨ir,jr,rfl,-⟩:=id hH2
   obtain⟨id9,jd,rfl,jd1,jd2,jd0,hdel⟩:=id hH3
   have HKH:Hid (x.houses[k]? =some x.houses[k]):=η (List.getElem?_eq_getElem hlt)
   have HDEL:=η hdel
   have HJD:=η hH3
   have HI3:Hid (k≤2):=η (by omega)
   replace e0:=GB.o.sub _ _ e0
   replace e1:=GB.o.sub _ _ e1
   replace e2:=GB.o.sub _ _ e2
   replace e3:=GB.o.sub _ _ e3
   replace e4:=GB.o.sub _ _ e4
   replace e5:=GB.o.sub _ _ e5
   replace e6:=GB.o.sub _ _ e6
   clear hH1 hH2 hH3 s1 s2 s3 s4 hdel
   generalize x.houses[k]=h at*
   unfold maxLen at jd2
   go_upto_region 5 with fail
   obtain⟨wo,hwo⟩:∃y:World,y=wr.alloc (.cells #[.slice il h.log.length jl,.int .i64 h.sums.a,.int .i64 h.sums.b,.int .i64 h.sums.c,.int .i64 h.sums.d,.slice ir h.ready.length jr,.slice id9 h.done.length jd] 29):=⟨_,rfl⟩
   obtain⟨BO,hBO⟩:∃y,y=wr.heap.size:=⟨_,rfl⟩
   have GO:Hid (Grow wr wo):=η (by rw [hwo];exact(Grow.refl _).alloc _)
   have RO:Hid (wo.heap[BO]? =some (.cells #[.slice il h.log.length jl,.int .i64 h.sums.a,.int .i64 h.sums.b,.int .i64 h.sums.c,.int .i64 h.sums.d,.slice ir h.ready.length jr,.slice id9 h.done.length jd] 29 (0,0))):=η (by rw [hwo,hBO];exact row_new _ _)
   have ZO:Hid (BO=wr.heap.size∧wo.heap.size=wr.heap.size+1):=η ⟨hBO,by rw [hwo];simp⟩
   rw [←hwo,←hBO]
   clear hwo hBO e0 e1 e2 e3 e4 e5 e6
   go_upto_region 6 with fail
   obtain⟨ws,hws⟩:∃y:World,y=wo.alloc (.cells #[.int .i64 0,.int .i64 0,.int .i64 0,.int .i64 0] 25):=⟨_,rfl⟩
   obtain⟨BS,hBS⟩:∃y,y=wo.heap.size:=⟨_,rfl⟩
   have GS:Hid (Grow wo ws):=η (by rw [hws];exact(Grow.refl _).alloc _)
   have RS:Hid (ws.heap[BS]? =some (.cells #[.int .i64 0,.int .i64 0,.int .i64 0,.int .i64 0] 25 (0,0))):=η (by rw [hws,hBS];exact row_new _ _)
   have ZS:Hid (BS=wo.heap.size):=η hBS
   rw [←hws,←hBS]
   clear hws hBS
   have ROs:=η (row_grow RO.o GS.o)
   have GW:=η ((HB.o.trans GO.o).trans GS.o)
   obtain⟨f0,f1,f2,f3,f4,f5,f6⟩:=cells7 ROs.o
   have zO:BO<ws.heap.size:=(γ ROs.o)
   have zS:BS<ws.heap.size:=(γ RS.o)
   go_wp2
   clear f0 f1 f2 f3 f4 f5 f6 zO zS
   obtain⟨wx,hwx⟩:∃y:World,y=wr:=⟨_,rfl⟩
   rw [←hwx] at GB HB GO ZO
   clear hwx
   go_loopw [25] (fun i2 wr=>∃(j:Nat) (s:Sm),j≤h.done.length∧i2=.int .i64 j∧Grow w2 wr∧Grow wo wr∧wr.heap[BS]? =some (.cells #[.int .i64 s.a,.int .i64 s.b,.int .i64 s.c,.int .i64 s.d] 25 (0,0))∧wholeGo D k [] ⟨0,0,0,0⟩ h.done=wholeGo D k (h.done.take j) s (h.done.drop j)) (fun i2 _=>h.done.length - (intOf i2).toNat)
   case atStart=>exact⟨0,⟨0,0,0,0⟩,by omega,rfl,GW.o,GS.o,RS.o,rfl⟩
   case round=>
    obtain⟨j,s,hj',rfl,hb2,hgo,hrs,hw⟩:=hrel
    have HRS:=η hrs
    have HB2:=η hb2
    have HGO:=η hgo
    clear hrs hb2 hgo
    by_cases hjl:j<h.done.length
    ·rw [List.drop_eq_getElem_cons hjl,wholeGo] at hw
     have HTK:Hid (h.done.take (j+1)=h.done.take j++ [h.done[j]]):=η (List.take_succ_eq_append_getElem hjl)
     obtain⟨bd,od,rfl,t0,ti⟩:=intAt HDEL.o j hjl
     replace t0:=(G2.o.trans HB2.o).sub _ _ t0
     have HW:=η hw
     have HTI:=η ti
     clear hw ti
     generalize h.done[j]=d at*
     go_upto_region 9 with fail
     obtain⟨wd2,hwd⟩:∃y:World,y=wr.alloc (.cells #[.int .i64 d] 3):=⟨_,rfl⟩
     obtain⟨BD,hBD⟩:∃y,y=wr.heap.size:=⟨_,rfl⟩
     have GD2:Hid (Grow wr wd2):=η (by rw [hwd];exact(Grow.refl _).alloc _)
     have RD:Hid (wd2.heap[BD]? =some (.cells #[.int .i64 d] 3 (0,0))):=η (by rw [hwd,hBD];exact row_new _ _)
     rw [←hwd,←hBD]
     clear hwd hBD t0
     have cd:=cell1 RD.o
     have zD:BD<wd2.heap.size:=(γ RD.o)
     have HO:=η (HO2.o.grow (HB2.o.trans GD2.o))
     go_wp2_with fail
     refine(indexFunc_rd wd2 (OwnC.sl (by decide) (fun _ _ e=>(HB2.o.trans GD2.o).sub _ _ e) HO.o) (whole_tells wd2 BD d D cd)).mono ?_
     rintro e w5 ⟨rfl,hb5⟩
     have HBI:=η hb5
     have G5:=η (GD2.o.trans hb5)
     have RD5:=η (row_grow RD.o hb5)
     have RO5:=η (row_grow RO.o (HGO.o.trans G5.o))
     have RS5:=η (row_grow HRS.o G5.o)
     clear hb5 cd zD
     cases hfi:D.findIdx? (isD d) with
     |none=>
      have hix:idxOf (isD d) D= -1:=by unfold idxOf;rw [hfi]
      have hfn:D.find? (isD d)=none:=idx_none hfi
      rw [hix]
      have HWN:Hid (wholeGo D k [] ⟨0,0,0,0⟩ h.done=none):=η (by rw [HW.o,hfn])
      clear hfi hfn hix
      go_wp2_with (go_quiet (fail))
      go_ret
      refine⟨false,rfl,iff_of_false (by simp) (fun hp=>?_),G2.o.trans (HB2.o.trans (Grow.drewN G5.o _))⟩
      have:=hp k h HKH.o
      rw [←HDE.o] at this
      rw [HWN.o] at this
      cases this
     |some kk=>
      have hix:idxOf (isD d) D=(kk:Int):=by unfold idxOf;rw [hfi]
      obtain⟨hkk,hff⟩:=find_idx hfi
      rw [hix]
      have HWS:=η (HW.o.trans (by rw [hff]))
      obtain⟨gD,csD,rfl,⟨vpD,rfl,-,hPD⟩,hAD⟩:=HO.o.get (by decide) kk hkk
      obtain⟨apd,cpd,rfl,-⟩:=id hPD
      have u1:=hAD 1 _ rfl
      simp only [show Ty.rd.size=2 from rfl] at u1
      have HU1:=η (HBI.o.sub _ _ u1)
      have HPD:=η hPD
      have HKO:=η (HDD.o _ (List.getElem_mem hkk))
      have HGD:Hid (∀W,Grow w5 W→Sub w2.cell? W.cell?):=η (fun W hW=>(HB2.o.trans (G5.o.trans hW)).sub)
      have HPRE:Hid (∀W,Grow w5 W→Ints W.cell? (.slice (some ⟨bd,od,none⟩) j jd) (h.done.take j)):=η (fun W hW=>ints_take ((HJD.o.mono G2.o.sub).mono (HGD.o W hW)) (by omega))
      have HKL:Hid ((kk:Int)<(D.length:Int)∧(kk:Int)≥0):=η (by omega)
      clear hfi hix hff hAD u1 hPD
      generalize D[kk]=r at*
      have HS:Hid (∀W,Grow w5 W→W.cell? ⟨BO,6,none⟩=some (.slice (some ⟨bd,od,none⟩) h.done.length jd)∧W.cell? ⟨BD,0,none⟩=some (.int .i64 d)∧W.cell? ⟨gD,kk*2+1,none⟩=some (.slice apd r.parts.length cpd)):=fun W hW=>by
       obtain⟨-,-,-,-,-,-,a6⟩:=cells7 (row_grow RO5.o hW)
       exact⟨a6,cell1 (row_grow RD5.o hW),hW.sub _ _ HU1.o⟩
      have hk0:=HKL.o.1
      have hk1:=HKL.o.2
      have hjle:j≤jd:=by omega
      by_cases hin:d∈h.done.take j
      ·have HWN:Hid (wholeGo D k [] ⟨0,0,0,0⟩ h.done=none):=η (by rw [HWS.o];exact if_pos (.inl hin))
       have HIN:Hid (decide (d∈h.done.take j)=true):=η (decide_eq_true hin)
       clear hin
       go_upto_region 10 with fail
       refine bSc (fun w'=>w'.cell? ⟨BO,6,none⟩=some (.slice (some ⟨bd,od,none⟩) h.done.length jd)∧w'.cell? ⟨BD,0,none⟩=some (.int .i64 d)∧w'.cell? ⟨gD,kk*2+1,none⟩=some (.slice apd r.parts.length cpd)) [] (by kernel_rfl) ?_
       intro wd GD zD
       have ZD:=η zD
       clear zD
       refine bLc [0,1,2,3,4,5,6,7] 23 (by kernel_rfl) (fun _ _ _ _ _ h=>h) (HS.o _ GD) ?_
       repeat ((first|(refine tNc (v:=?_) rfl (by rfl) ?_ ?_;rotate_left;(· (intro w' hSw;(try dsimp only at hSw);obtain⟨hs0,hs1,hs2⟩:=hSw;go_simp<;>with_reducible rfl)))|refine tUc rfl (by rfl) ?_);try simp only [Act.put,lzA,lzB,lzC,lzD,lzE,lzF])
       refine tEc ?_
       refine bOc 8 (by kernel_rfl) rfl ?_
       intro K HK
       refine wanted_yes (by rfl) ?_
       try simp only [lzA,lzB,lzC]
       go_simp
       go_at_call 128
       refine(contains_int (l:=h.done.take j) (n:=d) wd ((HPRE.o _ GD))).mono ?_
       rintro eC wC ⟨rfl,hbC⟩
       rw [HIN.o]
       have GC:=η (Grow.trans GD hbC)
       clear hbC
       refine HK.o _ _ ⟨.inr (HS.o _ GC.o),?_⟩
       clear HK K
       try simp only [Act.put,lzA,lzB,lzC,lzD,lzE,lzF]
       refine bLc [9,10,11,12,13,14,15,16,17,18,19,20] 23 (by kernel_rfl) (fun _ _ _ _ _ h=>h) (HS.o _ GC.o) ?_
       repeat ((first|(refine tNc (v:=?_) rfl (by rfl) ?_ ?_;rotate_left;(· (intro w' hSw;(try dsimp only at hSw);obtain⟨hs0,hs1,hs2⟩:=hSw;go_simp<;>with_reducible rfl)))|refine tUc rfl (by rfl) ?_);try simp only [Act.put,lzA,lzB,lzC,lzD,lzE,lzF])
       refine tEc ?_
       refine bDc (by kernel_rfl) ?_
       go_wp2
       go_ret
       refine⟨false,rfl,iff_of_false (by simp) (fun hp=>?_),G2.o.trans (HB2.o.trans (G5.o.trans GC.o))⟩
       have:=hp k h HKH.o
       rw [←HDE.o] at this
       rw [HWN.o] at this
       cases this
      ·have HIN:Hid (decide (d∈h.done.take j)=false):=η (decide_eq_false hin)
       have HNI:=η hin
       clear hin
       go_upto_region 10 with fail
       by_cases hof:ofL r.parts (k:Int)=[]
       ·have HWN:Hid (wholeGo D k [] ⟨0,0,0,0⟩ h.done=none):=η (by rw [HWS.o];exact if_pos (.inr hof))
        have hle:(((ofL r.parts (k:Int)).length:Int)==0)=true:=by rw [hof];rfl
        clear hof
        refine bSc (fun w'=>w'.cell? ⟨BO,6,none⟩=some (.slice (some ⟨bd,od,none⟩) h.done.length jd)∧w'.cell? ⟨BD,0,none⟩=some (.int .i64 d)∧w'.cell? ⟨gD,kk*2+1,none⟩=some (.slice apd r.parts.length cpd)) [] (by kernel_rfl) ?_
        intro wd GD zD
        have ZD:=η zD
        clear zD
        refine bLc [0,1,2,3,4,5,6,7] 23 (by kernel_rfl) (fun _ _ _ _ _ h=>h) (HS.o _ GD) ?_
        repeat ((first|(refine tNc (v:=?_) rfl (by rfl) ?_ ?_;rotate_left;(· (intro w' hSw;(try dsimp only at hSw);obtain⟨hs0,hs1,hs2⟩:=hSw;go_simp<;>with_reducible rfl)))|refine tUc rfl (by rfl) ?_);try simp only [Act.put,lzA,lzB,lzC,lzD,lzE,lzF])
        refine tEc ?_
        refine bOc 8 (by kernel_rfl) rfl ?_
        intro K HK
        refine wanted_yes (by rfl) ?_
        try simp only [lzA,lzB,lzC]
        go_simp
        go_at_call 128
        refine(contains_int (l:=h.done.take j) (n:=d) wd ((HPRE.o _ GD))).mono ?_
        rintro eC wC ⟨rfl,hbC⟩
        rw [HIN.o]
        have GC:=η (Grow.trans GD hbC)
        clear hbC
        refine HK.o _ _ ⟨.inr (HS.o _ GC.o),?_⟩
        clear HK K
        try simp only [Act.put,lzA,lzB,lzC,lzD,lzE,lzF]
        refine bLc [9,10,11,12,13,14,15,16] 23 (by kernel_rfl) (fun _ _ _ _ _ h=>h) (HS.o _ GC.o) ?_
        repeat ((first|(refine tNc (v:=?_) rfl (by rfl) ?_ ?_;rotate_left;(· (intro w' hSw;(try dsimp only at hSw);obtain⟨hs0,hs1,hs2⟩:=hSw;go_simp<;>with_reducible rfl)))|refine tUc rfl (by rfl) ?_);try simp only [Act.put,lzA,lzB,lzC,lzD,lzE,lzF])
        refine tEc ?_
        refine bOc 17 (by kernel_rfl) rfl ?_
        intro K HK
        refine wanted_yes (by rfl) ?_
        try simp only [lzA,lzB,lzC]
        go_simp
        go_at_call 85
        refine(part_of (n:=(k:Int)) wC (HPD.o.mono (HGD.o _ GC.o)) (by have:=HKO.o.2;omega)).mono ?_
        rintro eF wF ⟨vF,rfl,hoF,hbF⟩
        obtain⟨aF,cF,rfl⟩:=hoF.form
        have GF:=η (Grow.trans GC.o hbF)
        clear hoF hbF
        refine HK.o _ _ ⟨.inr (HS.o _ GF.o),?_⟩
        clear HK K
        try simp only [Act.put,lzA,lzB,lzC,lzD,lzE,lzF]
        refine bLc [18,19,20] 23 (by kernel_rfl) (fun _ _ _ _ _ h=>h) (HS.o _ GF.o) ?_
        repeat ((first|(refine tNc (v:=?_) rfl (by rfl) ?_ ?_;rotate_left;(· (intro w' hSw;(try dsimp only at hSw);obtain⟨hs0,hs1,hs2⟩:=hSw;go_simp<;>with_reducible rfl)))|refine tUc rfl (by rfl) ?_);try simp only [Act.put,lzA,lzB,lzC,lzD,lzE,lzF])
        refine tEc ?_
        refine bDc (by kernel_rfl) ?_
        go_wp2
        go_ret
        refine⟨false,rfl,iff_of_false (by simp) (fun hp=>?_),G2.o.trans (HB2.o.trans (G5.o.trans GF.o))⟩
        have:=hp k h HKH.o
        rw [←HDE.o] at this
        rw [HWN.o] at this
        cases this
       ·have HWO:Hid (wholeGo D k [] ⟨0,0,0,0⟩ h.done=wholeGo D k (h.done.take j++ [d]) (doP s (ofL r.parts k)) (h.done.drop (j+1))):=η (by rw [HWS.o];exact if_neg (by rintro(e|e);exact HNI.o e;exact hof e))
        have hle:(((ofL r.parts (k:Int)).length:Int)==0)=false:=by
         have:(ofL r.parts (k:Int)).length≠0:=fun e=>hof (List.eq_nil_of_length_eq_zero e)
         simp;omega
        clear hof
        go_cut [53] from 33 to 63 (fun s53 wc=>s53=.bool false∧Grow w5 wc)
        case first=>
         refine bSc (fun w'=>w'.cell? ⟨BO,6,none⟩=some (.slice (some ⟨bd,od,none⟩) h.done.length jd)∧w'.cell? ⟨BD,0,none⟩=some (.int .i64 d)∧w'.cell? ⟨gD,kk*2+1,none⟩=some (.slice apd r.parts.length cpd)) [] (by kernel_rfl) ?_
         intro wd GD zD
         have ZD:=η zD
         clear zD
         refine bLc [0,1,2,3,4,5,6,7] 23 (by kernel_rfl) (fun _ _ _ _ _ h=>h) (HS.o _ GD) ?_
         repeat ((first|(refine tNc (v:=?_) rfl (by rfl) ?_ ?_;rotate_left;(· (intro w' hSw;(try dsimp only at hSw);obtain⟨hs0,hs1,hs2⟩:=hSw;go_simp<;>with_reducible rfl)))|refine tUc rfl (by rfl) ?_);try simp only [Act.put,lzA,lzB,lzC,lzD,lzE,lzF])
         refine tEc ?_
         refine bOc 8 (by kernel_rfl) rfl ?_
         intro K HK
         refine wanted_yes (by rfl) ?_
         try simp only [lzA,lzB,lzC]
         go_simp
         go_at_call 128
         refine(contains_int (l:=h.done.take j) (n:=d) wd ((HPRE.o _ GD))).mono ?_
         rintro eC wC ⟨rfl,hbC⟩
         rw [HIN.o]
         have GC:=η (Grow.trans GD hbC)
         clear hbC
         refine HK.o _ _ ⟨.inr (HS.o _ GC.o),?_⟩
         clear HK K
         try simp only [Act.put,lzA,lzB,lzC,lzD,lzE,lzF]
         refine bLc [9,10,11,12,13,14,15,16] 23 (by kernel_rfl) (fun _ _ _ _ _ h=>h) (HS.o _ GC.o) ?_
         repeat ((first|(refine tNc (v:=?_) rfl (by rfl) ?_ ?_;rotate_left;(· (intro w' hSw;(try dsimp only at hSw);obtain⟨hs0,hs1,hs2⟩:=hSw;go_simp<;>with_reducible rfl)))|refine tUc rfl (by rfl) ?_);try simp only [Act.put,lzA,lzB,lzC,lzD,lzE,lzF])
         refine tEc ?_
         refine bOc 17 (by kernel_rfl) rfl ?_
         intro K HK
         refine wanted_yes (by rfl) ?_
         try simp only [lzA,lzB,lzC]
         go_simp
         go_at_call 85
         refine(part_of (n:=(k:Int)) wC (HPD.o.mono (HGD.o _ GC.o)) (by have:=HKO.o.2;omega)).mono ?_
         rintro eF wF ⟨vF,rfl,hoF,hbF⟩
         obtain⟨aF,cF,rfl⟩:=hoF.form
         have GF:=η (Grow.trans GC.o hbF)
         clear hoF hbF
         refine HK.o _ _ ⟨.inr (HS.o _ GF.o),?_⟩
         clear HK K
         try simp only [Act.put,lzA,lzB,lzC,lzD,lzE,lzF]
         refine bLc [18,19,20] 23 (by kernel_rfl) (fun _ _ _ _ _ h=>h) (HS.o _ GF.o) ?_
         repeat ((first|(refine tNc (v:=?_) rfl (by rfl) ?_ ?_;rotate_left;(· (intro w' hSw;(try dsimp only at hSw);obtain⟨hs0,hs1,hs2⟩:=hSw;go_simp<;>with_reducible rfl)))|refine tUc rfl (by rfl) ?_);try simp only [Act.put,lzA,lzB,lzC,lzD,lzE,lzF])
         refine tEc ?_
         refine bDc (by kernel_rfl) ?_
         go_wp2
         go_meet
         case rel=>exact⟨rfl,GF.o⟩
        case rest=>
        obtain⟨rfl,hgc⟩:=hcut
        obtain⟨w6,rfl⟩:∃y:World,y=wc:=⟨_,rfl⟩
        have G6:=η hgc
        have RS6:=η (row_grow RS5.o hgc)
        have HU6:=η (hgc.sub _ _ HU1.o)
        clear hgc hle HS hjle
        have HS:Hid (∀W,Grow w6 W→W.cell? ⟨BS,0,none⟩=some (.int .i64 s.a)∧W.cell? ⟨BS,1,none⟩=some (.int .i64 s.b)∧W.cell? ⟨BS,2,none⟩=some (.int .i64 s.c)∧W.cell? ⟨BS,3,none⟩=some (.int .i64 s.d)∧W.cell? ⟨gD,kk*2+1,none⟩=some (.slice apd r.parts.length cpd)):=fun W hW=>by
         obtain⟨a0,a1,a2,a3⟩:=cells4 (row_grow RS6.o hW)
         exact⟨a0,a1,a2,a3,hW.sub _ _ HU6.o⟩
        go_upto_region 12 with fail
        refine bSc (fun w'=>w'.cell? ⟨BS,0,none⟩=some (.int .i64 s.a)∧w'.cell? ⟨BS,1,none⟩=some (.int .i64 s.b)∧w'.cell? ⟨BS,2,none⟩=some (.int .i64 s.c)∧w'.cell? ⟨BS,3,none⟩=some (.int .i64 s.d)∧w'.cell? ⟨gD,kk*2+1,none⟩=some (.slice apd r.parts.length cpd)) [9] (by kernel_rfl) ?_
        intro wd GD zD
        have ZD:=η zD
        clear zD
        refine bLc [0,1,2,3,4,5,6] 12 (by kernel_rfl) (fun _ _ _ _ _ h=>h) (HS.o _ GD) ?_
        repeat (refine tNc (v:=?_) rfl (by rfl) ?_ ?_;rotate_left;(· (intro w' hSw;(try dsimp only at hSw);obtain⟨hs0,hs1,hs2,hs3,hs4⟩:=hSw;go_simp<;>with_reducible rfl));try simp only [Act.put,lzA,lzB,lzC,lzD,lzE,lzF])
        refine tEc ?_
        refine bOc 7 (by kernel_rfl) rfl ?_
        intro K HK
        try simp only [lzA,lzB,lzC]
        go_simp
        go_at_call 85
        refine(part_of (n:=(k:Int)) wd (HPD.o.mono (HGD.o _ (G6.o.trans GD))) (by have:=HKO.o.2;omega)).mono ?_
        rintro eF wF ⟨vF,rfl,hoF,hbF⟩
        obtain⟨aF,cF,rfl⟩:=hoF.form
        have GF:=η (Grow.trans GD hbF)
        have HOF:=η (OwnC.sl (by decide) (fun _ _ e=>by cases e) hoF)
        clear hoF hbF
        refine HK.o _ _ ⟨.inr (HS.o _ GF.o),?_⟩
        clear HK K
        try simp only [Act.put,lzA,lzB,lzC,lzD,lzE,lzF]
        refine bOc 8 (by kernel_rfl) rfl ?_
        intro K HK
        try simp only [lzA,lzB,lzC]
        go_simp
        go_at_call 88
        refine(part_do (s:=s) (l:=ofL r.parts k) wF HOF.o (keysOf_of HKO.o.1 k)).mono ?_
        rintro eG wG ⟨rfl,hbG⟩
        have GG:=η (Grow.trans GF.o hbG)
        clear hbG
        refine HK.o _ _ ⟨.inr (HS.o _ GG.o),?_⟩
        clear HK K
        try simp only [Act.put,lzA,lzB,lzC,lzD,lzE,lzF]
        refine bOc 9 (by kernel_rfl) rfl ?_
        intro K HK
        refine wanted_go rfl ?_
        try simp only [lzA,lzB,lzC]
        refine wp_store_row (.tmp 6) (.tmp 62) rfl rfl rfl (row_grow RS6.o GG.o) info_sm rfl rfl ?_
        intro wq rq gq
        refine HK.o _ _ ⟨.inl (by decide),?_⟩
        clear HK K
        try simp only [Act.put]
        refine bDc (by kernel_rfl) ?_
        have HROW:=η rq
        have HGC:=η (((HGO.o.trans (G5.o.trans G6.o)).trans GG.o).grown gq (fun q hq=>by have:=Option.some.inj hq;have:=ZS.o;omega))
        clear rq gq HS hk0 hk1
        generalize doP s (ofL r.parts k)=s2 at*
        go_wp2
        go_roundw
        case rel=>exact⟨j+1,s2,by omega,by go_num,((HB.o.trans GO.o).trans HGC.o),HGC.o,HROW.o,by rw [HTK.o];exact HWO.o⟩
        case measure=>simp [intOf];omega
    ·have hwe:wholeGo D k [] ⟨0,0,0,0⟩ h.done=some s:=by rw [hw,List.drop_eq_nil_of_le (by omega)];rfl
     have HWE:=η hwe
     have RO5:=η (row_grow RO.o HGO.o)
     clear hw hwe
     obtain⟨f0,f1,f2,f3,f4,f5,f6⟩:=cells7 RO5.o
     obtain⟨g0,g1,g2,g3⟩:=cells4 HRS.o
     have zO:BO<wr.heap.size:=(γ RO5.o)
     have zS:BS<wr.heap.size:=(γ HRS.o)
     have HN:∀w,(binOp .neq 25 (.agg #[.int .i64 s.a,.int .i64 s.b,.int .i64 s.c,.int .i64 s.d]) (.agg #[.int .i64 h.sums.a,.int .i64 h.sums.b,.int .i64 h.sums.c,.int .i64 h.sums.d])).run Try.prog w=.ok (.bool (!decide (s=h.sums))) w:=fun w=>neq_sm s h.sums w
     have hg:=guard_sm
     by_cases hpp:s=h.sums
     ·simp only [hpp,decide_true,Bool.not_true] at HN
      have HWE2:Hid (wholeGo D k [] ⟨0,0,0,0⟩ h.done=some h.sums):=η (by rw [HWE.o,hpp])
      subst hpp
      go_wp2
      go_roundw
      case rel=>exact⟨k+1,by omega,by go_num,HB2.o,fun q h' hq hh=>by
       by_cases hqk:q=k
       ·subst hqk
        rw [HKH.o] at hh
        obtain rfl:=Option.some.inj hh
        exact HWE2.o
       ·exact HALL.o q h' (by omega) hh⟩
      case measure=>simp [intOf];omega
     ·simp only [hpp,decide_false,Bool.not_false] at HN
      have HPP:=η hpp
      clear hpp
      go_wp2
      go_ret
      refine⟨false,rfl,iff_of_false (by simp) (fun hp=>?_),G2.o.trans HB2.o⟩
      have:=hp k h HKH.o
      rw [←HDE.o] at this
      rw [HWE.o] at this
      exact absurd (Option.some.inj this) HPP.o
  ·go_wp2
   go_ret
   exact⟨true,rfl,iff_of_true rfl (fun q h hh=>by rw [←HDE.o];exact HALL.o q h (by have:=(List.getElem?_eq_some_iff.1 hh).1;omega) hh),GB.o⟩
set_option maxHeartbeats 400000 in
theorem equal_sums {v v':Value} {l l':List Sm} (w:World) (hv:Sl Ty.sm w.cell? v l) (hv':Sl Ty.sm w.cell? v' l'):
  Calls Try.prog 147 #[v,v'] w fun e w'=>e=.returned (.bool (decide (l=l')))∧Grow w w':=by
 obtain⟨a,cap,rfl,h1,h2,-,hel⟩:=hv
 obtain⟨a',cap',rfl,h1',h2',-,hel'⟩:=hv'
 unfold maxLen at h2 h2'
 by_cases hlen:l.length=l'.length
 ·have hb:((l.length:Int) !=l'.length)=false:=by simp [hlen]
  have HL:=η hlen
  clear hlen
  go_enter Try.func147,Try.ntmps147
  go_wp2
  go_loopw [4,5,13] (fun _ _ i wr=>∃k:Nat,k≤l.length∧i=.int .i64 k∧Grow w wr∧∀j,j<k→l[j]? =l'[j]?) (fun _ _ i _=>l.length - (intOf i).toNat)
  case atStart=>exact⟨0,by omega,rfl,grA,fun j h=>by omega⟩
  case round=>
   obtain⟨k,hk',rfl,hb,hE⟩:=hrel
   by_cases hlt:k<l.length
   ·have hlt':k<l'.length:=by have:=HL.o;omega
    have H1:=η (same_next hlt hlt' hE)
    have H2:Hid (¬l[k]=l'[k]→decide (l=l')=false):=fun h=>same_not hlt hlt' h
    clear hE
    obtain⟨b,o,rfl,c0,c1,c2,c3,-,-,-,-⟩:=smAt hel k hlt
    obtain⟨b',o',rfl,c0',c1',c2',c3',-,-,-,-⟩:=smAt hel' k hlt'
    replace c0:=hb.sub _ _ c0
    replace c1:=hb.sub _ _ c1
    replace c2:=hb.sub _ _ c2
    replace c3:=hb.sub _ _ c3
    replace c0':=hb.sub _ _ c0'
    replace c1':=hb.sub _ _ c1'
    replace c2':=hb.sub _ _ c2'
    replace c3':=hb.sub _ _ c3'
    clear hel hel'
    generalize l[k]=p at*
    generalize l'[k]=p' at*
    have hg:=guard_sm
    have HN:∀w,(binOp .neq 25 (.agg #[.int .i64 p.a,.int .i64 p.b,.int .i64 p.c,.int .i64 p.d]) (.agg #[.int .i64 p'.a,.int .i64 p'.b,.int .i64 p'.c,.int .i64 p'.d])).run Try.prog w=.ok (.bool (!decide (p=p'))) w:=fun w=>neq_sm p p' w
    by_cases hpp:p=p'
    ·simp only [hpp,decide_true,Bool.not_true] at HN
     have HQ:=η hpp
     subst hpp
     go_wp2_with (go_quiet (fail))
     go_roundw
     case rel=>exact⟨k+1,by omega,by go_num,grA,H1.o rfl⟩
     case measure=>simp [intOf];omega
    ·simp only [hpp,decide_false,Bool.not_false] at HN
     have HQ:=η (H2.o hpp)
     clear hpp H2 H1
     go_wp2_with (go_quiet (fail))
     go_ret
     exact⟨ret_bool HQ.o.symm,grA⟩
   ·clear hel hel'
    have HE:=η (same_all HL.o (by omega) hE)
    go_wp2
    go_ret
    exact⟨ret_bool (decide_eq_true HE.o).symm,hb⟩
 ·have hb:((l.length:Int) !=l'.length)=true:=by simp;omega
  have hE:decide (l=l')=false:=by rw [decide_eq_false_iff_not];rintro rfl;exact hlen rfl
  have HE:=η hE
  clear hlen hE hel hel'
  go_enter Try.func147,Try.ntmps147
  go_wp2
  go_ret
  exact⟨ret_bool HE.o.symm,grA⟩
set_option maxRecDepth 100000 in
set_option maxHeartbeats 2000000 in
theorem look_sums {v:Value} {x:AW} (w:World) (hv:Of Ty.wd w.cell? v x) (hl:x.houses.length≤3):
  Calls Try.prog 74 #[v] w fun e w'=>∃v',e=.returned v'∧OwnC Ty.sm (fun _=>none) w' w.heap.size 25 v' (x.houses.map (·.sums))∧Grow w w':=by
 obtain⟨al,cl,ao,co,ah,ch,an,cn,rfl⟩:=hv.wd_form
 obtain⟨-,q2,-⟩:=hv.wd_parts
 obtain⟨ah',ch',he9,h1,h2,-,hel⟩:=q2
 simp only [Value.slice.injEq,true_and] at he9
 obtain⟨rfl,rfl⟩:=he9
 unfold maxLen at h2
 clear hv
 obtain⟨wa,hwa⟩:∃y:World,y=w.alloc (.cells #[.slice al x.head.log.length cl,.int .i64 x.head.boot,.int .i64 x.head.next,.slice ao x.head.opn.length co,.slice ah x.houses.length ch,.slice an x.net.length cn] 93):=⟨_,rfl⟩
 have R1:Hid (wa.heap[w.heap.size]? =some (.cells #[.slice al x.head.log.length cl,.int .i64 x.head.boot,.int .i64 x.head.next,.slice ao x.head.opn.length co,.slice ah x.houses.length ch,.slice an x.net.length cn] 93 (0,0))):=η (by rw [hwa];exact row_new _ _)
 have G1:Hid (Grow w wa):=η (by rw [hwa];exact(Grow.refl w).alloc _)
 have HZ:Hid (wa.heap.size=w.heap.size+1):=η (by rw [hwa];simp)
 have HWA:=η hwa
 clear hwa
 go_enter Try.func74,Try.ntmps74
 go_upto_region 1 with fail
 rw [←HWA.o]
 clear HWA
 obtain⟨c0,c1,c2,c3,c4,c5⟩:=cells6 R1.o
 have z1:w.heap.size<wa.heap.size:=(γ R1.o)
 go_wp2
 clear c0 c1 c2 c3 c4 c5
 go_loopw [3,9] (fun s3 i wr=>∃k:Nat,k≤x.houses.length∧i=.int .i64 k∧Grow wa wr∧OwnC Ty.sm (fun _=>none) wr (w.heap.size+1) 25 s3 ((x.houses.take k).map (·.sums))) (fun _ i _=>x.houses.length - (intOf i).toNat)
 case atStart=>exact⟨0,by omega,rfl,Grow.refl _,OwnC.nil _ _ _ _ _⟩
 case round=>
  obtain⟨k,hk',rfl,hb,how⟩:=hrel
  obtain⟨a3,cap3,rfl⟩:=how.form
  have HO:=η how
  have HB:=η hb
  have GB:=η (G1.o.trans hb)
  clear how hb
  by_cases hlt:k<x.houses.length
  ·obtain⟨bh,oh,vl,vr,vd,rfl,e0,e1,e2,e3,e4,e5,e6,hH1,s1,s2,s3,s4,hH2,hH3⟩:=Hss.at_ hel k hlt
   obtain⟨il,jl,rfl,-⟩:=id hH1
   obtain⟨ir,jr,rfl,-⟩:=id hH2
   obtain⟨id9,jd,rfl,-⟩:=id hH3
   have HNX:=η (map_next (fun h:Hs=>h.sums) hlt)
   have HSI:=η (And.intro s1 (And.intro s2 (And.intro s3 s4)))
   have HLL:Hid (((x.houses.take k).map (·.sums)).length≤3):=η (by rw [List.length_map,List.length_take];omega)
   replace e0:=GB.o.sub _ _ e0
   replace e1:=GB.o.sub _ _ e1
   replace e2:=GB.o.sub _ _ e2
   replace e3:=GB.o.sub _ _ e3
   replace e4:=GB.o.sub _ _ e4
   replace e5:=GB.o.sub _ _ e5
   replace e6:=GB.o.sub _ _ e6
   clear hel hH1 hH2 hH3 s1 s2 s3 s4
   generalize x.houses[k]=h at*
   generalize (x.houses.take k).map (·.sums)=ss at*
   go_upto_region 5 with fail
   obtain⟨wo,hwo⟩:∃y:World,y=wr.alloc (.cells #[.slice il h.log.length jl,.int .i64 h.sums.a,.int .i64 h.sums.b,.int .i64 h.sums.c,.int .i64 h.sums.d,.slice ir h.ready.length jr,.slice id9 h.done.length jd] 29):=⟨_,rfl⟩
   obtain⟨BO,hBO⟩:∃y,y=wr.heap.size:=⟨_,rfl⟩
   have GO:Hid (Grow wr wo):=η (by rw [hwo];exact(Grow.refl _).alloc _)
   have RO:Hid (wo.heap[BO]? =some (.cells #[.slice il h.log.length jl,.int .i64 h.sums.a,.int .i64 h.sums.b,.int .i64 h.sums.c,.int .i64 h.sums.d,.slice ir h.ready.length jr,.slice id9 h.done.length jd] 29 (0,0))):=η (by rw [hwo,hBO];exact row_new _ _)
   rw [←hwo,←hBO]
   clear hwo hBO e0 e1 e2 e3 e4 e5 e6
   obtain⟨f0,f1,f2,f3,f4,f5,f6⟩:=cells7 RO.o
   have zO:BO<wo.heap.size:=(γ RO.o)
   go_wp2_with (first|(at_builtin;refine wpList_appc (c:=fun _=>none) (base:=w.heap.size+1) (l:=ss) (m:=[h.sums]) ei_sm rfl one_Tsm (by decide) rfl (.tmp 13) (.tmp 16) rfl rfl ((HO.o.grow GO.o).grow ((Grow.refl _).alloc _)) rfl (Src.of_new (T:=Ty.sm) (x:=h.sums) (cs:=#[.int .i64 h.sums.a,.int .i64 h.sums.b,.int .i64 h.sums.c,.int .i64 h.sums.d]) ⟨rfl,HSI.o.1,HSI.o.2.1,HSI.o.2.2.1,HSI.o.2.2.2⟩ _ _ ?d1) ?d2 ?d3 ?_))
   case d1=>first|rfl|simp
   case d2=>have:=HLL.o;simp;omega
   case d3=>have:=HB.o.size;have:=GO.o.size;have:=HZ.o;simp;omega
   intro a9 c9 w9 ho9 hg9 hb9
   have HG9:Hid (Grow wa w9):=η (grow_by (w0:=wa) ((HB.o.trans GO.o).alloc _) hg9 (fun q hq=>by have:=(HO.o.lt q hq).1;have:=HZ.o;omega))
   have HO9:=η ho9
   clear ho9 hg9 hb9 f0 f1 f2 f3 f4 f5 f6 zO
   go_wp2
   go_roundw
   case rel=>exact⟨k+1,by omega,by go_num,HG9.o,by rw [HNX.o];exact HO9.o⟩
   case measure=>simp [intOf];omega
  ·have HTL:Hid ((x.houses.take k).map (·.sums)=x.houses.map (·.sums)):=η (by rw [List.take_of_length_le (by omega)])
   clear hel
   obtain⟨ss,hss⟩:∃y,y=x.houses.map (·.sums):=⟨_,rfl⟩
   rw [HTL.o,←hss] at HO ⊢
   have HSS:=η hss
   clear HTL hss
   go_wp2
   go_ret
   exact⟨_,rfl,by rw [←HSS.o];exact HO.o.base (Nat.le_succ _),GB.o⟩
theorem even_tells (w:World) (l:List Int):Tells Try.prog Ty.int oneOf w 149 #[] l (fun e=>e !=0) where
 ent:=fun args w=>by kernel_rfl
 say:=fun wx cs x hg _ hR=>by
  obtain⟨rfl,-⟩:=hR
  show Calls _ _ #[.int .i64 x] _ _
  go_enter Try.func149,Try.ntmps149
  go_wp2
  go_ret
  exact⟨rfl,grA⟩
def evenE (x:AW):Bool:=decide ((allE (List.replicate x.houses.length ⟨0,0,0,0⟩) (decidedR x.head.log)).1=x.houses.map (·.sums))&& !((allE (List.replicate x.houses.length ⟨0,0,0,0⟩) (decidedR x.head.log)).2.any fun e=>e !=0)
set_option maxRecDepth 100000 in
set_option maxHeartbeats 8000000 in
theorem look_even {v:Value} {x:AW} (w:World) (hv:Of Ty.wd w.cell? v x) (hl:1≤x.houses.length∧x.houses.length≤3) (hg:x.head.log.length≤100000) (hlp:∀r∈x.head.log,r.parts.length*24≤140737488355328)
  (hD:∀r∈decidedR x.head.log,wrongE r.parts x.houses.length=0):
  Calls Try.prog 100 #[v] w fun e w'=>e=.returned (.bool (evenE x))∧Grow w w':=by
 have HSU:=η (fun(W:World) (hW:Grow w W)=>look_sums W (hv.mono hW.sub) hl.2)
 obtain⟨al,cl,ao,co,ah,ch,an,cn,rfl⟩:=hv.wd_form
 obtain⟨q1,q2,-⟩:=hv.wd_parts
 have HLOG:=η (Of.hd_log q1).1
 have HG:=η hg
 have HLP:=η hlp
 have HDD:=η hD
 have HL:=η hl
 clear hv q1 q2 hg hlp hD hl
 obtain⟨wa,hwa⟩:∃y:World,y=w.alloc (.cells #[.slice al x.head.log.length cl,.int .i64 x.head.boot,.int .i64 x.head.next,.slice ao x.head.opn.length co,.slice ah x.houses.length ch,.slice an x.net.length cn] 93):=⟨_,rfl⟩
 have R1:Hid (wa.heap[w.heap.size]? =some (.cells #[.slice al x.head.log.length cl,.int .i64 x.head.boot,.int .i64 x.head.next,.slice ao x.head.opn.length co,.slice ah x.houses.length ch,.slice an x.net.length cn] 93 (0,0))):=η (by rw [hwa];exact row_new _ _)
 have G1:Hid (Grow w wa):=η (by rw [hwa];exact(Grow.refl w).alloc _)
 have HWA:=η hwa
 clear hwa
 obtain⟨D,hD⟩:∃q,q=decidedR x.head.log:=⟨_,rfl⟩
 have HDE:=η hD
 have HDL:Hid (D.length≤100000):=η (by rw [hD];unfold decidedR;rw [List.length_map];exact Nat.le_trans (List.length_filter_le _ _) HG.o)
 rw [←hD] at HDD
 clear hD
 have HS:Hid (∀W,Grow wa W→W.cell? ⟨w.heap.size,0,none⟩=some (.slice al x.head.log.length cl)∧W.cell? ⟨w.heap.size,4,none⟩=some (.slice ah x.houses.length ch)):=fun W hW=>by
  obtain⟨a0,-,-,-,a4,-⟩:=cells6 (row_grow R1.o hW)
  exact⟨a0,a4⟩
 obtain⟨Y,hY⟩:∃q,q=allE (List.replicate x.houses.length ⟨0,0,0,0⟩) D:=⟨_,rfl⟩
 have HY:=η hY
 clear hY
 go_enter Try.func100,Try.ntmps100
 go_upto_region 1 with fail
 rw [←HWA.o]
 clear HWA
 go_cut [3,4] from 5 (fun s3 s4 wc=>Sms wc.cell? s3 Y.1∧Sl Ty.int wc.cell? s4 Y.2∧Grow wa wc)
 case first=>
  refine bSc (fun w'=>w'.cell? ⟨w.heap.size,0,none⟩=some (.slice al x.head.log.length cl)∧w'.cell? ⟨w.heap.size,4,none⟩=some (.slice ah x.houses.length ch)) [] (by kernel_rfl) ?_
  intro wd GD zD
  have ZD:=η zD
  clear zD
  refine bLc [0,1,2,3,4,5] 15 (by kernel_rfl) (fun _ _ _ _ _ h=>h) (HS.o _ GD) ?_
  repeat (refine tNc (v:=?_) rfl (by rfl) ?_ ?_;rotate_left;(· (intro w' hSw;(try dsimp only at hSw);obtain⟨hs0,hs1⟩:=hSw;go_simp<;>with_reducible rfl));try simp only [Act.put,lzA,lzB,lzC,lzD,lzE,lzF])
  refine tEc ?_
  refine bOc 6 (by kernel_rfl) rfl ?_
  intro K HK
  try simp only [lzA,lzB,lzC]
  go_simp
  go_at_call 45
  refine(wlog_decided wd (HLOG.o.mono (Grow.sub (G1.o.trans GD))) (by have:=HG.o;omega) HLP.o).mono ?_
  rintro eD wD ⟨vD,rfl,hoD,hbD⟩
  rw [←HDE.o] at hoD
  obtain⟨aD,cD,rfl⟩:=hoD.form
  have GD9:=η (Grow.trans GD hbD)
  have HOD:=η (OwnC.sl (by decide) (fr_sub _ _ _) hoD)
  clear hoD hbD
  refine HK.o _ _ ⟨.inr (HS.o _ GD9.o),?_⟩
  clear HK K
  try simp only [Act.put,lzA,lzB,lzC,lzD,lzE,lzF]
  refine bOc 7 (by kernel_rfl) rfl ?_
  intro K HK
  try simp only [lzA,lzB,lzC]
  go_simp
  go_at_call 95
  refine(model_all (n:=x.houses.length) (D:=D) wD HL.o HOD.o HDD.o (by have:=HDL.o;omega)).mono ?_
  rintro eA wA ⟨vA,vB,rfl,hA,hB,hbA⟩
  obtain⟨aA,cA,rfl,-⟩:=id hA
  obtain⟨aB,cB,rfl,-⟩:=id hB
  have GA:=η (Grow.trans GD9.o hbA)
  rw [←HY.o] at hA hB ⊢
  have HA:=η hA
  have HB:=η hB
  clear hA hB hbA
  refine HK.o _ _ ⟨.inr (HS.o _ GA.o),?_⟩
  clear HK K
  try simp only [Act.put,lzA,lzB,lzC,lzD,lzE,lzF]
  refine bLc [8,9,10,11,12] 15 (by kernel_rfl) (fun _ _ _ _ _ h=>h) (HS.o _ GA.o) ?_
  repeat (refine tNc (v:=?_) rfl (by rfl) ?_ ?_;rotate_left;(· (intro w' hSw;(try dsimp only at hSw);obtain⟨hs0,hs1⟩:=hSw;go_simp<;>with_reducible rfl));try simp only [Act.put,lzA,lzB,lzC,lzD,lzE,lzF])
  refine tEc ?_
  refine bDc (by kernel_rfl) ?_
  go_wp2
  go_meet
  case rel=>exact⟨HA.o,HB.o,GA.o⟩
 case rest=>
 obtain⟨hA,hB,hgc⟩:=hcut
 obtain⟨w2,rfl⟩:∃q:World,q=wc:=⟨_,rfl⟩
 have HA:=η hA
 have HB:=η hB
 obtain⟨aA,cA,rfl,-⟩:=hA
 obtain⟨aB,cB,rfl,-⟩:=hB
 have G2:=η (G1.o.trans hgc)
 have R2:=η (row_grow R1.o hgc)
 clear hgc HS
 obtain⟨c0,c1,c2,c3,c4,c5⟩:=cells6 R2.o
 have z1:w.heap.size<w2.heap.size:=(γ R2.o)
 go_wp2_with fail
 refine(HSU.o w2 G2.o).mono ?_
 rintro e w3 ⟨v3,rfl,ho3,hb3⟩
 obtain⟨a3,c3',rfl⟩:=ho3.form
 have HO3:=η (OwnC.sl (by decide) (fun _ _ e9=>by cases e9) ho3)
 have HA3:=η (HA.o.mono hb3.sub)
 have HB3:=η (HB.o.mono hb3.sub)
 have G3:=η (G2.o.trans hb3)
 clear ho3 hb3 c0 c1 c2 c3 c4 c5 z1
 have HEV:Hid (evenE x=(decide (Y.1=x.houses.map (·.sums))&& !(Y.2.any fun e=>e !=0))):=η (by unfold evenE;rw [HY.o,HDE.o])
 generalize x.houses.map (·.sums)=ss at*
 go_wp2_with fail
 refine(equal_sums w3 HA3.o HO3.o).mono ?_
 rintro e w4 ⟨rfl,hb4⟩
 have HB4:=η (HB3.o.mono hb4.sub)
 have G4:=η (G3.o.trans hb4)
 clear hb4
 generalize decide (Y.1=ss)=t at*
 cases t
 ·go_wp2
  go_ret
  exact⟨ret_bool (by rw [HEV.o];rfl),G4.o⟩
 ·go_wp2_with fail
  refine(containsFunc_errno w4 HB4.o (even_tells w4 Y.2)).mono ?_
  rintro e w5 ⟨rfl,hb5⟩
  have G5:=η (G4.o.trans hb5)
  clear hb5
  generalize (Y.2.any fun e=>e !=0)=t at*
  cases t
  ·go_wp2
   go_ret
   exact⟨ret_bool (by rw [HEV.o];rfl),G5.o⟩
  ·go_wp2
   go_ret
   exact⟨ret_bool (by rw [HEV.o];rfl),G5.o⟩
theorem WI.wholeP {n:Nat} {G:Reg} {x:AW} (i:WI n G x):WholeP (decidedR x.head.log) x.houses:=fun k h hk=>(i.core.house k h hk).whole i.core.dec
theorem WI.decKeys {n:Nat} {G:Reg} {x:AW} (i:WI n G x):∀r∈decidedR x.head.log,KeysOk r.parts∧r.parts.length≤4:=fun r hr=>by
 have h:=wrong_ok (i.core.reg.ok _ (i.core.dec.reg r hr)).2
 exact⟨fun p hp=>by have:=h.2.2.1 p hp;omega,h.2.1⟩
theorem WI.decWrong {n:Nat} {G:Reg} {x:AW} (i:WI n G x):∀r∈decidedR x.head.log,wrongE r.parts x.houses.length=0:=fun r hr=>by
 rw [i.core.len]
 exact(i.core.reg.ok _ (i.core.dec.reg r hr)).2
theorem WI.logLen {n:Nat} {G:Reg} {x:AW} (i:WI n G x) (h:LogP x.head.log):∀r∈x.head.log,r.parts.length*24≤140737488355328:=fun r hr=>by have:=logP_len i h r hr;omega
theorem WI.evenE {n:Nat} {G:Reg} {x:AW} (i:WI n G x) (h:opensE x=[]):evenE x=true:=by
 have hno:∀d:Int,0≤d→d≤1343→isOpen x d=false:=fun d h0 h1=>by
  cases e:isOpen x d with
  |false=>rfl
  |true=>
   have hm:d∈opensE x:=List.mem_filter.2 ⟨List.mem_map.2 ⟨d.toNat,List.mem_range.2 (by omega),by omega⟩,e⟩
   rw [h] at hm;cases hm
 have hall:∀r∈decidedR x.head.log,∀k∈housesE r.parts,dne x.houses k r.deed:=fun r hr k hk=>by
  have hreg:=i.core.dec.reg r hr
  have hw:=(i.core.reg.ok _ hreg).2
  obtain⟨h0,h1⟩:=i.core.deed hreg
  obtain⟨k0,k1⟩:=houses_lt hw hk
  have hlen:=i.core.len
  have hlt:k.toNat<x.houses.length:=by omega
  refine⟨x.houses[k.toNat],List.getElem?_eq_getElem hlt,Classical.byContradiction fun hnd=>?_⟩
  have ho:=hno r.deed h0 h1
  rw [Bool.eq_false_iff] at ho
  refine ho (isOpen_iff.2 (.inr ⟨r,hr,rfl,k.toNat,x.houses[k.toNat],hlt,List.getElem?_eq_getElem hlt,?_,hnd⟩))
  have:=(houses_mem.1 hk).2
  rwa [show((k.toNat:Nat):Int)=k by omega]
 have he:=i.core.even hall
 unfold Go.Proofs.Ytgbhpghgohggcaa.evenE
 rw [i.core.len,he]
 simp
theorem sharp_not {D:List Rd} {hs:List Hs} {k:Nat} {h h':Hs} (hk:hs[k]? =some h) (hn:wholeGo D k [] ⟨0,0,0,0⟩ h'.done≠some h'.sums):¬WholeP D (hs.set k h'):=fun hp=>by
 have hlt:=(List.getElem?_eq_some_iff.1 hk).1
 exact hn (hp k h' (by rw [List.getElem?_set_self hlt]))
theorem WI.sharp0 {n:Nat} {G:Reg} {x:AW} (i:WI n G x) {k:Nat} {h:Hs} (hk:x.houses[k]? =some h) {a:Int} (ha:h.sums.a≠a):¬WholeP (decidedR x.head.log) (x.houses.set k { h with sums:={ h.sums with a:=a } }):=
 sharp_not hk fun e=>by
  have e2:=i.wholeP k h hk
  simp only at e
  rw [e2] at e
  have:=Option.some.inj e
  exact ha (congrArg Sm.a this)
theorem WI.sharp1 {n:Nat} {G:Reg} {x:AW} (i:WI n G x) {k:Nat} {h:Hs} (hk:x.houses[k]? =some h):¬WholeP (decidedR x.head.log) (x.houses.set k { h with done:=h.done++ [1349] }):=
 sharp_not hk fun e=>by
  simp only at e
  rw [whole_strange (fun r hr=>by have:=i.core.deed (i.core.dec.reg r hr);omega)] at e
  cases e
theorem WI.sharp2 {n:Nat} {G:Reg} {x:AW} {k:Nat} {h:Hs} (_i:WI n G x) (hk:x.houses[k]? =some h) {d:Int} (hd:d∈h.done):¬WholeP (decidedR x.head.log) (x.houses.set k { h with done:=h.done++ [d] }):=
 sharp_not hk fun e=>by
  simp only at e
  rw [whole_twice hd] at e
  cases e
def P11:List Pt:=[⟨0,0,7⟩]
structure F11 (hd0 hd1:Hd) (hs0:List Hs) (h1:Hs):Prop where
 e0:headR [⟨4,0,[]⟩]=hd0
 e1:headR [⟨4,0,[]⟩,⟨5,64,P11⟩]=hd1
 en:newA 1=⟨hd0,hs0,[]⟩
 eh:houseR [⟨1,64,P11⟩,⟨2,64,[]⟩]=h1
 l0:hs0.length=1
 g0:hd0.log.length≤100000∧∀r∈hd0.log,r.parts.length≤4
 g1:hd1.log.length≤100000∧∀r∈hd1.log,r.parts.length≤4
 d0:∀r∈decidedR hd0.log,KeysOk r.parts∧r.parts.length≤4
 d1:∀r∈decidedR hd1.log,KeysOk r.parts∧r.parts.length≤4
 w1:∀r∈decidedR hd1.log,wrongE r.parts 1=0
 a1:WholeP (decidedR hd1.log) hs0
 a2:evenE ⟨hd1,hs0,[]⟩=false
 a3:OpnIn ⟨hd1,hs0,[]⟩ [64]
 a4:WholeP (decidedR hd1.log) [h1]
 a5:evenE ⟨hd1,[h1],[]⟩=true
 a6:OpnIn ⟨hd1,[h1],[]⟩ []
 a7:¬WholeP (decidedR hd0.log) [h1]
 a8:h1.sums.a=7
theorem one_all {α:Type} {p:Nat→α→Prop} {x:α} (h:p 0 x):∀(k:Nat) y,[x][k]? =some y→p k y:=fun k y e=>by
 have hk:=(List.getElem?_eq_some_iff.1 e).1
 obtain rfl:k=0:=by simpa using hk
 obtain rfl:x=y:=by simpa using e
 exact h
theorem f11:∃hd0 hd1 hs0 h1,F11 hd0 hd1 hs0 h1:=by
 have d1:decidedR (headR [⟨4,0,[]⟩,⟨5,64,P11⟩]).log=[⟨64,P11⟩]:=by kernel_rfl
 have d0:decidedR (headR [⟨4,0,[]⟩]).log=[]:=by kernel_rfl
 have g1:(headR [⟨4,0,[]⟩,⟨5,64,P11⟩]).log=[⟨4,0,[]⟩,⟨5,64,P11⟩]:=by kernel_rfl
 have g0:(headR [⟨4,0,[]⟩]).log=[⟨4,0,[]⟩]:=by kernel_rfl
 have hw:wrongE P11 1=0:=by kernel_rfl
 have ho:housesE P11=[0]:=by kernel_rfl
 have hk:=wrong_ok hw
 have i64:I64 64:=by unfold I64;decide
 have opn:∀(hs:List Hs) (O:List Int),hs.length=1→(∀h∈hs,h.ready.length≤4)→Lib.compact ((openReady hs++openDec hs [⟨64,P11⟩]).mergeSort fun x y=>decide (x≤y))=O→(∀d∈O,I64 d)→OpnIn ⟨headR [⟨4,0,[]⟩,⟨5,64,P11⟩],hs,[]⟩ O:=fun hs O h1 h2 h3 h4=>
  ⟨by show hs.length≤3;omega,by show(headR _).log.length≤_;rw [g1];decide,by show∀r∈(headR _).log,_;rw [g1];simp [P11],h2,by
   show∀r∈decidedR (headR _).log,_
   rw [d1]
   intro r hr
   obtain rfl:=List.mem_singleton.1 hr
   refine⟨hk.2.1,by simp [P11],fun p hp=>by have:=hk.2.2.1 p hp;omega,?_⟩
   show∀q∈housesE P11,_
   rw [ho]
   intro q hq
   obtain rfl:=List.mem_singleton.1 hq
   show _∧(0:Int)<(hs.length:Int)
   rw [h1];decide,by show Lib.compact ((openReady hs++openDec hs (decidedR (headR _).log)).mergeSort _)=O;rw [d1];exact h3,h4⟩
 refine⟨headR [⟨4,0,[]⟩],headR [⟨4,0,[]⟩,⟨5,64,P11⟩],List.replicate 1 Go.Proofs.Ytgbhpghgohggcaa.hs0,houseR [⟨1,64,P11⟩,⟨2,64,[]⟩],rfl,rfl,rfl,rfl,rfl,?_,?_,?_,?_,?_,?_,by kernel_rfl,?_,?_,by kernel_rfl,?_,?_,by kernel_rfl⟩
 ·rw [g0];exact⟨by decide,by simp⟩
 ·rw [g1];exact⟨by decide,by simp [P11]⟩
 ·rw [d0];simp
 ·rw [d1];intro r hr;obtain rfl:=List.mem_singleton.1 hr;exact⟨fun p hp=>by have:=hk.2.2.1 p hp;omega,hk.2.1⟩
 ·rw [d1];intro r hr;obtain rfl:=List.mem_singleton.1 hr;exact hw
 ·exact one_all (x:=Go.Proofs.Ytgbhpghgohggcaa.hs0) (by show wholeGo _ _ _ _ _=_;kernel_rfl)
 ·exact opn _ _ rfl (by simp [Go.Proofs.Ytgbhpghgohggcaa.hs0];decide) (by kernel_rfl) (by simpa using i64)
 ·exact one_all (by show wholeGo _ _ _ _ _=_;kernel_rfl)
 ·exact opn _ _ rfl (by intro h hh;obtain rfl:=List.mem_singleton.1 hh;decide) (by kernel_rfl) (by simp)
 ·intro h
  have:=h 0 _ rfl
  rw [show wholeGo (decidedR (headR [⟨4,0,[]⟩]).log) (0:Nat) [] ⟨0,0,0,0⟩ (houseR [⟨1,64,P11⟩,⟨2,64,[]⟩]).done=none by kernel_rfl] at this
  cases this
theorem sub_box {W W' W2:World} {B:Nat} (hB:W.heap.size≤B) (hg:Grow W W') (hs:W'.grownBy W2 (some B)):Sub W.cell? W2.cell?:=fun a v e=>by
 have hl:=World.block_lt_of_cell? W a e
 exact cell_past (hg.sub _ _ e) hs (by omega)
theorem ovwo_box {B:Nat} {w3 w4 w5:World} (hB:B<w3.heap.size) (hg:Grow w3 w4) (hs:w4.grownBy w5 (some B)):Sub (ov (wo B w3.cell?) w3 w4) w5.cell?:=fun a v e=>by
 unfold ov at e
 split at e
 ·unfold wo at e
  split at e
  ·cases e
  ·exact cell_past (hg.sub _ _ e) hs (by assumption)
 ·exact cell_past e hs (by omega)
theorem rc_lit2 {c:CM} (w:World) {b:Nat} (hb:b≤w.heap.size) {k1 d1 k2 d2:Int} {v1 v2:Value} {p1 p2:List Pt} (i1:I64 k1) (i2:I64 d1) (i3:I64 k2) (i4:I64 d2) (h1:Pts c v1 p1) (h2:Pts c v2 p2):OwnC Ty.rc c (w.alloc (.cells #[.int .i64 k1,.int .i64 d1,v1,.int .i64 k2,.int .i64 d2,v2] 48)) b 48 (.slice (some ⟨w.heap.size,0,none⟩) 2 2) [⟨k1,d1,p1⟩,⟨k2,d2,p2⟩]:=
 OwnC.lit w [[.int .i64 k1,.int .i64 d1,v1],[.int .i64 k2,.int .i64 d2,v2]] rfl rfl hb (by show 2≤maxLen;decide) rfl ⟨⟨v1,rfl,i1,i2,h1⟩,⟨v2,rfl,i3,i4,h2⟩,trivial⟩
theorem OwnC.wo {α:Type} {T:Ty α} {c:CM} (h0:0<T.size) {w:World} {base e B:Nat} {v:Value} {l:List α} (h:OwnC T c w base e v l) (hB:B<base) (hc:Sub c (Go.Proofs.Ytgbhpghgohggcaa.wo B w.cell?)):Sl T (Go.Proofs.Ytgbhpghgohggcaa.wo B w.cell?) v l:=
 h.slc h0 hc fun a ha=>by
  unfold Go.Proofs.Ytgbhpghgohggcaa.wo
  rw [if_neg (by omega)]
set_option maxRecDepth 100000 in
set_option maxHeartbeats 8000000 in
theorem alive11 (w:World):Calls Try.prog 98 #[] w fun e w'=>e=.returned (.bool true)∧Grow w w':=by
 obtain⟨hd0,hd1,hs0,h1,hf11⟩:=f11
 have F:=η hf11
 clear hf11
 have i0:I64 0:=by unfold I64;decide
 have i7:I64 7:=by unfold I64;decide
 have HP:=η (pts_one 0 0 7 i0 i0 i7 w)
 have HI:Hid (I64 0∧I64 1∧I64 2∧I64 4∧I64 5∧I64 64):=η (by refine⟨?_,?_,?_,?_,?_,?_⟩<;>(unfold I64;decide))
 clear i0 i7
 go_enter Try.func98,Try.ntmps98
 go_upto_region 2 with fail
 obtain⟨wp,hwp⟩:∃y:World,y=w.alloc (.cells #[.int .i64 0,.int .i64 0,.int .i64 7] 32):=⟨_,rfl⟩
 obtain⟨BP,hBP⟩:∃y,y=w.heap.size:=⟨_,rfl⟩
 have GP:Hid (Grow w wp):=η (by rw [hwp];exact(Grow.refl w).alloc _)
 have HPT:Hid (∀W,Grow wp W→Pts W.cell? (.slice (some ⟨BP,0,none⟩) 1 1) P11):=η (fun W hW=>by rw [hBP];exact HP.o W 32 (by rw [←hwp];exact hW))
 rw [←hwp,←hBP]
 clear hwp hBP HP
 go_wp2_with fail
 refine(ref_newN (n:=1) wp ⟨by decide,by decide⟩).mono ?_
 rintro e w1 ⟨v1,rfl,hx1,hb1⟩
 rw [F.o.en] at hx1
 obtain⟨al0,cl0,ao0,co0,ah,ch,an,cn,rfl⟩:=hx1.wd_form
 have HX1:=η (hx1.mono (ov_none_sub _ _))
 have G1:=η (GP.o.trans hb1)
 have HB1:=η hb1
 clear hx1 hb1
 simp only [List.length_nil]
 obtain⟨w2,hwq⟩:∃zq:World,zq=w1.alloc (.cells #[.slice al0 hd0.log.length cl0,.int .i64 hd0.boot,.int .i64 hd0.next,.slice ao0 hd0.opn.length co0,.slice ah hs0.length ch,.slice an 0 cn] 93):=⟨_,rfl⟩
 obtain⟨B2,hBq⟩:∃zq,zq=w1.heap.size:=⟨_,rfl⟩
 have G12:Hid (Grow w1 w2):=η (by rw [hwq];exact(Grow.refl _).alloc _)
 have R2:Hid (w2.heap[B2]? =some (.cells #[.slice al0 hd0.log.length cl0,.int .i64 hd0.boot,.int .i64 hd0.next,.slice ao0 hd0.opn.length co0,.slice ah hs0.length ch,.slice an 0 cn] 93 (0,0))):=η (by rw [hwq,hBq];exact row_new _ _)
 have SB2:Hid (B2=w1.heap.size):=η hBq
 go_upto_region 3 with fail
 rw [←hwq,←hBq]
 clear hwq hBq
 have HXP:=η HX1.o.wd_parts
 obtain⟨w3,hw3⟩:∃zq:World,zq=w2.alloc (.cells #[.int .i64 4,.int .i64 0,.slice none 0 0,.int .i64 5,.int .i64 64,.slice (some ⟨BP,0,none⟩) 1 1] 48):=⟨_,rfl⟩
 obtain⟨BL,hBL⟩:∃zq,zq=w2.heap.size:=⟨_,rfl⟩
 have G23:Hid (Grow w2 w3):=η (by rw [hw3];exact(Grow.refl _).alloc _)
 have HL3:Hid (Rcs (wo B2 w3.cell?) (.slice (some ⟨BL,0,none⟩) 2 2) [⟨4,0,[]⟩,⟨5,64,P11⟩]):=η (by
  have h9:=rc_lit2 (c:=wp.cell?) (b:=w2.heap.size) w2 (Nat.le_refl _) HI.o.2.2.2.1 HI.o.1 HI.o.2.2.2.2.1 HI.o.2.2.2.2.2 (Sl.nil _ _) (HPT.o wp (Grow.refl _))
  rw [←hw3,←hBL] at h9
  exact h9.wo (by decide) (by have:=(γ R2.o);omega) ((wo_lt (Sub.refl _) (by rw [SB2.o];exact HB1.o.size)).trans (wo_mono (HB1.o.trans (G12.o.trans G23.o)).sub)))
 have R23:=η (row_grow R2.o G23.o)
 go_wp2_with fail
 rw [←hw3,←hBL]
 clear hw3 hBL
 refine(ref_head (c:=wo B2 w3.cell?) w3 (wo_sub _ _) HL3.o (by decide)).mono ?_
 rintro e w4 ⟨v4,rfl,hx4,hb4⟩
 rw [F.o.e1] at hx4
 obtain⟨al1,cl1,ao1,co1,rfl⟩:=hx4.hd_form
 have HX4:=η hx4
 have HB4:=η hb4
 have R24:=η (row_grow R23.o hb4)
 clear hx4 hb4
 go_wp2_with (first|(refine wpList_store_part rfl (.tmp 17) (.tmp 16) (new:=#[.slice al1 hd1.log.length cl1,.int .i64 hd1.boot,.int .i64 hd1.next,.slice ao1 hd1.opn.length co1,.slice ah hs0.length ch,.slice an 0 cn]) rfl rfl rfl R24.o info_hd (by simp) (by rfl) (by rfl) ?_))
 intro w5 r5 g5
 have R5:=η r5
 have HX5:Hid (Of Ty.wd w5.cell? (.agg #[.slice al1 hd1.log.length cl1,.int .i64 hd1.boot,.int .i64 hd1.next,.slice ao1 hd1.opn.length co1,.slice ah hs0.length ch,.slice an 0 cn]) ⟨hd1,hs0,[]⟩):=η (Of.wd_mk (HX4.o.mono (ovwo_box (γ R23.o) HB4.o g5)) (HXP.o.2.1.mono (sub_box (by rw [SB2.o];exact Nat.le_refl _) (G12.o.trans (G23.o.trans HB4.o)) g5)) (HXP.o.2.2.mono (sub_box (by rw [SB2.o];exact Nat.le_refl _) (G12.o.trans (G23.o.trans HB4.o)) g5)))
 have GP5:Hid (Grow wp w5):=η ((HB1.o.trans (G12.o.trans (G23.o.trans HB4.o))).grown g5 (fun q hq=>by have:=Option.some.inj hq;rw [SB2.o] at this;have:=HB1.o.size;omega))
 clear r5 g5 HX4 HXP R24 R23 R2
 obtain⟨p0,p1,p2,p3,p4,p5⟩:=cells6 R5.o
 have z2:B2<w5.heap.size:=(γ R5.o)
 obtain⟨w6,hwq⟩:∃zq:World,zq=w5.alloc (.cells #[.slice al1 hd1.log.length cl1,.int .i64 hd1.boot,.int .i64 hd1.next,.slice ao1 hd1.opn.length co1,.slice ah hs0.length ch,.slice an 0 cn] 93):=⟨_,rfl⟩
 obtain⟨B4,hBq⟩:∃zq,zq=w5.heap.size:=⟨_,rfl⟩
 have G56:Hid (Grow w5 w6):=η (by rw [hwq];exact(Grow.refl _).alloc _)
 have R6:Hid (w6.heap[B4]? =some (.cells #[.slice al1 hd1.log.length cl1,.int .i64 hd1.boot,.int .i64 hd1.next,.slice ao1 hd1.opn.length co1,.slice ah hs0.length ch,.slice an 0 cn] 93 (0,0))):=η (by rw [hwq,hBq];exact row_new _ _)
 have SB4:Hid (B4=w5.heap.size):=η hBq
 go_upto_region 5 with fail
 rw [←hwq,←hBq]
 clear hwq hBq p0 p1 p2 p3 p4 p5 z2
 have R26:=η (row_grow R5.o G56.o)
 obtain⟨w7,hw7⟩:∃zq:World,zq=w6.alloc (.cells #[.int .i64 1,.int .i64 64,.slice (some ⟨BP,0,none⟩) 1 1,.int .i64 2,.int .i64 64,.slice none 0 0] 48):=⟨_,rfl⟩
 obtain⟨BM,hBM⟩:∃zq,zq=w6.heap.size:=⟨_,rfl⟩
 have G67:Hid (Grow w6 w7):=η (by rw [hw7];exact(Grow.refl _).alloc _)
 have HL7:Hid (Rcs (wo B4 w7.cell?) (.slice (some ⟨BM,0,none⟩) 2 2) [⟨1,64,P11⟩,⟨2,64,[]⟩]):=η (by
  have h9:=rc_lit2 (c:=wp.cell?) (b:=w6.heap.size) w6 (Nat.le_refl _) HI.o.2.1 HI.o.2.2.2.2.2 HI.o.2.2.1 HI.o.2.2.2.2.2 (HPT.o wp (Grow.refl _)) (Sl.nil _ _)
  rw [←hw7,←hBM] at h9
  exact h9.wo (by decide) (by have:=(γ R6.o);omega) ((wo_lt (Sub.refl _) (by rw [SB4.o];exact GP5.o.size)).trans (wo_mono (GP5.o.trans (G56.o.trans G67.o)).sub)))
 have R67:=η (row_grow R6.o G67.o)
 have HKY:Hid (∀r∈([⟨1,64,P11⟩,⟨2,64,[]⟩]:List Rc),KeysOk r.parts):=η (by
  intro r hr
  simp only [List.mem_cons,List.not_mem_nil,or_false] at hr
  rcases hr with rfl|rfl
  ·intro p hp
   obtain rfl:=List.mem_singleton.1 hp
   decide
  ·intro p hp;cases hp)
 go_wp2_with fail
 rw [←hw7,←hBM]
 clear hw7 hBM
 refine(ref_house_c (c:=wo B4 w7.cell?) w7 (wo_sub _ _) HL7.o HKY.o (by decide)).mono ?_
 rintro e w8 ⟨v8,rfl,hx8,hb8⟩
 rw [F.o.eh] at hx8
 obtain⟨il,jl,ir,jr,id9,jd,rfl⟩:=hx8.hs_form
 have HX8:=η hx8
 have HB8:=η hb8
 have R68:=η (row_grow R67.o hb8)
 clear hx8 hb8
 obtain⟨w9,hw9⟩:∃zq:World,zq=w8.alloc (.cells #[.slice il h1.log.length jl,.int .i64 h1.sums.a,.int .i64 h1.sums.b,.int .i64 h1.sums.c,.int .i64 h1.sums.d,.slice ir h1.ready.length jr,.slice id9 h1.done.length jd] 29):=⟨_,rfl⟩
 obtain⟨BH,hBH⟩:∃zq,zq=w8.heap.size:=⟨_,rfl⟩
 have G89:Hid (Grow w8 w9):=η (by rw [hw9];exact(Grow.refl _).alloc _)
 have HH9:Hid (OwnC Ty.hs (ov (wo B4 w7.cell?) w7 w8) w9 w8.heap.size 29 (.slice (some ⟨BH,0,none⟩) 1 1) [h1]):=η (by
  obtain⟨cs8,he8,hR8⟩:=HX8.o
  rw [hw9,hBH]
  refine OwnC.lit w8 [cs8] rfl rfl (Nat.le_refl _) (by show 1≤maxLen;decide) ?_ ⟨hR8,trivial⟩
  have:=congrArg (fun v=>match v with| .agg cs=>cs.toList|_=>[]) he8
  simpa using this)
 have R69:=η (row_grow R68.o G89.o)
 have HW9:=η hw9
 have HBH:=η hBH
 clear hw9 hBH
 go_wp2_with (first|(rw [←HW9.o,←HBH.o];refine wpList_store_cell rfl (.tmp 25) (.tmp 24) (v:=.slice (some ⟨BH,0,none⟩) 1 1) (new:=#[.slice al1 hd1.log.length cl1,.int .i64 hd1.boot,.int .i64 hd1.next,.slice ao1 hd1.opn.length co1,.slice (some ⟨BH,0,none⟩) 1 1,.slice an 0 cn]) rfl rfl (by rfl) (by rfl) R69.o info_hss (by simp) (by rfl) (by rfl) ?_))
 intro w10 r10 g10
 have R10:=η r10
 have SB4S:Hid (w5.heap.size=B4∧B4<w7.heap.size):=η ⟨SB4.o.symm,(γ R67.o)⟩
 have HX10:Hid (Of Ty.wd w10.cell? (.agg #[.slice al1 hd1.log.length cl1,.int .i64 hd1.boot,.int .i64 hd1.next,.slice ao1 hd1.opn.length co1,.slice (some ⟨BH,0,none⟩) 1 1,.slice an 0 cn]) ⟨hd1,[h1],[]⟩):=η (by
  have e5:=(HX5.o.mono (sub_box (by rw [SB4.o];exact Nat.le_refl _) (G56.o.trans (G67.o.trans (HB8.o.trans G89.o))) g10)).wd_parts
  have hb:=(γ R67.o)
  have hs8:=HB8.o.size
  refine Of.wd_mk e5.1 (((HH9.o.mono ((ov_mono (Sub.refl _) G89.o).trans (ovwo_box hb (HB8.o.trans G89.o) g10))).kept g10 (.inr (fun e=>?_))).sl (by decide) (Sub.refl _)) e5.2.2
  have h9:=(HH9.o.lt BH rfl).1
  have e2:BH=B4:=Option.some.inj e
  omega)
 have R210:=η (row_by (row_grow R26.o (G67.o.trans (HB8.o.trans G89.o))) g10 (fun e=>by have:=Option.some.inj e;have h9:=(γ R5.o);have:=SB4.o;omega))
 have HX210:=η (HX5.o.mono (sub_box (by rw [SB4.o];exact Nat.le_refl _) (G56.o.trans (G67.o.trans (HB8.o.trans G89.o))) g10))
 have GW10:Hid (Grow w w10):=η ((GP.o.trans (GP5.o.trans (G56.o.trans (G67.o.trans (HB8.o.trans G89.o))))).grown g10 (fun q hq=>by have:=Option.some.inj hq;have:=GP.o.size;have:=GP5.o.size;have:=SB4.o;omega))
 clear r10 g10 HW9 HBH
 obtain⟨p0,p1,p2,p3,p4,p5⟩:=cells6 R10.o
 have z2:B4<w10.heap.size:=(γ R10.o)
 obtain⟨w11,hwq⟩:∃zq:World,zq=w10.alloc (.cells #[.slice al1 hd1.log.length cl1,.int .i64 hd1.boot,.int .i64 hd1.next,.slice ao1 hd1.opn.length co1,.slice (some ⟨BH,0,none⟩) 1 1,.slice an 0 cn] 93):=⟨_,rfl⟩
 obtain⟨B5,hBq⟩:∃zq,zq=w10.heap.size:=⟨_,rfl⟩
 have G1011:Hid (Grow w10 w11):=η (by rw [hwq];exact(Grow.refl _).alloc _)
 have R11:Hid (w11.heap[B5]? =some (.cells #[.slice al1 hd1.log.length cl1,.int .i64 hd1.boot,.int .i64 hd1.next,.slice ao1 hd1.opn.length co1,.slice (some ⟨BH,0,none⟩) 1 1,.slice an 0 cn] 93 (0,0))):=η (by rw [hwq,hBq];exact row_new _ _)
 have SB5:Hid (B5=w10.heap.size):=η hBq
 go_upto_region 7 with fail
 rw [←hwq,←hBq]
 clear hwq hBq p0 p1 p2 p3 p4 p5 z2
 obtain⟨w12,hw12⟩:∃zq:World,zq=w11.alloc (.cells #[.int .i64 4,.int .i64 0,.slice none 0 0] 48):=⟨_,rfl⟩
 obtain⟨BN,hBN⟩:∃zq,zq=w11.heap.size:=⟨_,rfl⟩
 have G1112:Hid (Grow w11 w12):=η (by rw [hw12];exact(Grow.refl _).alloc _)
 have HL12:Hid (Rcs (wo B5 w12.cell?) (.slice (some ⟨BN,0,none⟩) 1 1) [⟨4,0,[]⟩]):=η (by
  have h9:=one_boot (c:=fun _=>none) (b:=w11.heap.size) w11 (Nat.le_refl _)
  rw [←hw12,←hBN] at h9
  exact h9.wo (by decide) (by have:=(γ R11.o);omega) (fun _ _ e=>by cases e))
 have R1112:=η (row_grow R11.o G1112.o)
 go_wp2_with fail
 rw [←hw12,←hBN]
 clear hw12 hBN
 refine(ref_head (c:=wo B5 w12.cell?) w12 (wo_sub _ _) HL12.o (by decide)).mono ?_
 rintro e w13 ⟨v13,rfl,hx13,hb13⟩
 rw [F.o.e0] at hx13
 obtain⟨al7,cl7,ao7,co7,rfl⟩:=hx13.hd_form
 have HX13:=η hx13
 have HB13:=η hb13
 have R1113:=η (row_grow R1112.o hb13)
 clear hx13 hb13
 go_wp2_with (first|(refine wpList_store_part rfl (.tmp 30) (.tmp 29) (new:=#[.slice al7 hd0.log.length cl7,.int .i64 hd0.boot,.int .i64 hd0.next,.slice ao7 hd0.opn.length co7,.slice (some ⟨BH,0,none⟩) 1 1,.slice an 0 cn]) rfl rfl rfl R1113.o info_hd (by simp) (by rfl) (by rfl) ?_))
 intro w14 r14 g14
 have R14:=η r14
 have hsb:Sub w10.cell? w14.cell?:=sub_box (by rw [SB5.o];exact Nat.le_refl _) (G1011.o.trans (G1112.o.trans HB13.o)) g14
 have HX14:Hid (Of Ty.wd w14.cell? (.agg #[.slice al7 hd0.log.length cl7,.int .i64 hd0.boot,.int .i64 hd0.next,.slice ao7 hd0.opn.length co7,.slice (some ⟨BH,0,none⟩) 1 1,.slice an 0 cn]) ⟨hd0,[h1],[]⟩):=η (by
  have e5:=(HX10.o.mono hsb).wd_parts
  exact Of.wd_mk (HX13.o.mono (ovwo_box (γ R1112.o) HB13.o g14)) e5.2.1 e5.2.2)
 have HXX:=η (HX10.o.mono hsb)
 have HXW:=η (HX210.o.mono hsb)
 have G1013:=η (G1011.o.trans (G1112.o.trans HB13.o))
 have RX:=η (row_by (row_grow R10.o G1013.o) g14 (fun e=>by have:=Option.some.inj e;have h9:=(γ R10.o);have:=SB5.o;omega))
 have RW9:=η (row_by (row_grow R210.o G1013.o) g14 (fun e=>by have:=Option.some.inj e;have h9:=(γ R210.o);have:=SB5.o;omega))
 have GW14:Hid (Grow w w14):=η ((GW10.o.trans G1013.o).grown g14 (fun q hq=>by have:=Option.some.inj hq;have:=GW10.o.size;have:=SB5.o;omega))
 clear r14 g14 hsb HX13 HX10 HX210 R1113 R1112 R11
 obtain⟨m0,m1,m2,m3,m4,m5⟩:=cells6 RW9.o
 have zm:B2<w14.heap.size:=(γ RW9.o)
 obtain⟨p0,p1,p2,p3,p4,p5⟩:=cells6 RX.o
 have zp:B4<w14.heap.size:=(γ RX.o)
 obtain⟨q0,q1,q2,q3,q4,q5⟩:=cells6 R14.o
 have zq:B5<w14.heap.size:=(γ R14.o)
 go_wp2_with fail
 refine(look_whole w14 (HXW.o) (by have:=F.o.l0;first|(show hs0.length≤3;omega)|(show 1≤3;decide)) F.o.g1.1 (fun r hr=>by have:=F.o.g1.2 r hr;omega) F.o.d1).mono ?_
 rintro e w15 ⟨b,rfl,hbb,hbk⟩
 obtain rfl:b=true:=hbb.2 F.o.a1
 clear hbb
 clear m0 m1 m2 m3 m4 m5 p0 p1 p2 p3 p4 p5 q0 q1 q2 q3 q4 q5 zm zp zq
 have GK:=η hbk
 clear hbk
 obtain⟨m0,m1,m2,m3,m4,m5⟩:=cells6 (row_grow RW9.o GK.o)
 have zm:B2<w15.heap.size:=(Array.getElem?_eq_some_iff.1 (row_grow RW9.o GK.o)).1
 obtain⟨p0,p1,p2,p3,p4,p5⟩:=cells6 (row_grow RX.o GK.o)
 have zp:B4<w15.heap.size:=(Array.getElem?_eq_some_iff.1 (row_grow RX.o GK.o)).1
 obtain⟨q0,q1,q2,q3,q4,q5⟩:=cells6 (row_grow R14.o GK.o)
 have zq:B5<w15.heap.size:=(Array.getElem?_eq_some_iff.1 (row_grow R14.o GK.o)).1
 go_wp2_with fail
 refine(look_even w15 (HXW.o.mono GK.o.sub) (by have:=F.o.l0;first|(show 1≤hs0.length∧hs0.length≤3;omega)|(show 1≤1∧1≤3;decide)) F.o.g1.1 (fun r hr=>by have:=F.o.g1.2 r hr;omega) (fun r hr=>by have h9:=F.o.w1 r hr;have:=F.o.l0;first|(show wrongE r.parts (hs0.length:Nat)=0;rw [this];exact h9)|exact h9)).mono ?_
 rintro e w16 ⟨rfl,hbk⟩
 rw [F.o.a2]
 clear m0 m1 m2 m3 m4 m5 p0 p1 p2 p3 p4 p5 q0 q1 q2 q3 q4 q5 zm zp zq
 have GK2:=η (GK.o.trans hbk)
 clear GK
 have GK:=η GK2.o
 clear GK2
 clear hbk
 obtain⟨m0,m1,m2,m3,m4,m5⟩:=cells6 (row_grow RW9.o GK.o)
 have zm:B2<w16.heap.size:=(Array.getElem?_eq_some_iff.1 (row_grow RW9.o GK.o)).1
 obtain⟨p0,p1,p2,p3,p4,p5⟩:=cells6 (row_grow RX.o GK.o)
 have zp:B4<w16.heap.size:=(Array.getElem?_eq_some_iff.1 (row_grow RX.o GK.o)).1
 obtain⟨q0,q1,q2,q3,q4,q5⟩:=cells6 (row_grow R14.o GK.o)
 have zq:B5<w16.heap.size:=(Array.getElem?_eq_some_iff.1 (row_grow R14.o GK.o)).1
 go_wp2_with fail
 refine(look_openX w16 (HXW.o.mono GK.o.sub) F.o.a3).mono ?_
 rintro e w17 ⟨v17,rfl,ho,hbk⟩
 obtain⟨ao179,co179,rfl⟩:=ho.form
 clear ho
 simp only [List.length_nil,List.length_cons,Nat.zero_add]
 clear m0 m1 m2 m3 m4 m5 p0 p1 p2 p3 p4 p5 q0 q1 q2 q3 q4 q5 zm zp zq
 have GK2:=η (GK.o.trans hbk)
 clear GK
 have GK:=η GK2.o
 clear GK2
 clear hbk
 obtain⟨m0,m1,m2,m3,m4,m5⟩:=cells6 (row_grow RW9.o GK.o)
 have zm:B2<w17.heap.size:=(Array.getElem?_eq_some_iff.1 (row_grow RW9.o GK.o)).1
 obtain⟨p0,p1,p2,p3,p4,p5⟩:=cells6 (row_grow RX.o GK.o)
 have zp:B4<w17.heap.size:=(Array.getElem?_eq_some_iff.1 (row_grow RX.o GK.o)).1
 obtain⟨q0,q1,q2,q3,q4,q5⟩:=cells6 (row_grow R14.o GK.o)
 have zq:B5<w17.heap.size:=(Array.getElem?_eq_some_iff.1 (row_grow R14.o GK.o)).1
 go_wp2_with fail
 refine(look_whole w17 (HXX.o.mono GK.o.sub) (by have:=F.o.l0;first|(show hs0.length≤3;omega)|(show 1≤3;decide)) F.o.g1.1 (fun r hr=>by have:=F.o.g1.2 r hr;omega) F.o.d1).mono ?_
 rintro e w18 ⟨b,rfl,hbb,hbk⟩
 obtain rfl:b=true:=hbb.2 F.o.a4
 clear hbb
 clear m0 m1 m2 m3 m4 m5 p0 p1 p2 p3 p4 p5 q0 q1 q2 q3 q4 q5 zm zp zq
 have GK2:=η (GK.o.trans hbk)
 clear GK
 have GK:=η GK2.o
 clear GK2
 clear hbk
 obtain⟨m0,m1,m2,m3,m4,m5⟩:=cells6 (row_grow RW9.o GK.o)
 have zm:B2<w18.heap.size:=(Array.getElem?_eq_some_iff.1 (row_grow RW9.o GK.o)).1
 obtain⟨p0,p1,p2,p3,p4,p5⟩:=cells6 (row_grow RX.o GK.o)
 have zp:B4<w18.heap.size:=(Array.getElem?_eq_some_iff.1 (row_grow RX.o GK.o)).1
 obtain⟨q0,q1,q2,q3,q4,q5⟩:=cells6 (row_grow R14.o GK.o)
 have zq:B5<w18.heap.size:=(Array.getElem?_eq_some_iff.1 (row_grow R14.o GK.o)).1
 go_wp2_with fail
 refine(look_even w18 (HXX.o.mono GK.o.sub) (by have:=F.o.l0;first|(show 1≤hs0.length∧hs0.length≤3;omega)|(show 1≤1∧1≤3;decide)) F.o.g1.1 (fun r hr=>by have:=F.o.g1.2 r hr;omega) (fun r hr=>by have h9:=F.o.w1 r hr;have:=F.o.l0;first|(show wrongE r.parts (hs0.length:Nat)=0;rw [this];exact h9)|exact h9)).mono ?_
 rintro e w19 ⟨rfl,hbk⟩
 rw [F.o.a5]
 clear m0 m1 m2 m3 m4 m5 p0 p1 p2 p3 p4 p5 q0 q1 q2 q3 q4 q5 zm zp zq
 have GK2:=η (GK.o.trans hbk)
 clear GK
 have GK:=η GK2.o
 clear GK2
 clear hbk
 obtain⟨m0,m1,m2,m3,m4,m5⟩:=cells6 (row_grow RW9.o GK.o)
 have zm:B2<w19.heap.size:=(Array.getElem?_eq_some_iff.1 (row_grow RW9.o GK.o)).1
 obtain⟨p0,p1,p2,p3,p4,p5⟩:=cells6 (row_grow RX.o GK.o)
 have zp:B4<w19.heap.size:=(Array.getElem?_eq_some_iff.1 (row_grow RX.o GK.o)).1
 obtain⟨q0,q1,q2,q3,q4,q5⟩:=cells6 (row_grow R14.o GK.o)
 have zq:B5<w19.heap.size:=(Array.getElem?_eq_some_iff.1 (row_grow R14.o GK.o)).1
 go_wp2_with fail
 refine(look_openX w19 (HXX.o.mono GK.o.sub) F.o.a6).mono ?_
 rintro e w20 ⟨v20,rfl,ho,hbk⟩
 obtain⟨ao209,co209,rfl⟩:=ho.form
 clear ho
 simp only [List.length_nil]
 clear m0 m1 m2 m3 m4 m5 p0 p1 p2 p3 p4 p5 q0 q1 q2 q3 q4 q5 zm zp zq
 have GK2:=η (GK.o.trans hbk)
 clear GK
 have GK:=η GK2.o
 clear GK2
 clear hbk
 obtain⟨m0,m1,m2,m3,m4,m5⟩:=cells6 (row_grow RW9.o GK.o)
 have zm:B2<w20.heap.size:=(Array.getElem?_eq_some_iff.1 (row_grow RW9.o GK.o)).1
 obtain⟨p0,p1,p2,p3,p4,p5⟩:=cells6 (row_grow RX.o GK.o)
 have zp:B4<w20.heap.size:=(Array.getElem?_eq_some_iff.1 (row_grow RX.o GK.o)).1
 obtain⟨q0,q1,q2,q3,q4,q5⟩:=cells6 (row_grow R14.o GK.o)
 have zq:B5<w20.heap.size:=(Array.getElem?_eq_some_iff.1 (row_grow R14.o GK.o)).1
 go_wp2_with fail
 refine(look_whole w20 (HX14.o.mono GK.o.sub) (by have:=F.o.l0;first|(show hs0.length≤3;omega)|(show 1≤3;decide)) F.o.g0.1 (fun r hr=>by have:=F.o.g0.2 r hr;omega) F.o.d0).mono ?_
 rintro e w21 ⟨b,rfl,hbb,hbk⟩
 obtain rfl:b=false:=by cases b with|false=>rfl|true=>exact absurd (hbb.1 rfl) F.o.a7
 clear hbb
 clear m0 m1 m2 m3 m4 m5 p0 p1 p2 p3 p4 p5 q0 q1 q2 q3 q4 q5 zm zp zq
 have GK2:=η (GK.o.trans hbk)
 clear GK
 have GK:=η GK2.o
 clear GK2
 clear hbk
 obtain⟨m0,m1,m2,m3,m4,m5⟩:=cells6 (row_grow RW9.o GK.o)
 have zm:B2<w21.heap.size:=(Array.getElem?_eq_some_iff.1 (row_grow RW9.o GK.o)).1
 obtain⟨p0,p1,p2,p3,p4,p5⟩:=cells6 (row_grow RX.o GK.o)
 have zp:B4<w21.heap.size:=(Array.getElem?_eq_some_iff.1 (row_grow RX.o GK.o)).1
 obtain⟨q0,q1,q2,q3,q4,q5⟩:=cells6 (row_grow R14.o GK.o)
 have zq:B5<w21.heap.size:=(Array.getElem?_eq_some_iff.1 (row_grow R14.o GK.o)).1
 go_wp2_with fail
 refine(look_sums w21 (HXX.o.mono GK.o.sub) (by show 1≤3;decide)).mono ?_
 rintro e w22 ⟨v22,rfl,ho,hbk⟩
 obtain⟨ao9,co9,rfl⟩:=ho.form
 obtain⟨gs,css,rfl,⟨rfl,-⟩,hAs⟩:=ho.get (by decide) 0 (by show 0<1;decide)
 have hs7:w22.cell? ⟨gs,0,none⟩=some (.int .i64 7):=by
  have h9:=hAs 0 _ rfl
  simp only [Nat.zero_mul,Nat.add_zero] at h9
  rw [h9]
  show some (Value.int .i64 h1.sums.a)=_
  rw [F.o.a8]
 have hls:(([h1]:List Hs).map (·.sums)).length=1:=rfl
 simp only [List.map_cons,List.map_nil,List.length_cons,List.length_nil,Nat.zero_add]
 clear ho hAs hls
 clear m0 m1 m2 m3 m4 m5 p0 p1 p2 p3 p4 p5 q0 q1 q2 q3 q4 q5 zm zp zq
 have GK2:=η (GK.o.trans hbk)
 clear GK
 have GK:=η GK2.o
 clear GK2
 clear hbk
 go_wp2
 go_ret
 exact⟨rfl,GW14.o.trans GK.o⟩
end Go.Proofs.Ytgbhpghgohggcaa
