/- The parts that laws are proved of, joined: U24. No condition beside those that each theorem names. -/
import Derived.Deep.DeepCutAuto
import Derived.Test.YtgbhpghgohggcaaJS1d
namespace Go.Proofs.Ytgbhpghgohggcaa
open Go.RowKit
set_option maxRecDepth 100000 in
set_option maxHeartbeats 8000000 in
theorem ref_headHear {c:CM} {v vm:Value} {h:Hd} {m:Ms} (w:World) (hc:Sub c w.cell?) (hv:Of Ty.hd c v h) (hm:Of Ty.ms c vm m) (hk:HdOk h):
  Calls Try.prog 113 #[v,vm] w fun e w'=>∃v1 v2,e=.returned (.tuple #[v1,v2])∧Of Ty.hd (ov c w w') v1 (hHearH h m)∧Sl Ty.ms (ov c w w') v2 (hHearM h m)∧Grow w w':=by
 obtain⟨al,cl,ar,cr,rfl⟩:=hv.hd_form
 have HMI:Hid (I64 m.kind∧I64 m.deed∧I64 m.house):=η (by obtain⟨cs,he,vp,rfl,i0,i1,i2,-⟩:=hm;exact⟨i0,i1,i2⟩)
 obtain⟨ap,cp,rfl⟩:=hm.ms_form
 have HLG:=η (Of.hd_log hv).1
 have HIB:Hid (I64 h.boot∧I64 h.next):=η (by obtain⟨cs,he,_,_,rfl,_,h1,h2,_⟩:=hv;exact⟨h1,h2⟩)
 obtain⟨ar',cr',he,h1,h2,-,hel⟩:=(Of.hd_log hv).2
 obtain⟨rfl,rfl⟩:ar=ar'∧cr=cr':=by simpa using he
 unfold maxLen at h2
 have HOP:=η hk.parts
 have HHE:=η hk.heard
 have h12:=hk.opn
 have HLL:=η hk.log
 have HC:=η hc
 clear hk he hv hm hc
 obtain⟨wa,hwa⟩:∃y:World,y=w.alloc (.cells #[.slice al h.log.length cl,.int .i64 h.boot,.int .i64 h.next,.slice ar h.opn.length cr] 57):=⟨_,rfl⟩
 obtain⟨wb,hwb⟩:∃y:World,y=wa.alloc (.cells #[.int .i64 m.kind,.int .i64 m.deed,.int .i64 m.house,.slice ap m.parts.length cp] 39):=⟨_,rfl⟩
 obtain⟨wq,hwq⟩:∃y:World,y=wb.alloc (.cells #[.slice none 0 0,.int .i64 0,.int .i64 0,.slice none 0 0] 57):=⟨_,rfl⟩
 obtain⟨wz,hwz⟩:∃y:World,y=wq.alloc (.cells #[.slice al h.log.length cl,.int .i64 h.boot,.int .i64 h.next,.slice none 0 0] 57):=⟨_,rfl⟩
 have hsa:wa.heap.size=w.heap.size+1:=by rw [hwa];simp
 have hsb:wb.heap.size=w.heap.size+2:=by rw [hwb];simp [hsa]
 have hsq:wq.heap.size=w.heap.size+3:=by rw [hwq];simp [hsb]
 have RQ:Hid (wq.heap[w.heap.size]? =some (.cells #[.slice al h.log.length cl,.int .i64 h.boot,.int .i64 h.next,.slice ar h.opn.length cr] 57 (0,0))):=η (by rw [hwq,hwb,hwa];exact heap_later (heap_later (row_new _ _) _) _)
 have R1:Hid (wz.heap[w.heap.size]? =some (.cells #[.slice al h.log.length cl,.int .i64 h.boot,.int .i64 h.next,.slice ar h.opn.length cr] 57 (0,0))):=η (by rw [hwz];exact heap_later RQ.o _)
 have R2:Hid (wz.heap[w.heap.size+1]? =some (.cells #[.int .i64 m.kind,.int .i64 m.deed,.int .i64 m.house,.slice ap m.parts.length cp] 39 (0,0))):=η (by rw [hwz,hwq,hwb,←hsa];exact heap_later (heap_later (row_new _ _) _) _)
 have R3:Hid (wz.heap[w.heap.size+2]? =some (.cells #[.slice none 0 0,.int .i64 0,.int .i64 0,.slice none 0 0] 57 (0,0))):=η (by rw [hwz,hwq,←hsb];exact heap_later (row_new _ _) _)
 have R4:Hid (wz.heap[w.heap.size+3]? =some (.cells #[.slice al h.log.length cl,.int .i64 h.boot,.int .i64 h.next,.slice none 0 0] 57 (0,0))):=η (by rw [hwz,←hsq];exact row_new _ _)
 have G1:Hid (Grow w wz):=η (by rw [hwz,hwq,hwb,hwa];exact((((Grow.refl w).alloc _).alloc _).alloc _).alloc _)
 have HZ:Hid (wz.heap.size=w.heap.size+4):=η (by rw [hwz];simp [hsq])
 have HWZ:=η hwz
 have HSQ:=η hsq
 clear hwz hsq
 go_enter Try.func113,Try.ntmps113
 go_upto_region 1 with fail
 rw [←hwa]
 try rw [hsa]
 rw [←hwb]
 try rw [hsb]
 rw [←hwq]
 clear hwa hwb hwq hsa hsb
 obtain⟨c0,c1,c2,c3⟩:=cells4 RQ.o
 have z0:w.heap.size<wq.heap.size:=(γ RQ.o)
 go_upto_region 2 with fail
 rw [←HWZ.o]
 try rw [HSQ.o]
 clear HWZ HSQ c0 c1 c2 c3 z0 RQ
 obtain⟨c0,c1,c2,c3⟩:=cells4 R1.o
 have z0:w.heap.size<wz.heap.size:=(γ R1.o)
 go_wp2
 clear c0 c1 c2 c3 z0
 go_loopw [7,8,24] (fun s7 s8 i wr=>∃(k:Nat) (vl vo:Value),k≤h.opn.length∧i=.int .i64 k∧s8=.bool (hgo m (h.opn.take k)).known∧QBox c w wz wr h (hgo m (h.opn.take k)) vl vo s7) (fun _ _ i _=>h.opn.length - (intOf i).toNat)
 case atStart=>exact⟨0,_,_,by omega,rfl,rfl,⟨R4.o,by simpa [hgo] using HLG.o.mono (fc_in (HC.o.trans G1.o.sub)),OwnC.nil _ _ _ _ _,Sl.nil _ _,fun _ _=>rfl,G1.o,HZ.o⟩⟩
 case round=>
  obtain⟨k,vl,vo,hk',rfl,h8,hbx⟩:=hrel
  by_cases hlt:k<h.opn.length
  ·have HNX:=η (hgo_next m hlt)
   have HFR:Hid ((hgo m (h.opn.take k)).known=false→(hgo m (h.opn.take k)).recs=[]∧(hgo m (h.opn.take k)).says=[]):=η (hgo_fresh m (h.opn.take k) ⟨[],[],[],false⟩ (fun _=>⟨rfl,rfl⟩))
   have HSL:Hid ((hgo m (h.opn.take k)).opn.length≤12):=η (by have h9:=hgo_len m (h.opn.take k) ⟨[],[],[],false⟩;rw [List.length_take] at h9;unfold hgo;simp at h9;omega)
   obtain⟨b,o,vp,vh,rfl,c0,c1,c2,c3,i0,hP,hH⟩:=Opns.at_ hel k hlt
   obtain⟨ap2,cp2,rfl,-⟩:=id hP
   obtain⟨ah,ch,rfl,-⟩:=id hH
   have HEL:=η (And.intro i0 (And.intro hP hH))
   have HPL:=η (HOP.o _ (List.getElem_mem hlt))
   have HHL:=η (HHE.o _ (List.getElem_mem hlt))
   replace c0:=hbx.grow.sub _ _ (HC.o _ _ c0)
   replace c1:=hbx.grow.sub _ _ (HC.o _ _ c1)
   replace c2:=hbx.grow.sub _ _ (HC.o _ _ c2)
   replace c3:=hbx.grow.sub _ _ (HC.o _ _ c3)
   clear hel hP hH i0
   generalize h.opn[k]=q at*
   generalize hgo m (h.opn.take k)=s at*
   obtain⟨so,sr,ss,sk⟩:=s
   have h8':_=Value.bool sk:=h8
   subst h8'
   have hopn:=hbx.opn
   have hsays:=hbx.says
   have hlog:=hbx.log
   dsimp only at hopn hsays hlog
   obtain⟨ao,co,rfl⟩:=hopn.form
   obtain⟨av,cv,rfl,-⟩:=id hsays
   obtain⟨alx,clx,rfl,-⟩:=id hlog
   clear h8 hopn hsays hlog
   generalize (h.log++sr).length=nl at*
   have HFR2:Hid (sk=false→sr=[]∧ss=[]):=η HFR.o
   have HSL2:Hid (so.length≤12):=η HSL.o
   clear HFR HSL
   have HSL:=η HSL2.o
   clear HSL2
   obtain⟨wo,hwo⟩:∃y:World,y=wr.alloc (.cells #[.int .i64 q.deed,.slice ap2 q.parts.length cp2,.bool q.dec,.slice ah q.heard.length ch] 136):=⟨_,rfl⟩
   have GO:Hid (Grow wr wo):=η (by rw [hwo];exact(Grow.refl _).alloc _)
   have HBO:=η (hbx.later GO.o)
   have HBR:=η hbx
   obtain⟨BO,hBO⟩:∃y,y=wr.heap.size:=⟨_,rfl⟩
   have RO:Hid (wo.heap[BO]? =some (.cells #[.int .i64 q.deed,.slice ap2 q.parts.length cp2,.bool q.dec,.slice ah q.heard.length ch] 136 (0,0))):=η (by rw [hwo,hBO];exact row_new _ _)
   have HBB:Hid (BO=wr.heap.size):=η hBO
   go_upto_region 7 with fail
   rw [←hwo,←hBO]
   clear hwo hBO c0 c1 c2 c3 hbx
   obtain⟨e0,e1,e2,e3⟩:=cells4 RO.o
   have zO:BO<wo.heap.size:=(γ RO.o)
   have RA9:=η ((HBO.o.old 0 (by omega)).trans R1.o)
   have RB9:=η ((HBO.o.old 1 (by omega)).trans R2.o)
   obtain⟨y0,y1,y2,y3⟩:=cells4 RA9.o
   obtain⟨d0,d1,d2,d3⟩:=cells4 RB9.o
   obtain⟨x0,x1,x2,x3⟩:=cells4 HBO.o.row
   have zz:=HBO.o.size
   have zA:w.heap.size<wo.heap.size:=by omega
   have zB:w.heap.size+1<wo.heap.size:=by omega
   have zX:w.heap.size+3<wo.heap.size:=by omega
   by_cases hd:q.deed=m.deed
   ·have hdb:(q.deed !=m.deed)=false:=by simp [hd]
    cases sk with
    |true=>
     have HST:Hid (hgoStep m ⟨so,sr,ss,true⟩ q=⟨so++ [q],sr,ss,true⟩):=η (hgo_past (fun h=>by have:=h.2;simp at this))
     clear hd
     go_wp2_with (first|(at_builtin;refine wpList_appc (c:=fc c wz wo [(Value.slice ao so.length co).ownBlock]) (base:=w.heap.size+4) (l:=so) (m:=[q]) ei_opn rfl one_Topn (by decide) rfl (.tmp 37) (.tmp 39) rfl rfl ?own rfl (Src.of_new (T:=Ty.opn) (x:=q) (cs:=#[.int .i64 q.deed,.slice ap2 q.parts.length cp2,.bool q.dec,.slice ah q.heard.length ch]) ?d0 _ _ ?d1) ?d2 ?d3 ?_))
     case own=>exact OwnC.grow HBO.o.opn ((Grow.refl _).alloc _)
     case d0=>exact⟨_,_,rfl,HEL.o.1,HEL.o.2.1.mono (fc_in (HC.o.trans G1.o.sub)),HEL.o.2.2.mono (fc_in (HC.o.trans G1.o.sub))⟩
     case d1=>first|rfl|simp
     case d2=>have:=HSL.o;simp;omega
     case d3=>have:=HBO.o.size;simp;omega
     intro a9 c9 w9 ho9 hg9 hb9
     have R9:=η (row_by (row_grow HBO.o.row ((Grow.refl _).alloc (.cells #[.int .i64 q.deed,.slice ap2 q.parts.length cp2,.bool q.dec,.slice ah q.heard.length ch] 136))) hg9 (by intro e;have:=(HBO.o.opn.lt _ e.symm).1;omega))
     have HO9:=η ho9
     have HG9:=η hg9
     have HB9:=η hb9
     clear ho9 hg9 hb9
     go_wp2_with (first|(refine wpList_store_cell rfl (.tmp 41) (.tmp 40) (v:=.slice a9 (so.length+1) c9) (new:=#[.slice alx nl clx,.int .i64 h.boot,.int .i64 h.next,.slice a9 (so.length+1) c9]) rfl rfl (by rfl) (by rfl) R9.o info_opns (by simp) (by rfl) (by rfl) ?_))
     intro w10 r10 g10
     have HBN:=η (QBox.app HBO.o q ((Grow.refl _).alloc (.cells #[.int .i64 q.deed,.slice ap2 q.parts.length cp2,.bool q.dec,.slice ah q.heard.length ch] 136)) HG9.o (HB9.o.imp_right fun⟨g,e,hge⟩=>⟨g,e,by simpa using hge⟩) HO9.o g10 r10)
     clear r10 g10
     go_wp2
     go_roundw
     case rel=>exact⟨k+1,_,_,by omega,by go_num,by rw [HNX.o,HST.o],by rw [HNX.o,HST.o];exact HBN.o⟩
     case measure=>simp [intOf];omega
    |false=>
     obtain⟨e1r,e1s⟩:=HFR2.o rfl
     subst e1r
     subst e1s
     have HDD:=η hd
     have HAT:=η (hgo_at (s:=⟨so,[],[],false⟩) hd rfl)
     clear hd HFR2
     have HHO:=η (fun(W:World) (hW:Grow w W)=>ref_houses (v:=.slice ap2 q.parts.length cp2) (l:=q.parts) W (HEL.o.2.1.mono (HC.o.trans hW.sub)) (by have:=HPL.o;omega))
     have HIN:=η (fun(n:Int) (W:World) (hW:Grow w W)=>ref_in (v:=.slice ah q.heard.length ch) (l:=q.heard) (n:=n) W (HEL.o.2.2.mono (HC.o.trans hW.sub)))
     have HHN:=η (houses_short q.parts)
     go_upto_region 10 with fail
     clear e0 e1 e2 e3 zO
     clear y0 y1 y2 y3 d0 d1 d2 d3 x0 x1 x2 x3 zz zA zB zX RA9 RB9
     have HS:Hid (∀W,Grow wo W→W.cell? ⟨BO,1,none⟩=some (.slice ap2 q.parts.length cp2)∧W.cell? ⟨BO,3,none⟩=some (.slice ah q.heard.length ch)∧W.cell? ⟨w.heap.size+1,2,none⟩=some (.int .i64 m.house)):=fun W hW=>by
      obtain⟨-,k1,-,k3⟩:=cells4 (row_grow RO.o hW)
      obtain⟨-,-,j2,-⟩:=cells4 (row_grow ((HBO.o.old 1 (by omega)).trans R2.o) hW)
      exact⟨k1,k3,j2⟩
     obtain⟨tn,htn⟩:∃b:Bool,b=decide (isNew q m):=⟨_,rfl⟩
     have HTN:=η htn
     clear htn
     go_cut [11,158,159,160,161,162,163,164,165,166,167,168,169,170,171,172] from 42 (fun s11 s158 s159 s160 s161 s162 s163 s164 s165 s166 s167 s168 s169 s170 s171 s172 wc=>s11=.bool tn∧(s158=undef∧s159=undef∧s160=undef∧s161=undef∧s162=undef∧s163=undef∧s164=undef∧s165=undef∧s166=undef∧s167=undef∧s168=undef∧s169=undef∧s170=undef∧s171=undef∧s172=undef)∧Grow wo wc)
     case first=>
      by_cases h1:m.house∈housesE q.parts
      ·have HH1:=η h1
       clear h1
       refine but_start (fun w'=>w'.cell? ⟨BO,1,none⟩=some (.slice ap2 q.parts.length cp2)∧w'.cell? ⟨BO,3,none⟩=some (.slice ah q.heard.length ch)∧w'.cell? ⟨w.heap.size+1,2,none⟩=some (.int .i64 m.house)) 14 (by kernel_rfl) ?_
       obtain⟨wd,hWd⟩:∃x:World,x=wo.drew:=⟨_,rfl⟩
       rw [←hWd]
       have GD:Grow wo wd:=by rw [hWd];exact(Grow.refl _).drew
       have zD:wo.heap.size=wd.heap.size:=by rw [hWd];rfl
       have ZD:=η zD
       clear hWd zD
       refine bLm [0] 18 (by kernel_rfl) (fun _ _ _ _ _ h=>h) (HS.o _ GD) ?_
       repeat (refine tNm (v:=?_) rfl (by rfl) ?_ ?_;rotate_left;(· (intro w' hSw;(try dsimp only at hSw);obtain⟨hs0,hs1,hs2⟩:=hSw;go_simp<;>with_reducible rfl));try simp only [Act.put,lzA,lzC,lzD,lzE,lzF])
       refine tEm ?_
       refine bLm [1,3,4] 18 (by kernel_rfl) (fun _ _ _ _ _ h=>h) (HS.o _ GD) ?_
       repeat (refine tNm (v:=?_) rfl (by rfl) ?_ ?_;rotate_left;(· (intro w' hSw;(try dsimp only at hSw);obtain⟨hs0,hs1,hs2⟩:=hSw;go_simp<;>with_reducible rfl));try simp only [Act.put,lzA,lzB,lzC,lzD,lzE,lzF])
       refine tEm ?_
       refine bO 2 (by kernel_rfl) rfl ?_
       intro K HK
       try simp only [lzA,lzB,lzC]
       go_simp
       go_at_call 82
       refine(HHO.o _ (HBO.o.grow.trans GD)).mono ?_
       rintro e2x w2 ⟨v2,rfl,ho2,hb2⟩
       obtain⟨a2,c2,rfl⟩:=owns_form ho2
       have HI2:=η (ints_of ho2 (houses_ok q.parts))
       have G2:=η (Grow.trans GD hb2)
       clear ho2 hb2
       refine HK.o _ _ ⟨fun _=>HS.o _ G2.o,?_⟩
       clear HK K
       try simp only [Act.put,lzA,lzB,lzC,lzD,lzE,lzF]
       refine bO 5 (by kernel_rfl) rfl ?_
       intro K HK
       try simp only [lzA,lzB,lzC]
       go_simp
       go_at_call 120
       refine(ref_in (n:=m.house) _ HI2.o).mono ?_
       rintro e5 w5 ⟨rfl,hb5⟩
       rw [decide_eq_true HH1.o]
       have G5:=η (Grow.trans G2.o hb5)
       clear hb5
       refine HK.o _ _ ⟨fun _=>HS.o _ G5.o,?_⟩
       clear HK K
       try simp only [Act.put,lzA,lzB,lzC,lzD,lzE,lzF]
       refine bO 6 (by kernel_rfl) rfl ?_
       intro K HK
       try simp only [lzA,lzB,lzC]
       go_simp
       refine HK.o _ _ ⟨fun _=>HS.o _ G5.o,?_⟩
       clear HK K
       try simp only [Act.put,lzA,lzB,lzC,lzD,lzE,lzF]
       refine bLm [7,8,9,10] 18 (by kernel_rfl) (fun _ _ _ _ _ h=>h) (HS.o _ G5.o) ?_
       repeat (refine tNm (v:=?_) rfl (by rfl) ?_ ?_;rotate_left;(· (intro w' hSw;(try dsimp only at hSw);obtain⟨hs0,hs1,hs2⟩:=hSw;go_simp<;>with_reducible rfl));try simp only [Act.put,lzA,lzB,lzC,lzD,lzE,lzF])
       refine tEm ?_
       refine bO 11 (by kernel_rfl) rfl ?_
       intro K HK
       refine wanted_yes (by rfl) ?_
       try simp only [lzA,lzB,lzC]
       go_simp
       go_at_call 120
       refine(HIN.o m.house _ (HBO.o.grow.trans G5.o)).mono ?_
       rintro e6 w6 ⟨rfl,hb6⟩
       have G6:=η (Grow.trans G5.o hb6)
       clear hb6
       refine HK.o _ _ ⟨fun _=>HS.o _ G6.o,?_⟩
       clear HK K
       try simp only [Act.put,lzA,lzB,lzC,lzD,lzE,lzF]
       refine bO 12 (by kernel_rfl) rfl ?_
       intro K HK
       refine wanted_yes (by rfl) ?_
       try simp only [lzA,lzB,lzC]
       go_simp
       refine HK.o _ _ ⟨fun _=>HS.o _ G6.o,?_⟩
       clear HK K
       try simp only [Act.put,lzA,lzB,lzC,lzD,lzE,lzF]
       refine bO 13 (by kernel_rfl) rfl ?_
       intro K HK
       try simp only [lzA,lzB,lzC]
       go_simp
       refine HK.o _ _ ⟨fun _=>HS.o _ G6.o,?_⟩
       clear HK K
       try simp only [Act.put,lzA,lzB,lzC,lzD,lzE,lzF]
       refine bO 14 (by kernel_rfl) rfl ?_
       intro K HK
       try simp only [lzA,lzB,lzC]
       go_simp
       refine HK.o _ _ ⟨fun h=>absurd rfl h,?_⟩
       clear HK K
       try simp only [Act.put,lzA,lzB,lzC,lzD,lzE,lzF]
       refine but_done (by kernel_rfl) ?_
       go_wp2
       go_meet
       case rel=>exact⟨by have h1:=HH1.o;rw [HTN.o];simp [isNew,h1],⟨rfl,rfl,rfl,rfl,rfl,rfl,rfl,rfl,rfl,rfl,rfl,rfl,rfl,rfl,rfl⟩,G6.o⟩
      ·have HH1:=η h1
       clear h1
       refine but_start (fun w'=>w'.cell? ⟨BO,1,none⟩=some (.slice ap2 q.parts.length cp2)∧w'.cell? ⟨BO,3,none⟩=some (.slice ah q.heard.length ch)∧w'.cell? ⟨w.heap.size+1,2,none⟩=some (.int .i64 m.house)) 14 (by kernel_rfl) ?_
       obtain⟨wd,hWd⟩:∃x:World,x=wo.drew:=⟨_,rfl⟩
       rw [←hWd]
       have GD:Grow wo wd:=by rw [hWd];exact(Grow.refl _).drew
       have zD:wo.heap.size=wd.heap.size:=by rw [hWd];rfl
       have ZD:=η zD
       clear hWd zD
       refine bLm [0] 18 (by kernel_rfl) (fun _ _ _ _ _ h=>h) (HS.o _ GD) ?_
       repeat (refine tNm (v:=?_) rfl (by rfl) ?_ ?_;rotate_left;(· (intro w' hSw;(try dsimp only at hSw);obtain⟨hs0,hs1,hs2⟩:=hSw;go_simp<;>with_reducible rfl));try simp only [Act.put,lzA,lzC,lzD,lzE,lzF])
       refine tEm ?_
       refine bLm [1,3,4] 18 (by kernel_rfl) (fun _ _ _ _ _ h=>h) (HS.o _ GD) ?_
       repeat (refine tNm (v:=?_) rfl (by rfl) ?_ ?_;rotate_left;(· (intro w' hSw;(try dsimp only at hSw);obtain⟨hs0,hs1,hs2⟩:=hSw;go_simp<;>with_reducible rfl));try simp only [Act.put,lzA,lzB,lzC,lzD,lzE,lzF])
       refine tEm ?_
       refine bO 2 (by kernel_rfl) rfl ?_
       intro K HK
       try simp only [lzA,lzB,lzC]
       go_simp
       go_at_call 82
       refine(HHO.o _ (HBO.o.grow.trans GD)).mono ?_
       rintro e2x w2 ⟨v2,rfl,ho2,hb2⟩
       obtain⟨a2,c2,rfl⟩:=owns_form ho2
       have HI2:=η (ints_of ho2 (houses_ok q.parts))
       have G2:=η (Grow.trans GD hb2)
       clear ho2 hb2
       refine HK.o _ _ ⟨fun _=>HS.o _ G2.o,?_⟩
       clear HK K
       try simp only [Act.put,lzA,lzB,lzC,lzD,lzE,lzF]
       refine bO 5 (by kernel_rfl) rfl ?_
       intro K HK
       try simp only [lzA,lzB,lzC]
       go_simp
       go_at_call 120
       refine(ref_in (n:=m.house) _ HI2.o).mono ?_
       rintro e5 w5 ⟨rfl,hb5⟩
       rw [decide_eq_false HH1.o]
       have G5:=η (Grow.trans G2.o hb5)
       clear hb5
       refine HK.o _ _ ⟨fun _=>HS.o _ G5.o,?_⟩
       clear HK K
       try simp only [Act.put,lzA,lzB,lzC,lzD,lzE,lzF]
       refine bO 6 (by kernel_rfl) rfl ?_
       intro K HK
       try simp only [lzA,lzB,lzC]
       go_simp
       refine HK.o _ _ ⟨fun _=>HS.o _ G5.o,?_⟩
       clear HK K
       try simp only [Act.put,lzA,lzB,lzC,lzD,lzE,lzF]
       refine but_take (i:=7) (v:=undef) 18 rfl (by kernel_rfl) (by kernel_rfl) (by kernel_rfl) (by kernel_rfl) (by kernel_rfl) (fun _ _ _ h=>h) (HS.o _ G5.o) (Or.inr ⟨by rfl,rfl⟩) ?_
       try simp only [Act.put,lzA,lzB,lzC,lzD,lzE,lzF]
       refine but_take (i:=8) (v:=undef) 18 rfl (by kernel_rfl) (by kernel_rfl) (by kernel_rfl) (by kernel_rfl) (by kernel_rfl) (fun _ _ _ h=>h) (HS.o _ G5.o) (Or.inr ⟨by rfl,rfl⟩) ?_
       try simp only [Act.put,lzA,lzB,lzC,lzD,lzE,lzF]
       refine but_take (i:=9) (v:=undef) 18 rfl (by kernel_rfl) (by kernel_rfl) (by kernel_rfl) (by kernel_rfl) (by kernel_rfl) (fun _ _ _ h=>h) (HS.o _ G5.o) (Or.inr ⟨by rfl,rfl⟩) ?_
       try simp only [Act.put,lzA,lzB,lzC,lzD,lzE,lzF]
       refine but_take (i:=10) (v:=undef) 18 rfl (by kernel_rfl) (by kernel_rfl) (by kernel_rfl) (by kernel_rfl) (by kernel_rfl) (fun _ _ _ h=>h) (HS.o _ G5.o) (Or.inr ⟨by rfl,rfl⟩) ?_
       try simp only [Act.put,lzA,lzB,lzC,lzD,lzE,lzF]
       refine but_take (i:=11) (v:=undef) 18 rfl (by kernel_rfl) (by kernel_rfl) (by kernel_rfl) (by kernel_rfl) (by kernel_rfl) (fun _ _ _ h=>h) (HS.o _ G5.o) (Or.inr ⟨by rfl,rfl⟩) ?_
       try simp only [Act.put,lzA,lzB,lzC,lzD,lzE,lzF]
       refine but_take (i:=12) (v:=undef) 18 rfl (by kernel_rfl) (by kernel_rfl) (by kernel_rfl) (by kernel_rfl) (by kernel_rfl) (fun _ _ _ h=>h) (HS.o _ G5.o) (Or.inr ⟨by rfl,rfl⟩) ?_
       try simp only [Act.put,lzA,lzB,lzC,lzD,lzE,lzF]
       refine bO 13 (by kernel_rfl) rfl ?_
       intro K HK
       try simp only [lzA,lzB,lzC]
       go_simp
       refine HK.o _ _ ⟨fun _=>HS.o _ G5.o,?_⟩
       clear HK K
       try simp only [Act.put,lzA,lzB,lzC,lzD,lzE,lzF]
       refine bO 14 (by kernel_rfl) rfl ?_
       intro K HK
       try simp only [lzA,lzB,lzC]
       go_simp
       refine HK.o _ _ ⟨fun h=>absurd rfl h,?_⟩
       clear HK K
       try simp only [Act.put,lzA,lzB,lzC,lzD,lzE,lzF]
       refine but_done (by kernel_rfl) ?_
       go_wp2
       go_meet
       case rel=>exact⟨by have h1:=HH1.o;rw [HTN.o];simp [isNew,h1],⟨rfl,rfl,rfl,rfl,rfl,rfl,rfl,rfl,rfl,rfl,rfl,rfl,rfl,rfl,rfl⟩,G5.o⟩
     case rest=>
     obtain⟨rfl,⟨rfl,rfl,rfl,rfl,rfl,rfl,rfl,rfl,rfl,rfl,rfl,rfl,rfl,rfl,rfl⟩,hgc⟩:=hcut
     obtain⟨w11,rfl⟩:∃y:World,y=wc:=⟨_,rfl⟩
     have GC_w11:=η hgc
     clear hgc
     have HB11:=η (HBO.o.later GC_w11.o)
     have RO11:=η (row_grow RO.o GC_w11.o)
     clear HS
     have HSRC:=η (fun(W:World) (hW:Grow w11 W)=>Src.of_sl_c (T:=Ty.int) (by decide) (HC.o.trans (HB11.o.grow.trans hW).sub) HEL.o.2.2)
     have HS:Hid (∀W,Grow w11 W→W.cell? ⟨BO,3,none⟩=some (.slice ah q.heard.length ch)∧W.cell? ⟨w.heap.size+1,2,none⟩=some (.int .i64 m.house)):=fun W hW=>by
      obtain⟨-,-,-,k3⟩:=cells4 (row_grow RO11.o hW)
      obtain⟨-,-,j2,-⟩:=cells4 (row_grow ((HB11.o.old 1 (by omega)).trans R2.o) hW)
      exact⟨k3,j2⟩
     go_upto_region 11 with fail
     go_cut [12,158,159,160,161,162,163,164,165,166,167,168,169,170,171,172] from 56 (fun s12 s158 s159 s160 s161 s162 s163 s164 s165 s166 s167 s168 s169 s170 s171 s172 wc=>(∃a12 c12,s12=.slice a12 (q.heard.length+1) c12∧OwnC Ty.int c wc w11.heap.size 3 (.slice a12 (q.heard.length+1) c12) (q.heard++ [m.house]))∧(s158=undef∧s159=undef∧s160=undef∧s161=undef∧s162=undef∧s163=undef∧s164=undef∧s165=undef∧s166=undef∧s167=undef∧s168=undef∧s169=undef∧s170=undef∧s171=undef∧s172=undef)∧Grow w11 wc)
     case first=>
      refine but_start (fun w'=>w'.cell? ⟨BO,3,none⟩=some (.slice ah q.heard.length ch)∧w'.cell? ⟨w.heap.size+1,2,none⟩=some (.int .i64 m.house)) 8 (by kernel_rfl) ?_
      obtain⟨wd,hWd⟩:∃x:World,x=w11.drew:=⟨_,rfl⟩
      rw [←hWd]
      have GD:Grow w11 wd:=by rw [hWd];exact(Grow.refl _).drew
      have zD:w11.heap.size=wd.heap.size:=by rw [hWd];rfl
      have ZD:=η zD
      clear hWd zD
      refine bLm [1,2,4,5] 12 (by kernel_rfl) (fun _ _ _ _ _ h=>h) (HS.o _ GD) ?_
      repeat (refine tNm (v:=?_) rfl (by rfl) ?_ ?_;rotate_left;(· (intro w' hSw;(try dsimp only at hSw);obtain⟨hs0,hs1⟩:=hSw;go_simp<;>with_reducible rfl));try simp only [Act.put,lzA,lzB,lzC,lzD,lzE,lzF])
      refine tEm ?_
      refine bP 0 6 (by kernel_rfl) rfl rfl ?_ ?_
      ·intro K HK
       try simp only [lzA,lzC]
       go_simp
       refine HK.o _ _ ⟨fun _=>HS.o _ (GD.alloc _),?_⟩
       clear HK K
       try simp only [Act.put,lzA,lzB,lzC,lzD,lzE,lzF]
       refine bP 3 6 (by kernel_rfl) rfl rfl ?_ ?_
       ·intro K HK
        refine wanted_go rfl ?_
        try simp only [lzA,lzB,lzC]
        refine wp_appc (l:=[]) (m:=q.heard) (v:=.slice (some ⟨wd.heap.size,0,none⟩) 0 0) ei_int rfl one_Tint (by decide) (.tmp 56) (.tmp 58) rfl rfl ((OwnC.made0 Ty.int c _ w11.heap.size _ (by have:=ZD.o;(try simp);omega) (by simp))) rfl (HSRC.o _ (GD.alloc _)) (by have:=HHL.o;simp;omega) (GD.alloc _).size ?_
        intro a3 c3 q3 ho3 hg3 hb3
        try simp only [List.length_nil,Nat.zero_add,List.nil_append] at ho3
        try simp only [List.length_nil,Nat.zero_add] at hb3
        try simp only [List.length_nil,Nat.zero_add]
        have G3:=grow_by (w0:=w11) (GD.alloc _) hg3 (own_at (by have:=ZD.o;(try simp);omega))
        have B3:=η (own_new (B:=w11.heap.size) (GD.alloc _).size hb3 (own_at (by have:=ZD.o;(try simp);omega)))
        have HO3:=η ho3
        have HG3:=η hg3
        clear ho3 hg3 hb3
        refine HK.o _ _ ⟨fun _=>HS.o _ G3,?_⟩
        clear HK K
        try simp only [Act.put,lzD,lzE,lzF]
        refine bO 6 (by kernel_rfl) rfl ?_
        intro K HK
        try simp only [lzA,lzB,lzC]
        go_simp
        refine HK.o _ _ ⟨fun _=>HS.o _ (G3.alloc _),?_⟩
        clear HK K
        try simp only [Act.put,lzA,lzB,lzC,lzD,lzE,lzF]
        refine bO 7 (by kernel_rfl) rfl ?_
        intro K HK
        refine wanted_go rfl ?_
        try simp only [lzA,lzB,lzC]
        refine wp_appc (l:=q.heard) (m:=[m.house]) (v:=.slice a3 (q.heard.length) c3) ei_int rfl one_Tint (by decide) (.tmp 59) (.tmp 62) rfl rfl ((HO3.o).grow ((Grow.refl _).alloc _)) rfl ((Src.of_new (T:=Ty.int) (x:=m.house) (c:=c) (cs:=#[.int .i64 m.house]) (show Ty.int.R c _ m.house from⟨rfl,HMI.o.2.2⟩) _ _ (by simp))) (by have:=HHL.o;simp;omega) (G3.alloc _).size ?_
        intro a7 c7 q7 ho7 hg7 hb7
        try simp only [List.length_nil,List.length_cons,Nat.zero_add] at ho7
        try simp only [List.length_nil,List.length_cons,Nat.zero_add] at hb7
        try simp only [List.length_nil,List.length_cons,Nat.zero_add]
        have G7:=grow_by (w0:=w11) (G3.alloc _) hg7 B3.o
        have B7:=η (own_new (B:=w11.heap.size) (G3.alloc _).size hb7 B3.o)
        have HO7:=η ho7
        have HG7:=η hg7
        clear ho7 hg7 hb7
        refine HK.o _ _ ⟨fun _=>HS.o _ G7,?_⟩
        clear HK K
        try simp only [Act.put,lzD,lzE,lzF]
        refine bO 8 (by kernel_rfl) rfl ?_
        intro K HK
        try simp only [lzA,lzB,lzC]
        go_simp
        refine HK.o _ _ ⟨fun h=>absurd rfl h,?_⟩
        clear HK K
        try simp only [Act.put,lzA,lzB,lzC,lzD,lzE,lzF]
        refine but_done (by kernel_rfl) ?_
        go_wp2
        go_meet
        case rel=>exact⟨⟨_,_,rfl,HO7.o⟩,⟨rfl,rfl,rfl,rfl,rfl,rfl,rfl,rfl,rfl,rfl,rfl,rfl,rfl,rfl,rfl⟩,G7⟩
       ·intro K HK
        try simp only [lzA,lzB,lzC]
        go_simp
        refine HK.o _ _ ⟨fun _=>HS.o _ ((GD.alloc _).alloc _),?_⟩
        clear HK K
        try simp only [Act.put,lzA,lzB,lzC,lzD,lzE,lzF]
        refine bO 3 (by kernel_rfl) rfl ?_
        intro K HK
        refine wanted_go rfl ?_
        try simp only [lzA,lzB,lzC]
        refine wp_appc (l:=[]) (m:=q.heard) (v:=.slice (some ⟨wd.heap.size,0,none⟩) 0 0) ei_int rfl one_Tint (by decide) (.tmp 56) (.tmp 58) rfl rfl (((OwnC.made0 Ty.int c _ w11.heap.size _ (by have:=ZD.o;(try simp);omega) (by simp))).grow ((Grow.refl _).alloc _)) rfl (HSRC.o _ ((GD.alloc _).alloc _)) (by have:=HHL.o;simp;omega) ((GD.alloc _).alloc _).size ?_
        intro a3 c3 q3 ho3 hg3 hb3
        try simp only [List.length_nil,Nat.zero_add,List.nil_append] at ho3
        try simp only [List.length_nil,Nat.zero_add] at hb3
        try simp only [List.length_nil,Nat.zero_add]
        have G3:=grow_by (w0:=w11) ((GD.alloc _).alloc _) hg3 (own_at (by have:=ZD.o;(try simp);omega))
        have B3:=η (own_new (B:=w11.heap.size) ((GD.alloc _).alloc _).size hb3 (own_at (by have:=ZD.o;(try simp);omega)))
        have HO3:=η ho3
        have HG3:=η hg3
        clear ho3 hg3 hb3
        refine HK.o _ _ ⟨fun _=>HS.o _ G3,?_⟩
        clear HK K
        try simp only [Act.put,lzD,lzE,lzF]
        refine bO 7 (by kernel_rfl) rfl ?_
        intro K HK
        refine wanted_go rfl ?_
        try simp only [lzA,lzB,lzC]
        refine wp_appc (l:=q.heard) (m:=[m.house]) (v:=.slice a3 (q.heard.length) c3) ei_int rfl one_Tint (by decide) (.tmp 59) (.tmp 62) rfl rfl (HO3.o) rfl (((Src.of_new (T:=Ty.int) (x:=m.house) (c:=c) (cs:=#[.int .i64 m.house]) (show Ty.int.R c _ m.house from⟨rfl,HMI.o.2.2⟩) _ _ (by simp))).kept HG3.o (by simp [Value.ownBlock])) (by have:=HHL.o;simp;omega) G3.size ?_
        intro a7 c7 q7 ho7 hg7 hb7
        try simp only [List.length_nil,List.length_cons,Nat.zero_add] at ho7
        try simp only [List.length_nil,List.length_cons,Nat.zero_add] at hb7
        try simp only [List.length_nil,List.length_cons,Nat.zero_add]
        have G7:=grow_by (w0:=w11) G3 hg7 B3.o
        have B7:=η (own_new (B:=w11.heap.size) G3.size hb7 B3.o)
        have HO7:=η ho7
        have HG7:=η hg7
        clear ho7 hg7 hb7
        refine HK.o _ _ ⟨fun _=>HS.o _ G7,?_⟩
        clear HK K
        try simp only [Act.put,lzD,lzE,lzF]
        refine bO 8 (by kernel_rfl) rfl ?_
        intro K HK
        try simp only [lzA,lzB,lzC]
        go_simp
        refine HK.o _ _ ⟨fun h=>absurd rfl h,?_⟩
        clear HK K
        try simp only [Act.put,lzA,lzB,lzC,lzD,lzE,lzF]
        refine but_done (by kernel_rfl) ?_
        go_wp2
        go_meet
        case rel=>exact⟨⟨_,_,rfl,HO7.o⟩,⟨rfl,rfl,rfl,rfl,rfl,rfl,rfl,rfl,rfl,rfl,rfl,rfl,rfl,rfl,rfl⟩,G7⟩
      ·intro K HK
       try simp only [lzA,lzB,lzC]
       go_simp
       refine HK.o _ _ ⟨fun _=>HS.o _ (GD.alloc _),?_⟩
       clear HK K
       try simp only [Act.put,lzA,lzB,lzC,lzD,lzE,lzF]
       refine bO 0 (by kernel_rfl) rfl ?_
       intro K HK
       try simp only [lzA,lzC]
       go_simp
       refine HK.o _ _ ⟨fun _=>HS.o _ ((GD.alloc _).alloc _),?_⟩
       clear HK K
       try simp only [Act.put,lzA,lzB,lzC,lzD,lzE,lzF]
       refine bO 3 (by kernel_rfl) rfl ?_
       intro K HK
       refine wanted_go rfl ?_
       try simp only [lzA,lzB,lzC]
       refine wp_appc (l:=[]) (m:=q.heard) (v:=.slice (some ⟨wd.heap.size+1,0,none⟩) 0 0) ei_int rfl one_Tint (by decide) (.tmp 56) (.tmp 58) rfl rfl ((OwnC.made0 Ty.int c _ w11.heap.size _ (by have:=ZD.o;(try simp);omega) (by simp))) rfl (HSRC.o _ ((GD.alloc _).alloc _)) (by have:=HHL.o;simp;omega) ((GD.alloc _).alloc _).size ?_
       intro a3 c3 q3 ho3 hg3 hb3
       try simp only [List.length_nil,Nat.zero_add,List.nil_append] at ho3
       try simp only [List.length_nil,Nat.zero_add] at hb3
       try simp only [List.length_nil,Nat.zero_add]
       have G3:=grow_by (w0:=w11) ((GD.alloc _).alloc _) hg3 (own_at (by have:=ZD.o;(try simp);omega))
       have B3:=η (own_new (B:=w11.heap.size) ((GD.alloc _).alloc _).size hb3 (own_at (by have:=ZD.o;(try simp);omega)))
       have HO3:=η ho3
       have HG3:=η hg3
       clear ho3 hg3 hb3
       refine HK.o _ _ ⟨fun _=>HS.o _ G3,?_⟩
       clear HK K
       try simp only [Act.put,lzD,lzE,lzF]
       refine bO 7 (by kernel_rfl) rfl ?_
       intro K HK
       refine wanted_go rfl ?_
       try simp only [lzA,lzB,lzC]
       refine wp_appc (l:=q.heard) (m:=[m.house]) (v:=.slice a3 (q.heard.length) c3) ei_int rfl one_Tint (by decide) (.tmp 59) (.tmp 62) rfl rfl (HO3.o) rfl ((((Src.of_new (T:=Ty.int) (x:=m.house) (c:=c) (cs:=#[.int .i64 m.house]) (show Ty.int.R c _ m.house from⟨rfl,HMI.o.2.2⟩) _ _ (by simp))).grow ((Grow.refl _).alloc _)).kept HG3.o (by simp [Value.ownBlock])) (by have:=HHL.o;simp;omega) G3.size ?_
       intro a7 c7 q7 ho7 hg7 hb7
       try simp only [List.length_nil,List.length_cons,Nat.zero_add] at ho7
       try simp only [List.length_nil,List.length_cons,Nat.zero_add] at hb7
       try simp only [List.length_nil,List.length_cons,Nat.zero_add]
       have G7:=grow_by (w0:=w11) G3 hg7 B3.o
       have B7:=η (own_new (B:=w11.heap.size) G3.size hb7 B3.o)
       have HO7:=η ho7
       have HG7:=η hg7
       clear ho7 hg7 hb7
       refine HK.o _ _ ⟨fun _=>HS.o _ G7,?_⟩
       clear HK K
       try simp only [Act.put,lzD,lzE,lzF]
       refine bO 8 (by kernel_rfl) rfl ?_
       intro K HK
       try simp only [lzA,lzB,lzC]
       go_simp
       refine HK.o _ _ ⟨fun h=>absurd rfl h,?_⟩
       clear HK K
       try simp only [Act.put,lzA,lzB,lzC,lzD,lzE,lzF]
       refine but_done (by kernel_rfl) ?_
       go_wp2
       go_meet
       case rel=>exact⟨⟨_,_,rfl,HO7.o⟩,⟨rfl,rfl,rfl,rfl,rfl,rfl,rfl,rfl,rfl,rfl,rfl,rfl,rfl,rfl,rfl⟩,G7⟩
     case rest=>
     obtain⟨⟨a12,c12,rfl,ho12⟩,⟨rfl,rfl,rfl,rfl,rfl,rfl,rfl,rfl,rfl,rfl,rfl,rfl,rfl,rfl,rfl⟩,hgc⟩:=hcut
     obtain⟨w12,rfl⟩:∃y:World,y=wc:=⟨_,rfl⟩
     have GC_w12:=η hgc
     clear hgc
     have HO12:=η ho12
     clear ho12 HS
     have HB12:=η (HB11.o.later GC_w12.o)
     have RO12:=η (row_grow RO11.o GC_w12.o)
     obtain⟨ta,hta⟩:∃b:Bool,b=allHeard q:=⟨_,rfl⟩
     have HTA:=η hta
     clear hta
     go_upto_region 12 with fail
     obtain⟨e0,e1,e2,e3⟩:=cells4 RO12.o
     have zO:BO<w12.heap.size:=(γ RO12.o)
     go_cut [13,158,159,160,161,162,163,164,165,166,167,168,169,170,171,172] from 64 (fun s13 s158 s159 s160 s161 s162 s163 s164 s165 s166 s167 s168 s169 s170 s171 s172 wc=>s13=.bool ta∧(s158=undef∧s159=undef∧s160=undef∧s161=undef∧s162=undef∧s163=undef∧s164=undef∧s165=undef∧s166=undef∧s167=undef∧s168=undef∧s169=undef∧s170=undef∧s171=undef∧s172=undef)∧Grow w12 wc)
     case first=>
      go_wp2_with fail
      refine(HHO.o _ HB12.o.grow).mono ?_
      rintro e2x w2 ⟨v2,rfl,ho2,hb2⟩
      obtain⟨a2,c2,rfl⟩:=owns_form ho2
      clear ho2
      go_wp2
      go_meet
      case rel=>exact⟨by rw [HTA.o];unfold allHeard;congr 1;first|rfl|(rw [Bool.eq_iff_iff];simp;omega),⟨rfl,rfl,rfl,rfl,rfl,rfl,rfl,rfl,rfl,rfl,rfl,rfl,rfl,rfl,rfl⟩,hb2⟩
     case rest=>
     obtain⟨rfl,⟨rfl,rfl,rfl,rfl,rfl,rfl,rfl,rfl,rfl,rfl,rfl,rfl,rfl,rfl,rfl⟩,hgc⟩:=hcut
     obtain⟨w13,rfl⟩:∃y:World,y=wc:=⟨_,rfl⟩
     have GC_w13:=η hgc
     clear hgc
     have HB13:=η (HB12.o.later GC_w13.o)
     have RO13:=η (row_grow RO12.o GC_w13.o)
     have HO13:=η (HO12.o.grow GC_w13.o)
     try clear e0 e1 e2 e3 zO
     obtain⟨t71,ht71⟩:∃b:Bool,b=decide (m.kind=2∧q.dec=false∧isNew q m):=⟨_,rfl⟩
     have HT71:=η ht71
     clear ht71
     go_upto_region 13 with fail
     obtain⟨e0,e1,e2,e3⟩:=cells4 RO13.o
     have zO:BO<w13.heap.size:=(γ RO13.o)
     have RA9:=η ((HB13.o.old 0 (by omega)).trans R1.o)
     have RB9:=η ((HB13.o.old 1 (by omega)).trans R2.o)
     obtain⟨y0,y1,y2,y3⟩:=cells4 RA9.o
     obtain⟨d0,d1,d2,d3⟩:=cells4 RB9.o
     obtain⟨x0,x1,x2,x3⟩:=cells4 HB13.o.row
     have zz:=HB13.o.size
     have zA:w.heap.size<w13.heap.size:=by omega
     have zB:w.heap.size+1<w13.heap.size:=by omega
     have zX:w.heap.size+3<w13.heap.size:=by omega
     go_cut [71,158,159,160,161,162,163,164,165,166,167,168,169,170,171,172] from 72 (fun s71 s158 s159 s160 s161 s162 s163 s164 s165 s166 s167 s168 s169 s170 s171 s172 wc=>s71=.bool t71∧(s158=undef∧s159=undef∧s160=undef∧s161=undef∧s162=undef∧s163=undef∧s164=undef∧s165=undef∧s166=undef∧s167=undef∧s168=undef∧s169=undef∧s170=undef∧s171=undef∧s172=undef)∧w13=wc)
     case first=>
      by_cases hk:m.kind=2
      ·have hkb:(m.kind==2)=true:=by simp [hk]
       have HK:=η hk
       clear hk
       obtain⟨db,hdq⟩:∃b,b=q.dec:=⟨_,rfl⟩
       rw [←hdq] at e2
       have HDC:=η hdq
       clear hdq
       cases db with
       |true=>
        go_wp2
        go_meet
        case rel=>exact⟨by have h1:=HK.o;have h2:=HDC.o.symm;rw [HT71.o];(try rw [HTN.o]);simp [h1,h2],⟨rfl,rfl,rfl,rfl,rfl,rfl,rfl,rfl,rfl,rfl,rfl,rfl,rfl,rfl,rfl⟩,rfl⟩
       |false=>
        go_wp2
        go_meet
        case rel=>exact⟨by have h1:=HK.o;have h2:=HDC.o.symm;rw [HT71.o];(try rw [HTN.o]);simp [h1,h2],⟨rfl,rfl,rfl,rfl,rfl,rfl,rfl,rfl,rfl,rfl,rfl,rfl,rfl,rfl,rfl⟩,rfl⟩
      ·have hkb:(m.kind==2)=false:=by simp [hk]
       have HK:=η hk
       clear hk
       go_wp2
       go_meet
       case rel=>exact⟨by have h1:=HK.o;rw [HT71.o];simp [h1],⟨rfl,rfl,rfl,rfl,rfl,rfl,rfl,rfl,rfl,rfl,rfl,rfl,rfl,rfl,rfl⟩,rfl⟩
     case rest=>
     obtain⟨rfl,⟨rfl,rfl,rfl,rfl,rfl,rfl,rfl,rfl,rfl,rfl,rfl,rfl,rfl,rfl,rfl⟩,rfl⟩:=hcut
     clear e0 e1 e2 e3 zO y0 y1 y2 y3 d0 d1 d2 d3 x0 x1 x2 x3 zz zA zB zX RA9 RB9
     cases t71 with
     |true=>
      skip
      as_aux_lemma=>
       have HA:=η (of_decide_eq_true HT71.o.symm)
       have hdc:=HA.o.2.1
       rw [hdc] at RO13
       clear hdc
       go_wp2_with (first|(refine wpList_store_cell rfl (.tmp 84) (.tmp 83) (v:=.slice a12 (q.heard.length+1) c12) (new:=#[.int .i64 q.deed,.slice ap2 q.parts.length cp2,.bool false,.slice a12 (q.heard.length+1) c12]) rfl rfl (by rfl) (by rfl) RO13.o info_ints (by simp) (by rfl) (by rfl) ?_))
       intro w14 r14 g14
       have RO14:=η r14
       have G14:Hid (Grow wr w14):=η ((((GO.o.trans GC_w11.o).trans GC_w12.o).trans GC_w13.o).grown g14 (fun q9 e9=>by have:=Option.some.inj e9;have:=HBB.o;omega))
       have HB14:=η (HBR.o.later G14.o)
       have HO14:=η (HO13.o.kept g14 (own_apart HO13.o (by have:=(γ RO11.o);omega)))
       clear r14 g14
       cases ta with
       |true=>
        have HLF:=η HTA.o.symm
        have HST:Hid (hgoStep m ⟨so,[],[],false⟩ q=⟨so++ [⟨q.deed,q.parts,true,[]⟩],[⟨5,q.deed,q.parts⟩],asksE ⟨q.deed,q.parts,true,[]⟩,true⟩):=η (by rw [HAT.o,hearO_yesAll HA.o HLF.o];try simp)
        go_wp2_with (first|(refine wpList_store_cell rfl (.tmp 86) (.const (.bool true)) (v:=.bool true) (new:=#[.int .i64 q.deed,.slice ap2 q.parts.length cp2,.bool true,.slice a12 (q.heard.length+1) c12]) rfl rfl (by rfl) (by rfl) RO14.o info_bool (by simp) (by rfl) (by rfl) ?_))
        intro w15 r15 g15
        have RO15:=η r15
        have G15:Hid (Grow wr w15):=η (G14.o.grown g15 (fun q9 e9=>by have:=Option.some.inj e9;have:=HBB.o;omega))
        clear r15 g15
        go_wp2_with (first|(refine wpList_store_cell rfl (.tmp 87) (.const (.slice none 0 0)) (v:=.slice none 0 0) (new:=#[.int .i64 q.deed,.slice ap2 q.parts.length cp2,.bool true,.slice none 0 0]) rfl rfl (by rfl) (by rfl) RO15.o info_ints (by simp) (by rfl) (by rfl) ?_))
        intro w16 r16 g16
        have RO16:=η r16
        have G16:Hid (Grow wr w16):=η (G15.o.grown g16 (fun q9 e9=>by have:=Option.some.inj e9;have:=HBB.o;omega))
        clear r16 g16
        have HB16:=η (HBR.o.later G16.o)
        have HLSR:=η (fun(W:World) (hW:Grow w16 W)=>Src.of_sl_c (T:=Ty.rc) (by decide) (HC.o.trans (HB16.o.grow.trans hW).sub) HLG.o)
        have HS:Hid (∀W,Grow w16 W→W.cell? ⟨w.heap.size,0,none⟩=some (.slice al h.log.length cl)∧W.cell? ⟨BO,0,none⟩=some (.int .i64 q.deed)∧W.cell? ⟨BO,1,none⟩=some (.slice ap2 q.parts.length cp2)):=fun W hW=>by
         obtain⟨k0,k1,-,-⟩:=cells4 (row_grow RO16.o hW)
         obtain⟨j0,-,-,-⟩:=cells4 (row_grow ((HB16.o.old 0 (by omega)).trans R1.o) hW)
         exact⟨j0,k0,k1⟩
        go_upto_region 17 with fail
        refine but_start (fun w'=>w'.cell? ⟨w.heap.size,0,none⟩=some (.slice al h.log.length cl)∧w'.cell? ⟨BO,0,none⟩=some (.int .i64 q.deed)∧w'.cell? ⟨BO,1,none⟩=some (.slice ap2 q.parts.length cp2)) 12 (by kernel_rfl) ?_
        obtain⟨wd,hWd⟩:∃x:World,x=w16.drew:=⟨_,rfl⟩
        rw [←hWd]
        have GD:Grow w16 wd:=by rw [hWd];exact(Grow.refl _).drew
        have zD:w16.heap.size=wd.heap.size:=by rw [hWd];rfl
        have ZD:=η zD
        clear hWd zD
        refine bLm [1,2,4,5,6,7,8] 16 (by kernel_rfl) (fun _ _ _ _ _ h=>h) (HS.o _ GD) ?_
        repeat (refine tNm (v:=?_) rfl (by rfl) ?_ ?_;rotate_left;(· (intro w' hSw;(try dsimp only at hSw);obtain⟨hs0,hs1,hs2⟩:=hSw;go_simp<;>with_reducible rfl));try simp only [Act.put,lzA,lzB,lzC,lzD,lzE,lzF])
        refine tEm ?_
        refine bP 0 9 (by kernel_rfl) rfl rfl ?_ ?_
        ·intro K HK
         try simp only [lzA,lzC]
         go_simp
         refine HK.o _ _ ⟨fun _=>HS.o _ (GD.alloc _),?_⟩
         clear HK K
         try simp only [Act.put,lzA,lzB,lzC,lzD,lzE,lzF]
         refine bP 3 9 (by kernel_rfl) rfl rfl ?_ ?_
         ·intro K HK
          refine wanted_go rfl ?_
          try simp only [lzA,lzB,lzC]
          refine wp_appc (l:=[]) (m:=h.log) (v:=.slice (some ⟨wd.heap.size,0,none⟩) 0 0) ei_rc rfl one_Trc (by decide) (.tmp 88) (.tmp 90) rfl rfl ((OwnC.made0 Ty.rc c _ w16.heap.size _ (by have:=ZD.o;(try simp);omega) (by simp))) rfl (HLSR.o _ (GD.alloc _)) (by have:=HLL.o;simp;omega) (GD.alloc _).size ?_
          intro a3 c3 q3 ho3 hg3 hb3
          try simp only [List.length_nil,Nat.zero_add,List.nil_append] at ho3
          try simp only [List.length_nil,Nat.zero_add] at hb3
          try simp only [List.length_nil,Nat.zero_add]
          have G3:=grow_by (w0:=w16) (GD.alloc _) hg3 (own_at (by have:=ZD.o;(try simp);omega))
          have B3:=η (own_new (B:=w16.heap.size) (GD.alloc _).size hb3 (own_at (by have:=ZD.o;(try simp);omega)))
          have HO3:=η ho3
          have HG3:=η hg3
          clear ho3 hg3 hb3
          refine HK.o _ _ ⟨fun _=>HS.o _ G3,?_⟩
          clear HK K
          try simp only [Act.put,lzD,lzE,lzF]
          refine bO 9 (by kernel_rfl) rfl ?_
          intro K HK
          try simp only [lzA,lzB,lzC]
          go_simp
          refine HK.o _ _ ⟨fun _=>HS.o _ (G3.alloc _),?_⟩
          clear HK K
          try simp only [Act.put,lzA,lzB,lzC,lzD,lzE,lzF]
          refine bO 10 (by kernel_rfl) rfl ?_
          intro K HK
          refine wanted_go rfl ?_
          try simp only [lzA,lzB,lzC]
          refine wp_appc (l:=h.log) (m:=[⟨5,q.deed,q.parts⟩]) (v:=.slice a3 (h.log.length) c3) ei_rc rfl one_Trc (by decide) (.tmp 91) (.tmp 97) rfl rfl ((HO3.o).grow ((Grow.refl _).alloc _)) rfl ((Src.of_new (T:=Ty.rc) (x:=⟨5,q.deed,q.parts⟩) (c:=c) (cs:=#[.int .i64 5,.int .i64 q.deed,.slice ap2 q.parts.length cp2]) (show Ty.rc.R c _ (⟨5,q.deed,q.parts⟩:Rc) from⟨_,rfl,(show I64 5 from by unfold I64;decide),HEL.o.1,HEL.o.2.1⟩) _ _ (by simp))) (by have:=HLL.o;simp;omega) (G3.alloc _).size ?_
          intro a10 c10 q10 ho10 hg10 hb10
          try simp only [List.length_nil,List.length_cons,Nat.zero_add] at ho10
          try simp only [List.length_nil,List.length_cons,Nat.zero_add] at hb10
          try simp only [List.length_nil,List.length_cons,Nat.zero_add]
          have G10:=grow_by (w0:=w16) (G3.alloc _) hg10 B3.o
          have B10:=η (own_new (B:=w16.heap.size) (G3.alloc _).size hb10 B3.o)
          have HO10:=η ho10
          have HG10:=η hg10
          clear ho10 hg10 hb10
          refine HK.o _ _ ⟨fun _=>HS.o _ G10,?_⟩
          clear HK K
          try simp only [Act.put,lzD,lzE,lzF]
          refine bO 11 (by kernel_rfl) rfl ?_
          intro K HK
          try simp only [lzA,lzB,lzC]
          go_simp
          refine HK.o _ _ ⟨fun _=>HS.o _ G10,?_⟩
          clear HK K
          try simp only [Act.put,lzA,lzB,lzC,lzD,lzE,lzF]
          refine bO 12 (by kernel_rfl) rfl ?_
          intro K HK
          refine wanted_go rfl ?_
          try simp only [lzA,lzB,lzC]
          refine wp_store_cell (.tmp 99) (.tmp 98) (v:=.slice a10 (h.log.length+1) c10) (new:=#[.slice a10 (h.log.length+1) c10,.int .i64 h.boot,.int .i64 h.next,.slice ao so.length co]) rfl rfl (by rfl) (by rfl) (row_grow HB16.o.row G10) info_rcs (by simp) (by rfl) (by rfl) ?_
          intro w17 r17 g17
          have HBL:=η (QBox.setLog (HB16.o.later G10) [⟨5,q.deed,q.parts⟩] g17 r17 (by
           have h9:=HB16.o.newSl (by decide) (fc_in (HC.o.trans G1.o.sub)) HO10.o
           simpa using h9))
          have RO17:=η (row_by (row_grow RO16.o G10) g17 (by intro e;have:=Option.some.inj e;have:=HBB.o;have:=HBR.o.size;omega))
          clear r17 g17
          refine HK.o _ _ ⟨fun h=>absurd rfl h,?_⟩
          clear HK K
          try simp only [Act.put]
          refine but_done (by kernel_rfl) ?_
          have HAS:=η (fun(W:World) (hW:Grow w W)=>ref_asks (v:=.agg #[.int .i64 q.deed,.slice ap2 q.parts.length cp2,.bool true,.slice none 0 0]) (o:=⟨q.deed,q.parts,true,[]⟩) W ⟨_,rfl,_,_,rfl,HEL.o.1,HEL.o.2.1.mono (HC.o.trans hW.sub),Sl.nil _ _⟩ (by show q.parts.length*24≤_;have:=HPL.o;omega))
          obtain⟨e0,e1,e2,e3⟩:=cells4 RO17.o
          have zO:BO<w17.heap.size:=(γ RO17.o)
          go_wp2_with fail
          refine(HAS.o _ HBL.o.grow).mono ?_
          rintro e18 w18 ⟨v18,rfl,ho18,hb18⟩
          obtain⟨a18,c18,rfl⟩:=ho18.form
          have RO18:=η (row_grow RO17.o hb18)
          have HB18:=η ((HBL.o.later hb18).setSays (HBL.o.newSl (by decide) HBL.o.frSub ho18))
          clear ho18 hb18 e0 e1 e2 e3 zO
          obtain⟨e0,e1,e2,e3⟩:=cells4 RO18.o
          have zO:BO<w18.heap.size:=(γ RO18.o)
          have RA9:=η ((HB18.o.old 0 (by omega)).trans R1.o)
          have RB9:=η ((HB18.o.old 1 (by omega)).trans R2.o)
          obtain⟨y0,y1,y2,y3⟩:=cells4 RA9.o
          obtain⟨d0,d1,d2,d3⟩:=cells4 RB9.o
          obtain⟨x0,x1,x2,x3⟩:=cells4 HB18.o.row
          have zz:=HB18.o.size
          have zA:w.heap.size<w18.heap.size:=by omega
          have zB:w.heap.size+1<w18.heap.size:=by omega
          have zX:w.heap.size+3<w18.heap.size:=by omega
          go_wp2_with (first|(at_builtin;refine wpList_appc (c:=fc c wz w18 [(Value.slice ao so.length co).ownBlock]) (base:=w.heap.size+4) (l:=so) (m:=[⟨q.deed,q.parts,true,[]⟩]) ei_opn rfl one_Topn (by decide) rfl (.tmp 152) (.tmp 154) rfl rfl ?own rfl (Src.of_new (T:=Ty.opn) (x:=⟨q.deed,q.parts,true,[]⟩) (cs:=#[.int .i64 q.deed,.slice ap2 q.parts.length cp2,.bool true,.slice none 0 0]) ?d0 _ _ ?d1) ?d2 ?d3 ?_))
          case own=>exact OwnC.grow HB18.o.opn ((Grow.refl _).alloc _)
          case d0=>exact⟨_,_,rfl,HEL.o.1,HEL.o.2.1.mono (fc_in (HC.o.trans G1.o.sub)),Sl.nil _ _⟩
          case d1=>first|rfl|simp
          case d2=>have:=HSL.o;simp;omega
          case d3=>have:=HB18.o.size;simp;omega
          intro a9 c9 w9 ho9 hg9 hb9
          have R9:=η (row_by (row_grow HB18.o.row ((Grow.refl _).alloc (.cells #[.int .i64 q.deed,.slice ap2 q.parts.length cp2,.bool true,.slice none 0 0] 136))) hg9 (by intro e;have:=(HB18.o.opn.lt _ e.symm).1;omega))
          have HO9:=η ho9
          have HG9:=η hg9
          have HB9:=η hb9
          clear ho9 hg9 hb9
          go_wp2_with (first|(refine wpList_store_cell rfl (.tmp 156) (.tmp 155) (v:=.slice a9 (so.length+1) c9) (new:=#[.slice a10 (h.log.length+1) c10,.int .i64 h.boot,.int .i64 h.next,.slice a9 (so.length+1) c9]) rfl rfl (by rfl) (by rfl) R9.o info_opns (by simp) (by rfl) (by rfl) ?_))
          intro w10 r10 g10
          have HBN:=η (QBox.app HB18.o ⟨q.deed,q.parts,true,[]⟩ ((Grow.refl _).alloc (.cells #[.int .i64 q.deed,.slice ap2 q.parts.length cp2,.bool true,.slice none 0 0] 136)) HG9.o (HB9.o.imp_right fun⟨g,e,hge⟩=>⟨g,e,by simpa using hge⟩) HO9.o g10 r10)
          clear r10 g10
          go_wp2
          go_roundw
          case rel=>exact⟨k+1,_,_,by omega,by go_num,by rw [HNX.o,HST.o],by rw [HNX.o,HST.o];exact HBN.o⟩
          case measure=>simp [intOf];omega
         ·intro K HK
          try simp only [lzA,lzB,lzC]
          go_simp
          refine HK.o _ _ ⟨fun _=>HS.o _ ((GD.alloc _).alloc _),?_⟩
          clear HK K
          try simp only [Act.put,lzA,lzB,lzC,lzD,lzE,lzF]
          refine bO 3 (by kernel_rfl) rfl ?_
          intro K HK
          refine wanted_go rfl ?_
          try simp only [lzA,lzB,lzC]
          refine wp_appc (l:=[]) (m:=h.log) (v:=.slice (some ⟨wd.heap.size,0,none⟩) 0 0) ei_rc rfl one_Trc (by decide) (.tmp 88) (.tmp 90) rfl rfl (((OwnC.made0 Ty.rc c _ w16.heap.size _ (by have:=ZD.o;(try simp);omega) (by simp))).grow ((Grow.refl _).alloc _)) rfl (HLSR.o _ ((GD.alloc _).alloc _)) (by have:=HLL.o;simp;omega) ((GD.alloc _).alloc _).size ?_
          intro a3 c3 q3 ho3 hg3 hb3
          try simp only [List.length_nil,Nat.zero_add,List.nil_append] at ho3
          try simp only [List.length_nil,Nat.zero_add] at hb3
          try simp only [List.length_nil,Nat.zero_add]
          have G3:=grow_by (w0:=w16) ((GD.alloc _).alloc _) hg3 (own_at (by have:=ZD.o;(try simp);omega))
          have B3:=η (own_new (B:=w16.heap.size) ((GD.alloc _).alloc _).size hb3 (own_at (by have:=ZD.o;(try simp);omega)))
          have HO3:=η ho3
          have HG3:=η hg3
          clear ho3 hg3 hb3
          refine HK.o _ _ ⟨fun _=>HS.o _ G3,?_⟩
          clear HK K
          try simp only [Act.put,lzD,lzE,lzF]
          refine bO 10 (by kernel_rfl) rfl ?_
          intro K HK
          refine wanted_go rfl ?_
          try simp only [lzA,lzB,lzC]
          refine wp_appc (l:=h.log) (m:=[⟨5,q.deed,q.parts⟩]) (v:=.slice a3 (h.log.length) c3) ei_rc rfl one_Trc (by decide) (.tmp 91) (.tmp 97) rfl rfl (HO3.o) rfl (((Src.of_new (T:=Ty.rc) (x:=⟨5,q.deed,q.parts⟩) (c:=c) (cs:=#[.int .i64 5,.int .i64 q.deed,.slice ap2 q.parts.length cp2]) (show Ty.rc.R c _ (⟨5,q.deed,q.parts⟩:Rc) from⟨_,rfl,(show I64 5 from by unfold I64;decide),HEL.o.1,HEL.o.2.1⟩) _ _ (by simp))).kept HG3.o (by simp [Value.ownBlock])) (by have:=HLL.o;simp;omega) G3.size ?_
          intro a10 c10 q10 ho10 hg10 hb10
          try simp only [List.length_nil,List.length_cons,Nat.zero_add] at ho10
          try simp only [List.length_nil,List.length_cons,Nat.zero_add] at hb10
          try simp only [List.length_nil,List.length_cons,Nat.zero_add]
          have G10:=grow_by (w0:=w16) G3 hg10 B3.o
          have B10:=η (own_new (B:=w16.heap.size) G3.size hb10 B3.o)
          have HO10:=η ho10
          have HG10:=η hg10
          clear ho10 hg10 hb10
          refine HK.o _ _ ⟨fun _=>HS.o _ G10,?_⟩
          clear HK K
          try simp only [Act.put,lzD,lzE,lzF]
          refine bO 11 (by kernel_rfl) rfl ?_
          intro K HK
          try simp only [lzA,lzB,lzC]
          go_simp
          refine HK.o _ _ ⟨fun _=>HS.o _ G10,?_⟩
          clear HK K
          try simp only [Act.put,lzA,lzB,lzC,lzD,lzE,lzF]
          refine bO 12 (by kernel_rfl) rfl ?_
          intro K HK
          refine wanted_go rfl ?_
          try simp only [lzA,lzB,lzC]
          refine wp_store_cell (.tmp 99) (.tmp 98) (v:=.slice a10 (h.log.length+1) c10) (new:=#[.slice a10 (h.log.length+1) c10,.int .i64 h.boot,.int .i64 h.next,.slice ao so.length co]) rfl rfl (by rfl) (by rfl) (row_grow HB16.o.row G10) info_rcs (by simp) (by rfl) (by rfl) ?_
          intro w17 r17 g17
          have HBL:=η (QBox.setLog (HB16.o.later G10) [⟨5,q.deed,q.parts⟩] g17 r17 (by
           have h9:=HB16.o.newSl (by decide) (fc_in (HC.o.trans G1.o.sub)) HO10.o
           simpa using h9))
          have RO17:=η (row_by (row_grow RO16.o G10) g17 (by intro e;have:=Option.some.inj e;have:=HBB.o;have:=HBR.o.size;omega))
          clear r17 g17
          refine HK.o _ _ ⟨fun h=>absurd rfl h,?_⟩
          clear HK K
          try simp only [Act.put]
          refine but_done (by kernel_rfl) ?_
          have HAS:=η (fun(W:World) (hW:Grow w W)=>ref_asks (v:=.agg #[.int .i64 q.deed,.slice ap2 q.parts.length cp2,.bool true,.slice none 0 0]) (o:=⟨q.deed,q.parts,true,[]⟩) W ⟨_,rfl,_,_,rfl,HEL.o.1,HEL.o.2.1.mono (HC.o.trans hW.sub),Sl.nil _ _⟩ (by show q.parts.length*24≤_;have:=HPL.o;omega))
          obtain⟨e0,e1,e2,e3⟩:=cells4 RO17.o
          have zO:BO<w17.heap.size:=(γ RO17.o)
          go_wp2_with fail
          refine(HAS.o _ HBL.o.grow).mono ?_
          rintro e18 w18 ⟨v18,rfl,ho18,hb18⟩
          obtain⟨a18,c18,rfl⟩:=ho18.form
          have RO18:=η (row_grow RO17.o hb18)
          have HB18:=η ((HBL.o.later hb18).setSays (HBL.o.newSl (by decide) HBL.o.frSub ho18))
          clear ho18 hb18 e0 e1 e2 e3 zO
          obtain⟨e0,e1,e2,e3⟩:=cells4 RO18.o
          have zO:BO<w18.heap.size:=(γ RO18.o)
          have RA9:=η ((HB18.o.old 0 (by omega)).trans R1.o)
          have RB9:=η ((HB18.o.old 1 (by omega)).trans R2.o)
          obtain⟨y0,y1,y2,y3⟩:=cells4 RA9.o
          obtain⟨d0,d1,d2,d3⟩:=cells4 RB9.o
          obtain⟨x0,x1,x2,x3⟩:=cells4 HB18.o.row
          have zz:=HB18.o.size
          have zA:w.heap.size<w18.heap.size:=by omega
          have zB:w.heap.size+1<w18.heap.size:=by omega
          have zX:w.heap.size+3<w18.heap.size:=by omega
          go_wp2_with (first|(at_builtin;refine wpList_appc (c:=fc c wz w18 [(Value.slice ao so.length co).ownBlock]) (base:=w.heap.size+4) (l:=so) (m:=[⟨q.deed,q.parts,true,[]⟩]) ei_opn rfl one_Topn (by decide) rfl (.tmp 152) (.tmp 154) rfl rfl ?own rfl (Src.of_new (T:=Ty.opn) (x:=⟨q.deed,q.parts,true,[]⟩) (cs:=#[.int .i64 q.deed,.slice ap2 q.parts.length cp2,.bool true,.slice none 0 0]) ?d0 _ _ ?d1) ?d2 ?d3 ?_))
          case own=>exact OwnC.grow HB18.o.opn ((Grow.refl _).alloc _)
          case d0=>exact⟨_,_,rfl,HEL.o.1,HEL.o.2.1.mono (fc_in (HC.o.trans G1.o.sub)),Sl.nil _ _⟩
          case d1=>first|rfl|simp
          case d2=>have:=HSL.o;simp;omega
          case d3=>have:=HB18.o.size;simp;omega
          intro a9 c9 w9 ho9 hg9 hb9
          have R9:=η (row_by (row_grow HB18.o.row ((Grow.refl _).alloc (.cells #[.int .i64 q.deed,.slice ap2 q.parts.length cp2,.bool true,.slice none 0 0] 136))) hg9 (by intro e;have:=(HB18.o.opn.lt _ e.symm).1;omega))
          have HO9:=η ho9
          have HG9:=η hg9
          have HB9:=η hb9
          clear ho9 hg9 hb9
          go_wp2_with (first|(refine wpList_store_cell rfl (.tmp 156) (.tmp 155) (v:=.slice a9 (so.length+1) c9) (new:=#[.slice a10 (h.log.length+1) c10,.int .i64 h.boot,.int .i64 h.next,.slice a9 (so.length+1) c9]) rfl rfl (by rfl) (by rfl) R9.o info_opns (by simp) (by rfl) (by rfl) ?_))
          intro w10 r10 g10
          have HBN:=η (QBox.app HB18.o ⟨q.deed,q.parts,true,[]⟩ ((Grow.refl _).alloc (.cells #[.int .i64 q.deed,.slice ap2 q.parts.length cp2,.bool true,.slice none 0 0] 136)) HG9.o (HB9.o.imp_right fun⟨g,e,hge⟩=>⟨g,e,by simpa using hge⟩) HO9.o g10 r10)
          clear r10 g10
          go_wp2
          go_roundw
          case rel=>exact⟨k+1,_,_,by omega,by go_num,by rw [HNX.o,HST.o],by rw [HNX.o,HST.o];exact HBN.o⟩
          case measure=>simp [intOf];omega
        ·intro K HK
         try simp only [lzA,lzB,lzC]
         go_simp
         refine HK.o _ _ ⟨fun _=>HS.o _ (GD.alloc _),?_⟩
         clear HK K
         try simp only [Act.put,lzA,lzB,lzC,lzD,lzE,lzF]
         refine bO 0 (by kernel_rfl) rfl ?_
         intro K HK
         try simp only [lzA,lzC]
         go_simp
         refine HK.o _ _ ⟨fun _=>HS.o _ ((GD.alloc _).alloc _),?_⟩
         clear HK K
         try simp only [Act.put,lzA,lzB,lzC,lzD,lzE,lzF]
         refine bO 3 (by kernel_rfl) rfl ?_
         intro K HK
         refine wanted_go rfl ?_
         try simp only [lzA,lzB,lzC]
         refine wp_appc (l:=[]) (m:=h.log) (v:=.slice (some ⟨wd.heap.size+1,0,none⟩) 0 0) ei_rc rfl one_Trc (by decide) (.tmp 88) (.tmp 90) rfl rfl ((OwnC.made0 Ty.rc c _ w16.heap.size _ (by have:=ZD.o;(try simp);omega) (by simp))) rfl (HLSR.o _ ((GD.alloc _).alloc _)) (by have:=HLL.o;simp;omega) ((GD.alloc _).alloc _).size ?_
         intro a3 c3 q3 ho3 hg3 hb3
         try simp only [List.length_nil,Nat.zero_add,List.nil_append] at ho3
         try simp only [List.length_nil,Nat.zero_add] at hb3
         try simp only [List.length_nil,Nat.zero_add]
         have G3:=grow_by (w0:=w16) ((GD.alloc _).alloc _) hg3 (own_at (by have:=ZD.o;(try simp);omega))
         have B3:=η (own_new (B:=w16.heap.size) ((GD.alloc _).alloc _).size hb3 (own_at (by have:=ZD.o;(try simp);omega)))
         have HO3:=η ho3
         have HG3:=η hg3
         clear ho3 hg3 hb3
         refine HK.o _ _ ⟨fun _=>HS.o _ G3,?_⟩
         clear HK K
         try simp only [Act.put,lzD,lzE,lzF]
         refine bO 10 (by kernel_rfl) rfl ?_
         intro K HK
         refine wanted_go rfl ?_
         try simp only [lzA,lzB,lzC]
         refine wp_appc (l:=h.log) (m:=[⟨5,q.deed,q.parts⟩]) (v:=.slice a3 (h.log.length) c3) ei_rc rfl one_Trc (by decide) (.tmp 91) (.tmp 97) rfl rfl (HO3.o) rfl ((((Src.of_new (T:=Ty.rc) (x:=⟨5,q.deed,q.parts⟩) (c:=c) (cs:=#[.int .i64 5,.int .i64 q.deed,.slice ap2 q.parts.length cp2]) (show Ty.rc.R c _ (⟨5,q.deed,q.parts⟩:Rc) from⟨_,rfl,(show I64 5 from by unfold I64;decide),HEL.o.1,HEL.o.2.1⟩) _ _ (by simp))).grow ((Grow.refl _).alloc _)).kept HG3.o (by simp [Value.ownBlock])) (by have:=HLL.o;simp;omega) G3.size ?_
         intro a10 c10 q10 ho10 hg10 hb10
         try simp only [List.length_nil,List.length_cons,Nat.zero_add] at ho10
         try simp only [List.length_nil,List.length_cons,Nat.zero_add] at hb10
         try simp only [List.length_nil,List.length_cons,Nat.zero_add]
         have G10:=grow_by (w0:=w16) G3 hg10 B3.o
         have B10:=η (own_new (B:=w16.heap.size) G3.size hb10 B3.o)
         have HO10:=η ho10
         have HG10:=η hg10
         clear ho10 hg10 hb10
         refine HK.o _ _ ⟨fun _=>HS.o _ G10,?_⟩
         clear HK K
         try simp only [Act.put,lzD,lzE,lzF]
         refine bO 11 (by kernel_rfl) rfl ?_
         intro K HK
         try simp only [lzA,lzB,lzC]
         go_simp
         refine HK.o _ _ ⟨fun _=>HS.o _ G10,?_⟩
         clear HK K
         try simp only [Act.put,lzA,lzB,lzC,lzD,lzE,lzF]
         refine bO 12 (by kernel_rfl) rfl ?_
         intro K HK
         refine wanted_go rfl ?_
         try simp only [lzA,lzB,lzC]
         refine wp_store_cell (.tmp 99) (.tmp 98) (v:=.slice a10 (h.log.length+1) c10) (new:=#[.slice a10 (h.log.length+1) c10,.int .i64 h.boot,.int .i64 h.next,.slice ao so.length co]) rfl rfl (by rfl) (by rfl) (row_grow HB16.o.row G10) info_rcs (by simp) (by rfl) (by rfl) ?_
         intro w17 r17 g17
         have HBL:=η (QBox.setLog (HB16.o.later G10) [⟨5,q.deed,q.parts⟩] g17 r17 (by
          have h9:=HB16.o.newSl (by decide) (fc_in (HC.o.trans G1.o.sub)) HO10.o
          simpa using h9))
         have RO17:=η (row_by (row_grow RO16.o G10) g17 (by intro e;have:=Option.some.inj e;have:=HBB.o;have:=HBR.o.size;omega))
         clear r17 g17
         refine HK.o _ _ ⟨fun h=>absurd rfl h,?_⟩
         clear HK K
         try simp only [Act.put]
         refine but_done (by kernel_rfl) ?_
         have HAS:=η (fun(W:World) (hW:Grow w W)=>ref_asks (v:=.agg #[.int .i64 q.deed,.slice ap2 q.parts.length cp2,.bool true,.slice none 0 0]) (o:=⟨q.deed,q.parts,true,[]⟩) W ⟨_,rfl,_,_,rfl,HEL.o.1,HEL.o.2.1.mono (HC.o.trans hW.sub),Sl.nil _ _⟩ (by show q.parts.length*24≤_;have:=HPL.o;omega))
         obtain⟨e0,e1,e2,e3⟩:=cells4 RO17.o
         have zO:BO<w17.heap.size:=(γ RO17.o)
         go_wp2_with fail
         refine(HAS.o _ HBL.o.grow).mono ?_
         rintro e18 w18 ⟨v18,rfl,ho18,hb18⟩
         obtain⟨a18,c18,rfl⟩:=ho18.form
         have RO18:=η (row_grow RO17.o hb18)
         have HB18:=η ((HBL.o.later hb18).setSays (HBL.o.newSl (by decide) HBL.o.frSub ho18))
         clear ho18 hb18 e0 e1 e2 e3 zO
         obtain⟨e0,e1,e2,e3⟩:=cells4 RO18.o
         have zO:BO<w18.heap.size:=(γ RO18.o)
         have RA9:=η ((HB18.o.old 0 (by omega)).trans R1.o)
         have RB9:=η ((HB18.o.old 1 (by omega)).trans R2.o)
         obtain⟨y0,y1,y2,y3⟩:=cells4 RA9.o
         obtain⟨d0,d1,d2,d3⟩:=cells4 RB9.o
         obtain⟨x0,x1,x2,x3⟩:=cells4 HB18.o.row
         have zz:=HB18.o.size
         have zA:w.heap.size<w18.heap.size:=by omega
         have zB:w.heap.size+1<w18.heap.size:=by omega
         have zX:w.heap.size+3<w18.heap.size:=by omega
         go_wp2_with (first|(at_builtin;refine wpList_appc (c:=fc c wz w18 [(Value.slice ao so.length co).ownBlock]) (base:=w.heap.size+4) (l:=so) (m:=[⟨q.deed,q.parts,true,[]⟩]) ei_opn rfl one_Topn (by decide) rfl (.tmp 152) (.tmp 154) rfl rfl ?own rfl (Src.of_new (T:=Ty.opn) (x:=⟨q.deed,q.parts,true,[]⟩) (cs:=#[.int .i64 q.deed,.slice ap2 q.parts.length cp2,.bool true,.slice none 0 0]) ?d0 _ _ ?d1) ?d2 ?d3 ?_))
         case own=>exact OwnC.grow HB18.o.opn ((Grow.refl _).alloc _)
         case d0=>exact⟨_,_,rfl,HEL.o.1,HEL.o.2.1.mono (fc_in (HC.o.trans G1.o.sub)),Sl.nil _ _⟩
         case d1=>first|rfl|simp
         case d2=>have:=HSL.o;simp;omega
         case d3=>have:=HB18.o.size;simp;omega
         intro a9 c9 w9 ho9 hg9 hb9
         have R9:=η (row_by (row_grow HB18.o.row ((Grow.refl _).alloc (.cells #[.int .i64 q.deed,.slice ap2 q.parts.length cp2,.bool true,.slice none 0 0] 136))) hg9 (by intro e;have:=(HB18.o.opn.lt _ e.symm).1;omega))
         have HO9:=η ho9
         have HG9:=η hg9
         have HB9:=η hb9
         clear ho9 hg9 hb9
         go_wp2_with (first|(refine wpList_store_cell rfl (.tmp 156) (.tmp 155) (v:=.slice a9 (so.length+1) c9) (new:=#[.slice a10 (h.log.length+1) c10,.int .i64 h.boot,.int .i64 h.next,.slice a9 (so.length+1) c9]) rfl rfl (by rfl) (by rfl) R9.o info_opns (by simp) (by rfl) (by rfl) ?_))
         intro w10 r10 g10
         have HBN:=η (QBox.app HB18.o ⟨q.deed,q.parts,true,[]⟩ ((Grow.refl _).alloc (.cells #[.int .i64 q.deed,.slice ap2 q.parts.length cp2,.bool true,.slice none 0 0] 136)) HG9.o (HB9.o.imp_right fun⟨g,e,hge⟩=>⟨g,e,by simpa using hge⟩) HO9.o g10 r10)
         clear r10 g10
         go_wp2
         go_roundw
         case rel=>exact⟨k+1,_,_,by omega,by go_num,by rw [HNX.o,HST.o],by rw [HNX.o,HST.o];exact HBN.o⟩
         case measure=>simp [intOf];omega
       |false=>
        have HLF:=η HTA.o.symm
        have HST:Hid (hgoStep m ⟨so,[],[],false⟩ q=⟨so++ [⟨q.deed,q.parts,false,q.heard++ [m.house]⟩],[],[],true⟩):=η (by rw [HAT.o,hearO_yes HA.o HLF.o];try simp)
        obtain⟨e0,e1,e2,e3⟩:=cells4 RO14.o
        have zO:BO<w14.heap.size:=(γ RO14.o)
        have RA9:=η ((HB14.o.old 0 (by omega)).trans R1.o)
        have RB9:=η ((HB14.o.old 1 (by omega)).trans R2.o)
        obtain⟨y0,y1,y2,y3⟩:=cells4 RA9.o
        obtain⟨d0,d1,d2,d3⟩:=cells4 RB9.o
        obtain⟨x0,x1,x2,x3⟩:=cells4 HB14.o.row
        have zz:=HB14.o.size
        have zA:w.heap.size<w14.heap.size:=by omega
        have zB:w.heap.size+1<w14.heap.size:=by omega
        have zX:w.heap.size+3<w14.heap.size:=by omega
        have HB14t:Hid (QBox c w wz w14 h ⟨so,[],[],true⟩ _ _ _):=η (HB14.o.setSays HB14.o.says)
        go_wp2_with (first|(at_builtin;refine wpList_appc (c:=fc c wz w14 [(Value.slice ao so.length co).ownBlock]) (base:=w.heap.size+4) (l:=so) (m:=[⟨q.deed,q.parts,false,q.heard++ [m.house]⟩]) ei_opn rfl one_Topn (by decide) rfl (.tmp 152) (.tmp 154) rfl rfl ?own rfl (Src.of_new (T:=Ty.opn) (x:=⟨q.deed,q.parts,false,q.heard++ [m.house]⟩) (cs:=#[.int .i64 q.deed,.slice ap2 q.parts.length cp2,.bool false,.slice a12 (q.heard.length+1) c12]) ?d0 _ _ ?d1) ?d2 ?d3 ?_))
        case own=>exact OwnC.grow HB14t.o.opn ((Grow.refl _).alloc _)
        case d0=>exact⟨_,_,rfl,HEL.o.1,HEL.o.2.1.mono (fc_in (HC.o.trans G1.o.sub)),HB11.o.newSl (by decide) (fc_in (HC.o.trans G1.o.sub)) HO14.o⟩
        case d1=>first|rfl|simp
        case d2=>have:=HSL.o;simp;omega
        case d3=>have:=HB14t.o.size;simp;omega
        intro a9 c9 w9 ho9 hg9 hb9
        have R9:=η (row_by (row_grow HB14t.o.row ((Grow.refl _).alloc (.cells #[.int .i64 q.deed,.slice ap2 q.parts.length cp2,.bool false,.slice a12 (q.heard.length+1) c12] 136))) hg9 (by intro e;have:=(HB14t.o.opn.lt _ e.symm).1;omega))
        have HO9:=η ho9
        have HG9:=η hg9
        have HB9:=η hb9
        clear ho9 hg9 hb9
        go_wp2_with (first|(refine wpList_store_cell rfl (.tmp 156) (.tmp 155) (v:=.slice a9 (so.length+1) c9) (new:=#[.slice alx nl clx,.int .i64 h.boot,.int .i64 h.next,.slice a9 (so.length+1) c9]) rfl rfl (by rfl) (by rfl) R9.o info_opns (by simp) (by rfl) (by rfl) ?_))
        intro w10 r10 g10
        have HBN:=η (QBox.app HB14t.o ⟨q.deed,q.parts,false,q.heard++ [m.house]⟩ ((Grow.refl _).alloc (.cells #[.int .i64 q.deed,.slice ap2 q.parts.length cp2,.bool false,.slice a12 (q.heard.length+1) c12] 136)) HG9.o (HB9.o.imp_right fun⟨g,e,hge⟩=>⟨g,e,by simpa using hge⟩) HO9.o g10 r10)
        clear r10 g10
        go_wp2
        go_roundw
        case rel=>exact⟨k+1,_,_,by omega,by go_num,by rw [HNX.o,HST.o],by rw [HNX.o,HST.o];exact HBN.o⟩
        case measure=>simp [intOf];omega
     |false=>
      have HA:=η (of_decide_eq_false HT71.o.symm)
      obtain⟨t102,ht102⟩:∃b:Bool,b=decide (m.kind=3∧q.dec=false):=⟨_,rfl⟩
      have HT102:=η ht102
      clear ht102
      go_upto_region 19 with fail
      obtain⟨e0,e1,e2,e3⟩:=cells4 RO13.o
      have zO:BO<w13.heap.size:=(γ RO13.o)
      have RA9:=η ((HB13.o.old 0 (by omega)).trans R1.o)
      have RB9:=η ((HB13.o.old 1 (by omega)).trans R2.o)
      obtain⟨y0,y1,y2,y3⟩:=cells4 RA9.o
      obtain⟨d0,d1,d2,d3⟩:=cells4 RB9.o
      obtain⟨x0,x1,x2,x3⟩:=cells4 HB13.o.row
      have zz:=HB13.o.size
      have zA:w.heap.size<w13.heap.size:=by omega
      have zB:w.heap.size+1<w13.heap.size:=by omega
      have zX:w.heap.size+3<w13.heap.size:=by omega
      go_cut [102,158,159,160,161,162,163,164,165,166,167,168,169,170,171,172] from 103 (fun s102 s158 s159 s160 s161 s162 s163 s164 s165 s166 s167 s168 s169 s170 s171 s172 wc=>s102=.bool t102∧(s158=undef∧s159=undef∧s160=undef∧s161=undef∧s162=undef∧s163=undef∧s164=undef∧s165=undef∧s166=undef∧s167=undef∧s168=undef∧s169=undef∧s170=undef∧s171=undef∧s172=undef)∧w13=wc)
      case first=>
       by_cases hk:m.kind=3
       ·have hkb:(m.kind==3)=true:=by simp [hk]
        have HK:=η hk
        clear hk
        obtain⟨db,hdq⟩:∃b,b=q.dec:=⟨_,rfl⟩
        rw [←hdq] at e2
        have HDC:=η hdq
        clear hdq
        cases db with
        |true=>
         go_wp2
         go_meet
         case rel=>exact⟨by have h1:=HK.o;have h2:=HDC.o.symm;rw [HT102.o];(try rw [HTN.o]);simp [h1,h2],⟨rfl,rfl,rfl,rfl,rfl,rfl,rfl,rfl,rfl,rfl,rfl,rfl,rfl,rfl,rfl⟩,rfl⟩
        |false=>
         go_wp2
         go_meet
         case rel=>exact⟨by have h1:=HK.o;have h2:=HDC.o.symm;rw [HT102.o];(try rw [HTN.o]);simp [h1,h2],⟨rfl,rfl,rfl,rfl,rfl,rfl,rfl,rfl,rfl,rfl,rfl,rfl,rfl,rfl,rfl⟩,rfl⟩
       ·have hkb:(m.kind==3)=false:=by simp [hk]
        have HK:=η hk
        clear hk
        go_wp2
        go_meet
        case rel=>exact⟨by have h1:=HK.o;rw [HT102.o];simp [h1],⟨rfl,rfl,rfl,rfl,rfl,rfl,rfl,rfl,rfl,rfl,rfl,rfl,rfl,rfl,rfl⟩,rfl⟩
      case rest=>
      obtain⟨rfl,⟨rfl,rfl,rfl,rfl,rfl,rfl,rfl,rfl,rfl,rfl,rfl,rfl,rfl,rfl,rfl⟩,rfl⟩:=hcut
      clear e0 e1 e2 e3 zO y0 y1 y2 y3 d0 d1 d2 d3 x0 x1 x2 x3 zz zA zB zX RA9 RB9
      cases t102 with
      |true=>
       skip
       have HBH:=η (of_decide_eq_true HT102.o.symm)
       have HST:Hid (hgoStep m ⟨so,[],[],false⟩ q=⟨so,[],abortsE q.deed q.parts,true⟩):=η (by rw [HAT.o,hearO_no HA.o HBH.o];try simp)
       have HAB:=η (fun(W:World) (hW:Grow w W)=>ref_aborts (v:=.agg #[.int .i64 q.deed,.slice ap2 q.parts.length cp2,.bool q.dec,.slice ah q.heard.length ch]) (o:=q) W ⟨_,rfl,_,_,rfl,HEL.o.1,HEL.o.2.1.mono (HC.o.trans hW.sub),HEL.o.2.2.mono (HC.o.trans hW.sub)⟩ (by have:=HPL.o;omega))
       obtain⟨e0,e1,e2,e3⟩:=cells4 RO13.o
       have zO:BO<w13.heap.size:=(γ RO13.o)
       go_wp2_with fail
       refine(HAB.o _ HB13.o.grow).mono ?_
       rintro e18 w18 ⟨v18,rfl,ho18,hb18⟩
       obtain⟨a18,c18,rfl⟩:=ho18.form
       have HBN:Hid (QBox c w wz w18 h ⟨so,[],abortsE q.deed q.parts,true⟩ _ _ _):=η ((HB13.o.later hb18).setSays (HB13.o.newSl (by decide) (fun _ _ e9=>by cases e9) ho18))
       clear ho18 hb18 e0 e1 e2 e3 zO
       go_wp2
       go_roundw
       case rel=>exact⟨k+1,_,_,by omega,by go_num,by rw [HNX.o,HST.o],by rw [HNX.o,HST.o];exact HBN.o⟩
       case measure=>simp [intOf];omega
      |false=>
       have HB:=η (of_decide_eq_false HT102.o.symm)
       obtain⟨t113,ht113⟩:∃b:Bool,b=decide (m.kind=6∧q.dec=true∧isNew q m):=⟨_,rfl⟩
       have HT113:=η ht113
       clear ht113
       go_upto_region 21 with fail
       obtain⟨e0,e1,e2,e3⟩:=cells4 RO13.o
       have zO:BO<w13.heap.size:=(γ RO13.o)
       have RA9:=η ((HB13.o.old 0 (by omega)).trans R1.o)
       have RB9:=η ((HB13.o.old 1 (by omega)).trans R2.o)
       obtain⟨y0,y1,y2,y3⟩:=cells4 RA9.o
       obtain⟨d0,d1,d2,d3⟩:=cells4 RB9.o
       obtain⟨x0,x1,x2,x3⟩:=cells4 HB13.o.row
       have zz:=HB13.o.size
       have zA:w.heap.size<w13.heap.size:=by omega
       have zB:w.heap.size+1<w13.heap.size:=by omega
       have zX:w.heap.size+3<w13.heap.size:=by omega
       go_cut [113,158,159,160,161,162,163,164,165,166,167,168,169,170,171,172] from 114 (fun s113 s158 s159 s160 s161 s162 s163 s164 s165 s166 s167 s168 s169 s170 s171 s172 wc=>s113=.bool t113∧(s158=undef∧s159=undef∧s160=undef∧s161=undef∧s162=undef∧s163=undef∧s164=undef∧s165=undef∧s166=undef∧s167=undef∧s168=undef∧s169=undef∧s170=undef∧s171=undef∧s172=undef)∧w13=wc)
       case first=>
        by_cases hk:m.kind=6
        ·have hkb:(m.kind==6)=true:=by simp [hk]
         have HK:=η hk
         clear hk
         obtain⟨db,hdq⟩:∃b,b=q.dec:=⟨_,rfl⟩
         rw [←hdq] at e2
         have HDC:=η hdq
         clear hdq
         cases db with
         |true=>
          go_wp2
          go_meet
          case rel=>exact⟨by have h1:=HK.o;have h2:=HDC.o.symm;rw [HT113.o];(try rw [HTN.o]);simp [h1,h2],⟨rfl,rfl,rfl,rfl,rfl,rfl,rfl,rfl,rfl,rfl,rfl,rfl,rfl,rfl,rfl⟩,rfl⟩
         |false=>
          go_wp2
          go_meet
          case rel=>exact⟨by have h1:=HK.o;have h2:=HDC.o.symm;rw [HT113.o];(try rw [HTN.o]);simp [h1,h2],⟨rfl,rfl,rfl,rfl,rfl,rfl,rfl,rfl,rfl,rfl,rfl,rfl,rfl,rfl,rfl⟩,rfl⟩
        ·have hkb:(m.kind==6)=false:=by simp [hk]
         have HK:=η hk
         clear hk
         go_wp2
         go_meet
         case rel=>exact⟨by have h1:=HK.o;rw [HT113.o];simp [h1],⟨rfl,rfl,rfl,rfl,rfl,rfl,rfl,rfl,rfl,rfl,rfl,rfl,rfl,rfl,rfl⟩,rfl⟩
       case rest=>
       obtain⟨rfl,⟨rfl,rfl,rfl,rfl,rfl,rfl,rfl,rfl,rfl,rfl,rfl,rfl,rfl,rfl,rfl⟩,rfl⟩:=hcut
       clear e0 e1 e2 e3 zO y0 y1 y2 y3 d0 d1 d2 d3 x0 x1 x2 x3 zz zA zB zX RA9 RB9
       cases t113 with
       |true=>
        skip
        as_aux_lemma=>
         have HCC:=η (of_decide_eq_true HT113.o.symm)
         have hdc:=HCC.o.2.1
         rw [hdc] at RO13
         clear hdc
         go_wp2_with (first|(refine wpList_store_cell rfl (.tmp 125) (.tmp 124) (v:=.slice a12 (q.heard.length+1) c12) (new:=#[.int .i64 q.deed,.slice ap2 q.parts.length cp2,.bool true,.slice a12 (q.heard.length+1) c12]) rfl rfl (by rfl) (by rfl) RO13.o info_ints (by simp) (by rfl) (by rfl) ?_))
         intro w14 r14 g14
         have RO14:=η r14
         have G14:Hid (Grow wr w14):=η ((((GO.o.trans GC_w11.o).trans GC_w12.o).trans GC_w13.o).grown g14 (fun q9 e9=>by have:=Option.some.inj e9;have:=HBB.o;omega))
         have HB14:=η (HBR.o.later G14.o)
         have HO14:=η (HO13.o.kept g14 (own_apart HO13.o (by have:=(γ RO11.o);omega)))
         clear r14 g14
         cases ta with
         |true=>
          have HLF:=η HTA.o.symm
          have HST:Hid (hgoStep m ⟨so,[],[],false⟩ q=⟨so,[⟨6,q.deed,[]⟩],[],true⟩):=η (by rw [HAT.o,hearO_ackAll HA.o HB.o HCC.o HLF.o];try simp)
          have HLSR:=η (fun(W:World) (hW:Grow w14 W)=>Src.of_sl_c (T:=Ty.rc) (by decide) (HC.o.trans (HB14.o.grow.trans hW).sub) HLG.o)
          have HS:Hid (∀W,Grow w14 W→W.cell? ⟨w.heap.size,0,none⟩=some (.slice al h.log.length cl)∧W.cell? ⟨BO,0,none⟩=some (.int .i64 q.deed)):=fun W hW=>by
           obtain⟨k0,k1,-,-⟩:=cells4 (row_grow RO14.o hW)
           obtain⟨j0,-,-,-⟩:=cells4 (row_grow ((HB14.o.old 0 (by omega)).trans R1.o) hW)
           exact⟨j0,k0⟩
          go_upto_region 24 with fail
          refine but_start (fun w'=>w'.cell? ⟨w.heap.size,0,none⟩=some (.slice al h.log.length cl)∧w'.cell? ⟨BO,0,none⟩=some (.int .i64 q.deed)) 10 (by kernel_rfl) ?_
          obtain⟨wd,hWd⟩:∃x:World,x=w14.drew:=⟨_,rfl⟩
          rw [←hWd]
          have GD:Grow w14 wd:=by rw [hWd];exact(Grow.refl _).drew
          have zD:w14.heap.size=wd.heap.size:=by rw [hWd];rfl
          have ZD:=η zD
          clear hWd zD
          refine bLm [1,2,4,5,6] 16 (by kernel_rfl) (fun _ _ _ _ _ h=>h) (HS.o _ GD) ?_
          repeat (refine tNm (v:=?_) rfl (by rfl) ?_ ?_;rotate_left;(· (intro w' hSw;(try dsimp only at hSw);obtain⟨hs0,hs1⟩:=hSw;go_simp<;>with_reducible rfl));try simp only [Act.put,lzA,lzB,lzC,lzD,lzE,lzF])
          refine tEm ?_
          refine bP 0 7 (by kernel_rfl) rfl rfl ?_ ?_
          ·intro K HK
           try simp only [lzA,lzC]
           go_simp
           refine HK.o _ _ ⟨fun _=>HS.o _ (GD.alloc _),?_⟩
           clear HK K
           try simp only [Act.put,lzA,lzB,lzC,lzD,lzE,lzF]
           refine bP 3 7 (by kernel_rfl) rfl rfl ?_ ?_
           ·intro K HK
            refine wanted_go rfl ?_
            try simp only [lzA,lzB,lzC]
            refine wp_appc (l:=[]) (m:=h.log) (v:=.slice (some ⟨wd.heap.size,0,none⟩) 0 0) ei_rc rfl one_Trc (by decide) (.tmp 127) (.tmp 129) rfl rfl ((OwnC.made0 Ty.rc c _ w14.heap.size _ (by have:=ZD.o;(try simp);omega) (by simp))) rfl (HLSR.o _ (GD.alloc _)) (by have:=HLL.o;simp;omega) (GD.alloc _).size ?_
            intro a3 c3 q3 ho3 hg3 hb3
            try simp only [List.length_nil,Nat.zero_add,List.nil_append] at ho3
            try simp only [List.length_nil,Nat.zero_add] at hb3
            try simp only [List.length_nil,Nat.zero_add]
            have G3:=grow_by (w0:=w14) (GD.alloc _) hg3 (own_at (by have:=ZD.o;(try simp);omega))
            have B3:=η (own_new (B:=w14.heap.size) (GD.alloc _).size hb3 (own_at (by have:=ZD.o;(try simp);omega)))
            have HO3:=η ho3
            have HG3:=η hg3
            clear ho3 hg3 hb3
            refine HK.o _ _ ⟨fun _=>HS.o _ G3,?_⟩
            clear HK K
            try simp only [Act.put,lzD,lzE,lzF]
            refine bO 7 (by kernel_rfl) rfl ?_
            intro K HK
            try simp only [lzA,lzB,lzC]
            go_simp
            refine HK.o _ _ ⟨fun _=>HS.o _ (G3.alloc _),?_⟩
            clear HK K
            try simp only [Act.put,lzA,lzB,lzC,lzD,lzE,lzF]
            refine bO 8 (by kernel_rfl) rfl ?_
            intro K HK
            refine wanted_go rfl ?_
            try simp only [lzA,lzB,lzC]
            refine wp_appc (l:=h.log) (m:=[⟨6,q.deed,[]⟩]) (v:=.slice a3 (h.log.length) c3) ei_rc rfl one_Trc (by decide) (.tmp 130) (.tmp 134) rfl rfl ((HO3.o).grow ((Grow.refl _).alloc _)) rfl ((Src.of_new (T:=Ty.rc) (x:=⟨6,q.deed,[]⟩) (c:=c) (cs:=#[.int .i64 6,.int .i64 q.deed,.slice none 0 0]) (show Ty.rc.R c _ (⟨6,q.deed,[]⟩:Rc) from⟨_,rfl,(show I64 6 from by unfold I64;decide),HEL.o.1,Sl.nil _ _⟩) _ _ (by simp))) (by have:=HLL.o;simp;omega) (G3.alloc _).size ?_
            intro a8 c8 q8 ho8 hg8 hb8
            try simp only [List.length_nil,List.length_cons,Nat.zero_add] at ho8
            try simp only [List.length_nil,List.length_cons,Nat.zero_add] at hb8
            try simp only [List.length_nil,List.length_cons,Nat.zero_add]
            have G8:=grow_by (w0:=w14) (G3.alloc _) hg8 B3.o
            have B8:=η (own_new (B:=w14.heap.size) (G3.alloc _).size hb8 B3.o)
            have HO8:=η ho8
            have HG8:=η hg8
            clear ho8 hg8 hb8
            refine HK.o _ _ ⟨fun _=>HS.o _ G8,?_⟩
            clear HK K
            try simp only [Act.put,lzD,lzE,lzF]
            refine bO 9 (by kernel_rfl) rfl ?_
            intro K HK
            try simp only [lzA,lzB,lzC]
            go_simp
            refine HK.o _ _ ⟨fun _=>HS.o _ G8,?_⟩
            clear HK K
            try simp only [Act.put,lzA,lzB,lzC,lzD,lzE,lzF]
            refine bO 10 (by kernel_rfl) rfl ?_
            intro K HK
            refine wanted_go rfl ?_
            try simp only [lzA,lzB,lzC]
            refine wp_store_cell (.tmp 136) (.tmp 135) (v:=.slice a8 (h.log.length+1) c8) (new:=#[.slice a8 (h.log.length+1) c8,.int .i64 h.boot,.int .i64 h.next,.slice ao so.length co]) rfl rfl (by rfl) (by rfl) (row_grow HB14.o.row G8) info_rcs (by simp) (by rfl) (by rfl) ?_
            intro w17 r17 g17
            have HBL:=η (QBox.setLog (HB14.o.later G8) [⟨6,q.deed,[]⟩] g17 r17 (by
             have h9:=HB14.o.newSl (by decide) (fc_in (HC.o.trans G1.o.sub)) HO8.o
             simpa using h9))
            have RO17:=η (row_by (row_grow RO14.o G8) g17 (by intro e;have:=Option.some.inj e;have:=HBB.o;have:=HBR.o.size;omega))
            clear r17 g17
            refine HK.o _ _ ⟨fun h=>absurd rfl h,?_⟩
            clear HK K
            try simp only [Act.put]
            refine but_done (by kernel_rfl) ?_
            have HBN:Hid (QBox c w wz w17 h ⟨so,[⟨6,q.deed,[]⟩],[],true⟩ _ _ _):=η (HBL.o.setSays HBL.o.says)
            go_wp2
            go_roundw
            case rel=>exact⟨k+1,_,_,by omega,by go_num,by rw [HNX.o,HST.o],by rw [HNX.o,HST.o];exact HBN.o⟩
            case measure=>simp [intOf];omega
           ·intro K HK
            try simp only [lzA,lzB,lzC]
            go_simp
            refine HK.o _ _ ⟨fun _=>HS.o _ ((GD.alloc _).alloc _),?_⟩
            clear HK K
            try simp only [Act.put,lzA,lzB,lzC,lzD,lzE,lzF]
            refine bO 3 (by kernel_rfl) rfl ?_
            intro K HK
            refine wanted_go rfl ?_
            try simp only [lzA,lzB,lzC]
            refine wp_appc (l:=[]) (m:=h.log) (v:=.slice (some ⟨wd.heap.size,0,none⟩) 0 0) ei_rc rfl one_Trc (by decide) (.tmp 127) (.tmp 129) rfl rfl (((OwnC.made0 Ty.rc c _ w14.heap.size _ (by have:=ZD.o;(try simp);omega) (by simp))).grow ((Grow.refl _).alloc _)) rfl (HLSR.o _ ((GD.alloc _).alloc _)) (by have:=HLL.o;simp;omega) ((GD.alloc _).alloc _).size ?_
            intro a3 c3 q3 ho3 hg3 hb3
            try simp only [List.length_nil,Nat.zero_add,List.nil_append] at ho3
            try simp only [List.length_nil,Nat.zero_add] at hb3
            try simp only [List.length_nil,Nat.zero_add]
            have G3:=grow_by (w0:=w14) ((GD.alloc _).alloc _) hg3 (own_at (by have:=ZD.o;(try simp);omega))
            have B3:=η (own_new (B:=w14.heap.size) ((GD.alloc _).alloc _).size hb3 (own_at (by have:=ZD.o;(try simp);omega)))
            have HO3:=η ho3
            have HG3:=η hg3
            clear ho3 hg3 hb3
            refine HK.o _ _ ⟨fun _=>HS.o _ G3,?_⟩
            clear HK K
            try simp only [Act.put,lzD,lzE,lzF]
            refine bO 8 (by kernel_rfl) rfl ?_
            intro K HK
            refine wanted_go rfl ?_
            try simp only [lzA,lzB,lzC]
            refine wp_appc (l:=h.log) (m:=[⟨6,q.deed,[]⟩]) (v:=.slice a3 (h.log.length) c3) ei_rc rfl one_Trc (by decide) (.tmp 130) (.tmp 134) rfl rfl (HO3.o) rfl (((Src.of_new (T:=Ty.rc) (x:=⟨6,q.deed,[]⟩) (c:=c) (cs:=#[.int .i64 6,.int .i64 q.deed,.slice none 0 0]) (show Ty.rc.R c _ (⟨6,q.deed,[]⟩:Rc) from⟨_,rfl,(show I64 6 from by unfold I64;decide),HEL.o.1,Sl.nil _ _⟩) _ _ (by simp))).kept HG3.o (by simp [Value.ownBlock])) (by have:=HLL.o;simp;omega) G3.size ?_
            intro a8 c8 q8 ho8 hg8 hb8
            try simp only [List.length_nil,List.length_cons,Nat.zero_add] at ho8
            try simp only [List.length_nil,List.length_cons,Nat.zero_add] at hb8
            try simp only [List.length_nil,List.length_cons,Nat.zero_add]
            have G8:=grow_by (w0:=w14) G3 hg8 B3.o
            have B8:=η (own_new (B:=w14.heap.size) G3.size hb8 B3.o)
            have HO8:=η ho8
            have HG8:=η hg8
            clear ho8 hg8 hb8
            refine HK.o _ _ ⟨fun _=>HS.o _ G8,?_⟩
            clear HK K
            try simp only [Act.put,lzD,lzE,lzF]
            refine bO 9 (by kernel_rfl) rfl ?_
            intro K HK
            try simp only [lzA,lzB,lzC]
            go_simp
            refine HK.o _ _ ⟨fun _=>HS.o _ G8,?_⟩
            clear HK K
            try simp only [Act.put,lzA,lzB,lzC,lzD,lzE,lzF]
            refine bO 10 (by kernel_rfl) rfl ?_
            intro K HK
            refine wanted_go rfl ?_
            try simp only [lzA,lzB,lzC]
            refine wp_store_cell (.tmp 136) (.tmp 135) (v:=.slice a8 (h.log.length+1) c8) (new:=#[.slice a8 (h.log.length+1) c8,.int .i64 h.boot,.int .i64 h.next,.slice ao so.length co]) rfl rfl (by rfl) (by rfl) (row_grow HB14.o.row G8) info_rcs (by simp) (by rfl) (by rfl) ?_
            intro w17 r17 g17
            have HBL:=η (QBox.setLog (HB14.o.later G8) [⟨6,q.deed,[]⟩] g17 r17 (by
             have h9:=HB14.o.newSl (by decide) (fc_in (HC.o.trans G1.o.sub)) HO8.o
             simpa using h9))
            have RO17:=η (row_by (row_grow RO14.o G8) g17 (by intro e;have:=Option.some.inj e;have:=HBB.o;have:=HBR.o.size;omega))
            clear r17 g17
            refine HK.o _ _ ⟨fun h=>absurd rfl h,?_⟩
            clear HK K
            try simp only [Act.put]
            refine but_done (by kernel_rfl) ?_
            have HBN:Hid (QBox c w wz w17 h ⟨so,[⟨6,q.deed,[]⟩],[],true⟩ _ _ _):=η (HBL.o.setSays HBL.o.says)
            go_wp2
            go_roundw
            case rel=>exact⟨k+1,_,_,by omega,by go_num,by rw [HNX.o,HST.o],by rw [HNX.o,HST.o];exact HBN.o⟩
            case measure=>simp [intOf];omega
          ·intro K HK
           try simp only [lzA,lzB,lzC]
           go_simp
           refine HK.o _ _ ⟨fun _=>HS.o _ (GD.alloc _),?_⟩
           clear HK K
           try simp only [Act.put,lzA,lzB,lzC,lzD,lzE,lzF]
           refine bO 0 (by kernel_rfl) rfl ?_
           intro K HK
           try simp only [lzA,lzC]
           go_simp
           refine HK.o _ _ ⟨fun _=>HS.o _ ((GD.alloc _).alloc _),?_⟩
           clear HK K
           try simp only [Act.put,lzA,lzB,lzC,lzD,lzE,lzF]
           refine bO 3 (by kernel_rfl) rfl ?_
           intro K HK
           refine wanted_go rfl ?_
           try simp only [lzA,lzB,lzC]
           refine wp_appc (l:=[]) (m:=h.log) (v:=.slice (some ⟨wd.heap.size+1,0,none⟩) 0 0) ei_rc rfl one_Trc (by decide) (.tmp 127) (.tmp 129) rfl rfl ((OwnC.made0 Ty.rc c _ w14.heap.size _ (by have:=ZD.o;(try simp);omega) (by simp))) rfl (HLSR.o _ ((GD.alloc _).alloc _)) (by have:=HLL.o;simp;omega) ((GD.alloc _).alloc _).size ?_
           intro a3 c3 q3 ho3 hg3 hb3
           try simp only [List.length_nil,Nat.zero_add,List.nil_append] at ho3
           try simp only [List.length_nil,Nat.zero_add] at hb3
           try simp only [List.length_nil,Nat.zero_add]
           have G3:=grow_by (w0:=w14) ((GD.alloc _).alloc _) hg3 (own_at (by have:=ZD.o;(try simp);omega))
           have B3:=η (own_new (B:=w14.heap.size) ((GD.alloc _).alloc _).size hb3 (own_at (by have:=ZD.o;(try simp);omega)))
           have HO3:=η ho3
           have HG3:=η hg3
           clear ho3 hg3 hb3
           refine HK.o _ _ ⟨fun _=>HS.o _ G3,?_⟩
           clear HK K
           try simp only [Act.put,lzD,lzE,lzF]
           refine bO 8 (by kernel_rfl) rfl ?_
           intro K HK
           refine wanted_go rfl ?_
           try simp only [lzA,lzB,lzC]
           refine wp_appc (l:=h.log) (m:=[⟨6,q.deed,[]⟩]) (v:=.slice a3 (h.log.length) c3) ei_rc rfl one_Trc (by decide) (.tmp 130) (.tmp 134) rfl rfl (HO3.o) rfl ((((Src.of_new (T:=Ty.rc) (x:=⟨6,q.deed,[]⟩) (c:=c) (cs:=#[.int .i64 6,.int .i64 q.deed,.slice none 0 0]) (show Ty.rc.R c _ (⟨6,q.deed,[]⟩:Rc) from⟨_,rfl,(show I64 6 from by unfold I64;decide),HEL.o.1,Sl.nil _ _⟩) _ _ (by simp))).grow ((Grow.refl _).alloc _)).kept HG3.o (by simp [Value.ownBlock])) (by have:=HLL.o;simp;omega) G3.size ?_
           intro a8 c8 q8 ho8 hg8 hb8
           try simp only [List.length_nil,List.length_cons,Nat.zero_add] at ho8
           try simp only [List.length_nil,List.length_cons,Nat.zero_add] at hb8
           try simp only [List.length_nil,List.length_cons,Nat.zero_add]
           have G8:=grow_by (w0:=w14) G3 hg8 B3.o
           have B8:=η (own_new (B:=w14.heap.size) G3.size hb8 B3.o)
           have HO8:=η ho8
           have HG8:=η hg8
           clear ho8 hg8 hb8
           refine HK.o _ _ ⟨fun _=>HS.o _ G8,?_⟩
           clear HK K
           try simp only [Act.put,lzD,lzE,lzF]
           refine bO 9 (by kernel_rfl) rfl ?_
           intro K HK
           try simp only [lzA,lzB,lzC]
           go_simp
           refine HK.o _ _ ⟨fun _=>HS.o _ G8,?_⟩
           clear HK K
           try simp only [Act.put,lzA,lzB,lzC,lzD,lzE,lzF]
           refine bO 10 (by kernel_rfl) rfl ?_
           intro K HK
           refine wanted_go rfl ?_
           try simp only [lzA,lzB,lzC]
           refine wp_store_cell (.tmp 136) (.tmp 135) (v:=.slice a8 (h.log.length+1) c8) (new:=#[.slice a8 (h.log.length+1) c8,.int .i64 h.boot,.int .i64 h.next,.slice ao so.length co]) rfl rfl (by rfl) (by rfl) (row_grow HB14.o.row G8) info_rcs (by simp) (by rfl) (by rfl) ?_
           intro w17 r17 g17
           have HBL:=η (QBox.setLog (HB14.o.later G8) [⟨6,q.deed,[]⟩] g17 r17 (by
            have h9:=HB14.o.newSl (by decide) (fc_in (HC.o.trans G1.o.sub)) HO8.o
            simpa using h9))
           have RO17:=η (row_by (row_grow RO14.o G8) g17 (by intro e;have:=Option.some.inj e;have:=HBB.o;have:=HBR.o.size;omega))
           clear r17 g17
           refine HK.o _ _ ⟨fun h=>absurd rfl h,?_⟩
           clear HK K
           try simp only [Act.put]
           refine but_done (by kernel_rfl) ?_
           have HBN:Hid (QBox c w wz w17 h ⟨so,[⟨6,q.deed,[]⟩],[],true⟩ _ _ _):=η (HBL.o.setSays HBL.o.says)
           go_wp2
           go_roundw
           case rel=>exact⟨k+1,_,_,by omega,by go_num,by rw [HNX.o,HST.o],by rw [HNX.o,HST.o];exact HBN.o⟩
           case measure=>simp [intOf];omega
         |false=>
          have HLF:=η HTA.o.symm
          have HST:Hid (hgoStep m ⟨so,[],[],false⟩ q=⟨so++ [⟨q.deed,q.parts,true,q.heard++ [m.house]⟩],[],[],true⟩):=η (by rw [HAT.o,hearO_ack HA.o HB.o HCC.o HLF.o];try simp)
          obtain⟨e0,e1,e2,e3⟩:=cells4 RO14.o
          have zO:BO<w14.heap.size:=(γ RO14.o)
          have RA9:=η ((HB14.o.old 0 (by omega)).trans R1.o)
          have RB9:=η ((HB14.o.old 1 (by omega)).trans R2.o)
          obtain⟨y0,y1,y2,y3⟩:=cells4 RA9.o
          obtain⟨d0,d1,d2,d3⟩:=cells4 RB9.o
          obtain⟨x0,x1,x2,x3⟩:=cells4 HB14.o.row
          have zz:=HB14.o.size
          have zA:w.heap.size<w14.heap.size:=by omega
          have zB:w.heap.size+1<w14.heap.size:=by omega
          have zX:w.heap.size+3<w14.heap.size:=by omega
          have HB14t:Hid (QBox c w wz w14 h ⟨so,[],[],true⟩ _ _ _):=η (HB14.o.setSays HB14.o.says)
          go_wp2_with (first|(at_builtin;refine wpList_appc (c:=fc c wz w14 [(Value.slice ao so.length co).ownBlock]) (base:=w.heap.size+4) (l:=so) (m:=[⟨q.deed,q.parts,true,q.heard++ [m.house]⟩]) ei_opn rfl one_Topn (by decide) rfl (.tmp 152) (.tmp 154) rfl rfl ?own rfl (Src.of_new (T:=Ty.opn) (x:=⟨q.deed,q.parts,true,q.heard++ [m.house]⟩) (cs:=#[.int .i64 q.deed,.slice ap2 q.parts.length cp2,.bool true,.slice a12 (q.heard.length+1) c12]) ?d0 _ _ ?d1) ?d2 ?d3 ?_))
          case own=>exact OwnC.grow HB14t.o.opn ((Grow.refl _).alloc _)
          case d0=>exact⟨_,_,rfl,HEL.o.1,HEL.o.2.1.mono (fc_in (HC.o.trans G1.o.sub)),HB11.o.newSl (by decide) (fc_in (HC.o.trans G1.o.sub)) HO14.o⟩
          case d1=>first|rfl|simp
          case d2=>have:=HSL.o;simp;omega
          case d3=>have:=HB14t.o.size;simp;omega
          intro a9 c9 w9 ho9 hg9 hb9
          have R9:=η (row_by (row_grow HB14t.o.row ((Grow.refl _).alloc (.cells #[.int .i64 q.deed,.slice ap2 q.parts.length cp2,.bool true,.slice a12 (q.heard.length+1) c12] 136))) hg9 (by intro e;have:=(HB14t.o.opn.lt _ e.symm).1;omega))
          have HO9:=η ho9
          have HG9:=η hg9
          have HB9:=η hb9
          clear ho9 hg9 hb9
          go_wp2_with (first|(refine wpList_store_cell rfl (.tmp 156) (.tmp 155) (v:=.slice a9 (so.length+1) c9) (new:=#[.slice alx nl clx,.int .i64 h.boot,.int .i64 h.next,.slice a9 (so.length+1) c9]) rfl rfl (by rfl) (by rfl) R9.o info_opns (by simp) (by rfl) (by rfl) ?_))
          intro w10 r10 g10
          have HBN:=η (QBox.app HB14t.o ⟨q.deed,q.parts,true,q.heard++ [m.house]⟩ ((Grow.refl _).alloc (.cells #[.int .i64 q.deed,.slice ap2 q.parts.length cp2,.bool true,.slice a12 (q.heard.length+1) c12] 136)) HG9.o (HB9.o.imp_right fun⟨g,e,hge⟩=>⟨g,e,by simpa using hge⟩) HO9.o g10 r10)
          clear r10 g10
          go_wp2
          go_roundw
          case rel=>exact⟨k+1,_,_,by omega,by go_num,by rw [HNX.o,HST.o],by rw [HNX.o,HST.o];exact HBN.o⟩
          case measure=>simp [intOf];omega
       |false=>
        have HCC:=η (of_decide_eq_false HT113.o.symm)
        obtain⟨t137,ht137⟩:∃b:Bool,b=decide (m.kind=7∧q.dec=true):=⟨_,rfl⟩
        have HT137:=η ht137
        clear ht137
        go_upto_region 25 with fail
        obtain⟨e0,e1,e2,e3⟩:=cells4 RO13.o
        have zO:BO<w13.heap.size:=(γ RO13.o)
        have RA9:=η ((HB13.o.old 0 (by omega)).trans R1.o)
        have RB9:=η ((HB13.o.old 1 (by omega)).trans R2.o)
        obtain⟨y0,y1,y2,y3⟩:=cells4 RA9.o
        obtain⟨d0,d1,d2,d3⟩:=cells4 RB9.o
        obtain⟨x0,x1,x2,x3⟩:=cells4 HB13.o.row
        have zz:=HB13.o.size
        have zA:w.heap.size<w13.heap.size:=by omega
        have zB:w.heap.size+1<w13.heap.size:=by omega
        have zX:w.heap.size+3<w13.heap.size:=by omega
        go_cut [137,158,159,160,161,162,163,164,165,166,167,168,169,170,171,172] from 138 (fun s137 s158 s159 s160 s161 s162 s163 s164 s165 s166 s167 s168 s169 s170 s171 s172 wc=>s137=.bool t137∧(s158=undef∧s159=undef∧s160=undef∧s161=undef∧s162=undef∧s163=undef∧s164=undef∧s165=undef∧s166=undef∧s167=undef∧s168=undef∧s169=undef∧s170=undef∧s171=undef∧s172=undef)∧w13=wc)
        case first=>
         by_cases hk:m.kind=7
         ·have hkb:(m.kind==7)=true:=by simp [hk]
          have HK:=η hk
          clear hk
          obtain⟨db,hdq⟩:∃b,b=q.dec:=⟨_,rfl⟩
          rw [←hdq] at e2
          have HDC:=η hdq
          clear hdq
          cases db with
          |true=>
           go_wp2
           go_meet
           case rel=>exact⟨by have h1:=HK.o;have h2:=HDC.o.symm;rw [HT137.o];(try rw [HTN.o]);simp [h1,h2],⟨rfl,rfl,rfl,rfl,rfl,rfl,rfl,rfl,rfl,rfl,rfl,rfl,rfl,rfl,rfl⟩,rfl⟩
          |false=>
           go_wp2
           go_meet
           case rel=>exact⟨by have h1:=HK.o;have h2:=HDC.o.symm;rw [HT137.o];(try rw [HTN.o]);simp [h1,h2],⟨rfl,rfl,rfl,rfl,rfl,rfl,rfl,rfl,rfl,rfl,rfl,rfl,rfl,rfl,rfl⟩,rfl⟩
         ·have hkb:(m.kind==7)=false:=by simp [hk]
          have HK:=η hk
          clear hk
          go_wp2
          go_meet
          case rel=>exact⟨by have h1:=HK.o;rw [HT137.o];simp [h1],⟨rfl,rfl,rfl,rfl,rfl,rfl,rfl,rfl,rfl,rfl,rfl,rfl,rfl,rfl,rfl⟩,rfl⟩
        case rest=>
        obtain⟨rfl,⟨rfl,rfl,rfl,rfl,rfl,rfl,rfl,rfl,rfl,rfl,rfl,rfl,rfl,rfl,rfl⟩,rfl⟩:=hcut
        clear e0 e1 e2 e3 zO y0 y1 y2 y3 d0 d1 d2 d3 x0 x1 x2 x3 zz zA zB zX RA9 RB9
        cases t137 with
        |true=>
         skip
         have HD4:=η (of_decide_eq_true HT137.o.symm)
         have HST:Hid (hgoStep m ⟨so,[],[],false⟩ q=⟨so++ [q],[],[⟨4,m.deed,m.house,[]⟩],true⟩):=η (by rw [HAT.o,hearO_ask HA.o HB.o HCC.o HD4.o];try simp)
         obtain⟨e0,e1,e2,e3⟩:=cells4 RO13.o
         have zO:BO<w13.heap.size:=(γ RO13.o)
         have RA9:=η ((HB13.o.old 0 (by omega)).trans R1.o)
         have RB9:=η ((HB13.o.old 1 (by omega)).trans R2.o)
         obtain⟨y0,y1,y2,y3⟩:=cells4 RA9.o
         obtain⟨d0,d1,d2,d3⟩:=cells4 RB9.o
         obtain⟨x0,x1,x2,x3⟩:=cells4 HB13.o.row
         have zz:=HB13.o.size
         have zA:w.heap.size<w13.heap.size:=by omega
         have zB:w.heap.size+1<w13.heap.size:=by omega
         have zX:w.heap.size+3<w13.heap.size:=by omega
         obtain⟨w18,hw18⟩:∃y:World,y=w13.alloc (.cells #[.int .i64 4,.int .i64 m.deed,.int .i64 m.house,.slice none 0 0] 39):=⟨_,rfl⟩
         have G18:Hid (Grow w13 w18):=η (by rw [hw18];exact(Grow.refl _).alloc _)
         have HB18:Hid (QBox c w wz w18 h ⟨so,[],[⟨4,m.deed,m.house,[]⟩],true⟩ _ _ (.slice (some ⟨w13.heap.size,0,none⟩) 1 1)):=η ((HB13.o.later G18.o).setSays (HB13.o.newSl (T:=Ty.ms) (d:=fun _=>none) (by decide) (fun _ _ e9=>by cases e9) (by
          rw [hw18]
          exact OwnC.lit (T:=Ty.ms) (c:=fun _=>none) w13 [[.int .i64 4,.int .i64 m.deed,.int .i64 m.house,.slice none 0 0]] rfl rfl (Nat.le_refl _) (by simp [maxLen]) rfl ⟨⟨_,rfl,(show I64 4 from by unfold I64;decide),HMI.o.2.1,HMI.o.2.2,Sl.nil _ _⟩,trivial⟩)))
         go_upto_region 27 with fail
         rw [←hw18]
         clear hw18
         have RO18:=η (row_grow RO13.o G18.o)
         clear e0 e1 e2 e3 zO y0 y1 y2 y3 d0 d1 d2 d3 x0 x1 x2 x3 zz zA zB zX RA9 RB9
         obtain⟨e0,e1,e2,e3⟩:=cells4 RO18.o
         have zO:BO<w18.heap.size:=(γ RO18.o)
         have RA9:=η ((HB18.o.old 0 (by omega)).trans R1.o)
         have RB9:=η ((HB18.o.old 1 (by omega)).trans R2.o)
         obtain⟨y0,y1,y2,y3⟩:=cells4 RA9.o
         obtain⟨d0,d1,d2,d3⟩:=cells4 RB9.o
         obtain⟨x0,x1,x2,x3⟩:=cells4 HB18.o.row
         have zz:=HB18.o.size
         have zA:w.heap.size<w18.heap.size:=by omega
         have zB:w.heap.size+1<w18.heap.size:=by omega
         have zX:w.heap.size+3<w18.heap.size:=by omega
         go_wp2_with (first|(at_builtin;refine wpList_appc (c:=fc c wz w18 [(Value.slice ao so.length co).ownBlock]) (base:=w.heap.size+4) (l:=so) (m:=[q]) ei_opn rfl one_Topn (by decide) rfl (.tmp 152) (.tmp 154) rfl rfl ?own rfl (Src.of_new (T:=Ty.opn) (x:=q) (cs:=#[.int .i64 q.deed,.slice ap2 q.parts.length cp2,.bool q.dec,.slice ah q.heard.length ch]) ?d0 _ _ ?d1) ?d2 ?d3 ?_))
         case own=>exact OwnC.grow HB18.o.opn ((Grow.refl _).alloc _)
         case d0=>exact⟨_,_,rfl,HEL.o.1,HEL.o.2.1.mono (fc_in (HC.o.trans G1.o.sub)),HEL.o.2.2.mono (fc_in (HC.o.trans G1.o.sub))⟩
         case d1=>first|rfl|simp
         case d2=>have:=HSL.o;simp;omega
         case d3=>have:=HB18.o.size;simp;omega
         intro a9 c9 w9 ho9 hg9 hb9
         have R9:=η (row_by (row_grow HB18.o.row ((Grow.refl _).alloc (.cells #[.int .i64 q.deed,.slice ap2 q.parts.length cp2,.bool q.dec,.slice ah q.heard.length ch] 136))) hg9 (by intro e;have:=(HB18.o.opn.lt _ e.symm).1;omega))
         have HO9:=η ho9
         have HG9:=η hg9
         have HB9:=η hb9
         clear ho9 hg9 hb9
         go_wp2_with (first|(refine wpList_store_cell rfl (.tmp 156) (.tmp 155) (v:=.slice a9 (so.length+1) c9) (new:=#[.slice alx nl clx,.int .i64 h.boot,.int .i64 h.next,.slice a9 (so.length+1) c9]) rfl rfl (by rfl) (by rfl) R9.o info_opns (by simp) (by rfl) (by rfl) ?_))
         intro w10 r10 g10
         have HBN:=η (QBox.app HB18.o q ((Grow.refl _).alloc (.cells #[.int .i64 q.deed,.slice ap2 q.parts.length cp2,.bool q.dec,.slice ah q.heard.length ch] 136)) HG9.o (HB9.o.imp_right fun⟨g,e,hge⟩=>⟨g,e,by simpa using hge⟩) HO9.o g10 r10)
         clear r10 g10
         go_wp2
         go_roundw
         case rel=>exact⟨k+1,_,_,by omega,by go_num,by rw [HNX.o,HST.o],by rw [HNX.o,HST.o];exact HBN.o⟩
         case measure=>simp [intOf];omega
        |false=>
         skip
         have HD4:=η (of_decide_eq_false HT137.o.symm)
         have HST:Hid (hgoStep m ⟨so,[],[],false⟩ q=⟨so++ [q],[],[],true⟩):=η (by rw [HAT.o,hearO_else HA.o HB.o HCC.o HD4.o];try simp)
         obtain⟨e0,e1,e2,e3⟩:=cells4 RO13.o
         have zO:BO<w13.heap.size:=(γ RO13.o)
         have RA9:=η ((HB13.o.old 0 (by omega)).trans R1.o)
         have RB9:=η ((HB13.o.old 1 (by omega)).trans R2.o)
         obtain⟨y0,y1,y2,y3⟩:=cells4 RA9.o
         obtain⟨d0,d1,d2,d3⟩:=cells4 RB9.o
         obtain⟨x0,x1,x2,x3⟩:=cells4 HB13.o.row
         have zz:=HB13.o.size
         have zA:w.heap.size<w13.heap.size:=by omega
         have zB:w.heap.size+1<w13.heap.size:=by omega
         have zX:w.heap.size+3<w13.heap.size:=by omega
         have HB14t:Hid (QBox c w wz w13 h ⟨so,[],[],true⟩ _ _ _):=η (HB13.o.setSays HB13.o.says)
         go_wp2_with (first|(at_builtin;refine wpList_appc (c:=fc c wz w13 [(Value.slice ao so.length co).ownBlock]) (base:=w.heap.size+4) (l:=so) (m:=[q]) ei_opn rfl one_Topn (by decide) rfl (.tmp 152) (.tmp 154) rfl rfl ?own rfl (Src.of_new (T:=Ty.opn) (x:=q) (cs:=#[.int .i64 q.deed,.slice ap2 q.parts.length cp2,.bool q.dec,.slice ah q.heard.length ch]) ?d0 _ _ ?d1) ?d2 ?d3 ?_))
         case own=>exact OwnC.grow HB14t.o.opn ((Grow.refl _).alloc _)
         case d0=>exact⟨_,_,rfl,HEL.o.1,HEL.o.2.1.mono (fc_in (HC.o.trans G1.o.sub)),HEL.o.2.2.mono (fc_in (HC.o.trans G1.o.sub))⟩
         case d1=>first|rfl|simp
         case d2=>have:=HSL.o;simp;omega
         case d3=>have:=HB14t.o.size;simp;omega
         intro a9 c9 w9 ho9 hg9 hb9
         have R9:=η (row_by (row_grow HB14t.o.row ((Grow.refl _).alloc (.cells #[.int .i64 q.deed,.slice ap2 q.parts.length cp2,.bool q.dec,.slice ah q.heard.length ch] 136))) hg9 (by intro e;have:=(HB14t.o.opn.lt _ e.symm).1;omega))
         have HO9:=η ho9
         have HG9:=η hg9
         have HB9:=η hb9
         clear ho9 hg9 hb9
         go_wp2_with (first|(refine wpList_store_cell rfl (.tmp 156) (.tmp 155) (v:=.slice a9 (so.length+1) c9) (new:=#[.slice alx nl clx,.int .i64 h.boot,.int .i64 h.next,.slice a9 (so.length+1) c9]) rfl rfl (by rfl) (by rfl) R9.o info_opns (by simp) (by rfl) (by rfl) ?_))
         intro w10 r10 g10
         have HBN:=η (QBox.app HB14t.o q ((Grow.refl _).alloc (.cells #[.int .i64 q.deed,.slice ap2 q.parts.length cp2,.bool q.dec,.slice ah q.heard.length ch] 136)) HG9.o (HB9.o.imp_right fun⟨g,e,hge⟩=>⟨g,e,by simpa using hge⟩) HO9.o g10 r10)
         clear r10 g10
         go_wp2
         go_roundw
         case rel=>exact⟨k+1,_,_,by omega,by go_num,by rw [HNX.o,HST.o],by rw [HNX.o,HST.o];exact HBN.o⟩
         case measure=>simp [intOf];omega
   ·have hdb:(q.deed !=m.deed)=true:=by simp [hd]
    have HST:Hid (hgoStep m ⟨so,sr,ss,sk⟩ q=⟨so++ [q],sr,ss,sk⟩):=η (hgo_past (fun h=>hd h.1))
    clear hd
    go_wp2_with (first|(at_builtin;refine wpList_appc (c:=fc c wz wo [(Value.slice ao so.length co).ownBlock]) (base:=w.heap.size+4) (l:=so) (m:=[q]) ei_opn rfl one_Topn (by decide) rfl (.tmp 37) (.tmp 39) rfl rfl ?own rfl (Src.of_new (T:=Ty.opn) (x:=q) (cs:=#[.int .i64 q.deed,.slice ap2 q.parts.length cp2,.bool q.dec,.slice ah q.heard.length ch]) ?d0 _ _ ?d1) ?d2 ?d3 ?_))
    case own=>exact OwnC.grow HBO.o.opn ((Grow.refl _).alloc _)
    case d0=>exact⟨_,_,rfl,HEL.o.1,HEL.o.2.1.mono (fc_in (HC.o.trans G1.o.sub)),HEL.o.2.2.mono (fc_in (HC.o.trans G1.o.sub))⟩
    case d1=>first|rfl|simp
    case d2=>have:=HSL.o;simp;omega
    case d3=>have:=HBO.o.size;simp;omega
    intro a9 c9 w9 ho9 hg9 hb9
    have R9:=η (row_by (row_grow HBO.o.row ((Grow.refl _).alloc (.cells #[.int .i64 q.deed,.slice ap2 q.parts.length cp2,.bool q.dec,.slice ah q.heard.length ch] 136))) hg9 (by intro e;have:=(HBO.o.opn.lt _ e.symm).1;omega))
    have HO9:=η ho9
    have HG9:=η hg9
    have HB9:=η hb9
    clear ho9 hg9 hb9
    go_wp2_with (first|(refine wpList_store_cell rfl (.tmp 41) (.tmp 40) (v:=.slice a9 (so.length+1) c9) (new:=#[.slice alx nl clx,.int .i64 h.boot,.int .i64 h.next,.slice a9 (so.length+1) c9]) rfl rfl (by rfl) (by rfl) R9.o info_opns (by simp) (by rfl) (by rfl) ?_))
    intro w10 r10 g10
    have HBN:=η (QBox.app HBO.o q ((Grow.refl _).alloc (.cells #[.int .i64 q.deed,.slice ap2 q.parts.length cp2,.bool q.dec,.slice ah q.heard.length ch] 136)) HG9.o (HB9.o.imp_right fun⟨g,e,hge⟩=>⟨g,e,by simpa using hge⟩) HO9.o g10 r10)
    clear r10 g10
    go_wp2
    go_roundw
    case rel=>exact⟨k+1,_,_,by omega,by go_num,by rw [HNX.o,HST.o],by rw [HNX.o,HST.o];exact HBN.o⟩
    case measure=>simp [intOf];omega
  ·have HAL:=η (hgo_hear h m)
   rw [List.take_of_length_le (by omega)] at h8 hbx
   have HFEW:Hid ((hgo m h.opn).recs.length≤1):=η (hgo_few m h.opn ⟨[],[],[],false⟩ (by simp))
   clear hel
   generalize hgo m h.opn=s at*
   obtain⟨so,sr,ss,sk⟩:=s
   have h8':_=Value.bool sk:=h8
   subst h8'
   have hopn:=hbx.opn
   have hsays:=hbx.says
   have hlog:=hbx.log
   dsimp only at hopn hsays hlog
   obtain⟨ao,co,rfl⟩:=hopn.form
   obtain⟨av,cv,rfl,-⟩:=id hsays
   obtain⟨alx,clx,rfl,-⟩:=id hlog
   clear h8 hopn hsays hlog
   generalize (h.log++sr).length=nl at*
   have HBO:=η hbx
   clear hbx
   have RA9:=η ((HBO.o.old 0 (by omega)).trans R1.o)
   have RB9:=η ((HBO.o.old 1 (by omega)).trans R2.o)
   obtain⟨y0,y1,y2,y3⟩:=cells4 RA9.o
   obtain⟨d0,d1,d2,d3⟩:=cells4 RB9.o
   obtain⟨x0,x1,x2,x3⟩:=cells4 HBO.o.row
   have zz:=HBO.o.size
   have zA:w.heap.size<wr.heap.size:=by omega
   have zB:w.heap.size+1<wr.heap.size:=by omega
   have zX:w.heap.size+3<wr.heap.size:=by omega
   cases sk with
   |true=>
    have HM:Hid (hHearM h m=ss):=η (by rw [HAL.o.2,if_neg (by simp)])
    have RC9:=η ((HBO.o.old 2 (by omega)).trans R3.o)
    go_wp2_with (first|(refine wpList_store_row rfl (.tmp 4) (.tmp 171) rfl rfl rfl RC9.o info_hd rfl rfl ?_))
    intro w7 r7 g7
    obtain⟨p0,p1,p2,p3⟩:=cells4 r7
    clear y0 y1 y2 y3 d0 d1 d2 d3 x0 x1 x2 x3 zz zA zB zX RA9 RB9
    go_wp2
    refine bodyPost_ret (v:=.tuple #[.agg #[.slice alx nl clx,.int .i64 h.boot,.int .i64 h.next,.slice ao so.length co],.slice av ss.length cv]) (by simp [results,Try.results113,go_sem,p0,p1,p2,p3]) rfl ?_
    have hz:=HZ.o
    have hsub:Sub (fc c wz wr [(Value.slice ao so.length co).ownBlock]) (ov c w w7):=fc_end HC.o G1.o g7 (by omega)
    rw [HAL.o.1,HM.o]
    refine⟨_,_,rfl,⟨_,rfl,_,_,rfl,HBO.o.log.mono hsub,HIB.o.1,HIB.o.2,((HBO.o.opn.kept g7 (own_apart HBO.o.opn (by omega))).slc (by decide) hsub fun a9 ha9=>ov_new (by omega))⟩,HBO.o.says.mono hsub,HBO.o.grow.grown g7 (fun q9 hq9=>by have:=Option.some.inj hq9;omega)⟩
   |false=>
    by_cases hk:m.kind=7
    ·have hkb:(m.kind==7)=true:=by simp [hk]
     have HM:Hid (hHearM h m=[⟨5,m.deed,m.house,[]⟩]):=η (by rw [HAL.o.2,if_pos ⟨rfl,hk⟩])
     clear hk
     obtain⟨w18,hw18⟩:∃y:World,y=wr.alloc (.cells #[.int .i64 5,.int .i64 m.deed,.int .i64 m.house,.slice none 0 0] 39):=⟨_,rfl⟩
     have G18:Hid (Grow wr w18):=η (by rw [hw18];exact(Grow.refl _).alloc _)
     have HB18:Hid (QBox c w wz w18 h ⟨so,sr,[⟨5,m.deed,m.house,[]⟩],true⟩ _ _ (.slice (some ⟨wr.heap.size,0,none⟩) 1 1)):=η ((HBO.o.later G18.o).setSays (HBO.o.newSl (T:=Ty.ms) (d:=fun _=>none) (by decide) (fun _ _ e9=>by cases e9) (by
      rw [hw18]
      exact OwnC.lit (T:=Ty.ms) (c:=fun _=>none) wr [[.int .i64 5,.int .i64 m.deed,.int .i64 m.house,.slice none 0 0]] rfl rfl (Nat.le_refl _) (by simp [maxLen]) rfl ⟨⟨_,rfl,(show I64 5 from by unfold I64;decide),HMI.o.2.1,HMI.o.2.2,Sl.nil _ _⟩,trivial⟩)))
     go_upto_region 31 with fail
     rw [←hw18]
     clear hw18
     clear y0 y1 y2 y3 d0 d1 d2 d3 x0 x1 x2 x3 zz zA zB zX RA9 RB9
     have RA9:=η ((HB18.o.old 0 (by omega)).trans R1.o)
     have RB9:=η ((HB18.o.old 1 (by omega)).trans R2.o)
     obtain⟨y0,y1,y2,y3⟩:=cells4 RA9.o
     obtain⟨d0,d1,d2,d3⟩:=cells4 RB9.o
     obtain⟨x0,x1,x2,x3⟩:=cells4 HB18.o.row
     have zz:=HB18.o.size
     have zA:w.heap.size<w18.heap.size:=by omega
     have zB:w.heap.size+1<w18.heap.size:=by omega
     have zX:w.heap.size+3<w18.heap.size:=by omega
     have RC9:=η ((HB18.o.old 2 (by omega)).trans R3.o)
     go_wp2_with (first|(refine wpList_store_row rfl (.tmp 4) (.tmp 171) rfl rfl rfl RC9.o info_hd rfl rfl ?_))
     intro w7 r7 g7
     obtain⟨p0,p1,p2,p3⟩:=cells4 r7
     clear y0 y1 y2 y3 d0 d1 d2 d3 x0 x1 x2 x3 zz zA zB zX RA9 RB9
     go_wp2
     refine bodyPost_ret (v:=.tuple #[.agg #[.slice alx nl clx,.int .i64 h.boot,.int .i64 h.next,.slice ao so.length co],.slice (some ⟨wr.heap.size,0,none⟩) 1 1]) (by simp [results,Try.results113,go_sem,p0,p1,p2,p3]) rfl ?_
     have hz:=HZ.o
     have hsub:Sub (fc c wz w18 [(Value.slice ao so.length co).ownBlock]) (ov c w w7):=fc_end HC.o G1.o g7 (by omega)
     rw [HAL.o.1,HM.o]
     refine⟨_,_,rfl,⟨_,rfl,_,_,rfl,HB18.o.log.mono hsub,HIB.o.1,HIB.o.2,((HB18.o.opn.kept g7 (own_apart HB18.o.opn (by omega))).slc (by decide) hsub fun a9 ha9=>ov_new (by omega))⟩,HB18.o.says.mono hsub,HB18.o.grow.grown g7 (fun q9 hq9=>by have:=Option.some.inj hq9;omega)⟩
    ·have hkb:(m.kind==7)=false:=by simp [hk]
     have HM:Hid (hHearM h m=ss):=η (by rw [HAL.o.2,if_neg (fun x=>hk x.2)])
     clear hk
     have RC9:=η ((HBO.o.old 2 (by omega)).trans R3.o)
     go_wp2_with (first|(refine wpList_store_row rfl (.tmp 4) (.tmp 171) rfl rfl rfl RC9.o info_hd rfl rfl ?_))
     intro w7 r7 g7
     obtain⟨p0,p1,p2,p3⟩:=cells4 r7
     clear y0 y1 y2 y3 d0 d1 d2 d3 x0 x1 x2 x3 zz zA zB zX RA9 RB9
     go_wp2
     refine bodyPost_ret (v:=.tuple #[.agg #[.slice alx nl clx,.int .i64 h.boot,.int .i64 h.next,.slice ao so.length co],.slice av ss.length cv]) (by simp [results,Try.results113,go_sem,p0,p1,p2,p3]) rfl ?_
     have hz:=HZ.o
     have hsub:Sub (fc c wz wr [(Value.slice ao so.length co).ownBlock]) (ov c w w7):=fc_end HC.o G1.o g7 (by omega)
     rw [HAL.o.1,HM.o]
     refine⟨_,_,rfl,⟨_,rfl,_,_,rfl,HBO.o.log.mono hsub,HIB.o.1,HIB.o.2,((HBO.o.opn.kept g7 (own_apart HBO.o.opn (by omega))).slc (by decide) hsub fun a9 ha9=>ov_new (by omega))⟩,HBO.o.says.mono hsub,HBO.o.grow.grown g7 (fun q9 hq9=>by have:=Option.some.inj hq9;omega)⟩
end Go.Proofs.Ytgbhpghgohggcaa
