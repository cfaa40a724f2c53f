/- The parts that laws are proved of, joined: K24, Trod, Trod2, Trod3. No condition beside those that each theorem names. -/
import Derived.Deep.Slices
import Derived.OpenShut
import Derived.Below
import Derived.ChangeOld
import Derived.ProofKit
import Derived.SizedLaws
import Derived.Test.YtgbhpghgohggcaaJS2a
namespace Go.Proofs.Ytgbhpghgohggcaa
open Go.RowKit
theorem decs_next {l:List Opn} {k:Nat} (hk:k<l.length):((l.take (k+1)).filter fun o=>o.dec).length=((l.take k).filter fun o=>o.dec).length+if l[k].dec=true then 1 else 0:=by
 rw [List.take_succ_eq_append_getElem hk,List.filter_append,List.length_append]
 by_cases h:l[k].dec=true<;>simp [h]
def inO (d:Int) (l:List Opn):Bool:=l.any fun q=>q.deed==d&&q.dec
theorem inO_next {d:Int} {l:List Opn} {k:Nat} (hk:k<l.length):inO d (l.take (k+1))=(inO d (l.take k)||((l[k].deed==d)&&l[k].dec)):=by
 unfold inO
 rw [List.take_succ_eq_append_getElem hk,List.any_append]
 simp
set_option maxRecDepth 100000 in
set_option maxHeartbeats 8000000 in
theorem headFall_walk {n0:Int} {v vp:Value} {l:List St} {P:List Pt} (w:World) (_hn:I64 n0) (hv:Sl Ty.st w.cell? v l) (_hs:l.length*40≤140737488351232) (hp:Pts w.cell? vp P) (_hs2:P.length*24≤140737488351232):
  Calls Try.prog 27 #[.int .i64 n0,v,vp] w fun e w'=>e=.returned (.bool true)∧Grow w w':=by
 obtain⟨app,cpp,rfl,-⟩:=id hp
 by_cases hin:n0<1∨3<n0
 ·have HB:=η (fun(W:World)=>build_no (v:=v) W hin)
  clear hin hv hp
  go_enter Try.func27,Try.ntmps27
  go_wp2_with fail
  refine(alive8 _).mono ?_
  rintro e w1 ⟨rfl,hb1⟩
  go_wp2_with fail
  refine(HB.o _).mono ?_
  rintro e w2 ⟨rfl,hb2⟩
  have G2:=η (hb1.trans hb2)
  clear hb1 hb2
  go_wp2
  go_ret
  exact⟨rfl,G2.o.alloc _⟩
 obtain⟨n,rfl⟩:∃n:Nat,n0=(n:Int):=⟨n0.toNat,by omega⟩
 have hn:1≤n∧n≤3:=by omega
 obtain⟨G,hwi,-⟩:=WI.of_play hn (l.take 150)
 have hfw:=Few.play n (l.take 150) (Few.zero n)
 have hlp:=logP_play (l.take 150) (logP_new n)
 rw [Nat.zero_add] at hfw
 have HOK:=η (hwi.hdok hfw (by rw [List.length_take];omega))
 have HINV:=η (hwi.hdinv hlp)
 have HFK:=η hwi.fell
 have HLAW:=η (fun hb=>fall_law hwi.core hb)
 have HBY:=η (fun(W:World) (hW:Grow w W)=>build_yes (l:=l) W hn (hv.mono hW.sub))
 have HN3:=η hn.2
 have HP:=η hp
 have HLG0:Hid ((playA (newA n) (l.take 150)).head.log.length≤99999):=η (by have:=hfw.log;rw [List.length_take] at this;omega)
 clear hfw hlp hwi hv hn hin hp
 generalize (playA (newA n) (l.take 150)).head=h at*
 go_enter Try.func27,Try.ntmps27
 go_wp2_with fail
 refine(alive8 _).mono ?_
 rintro e w1 ⟨rfl,hb1⟩
 have G1:=η hb1
 clear hb1
 go_wp2_with fail
 refine(HBY.o _ G1.o).mono ?_
 rintro e w2 ⟨v2,rfl,hx2,hb2⟩
 obtain⟨al,cl,ar,cr,rfl⟩:=hx2.hd_form
 have HX2:=η hx2
 have G2:=η (G1.o.trans hb2)
 clear hx2 hb2 HBY
 obtain⟨w3,hwq⟩:∃zq:World,zq=w2.alloc (.cells #[.slice al h.log.length cl,.int .i64 h.boot,.int .i64 h.next,.slice ar h.opn.length cr] 57):=⟨_,rfl⟩
 obtain⟨B7,hBq⟩:∃zq,zq=w2.heap.size:=⟨_,rfl⟩
 have G23:Hid (Grow w2 w3):=η (by rw [hwq];exact(Grow.refl _).alloc _)
 have R7:Hid (w3.heap[B7]? =some (.cells #[.slice al h.log.length cl,.int .i64 h.boot,.int .i64 h.next,.slice ar h.opn.length cr] 57 (0,0))):=η (by rw [hwq,hBq];exact row_new _ _)
 go_upto_region 4 with fail
 rw [←hwq,←hBq]
 clear hwq hBq
 have HX3:=η (HX2.o.mono G23.o.sub)
 have G3:=η (G2.o.trans G23.o)
 go_wp2_with fail
 refine(ref_wrongParts w3 (HP.o.mono G3.o.sub)).mono ?_
 rintro e wv ⟨rfl,hbv⟩
 have GV:=η (G3.o.trans hbv)
 have R7v:=η (row_grow R7.o hbv)
 have HXv:=η (HX3.o.mono hbv.sub)
 clear hbv
 by_cases hw:wrongE P n=0
 rotate_left
 ·have hwb:(wrongE P n !=0)=true:=by simp [hw]
  clear hw
  go_wp2
  go_ret
  exact⟨rfl,GV.o⟩
 have hwb:(wrongE P n !=0)=false:=by simp [hw]
 have HPR:=η (ptsR_of HN3.o hw)
 clear hw
 obtain⟨d0,d1,d2,d3⟩:=cells4 R7v.o
 have z7:B7<wv.heap.size:=(γ R7v.o)
 go_wp2_with fail
 refine(whead_fall wv HXv.o HOK.o HINV.o.logp).mono ?_
 rintro e w4 ⟨v4,rfl,hx4,hb4⟩
 clear hwb d0 d1 d2 d3 z7
 by_cases hb19:19<h.boot
 ·have e1:fallH h=h:=by unfold fallH;rw [if_pos hb19]
  have e2:fallE h=5:=by unfold fallE;rw [if_pos hb19]
  rw [e1] at hx4
  rw [e2]
  obtain⟨al4,cl4,ar4,cr4,rfl⟩:=hx4.hd_form
  have HX4:=η (hx4.mono (ov_none_sub _ _))
  have HXh:=η (HXv.o.mono hb4.sub)
  have R74:=η (row_grow R7v.o hb4)
  have G4:=η (GV.o.trans hb4)
  clear hx4 hb4 hb19 e1 e2
  obtain⟨w5,hwq⟩:∃zq:World,zq=w4.alloc (.cells #[.slice al4 h.log.length cl4,.int .i64 h.boot,.int .i64 h.next,.slice ar4 h.opn.length cr4] 57):=⟨_,rfl⟩
  obtain⟨B9,hBq⟩:∃zq,zq=w4.heap.size:=⟨_,rfl⟩
  have G45:Hid (Grow w4 w5):=η (by rw [hwq];exact(Grow.refl _).alloc _)
  have R9:Hid (w5.heap[B9]? =some (.cells #[.slice al4 h.log.length cl4,.int .i64 h.boot,.int .i64 h.next,.slice ar4 h.opn.length cr4] 57 (0,0))):=η (by rw [hwq,hBq];exact row_new _ _)
  go_upto_region 7 with fail
  rw [←hwq,←hBq]
  clear hwq hBq
  obtain⟨d0,d1,d2,d3⟩:=cells4 (row_grow R74.o G45.o)
  obtain⟨b0,b1,b2,b3⟩:=cells4 R9.o
  have z7:B7<w5.heap.size:=(Array.getElem?_eq_some_iff.1 (row_grow R74.o G45.o)).1
  have z9:B9<w5.heap.size:=(γ R9.o)
  go_wp2_with fail
  refine((ref_sameHead _ (HX4.o.mono G45.o.sub) (HXh.o.mono G45.o.sub)).mono fun e9 w9 h9=>(⟨h9.1.trans (by rw [decide_eq_true rfl]),h9.2⟩:e9=Ending.returned (.bool true)∧Grow _ w9)).mono ?_
  rintro e6 w6 ⟨rfl,hb6⟩
  have G6:=η ((G4.o.trans G45.o).trans hb6)
  clear hb6 d0 d1 d2 d3 b0 b1 b2 b3 z7 z9
  go_wp2
  go_ret
  exact⟨rfl,G6.o⟩
 obtain⟨L1,L2,L3,L4,L5,L6,L7⟩:=HLAW.o (by omega)
 have e2:fallE h=0:=by unfold fallE;rw [if_neg hb19]
 rw [e2]
 obtain⟨al4,cl4,ar4,cr4,rfl⟩:=hx4.hd_form
 have HX4:=η (hx4.mono (ov_none_sub _ _))
 have HXh:=η (HXv.o.mono hb4.sub)
 have R74:=η (row_grow R7v.o hb4)
 have G4:=η (GV.o.trans hb4)
 clear hx4 hb4 e2 HLAW
 obtain⟨y,hy⟩:∃q,q=fallH h:=⟨_,rfl⟩
 rw [←hy] at HX4 HFK L1 L2 L3 L4 L5 ⊢
 have HLL:Hid (y.log.length≤100000∧∀r∈y.log,r.parts.length*24≤140737488355328):=η (by
  have e:y.log.length≤h.log.length+1∧∀r∈y.log,r∈h.log∨r=⟨4,0,[]⟩:=by
   rw [hy]
   unfold fallH
   rw [if_neg hb19,headR_log]
   exact⟨by simp,fun r hr=>by rcases List.mem_append.1 hr with hr|hr;exact .inl hr;exact .inr (List.mem_singleton.1 hr)⟩
  have:=HLG0.o
  refine⟨by omega,fun r hr=>?_⟩
  rcases e.2 r hr with hr|rfl
  ·exact HINV.o.logp r hr
  ·show 0*24≤_
   omega)
 have HB9:Hid (0≤h.boot∧h.boot≤19):=η (by have:=HOK.o.boot;omega)
 have HL1:=η L1
 have HL2:=η L2
 have HL3:=η L3
 have HL4:=η L4
 have HL5:=η L5
 have HL6:=η L6
 have HL7:=η L7
 clear hb19 L1 L2 L3 L4 L5 L6 L7 hy
 obtain⟨w5,hwq⟩:∃zq:World,zq=w4.alloc (.cells #[.slice al4 y.log.length cl4,.int .i64 y.boot,.int .i64 y.next,.slice ar4 y.opn.length cr4] 57):=⟨_,rfl⟩
 obtain⟨B9,hBq⟩:∃zq,zq=w4.heap.size:=⟨_,rfl⟩
 have G45:Hid (Grow w4 w5):=η (by rw [hwq];exact(Grow.refl _).alloc _)
 have R9:Hid (w5.heap[B9]? =some (.cells #[.slice al4 y.log.length cl4,.int .i64 y.boot,.int .i64 y.next,.slice ar4 y.opn.length cr4] 57 (0,0))):=η (by rw [hwq,hBq];exact row_new _ _)
 have R75:=η (row_grow R74.o G45.o)
 have HXh5:=η (HXh.o.mono G45.o.sub)
 have HXy5:=η (HX4.o.mono G45.o.sub)
 have G5:=η (G4.o.trans G45.o)
 go_upto_region 7 with fail
 rw [←hwq,←hBq]
 clear hwq hBq
 go_upto_region 9 with fail
 have HS:Hid (∀W,Grow w5 W→W.cell? ⟨B7,0,none⟩=some (.slice al h.log.length cl)∧W.cell? ⟨B7,1,none⟩=some (.int .i64 h.boot)∧W.cell? ⟨B9,0,none⟩=some (.slice al4 y.log.length cl4)∧W.cell? ⟨B9,1,none⟩=some (.int .i64 y.boot)):=fun W hW=>by
  obtain⟨a0,a1,-,-⟩:=cells4 (row_grow R75.o hW)
  obtain⟨b0,b1,-,-⟩:=cells4 (row_grow R9.o hW)
  exact⟨a0,a1,b0,b1⟩
 have hwr:IntKind.i64.wrap (h.boot+1)=h.boot+1:=IntWalk.i64_in _ (by have:=HB9.o;omega)
 have hne:(y.boot !=h.boot+1)=false:=by rw [HL2.o];simp
 go_cut [66] from 51 (fun s66 wc=>s66=.bool false∧Grow w5 wc)
 case first=>
  refine bSc (fun w'=>w'.cell? ⟨B7,0,none⟩=some (.slice al h.log.length cl)∧w'.cell? ⟨B7,1,none⟩=some (.int .i64 h.boot)∧w'.cell? ⟨B9,0,none⟩=some (.slice al4 y.log.length cl4)∧w'.cell? ⟨B9,1,none⟩=some (.int .i64 y.boot)) [] (by kernel_rfl) ?_
  intro wd GD zD
  have ZD:=η zD
  clear zD
  refine bLc [0,1,3,4] 18 (by kernel_rfl) (fun _ _ _ _ _ h=>h) (HS.o _ GD) ?_
  repeat (refine tNc (v:=?_) rfl (by rfl) ?_ ?_;rotate_left;(· (intro w' hSw;(try dsimp only at hSw);obtain⟨hs0,hs1,hs2,hs3⟩:=hSw;go_simp<;>with_reducible rfl));try simp only [Act.put,lzA,lzB,lzC,lzD,lzE,lzF])
  refine tEc ?_
  refine bOc 2 (by kernel_rfl) rfl ?_
  intro K HK
  try simp only [lzA,lzB,lzC]
  go_simp
  go_at_call 46
  refine(ref_decided (c:=w5.cell?) (l:=y.log) _ (Grow.sub GD) (Of.hd_log HXy5.o).1 (by have:=HLL.o.1;omega)).mono ?_
  rintro eda wda ⟨vda,rfl,hoda,hbda⟩
  rw [HL1.o] at hoda
  obtain⟨ada,cda,rfl⟩:=hoda.form
  have Gda:=η (Grow.trans GD hbda)
  have Hda:=η (OwnC.sl (by decide) (Grow.sub Gda.o) hoda)
  clear hoda hbda
  refine HK.o _ _ ⟨.inr (HS.o _ Gda.o),?_⟩
  clear HK K
  try simp only [Act.put,lzA,lzB,lzC,lzD,lzE,lzF]
  refine bOc 5 (by kernel_rfl) rfl ?_
  intro K HK
  try simp only [lzA,lzB,lzC]
  go_simp
  go_at_call 46
  refine(ref_decided (c:=w5.cell?) (l:=h.log) _ (Grow.sub Gda.o) (Of.hd_log HXh5.o).1 (by have:=HLG0.o;omega)).mono ?_
  rintro edb wdb ⟨vdb,rfl,hodb,hbdb⟩
  obtain⟨adb,cdb,rfl⟩:=hodb.form
  have Hda:=η (Hda.o.mono hbdb.sub)
  have Gdb:=η (Grow.trans Gda.o hbdb)
  have Hdb:=η (OwnC.sl (by decide) (Grow.sub Gdb.o) hodb)
  clear hodb hbdb
  refine HK.o _ _ ⟨.inr (HS.o _ Gdb.o),?_⟩
  clear HK K
  try simp only [Act.put,lzA,lzB,lzC,lzD,lzE,lzF]
  refine bOc 6 (by kernel_rfl) rfl ?_
  intro K HK
  try simp only [lzA,lzB,lzC]
  go_simp
  go_at_call 44
  refine((ref_sameReady _ Hda.o Hdb.o).mono fun e9 w9 h9=>(⟨h9.1.trans (by rw [decide_eq_true rfl]),h9.2⟩:e9=Ending.returned (.bool true)∧Grow _ w9)).mono ?_
  rintro eS wS ⟨rfl,hbS⟩
  have GS:=η (Grow.trans Gdb.o hbS)
  clear hbS
  refine HK.o _ _ ⟨.inr (HS.o _ GS.o),?_⟩
  clear HK K
  try simp only [Act.put,lzA,lzB,lzC,lzD,lzE,lzF]
  refine bLc [7,8,9,10,11,12,13,14,15] 18 (by kernel_rfl) (fun _ _ _ _ _ h=>h) (HS.o _ GS.o) ?_
  repeat (refine tNc (v:=?_) rfl (by rfl) ?_ ?_;rotate_left;(· (intro w' hSw;(try dsimp only at hSw);obtain⟨hs0,hs1,hs2,hs3⟩:=hSw;go_simp<;>with_reducible rfl));try simp only [Act.put,lzA,lzB,lzC,lzD,lzE,lzF])
  refine tEc ?_
  refine bDc (by kernel_rfl) ?_
  go_wp2
  go_meet
  case rel=>exact⟨rfl,GS.o⟩
 case rest=>
 obtain⟨rfl,hgc⟩:=hcut
 obtain⟨wx,rfl⟩:∃q:World,q=wc:=⟨_,rfl⟩
 have GX:=η (G5.o.trans hgc)
 have R7x:=η (row_grow R75.o hgc)
 have R9x:=η (row_grow R9.o hgc)
 have HXhx:=η (HXh5.o.mono hgc.sub)
 have HXyx:=η (HXy5.o.mono hgc.sub)
 clear HS hgc hwr hne
 obtain⟨ar',cr',he,h1,h2,-,hel⟩:=(Of.hd_log HXhx.o).2
 obtain⟨rfl,rfl⟩:ar=ar'∧cr=cr':=by simpa using he
 obtain⟨ar',cr',he2,k1,k2,-,kel⟩:=(Of.hd_log HXyx.o).2
 obtain⟨rfl,rfl⟩:ar4=ar'∧cr4=cr':=by simpa using he2
 have KEL:=η kel
 have HY12:=η HFK.o.opn
 have h12:=HOK.o.opn
 have hy12:=HY12.o
 clear he he2 h1 h2 k1 k2 kel
 obtain⟨d0,d1,d2,d3⟩:=cells4 R7x.o
 obtain⟨b0,b1,b2,b3⟩:=cells4 R9x.o
 have z7:B7<wx.heap.size:=(γ R7x.o)
 have z9:B9<wx.heap.size:=(γ R9x.o)
 go_wp2
 clear d0 d1 d2 d3 b0 b1 b2 b3 z7 z9
 go_loopw [11,70] (fun s11 i wr=>∃k:Nat,k≤h.opn.length∧i=.int .i64 k∧s11=.int .i64 (((h.opn.take k).filter fun o=>o.dec).length:Nat)∧Grow wx wr) (fun _ i _=>h.opn.length - (intOf i).toNat)
 case atStart=>exact⟨0,by omega,rfl,rfl,Grow.refl _⟩
 case round=>
  obtain⟨k,hk',rfl,rfl,hb⟩:=hrel
  by_cases hlt:k<h.opn.length
  ·obtain⟨bb,oo,vq,vh,rfl,c0,c1,c2,c3,i0,hP,hH⟩:=Opns.at_ hel k hlt
   obtain⟨ap,cap,rfl,-⟩:=id hP
   obtain⟨ah,cah,rfl,-⟩:=id hH
   have HNX:=η (decs_next hlt)
   have HIN:=η (HL5.o _ (List.getElem_mem hlt))
   have HCT:Hid (((h.opn.take k).filter fun o=>o.dec).length≤12):=η (Nat.le_trans (List.length_filter_le _ _) (by simp;omega))
   replace c0:=hb.sub _ _ c0
   replace c1:=hb.sub _ _ c1
   replace c2:=hb.sub _ _ c2
   replace c3:=hb.sub _ _ c3
   have HB:=η hb
   clear hP hH hb i0
   generalize h.opn[k]=q at*
   generalize ((h.opn.take k).filter fun o=>o.dec).length=ct at*
   obtain⟨t,ht⟩:∃t,t=q.dec:=⟨_,rfl⟩
   go_upto_region 15 with fail
   rw [←ht] at c2 ⊢
   obtain⟨wo,hwq⟩:∃zq:World,zq=wr.alloc (.cells #[.int .i64 q.deed,.slice ap q.parts.length cap,.bool t,.slice ah q.heard.length cah] 136):=⟨_,rfl⟩
   obtain⟨BO,hBq⟩:∃zq,zq=wr.heap.size:=⟨_,rfl⟩
   have GO:Hid (Grow wr wo):=η (by rw [hwq];exact(Grow.refl _).alloc _)
   have RO:Hid (wo.heap[BO]? =some (.cells #[.int .i64 q.deed,.slice ap q.parts.length cap,.bool t,.slice ah q.heard.length cah] 136 (0,0))):=η (by rw [hwq,hBq];exact row_new _ _)
   rw [←hwq,←hBq]
   clear hwq hBq c0 c1 c2 c3
   obtain⟨f0,f1,f2,f3⟩:=cells4 RO.o
   have zO:BO<wo.heap.size:=(γ RO.o)
   rw [←ht] at HNX HIN
   have HGO:=η (HB.o.trans GO.o)
   clear ht
   cases t with
   |false=>
    have HF:Hid (_=ct):=η (HNX.o.trans (by simp))
    go_wp2
    go_roundw
    case rel=>exact⟨k+1,by omega,by go_num,by rw [HF.o],HGO.o⟩
    case measure=>simp [intOf];omega
   |true=>
    have HF:Hid (_=ct+1):=η (HNX.o.trans (by simp))
    have R9o:=η (row_grow R9x.o HGO.o)
    obtain⟨b0,b1,b2,b3⟩:=cells4 R9o.o
    have z9:B9<wo.heap.size:=(γ R9o.o)
    go_wp2
    clear b0 b1 b2 b3 z9 f0 f1 f2 f3 zO
    obtain⟨wx2,hwx⟩:∃q:World,q=wr:=⟨_,rfl⟩
    rw [←hwx] at HB GO
    clear hwx
    go_loopw [14,80] (fun s14 i2 wr=>∃j:Nat,j≤y.opn.length∧i2=.int .i64 j∧s14=.bool (inO q.deed (y.opn.take j))∧Grow wo wr) (fun _ i2 _=>y.opn.length - (intOf i2).toNat)
    case atStart=>exact⟨0,by omega,rfl,rfl,Grow.refl _⟩
    case round=>
     obtain⟨j,hj',rfl,rfl,hb2⟩:=hrel
     by_cases hjl:j<y.opn.length
     ·obtain⟨bb2,oo2,vq,vh,rfl,c0,c1,c2,c3,i0,hP,hH⟩:=Opns.at_ KEL.o j hjl
      obtain⟨ap2,cap2,rfl,-⟩:=id hP
      obtain⟨ah2,cah2,rfl,-⟩:=id hH
      have HN2:=η (inO_next (d:=q.deed) hjl)
      replace c0:=(HGO.o.trans hb2).sub _ _ c0
      replace c1:=(HGO.o.trans hb2).sub _ _ c1
      replace c2:=(HGO.o.trans hb2).sub _ _ c2
      replace c3:=(HGO.o.trans hb2).sub _ _ c3
      have HB2:=η hb2
      clear hP hH hb2 i0
      generalize y.opn[j]=u at*
      generalize inO q.deed (y.opn.take j)=tin at*
      obtain⟨td,htd⟩:∃t,t=u.dec:=⟨_,rfl⟩
      go_upto_region 20 with fail
      rw [←htd] at c2 ⊢
      rw [←htd] at HN2
      clear htd
      obtain⟨wo2,hwq⟩:∃zq:World,zq=wr.alloc (.cells #[.int .i64 u.deed,.slice ap2 u.parts.length cap2,.bool td,.slice ah2 u.heard.length cah2] 136):=⟨_,rfl⟩
      obtain⟨BO2,hBq⟩:∃zq,zq=wr.heap.size:=⟨_,rfl⟩
      have GO2:Hid (Grow wr wo2):=η (by rw [hwq];exact(Grow.refl _).alloc _)
      have RO2:Hid (wo2.heap[BO2]? =some (.cells #[.int .i64 u.deed,.slice ap2 u.parts.length cap2,.bool td,.slice ah2 u.heard.length cah2] 136 (0,0))):=η (by rw [hwq,hBq];exact row_new _ _)
      rw [←hwq,←hBq]
      clear hwq hBq c0 c1 c2 c3
      have ROo:=η (row_grow RO.o (HB2.o.trans GO2.o))
      obtain⟨f0,f1,f2,f3⟩:=cells4 ROo.o
      obtain⟨g0,g1,g2,g3⟩:=cells4 RO2.o
      have zO:BO<wo2.heap.size:=(γ ROo.o)
      have zO2:BO2<wo2.heap.size:=(γ RO2.o)
      obtain⟨te,hte⟩:∃t,(u.deed==q.deed)=t:=⟨_,rfl⟩
      rw [hte] at HN2
      cases tin<;>cases te<;>cases td
      all_goals
       go_wp2
       go_roundw
       case rel=>exact⟨j+1,by omega,by go_num,by rw [HN2.o];simp,HB2.o.trans GO2.o⟩
       case measure=>simp [intOf];omega
     ·have hT:inO q.deed (y.opn.take j)=true:=by
       rw [List.take_of_length_le (by omega)]
       obtain⟨z,hz,e1,e2⟩:=HIN.o (by simp)
       unfold inO
       rw [List.any_eq_true]
       exact⟨z,hz,by simp [e1,e2]⟩
      rw [hT]
      have hwc:IntKind.i64.wrap ((ct:Int)+1)=(ct:Int)+1:=IntWalk.i64_in _ (by have:=HCT.o;omega)
      have HB2:=η hb2
      clear hT hb2
      go_wp2
      go_roundw
      case rel=>exact⟨k+1,by omega,by go_num,by rw [HF.o];simp,HGO.o.trans HB2.o⟩
      case measure=>simp [intOf];omega
  ·have HCT:Hid (((h.opn.take k).filter fun o=>o.dec).length=y.opn.length):=η (by rw [List.take_of_length_le (by omega)];exact HL4.o.symm)
   rw [HCT.o]
   have R7r:=η (row_grow R7x.o hb)
   have R9r:=η (row_grow R9x.o hb)
   have HXhr:=η (HXhx.o.mono hb.sub)
   have HXyr:=η (HXyx.o.mono hb.sub)
   have HEL:=η hel
   have HB:=η hb
   have GR:=η (GX.o.trans hb)
   clear hb hel
   obtain⟨b0,b1,b2,b3⟩:=cells4 R9r.o
   have z9:B9<wr.heap.size:=(γ R9r.o)
   go_wp2_with fail
   refine(whead_begin wr HXyr.o (HP.o.mono GR.o.sub) (HFK.o.ok HLL.o.1) HLL.o.2 HPR.o).mono ?_
   rintro e wb ⟨v1,v2,rfl,hx,hm,hbb⟩
   clear b0 b1 b2 b3 z9
   have HF0:Hid (fullE y=decide (11<y.opn.length)):=η (by unfold fullE;rw [HL3.o];simp)
   obtain⟨amb,cmb,rfl,-⟩:=id hm
   by_cases hf:11<y.opn.length
   ·have e1:beginE y=9:=by unfold beginE;rw [HF0.o];simp [hf]
    rw [e1]
    obtain⟨a5,c5,a6,c6,rfl⟩:=hx.hd_form
    have Gb:=η hbb
    clear hx hm hbb hf e1
    have R9b:=η (row_grow R9r.o Gb.o)
    obtain⟨b0,b1,b2,b3⟩:=cells4 R9b.o
    have z9:B9<wb.heap.size:=(γ R9b.o)
    go_wp2
    go_ret
    exact⟨rfl,(GR.o.trans Gb.o).alloc _⟩
   ·have e1:beginE y=0:=by unfold beginE;rw [HF0.o];simp [hf]
    have e2:beginH y P={ y with opn:=y.opn++ [newO y P],next:=y.next+1 }:=by unfold beginH;rw [HF0.o];simp [hf]
    have HDD:Hid ((newO y P).deed=64*(h.boot+1)):=η (by unfold newO;rw [HL2.o,HL3.o];simp)
    rw [e1]
    rw [e2] at hx
    have HLO:Hid (({ y with opn:=y.opn++ [newO y P],next:=y.next+1 }:Hd).opn=y.opn++ [newO y P]):=η rfl
    generalize ({ y with opn:=y.opn++ [newO y P],next:=y.next+1 }:Hd)=y2 at*
    obtain⟨a5,c5,a6,c6,rfl⟩:=hx.hd_form
    have HX6:=η (hx.mono (ov_none_sub _ _))
    have Gb:=η hbb
    have HLN:Hid (y2.opn.length=y.opn.length+1):=η (by rw [HLO.o];simp)
    clear hx hm hbb hf e1 e2
    obtain⟨wd,hwq⟩:∃zq:World,zq=wb.alloc (.cells #[.slice a5 y2.log.length c5,.int .i64 y2.boot,.int .i64 y2.next,.slice a6 y2.opn.length c6] 57):=⟨_,rfl⟩
    obtain⟨B17,hBq⟩:∃zq,zq=wb.heap.size:=⟨_,rfl⟩
    have Gbd:Hid (Grow wb wd):=η (by rw [hwq];exact(Grow.refl _).alloc _)
    have R17:Hid (wd.heap[B17]? =some (.cells #[.slice a5 y2.log.length c5,.int .i64 y2.boot,.int .i64 y2.next,.slice a6 y2.opn.length c6] 57 (0,0))):=η (by rw [hwq,hBq];exact row_new _ _)
    go_upto_region 27 with fail
    rw [←hwq,←hBq]
    clear hwq hBq
    have GBD:=η (Gb.o.trans Gbd.o)
    have R9b:=η (row_grow R9r.o GBD.o)
    have R7b:=η (row_grow R7r.o GBD.o)
    have HX7:=η (HX6.o.mono Gbd.o.sub)
    have HLW:Hid (∃b o,a6=some ⟨b,o,none⟩∧wd.cell? ⟨b,o+y.opn.length*4,none⟩=some (.int .i64 (64*(h.boot+1)))):=η (by
     obtain⟨ar',cr',he,-,-,-,hel⟩:=(Of.hd_log HX7.o).2
     obtain⟨rfl,rfl⟩:a6=ar'∧c6=cr':=by simpa using he
     have hlt2:y.opn.length<y2.opn.length:=by rw [HLN.o];omega
     obtain⟨b,o,vp,vh,rfl,c0,-⟩:=Opns.at_ hel _ hlt2
     refine⟨b,o,rfl,?_⟩
     rw [c0]
     have e3:y2.opn[y.opn.length]=newO y P:=by simp [HLO.o]
     rw [e3,HDD.o])
    obtain⟨bl,ol,rfl,cl0⟩:=HLW.o
    have HLN2:=HLN.o
    generalize y2.opn.length=ln at*
    subst HLN2
    have hwl:IntKind.i64.wrap (((y.opn.length+1:Nat):Int) - 1)=(y.opn.length:Int):=by have:=HY12.o;rw [IntWalk.i64_in _ (by omega)];omega
    clear HLW
    obtain⟨b0,b1,b2,b3⟩:=cells4 R9b.o
    obtain⟨d0,d1,d2,d3⟩:=cells4 R7b.o
    obtain⟨e0,e1,e2,e3⟩:=cells4 R17.o
    have z9:B9<wd.heap.size:=(γ R9b.o)
    have z7:B7<wd.heap.size:=(γ R7b.o)
    have z17:B17<wd.heap.size:=(γ R17.o)
    have h12':=HY12.o
    go_wp2
    clear b0 b1 b2 b3 d0 d1 d2 d3 e0 e1 e2 e3 z9 z7 z17 cl0 hwl
    have GRD:=η (GR.o.trans GBD.o)
    have HBD:=η (HB.o.trans GBD.o)
    have R7d:=η (row_grow R7b.o (Grow.refl _))
    have HXhd:=η (HXhr.o.mono GBD.o.sub)
    have hel:=HEL.o
    generalize hdd:(64:Int)*(h.boot+1)=dd at*
    clear hdd
    obtain⟨wr0,hwr⟩:∃q:World,q=wr:=⟨_,rfl⟩
    go_loopw [139] (fun i wr=>∃k:Nat,k≤h.opn.length∧i=.int .i64 k∧Grow wd wr) (fun i _=>h.opn.length - (intOf i).toNat)
    case atStart=>exact⟨0,by omega,rfl,Grow.refl _⟩
    case round=>
     obtain⟨k2,hk2,rfl,hb⟩:=hrel
     by_cases hlt2:k2<h.opn.length
     ·obtain⟨bb,oo,vq,vh,rfl,c0,c1,c2,c3,i0,hP,hH⟩:=Opns.at_ hel k2 hlt2
      obtain⟨ap,cap,rfl,-⟩:=id hP
      obtain⟨ah,cah,rfl,-⟩:=id hH
      have hne:(h.opn[k2].deed==dd)=false:=by simpa using HL6.o _ (List.getElem_mem hlt2)
      replace c0:=(HBD.o.trans hb).sub _ _ c0
      replace c1:=(HBD.o.trans hb).sub _ _ c1
      replace c2:=(HBD.o.trans hb).sub _ _ c2
      replace c3:=(HBD.o.trans hb).sub _ _ c3
      have HB2:=η hb
      clear hP hH hb i0
      generalize h.opn[k2]=q at*
      generalize hqd:q.dec=t at*
      clear hqd
      go_wp2
      go_roundw
      case rel=>exact⟨k2+1,by omega,by go_num,HB2.o.alloc _⟩
      case measure=>simp [intOf];omega
     ·have R7e:=η (row_grow R7d.o hb)
      have HB2:=η hb
      have HXe:=η (HXhd.o.mono hb.sub)
      clear hb hel
      obtain⟨al',cl',he,h1,h2,-,hel⟩:=(Of.hd_log HXe.o).1
      obtain⟨rfl,rfl⟩:al=al'∧cl=cl':=by simpa using he
      have hlg:=HLG0.o
      clear he h1 h2
      obtain⟨d0,d1,d2,d3⟩:=cells4 R7e.o
      have z7:B7<wr.heap.size:=(γ R7e.o)
      go_wp2
      clear d0 d1 d2 d3 z7
      obtain⟨we,hwe⟩:∃q:World,q=wr:=⟨_,rfl⟩
      rw [←hwe] at HB2 hel ⊢
      clear hwe
      go_loopw [151] (fun i wr=>∃k:Nat,k≤h.log.length∧i=.int .i64 k∧Grow we wr) (fun i _=>h.log.length - (intOf i).toNat)
      case atStart=>exact⟨0,by omega,rfl,Grow.refl _⟩
      case round=>
       obtain⟨k3,hk3,rfl,hb⟩:=hrel
       by_cases hlt3:k3<h.log.length
       ·obtain⟨bb,oo,vq,rfl,c0,c1,c2,i0,i1,hP⟩:=Rcs.at_ hel k3 hlt3
        obtain⟨ap,cap,rfl,-⟩:=id hP
        have HR7:=η (HL7.o _ (List.getElem_mem hlt3))
        replace c0:=hb.sub _ _ c0
        replace c1:=hb.sub _ _ c1
        replace c2:=hb.sub _ _ c2
        have HB3:=η hb
        clear hP hb i0 i1
        generalize h.log[k3]=q at*
        by_cases h5:q.kind=5
        ·have t1:(q.kind==5)=true:=by simp [h5]
         have t2:(q.deed==dd)=false:=by simpa using HR7.o h5
         clear h5
         go_wp2
         go_roundw
         case rel=>exact⟨k3+1,by omega,by go_num,HB3.o.alloc _⟩
         case measure=>simp [intOf];omega
        ·have t1:(q.kind==5)=false:=by simp [h5]
         clear h5
         go_wp2
         go_roundw
         case rel=>exact⟨k3+1,by omega,by go_num,HB3.o.alloc _⟩
         case measure=>simp [intOf];omega
       ·have HB3:=η hb
        clear hb hel
        go_wp2
        go_ret
        exact⟨rfl,GRD.o.trans (HB2.o.trans HB3.o)⟩
end Go.Proofs.Ytgbhpghgohggcaa
namespace Go.Proofs.Ytgbhpghgohggcaa
open Go.RowKit Go.ChangeShapes Go.WideShapes Go.ChangeAt
def Reads {α:Type} (P:Program) (t:TypeId) (T:Ty α):Prop:=∀(H:Type) (enc:TypeId×Value→H) (W:World) (fuel:Nat) (cs:List Value) (x:DataW H×List MemPlace),
 DataW.trod enc P W 0 (fun _=>true) true fuel t cs=some x→∃y,T.R W.cell? cs y
theorem reads_int {P:Program} {t:TypeId} (ht:P.underlying t=some (.int .i64)):Reads P t Ty.int:=by
 intro H enc W fuel cs x h
 obtain⟨n,rfl,_,hw⟩:=DataW.trod_int ht h
 exact⟨n,rfl,hw⟩
theorem reads_sl {α:Type} {P:Program} {t e:TypeId} {T:Ty α} (hR:Reads P e T) (ht:P.underlying t=some (.slice e)) (hc:P.cellsOf e=T.size) (h0:0<T.size):Reads P t T.sl:=by
 intro H enc W fuel cs x h
 rcases Deep.open_slice ht h with⟨rfl,_⟩|⟨a,len,cap,m,n,D,Pl,rfl,_,hl,hm,hmm,hxe,hx⟩
 ·exact⟨[],_,rfl,none,0,rfl,Nat.le_refl _,Nat.zero_le _,fun _=>rfl,fun i x e=>by simp at e⟩
 ·simp only [if_true] at hmm
  subst m
  have h2:∀i,i<len→∃(p:List Value×α),T.R W.cell? p.1 p.2∧W.cells? 0 (a.add (i*T.size)) T.size=some p.1:=by
   intro i hi
   obtain⟨cs',h1,h2⟩:=hx i (by omega)
   obtain⟨y,hy⟩:=hR H enc W n cs' _ h2
   rw [hc] at h1
   exact⟨(cs',y),hy,h1⟩
  have h3:∃l:List α,l.length=len∧∀i y,l[i]? =some y→∃cs',T.R W.cell? cs' y∧W.cells? 0 (a.add (i*T.size)) T.size=some cs':=by
   clear hx hl h hxe
   induction len with
   |zero=>exact⟨[],rfl,by simp⟩
   |succ len ih=>
    obtain⟨l,hl,hi⟩:=ih (by intro i hi;exact h2 i (by omega))
    obtain⟨⟨cs',y⟩,hy,h1⟩:=h2 len (by omega)
    refine⟨l++ [y],by simp [hl],fun i z hz=>?_⟩
    rcases Nat.lt_or_ge i l.length with hlt|hge
    ·rw [List.getElem?_append_left hlt] at hz;exact hi i z hz
    ·have hb:=(List.getElem?_eq_some_iff.1 hz).1
     simp at hb
     obtain rfl:i=len:=by omega
     rw [List.getElem?_append_right hge,hl] at hz
     simp at hz
     subst hz
     exact⟨cs',hy,h1⟩
  obtain⟨l,hlen,hl2⟩:=h3
  refine⟨l,_,rfl,some a,cap,by rw [hlen],by omega,hm,by simp,fun i y hy=>?_⟩
  obtain⟨cs',hR',hcs⟩:=hl2 i y hy
  obtain⟨_,hlen',hat⟩:=World.cells?_some hcs
  have hpos:0<l.length:=by have:=(List.getElem?_eq_some_iff.1 hy).1;omega
  obtain⟨cs0,_,hcs0⟩:=hl2 0 l[0] (List.getElem?_eq_getElem hpos)
  obtain⟨_,hlen0,hat0⟩:=World.cells?_some hcs0
  have hfirst:=hat0 0 h0
  rw [List.getElem?_eq_getElem (by omega)] at hfirst
  have hsp:=World.cell?_spot hfirst
  obtain⟨b,o,s⟩:=a
  have hs:s=none:=by simpa [Addr.add] using hsp
  subst hs
  refine⟨b,o,cs',rfl,hR',fun j u hu=>?_⟩
  have hj:j<T.size:=by rw [←hlen'];exact(List.getElem?_eq_some_iff.1 hu).1
  have:=hat j hj
  rw [Addr.add_lit,Addr.add_lit,hu] at this
  exact this
def structOf (P:Program) (t:TypeId):Option (List (TypeId×Nat×Nat)):=
 match P.underlying t with
 |some (.struct fs)=>some (fs.toList.map fun f=>(f.type,f.offset,P.cellsOf f.type))
 |_=>none
theorem struct_fields {P:Program} {t:TypeId} {fs':List (TypeId×Nat×Nat)} (hs:structOf P t=some fs') {H:Type} {enc:TypeId×Value→H} {W:World} {fuel:Nat} {cs:List Value} {x:DataW H×List MemPlace}
  (h:DataW.trod enc P W 0 (fun _=>true) true fuel t cs=some x):cs.length=P.cellsOf t∧∀(i:Nat) (f:TypeId×Nat×Nat),fs'[i]? =some f→∃n y,DataW.trod enc P W 0 (fun _=>true) true n f.1 ((cs.drop f.2.1).take f.2.2)=some y:=by
 unfold structOf at hs
 split at hs
 ·rename_i fs hu
  obtain rfl:=Option.some.inj hs
  obtain⟨xs,n,_,_,hl,hlen,hf⟩:=DataW.trod_struct hu h
  refine⟨hl,fun i f hi=>?_⟩
  rw [List.getElem?_map] at hi
  cases hfi:fs.toList[i]? with
  |none=>rw [hfi] at hi;cases hi
  |some fd=>
   rw [hfi] at hi
   obtain rfl:=Option.some.inj hi
   have hfi':fs[i]? =some fd:=by simpa using hfi
   have hlt:i<xs.length:=by rw [hlen];exact(Array.getElem?_eq_some_iff.1 hfi').1
   have:=hf i fd hfi'
   rw [List.getElem?_eq_getElem hlt] at this
   exact⟨n,_,this⟩
 ·cases hs
theorem reads_pt:Reads Try.prog 32 Ty.pt:=by
 intro H enc W fuel cs x h
 obtain⟨hl,hf⟩:=struct_fields (fs':=[(3,0,1),(3,1,1),(3,2,1)]) (by kernel_rfl) h
 rw [show(Try.prog).cellsOf 32=3 by kernel_rfl] at hl
 match cs,hl with
 | [a,b,c],_=>
  obtain⟨_,_,h0⟩:=hf 0 _ rfl
  obtain⟨_,_,h1⟩:=hf 1 _ rfl
  obtain⟨_,_,h2⟩:=hf 2 _ rfl
  obtain⟨x0,e0,w0⟩:=reads_int (by kernel_rfl) _ _ _ _ _ _ h0
  obtain⟨x1,e1,w1⟩:=reads_int (by kernel_rfl) _ _ _ _ _ _ h1
  obtain⟨x2,e2,w2⟩:=reads_int (by kernel_rfl) _ _ _ _ _ _ h2
  refine⟨⟨x0,x1,x2⟩,?_,w0,w1,w2⟩
  simp at e0 e1 e2
  subst e0 e1 e2
  rfl
theorem reads_pts:Reads Try.prog 23 Ty.pts:=reads_sl reads_pt (by kernel_rfl) (by kernel_rfl) (by decide)
theorem arg_sl {α:Type} {P:Program} {t e:TypeId} {T:Ty α} (hR:Reads P t T.sl) (ht:P.underlying t=some (.slice e)) {H:Type} {enc:TypeId×Value→H} {W:World} {r:Reach} {b:Nat} {v:Value} {d:DataW H} {p:List MemPlace}
  (hval:Value.okWide P W r b t v) (h:DataW.Trod enc P W 0 (fun _=>true) true t v d p):∃l,Sl T W.cell? v l:=by
 obtain⟨a,len,cap,rfl⟩:=okWide_slice ht hval
 obtain⟨fuel,hf⟩:=h
 obtain⟨l,v,e,hv⟩:=hR _ _ _ _ _ _ hf
 simp [Value.cells] at e
 subst e
 exact⟨l,hv⟩
theorem own:ownKnob (Try.prog).godebug=none:=by kernel_rfl
theorem laidOut:laidOutB Try.prog=true:=by kernel_rfl
end Go.Proofs.Ytgbhpghgohggcaa
namespace Go.Proofs.Ytgbhpghgohggcaa
open Go.RowKit Go.ChangeShapes Go.WideShapes Go.ChangeAt
theorem sl_len {α:Type} {T:Ty α} {c:CM} {a:Option Addr} {n cap:Nat} {l:List α} (h:Sl T c (.slice a n cap) l):l.length=n:=by
 obtain⟨a',cap',he,_⟩:=h
 simp only [Value.slice.injEq] at he
 exact he.2.1.symm
theorem arg_size {α:Type} {P:Program} {t e:TypeId} {T:Ty α} {k:Nat} (ht:P.underlying t=some (.slice e)) (hb:P.bytesOf e=k) {H:Type} {enc:TypeId×Value→H} {W:World} {r:Reach} {b:Nat} {v:Value} {d:DataW H} {p:List MemPlace} {ts:List TypeId} {ds:List (DataW H)} {j:Nat}
  (hsz:(DataW.weightsEach P ts ds).all (· ≤reachBytes)=true) (hj:ts[j]? =some t) (hd:ds[j]? =some d)
  (hval:Value.okWide P W r b t v) (h:DataW.Trod enc P W 0 (fun _=>true) true t v d p) {l:List α} (hl:Sl T W.cell? v l):l.length*k≤140737488351232:=by
 obtain⟨a,len,cap,rfl⟩:=okWide_slice ht hval
 obtain⟨fuel,hf⟩:=h
 have hll:=sl_len hl
 rcases Deep.open_slice ht hf with⟨he,_⟩|⟨a',len',cap',m,n,D,Pl,he,_,hlc,_,hmm,hxe,_⟩
 ·simp [Value.cells] at he
  rw [hll,he.2.1];simp
 ·simp [Value.cells] at he
  obtain⟨_,rfl,rfl⟩:=he
  obtain rfl:d=.slice ((List.range len).map D) ((List.range (m - len)).map fun j=>D (len+j)):=by simpa using congrArg Prod.fst hxe
  have:=sized_slice hsz hj hd ht
  rw [hb,List.length_map,List.length_range] at this
  rw [hll]
  have h2:len*k≤(len+((List.range (m - len)).map fun j=>D (len+j)).length)*k:=Nat.mul_le_mul_right _ (Nat.le_add_right _ _)
  have h3:reachBytes=140737488351232:=rfl
  omega
theorem reads_st:Reads Try.prog 164 Ty.st:=by
 intro H enc W fuel cs x h
 obtain⟨hl,hf⟩:=struct_fields (fs':=[(3,0,1),(3,1,1),(23,2,1)]) (by kernel_rfl) h
 rw [show(Try.prog).cellsOf 164=3 by kernel_rfl] at hl
 match cs,hl with
 | [a,b,c],_=>
  obtain⟨_,_,h0⟩:=hf 0 _ rfl
  obtain⟨_,_,h1⟩:=hf 1 _ rfl
  obtain⟨_,_,h2⟩:=hf 2 _ rfl
  obtain⟨x0,e0,w0⟩:=reads_int (by kernel_rfl) _ _ _ _ _ _ h0
  obtain⟨x1,e1,w1⟩:=reads_int (by kernel_rfl) _ _ _ _ _ _ h1
  obtain⟨x2,v2,e2,w2⟩:=reads_pts _ _ _ _ _ _ h2
  refine⟨⟨x0,x1,x2⟩,v2,?_,w0,w1,w2⟩
  simp at e0 e1 e2
  subst e0 e1 e2
  rfl
theorem reads_sts:Reads Try.prog 90 (Ty.sl Ty.st):=reads_sl reads_st (by kernel_rfl) (by kernel_rfl) (by decide)
end Go.Proofs.Ytgbhpghgohggcaa
