/- The parts that laws are proved of, joined: G29, T9, Trod, Trod2, Trod3. No condition beside those that each theorem names. -/
import Derived.Test.YthfgeelcbcgahaaGreatDoorTie
import Derived.Test.YthfgeelcbcgahaaGreatDoorCards
import Derived.Deep.DeepHandedRow
import Derived.Lib.LaidTab
import Derived.Lay
import Derived.Stop.LaidErr
import Derived.Shelf.Vars
import Derived.SevenTiedAt
import Derived.Deep.Slices
import Derived.OpenShut
import Derived.Below
import Derived.ChangeOld
import Derived.ProofKit
import Derived.SizedLaws
import Derived.Test.YthfgeelcbcgahaaGreatDoorJD5a
namespace Go.Proofs.YthfgeelcbcgahaaGreatDoor
open Go.RowKit
theorem amt_pos {P:List Pt} (h:∀p∈P,0≤p.n) (k q:Int):0≤amt k q P:=by
 unfold amt
 cases e:P.find? (atK k q) with
 |none=>exact Int.le_refl _
 |some p=>exact h p (List.mem_of_find?_eq_some e)
theorem done_law {l:List Pt} (hw:wrongE l 3=0) (hn:∀p∈l,0≤p.n):∀p∈l,∃h,(settledA [⟨1,0,l⟩]).houses[p.h.toNat]? =some h∧h.sums.get p.k=p.n:=fun p hp=>by
 have f0:FW 3 [] (newA 3):=⟨WI.zero (by omega),fun m hm=>by simp [newA] at hm,fun x hx=>by simp at hx⟩
 obtain⟨d,f1,-,-⟩:=f0.begin hw (by rfl)
 have fg:FreeG [(d,l)]:=⟨fun x hx y hy hne=>by
  rw [List.mem_singleton] at hx hy
  exact absurd (by rw [hx,hy]) hne,fun x hx k q=>by
  rw [List.mem_singleton] at hx
  rw [hx]
  exact amt_pos hn k q⟩
 have f2:=f1.settle fg
 exact FW.final fg f2 f1.wi.settle.1 (x:=(d,l)) List.mem_cons_self hp
theorem pts_right {l:List Pt} (h1:1≤l.length) (h4:l.length≤4) (h:∀p∈l,0≤p.h∧p.h≤2∧0≤p.k∧p.k≤3∧0≤p.n∧p.n≤1000) (hd:(l.map fun p=>(p.h,p.k)).Nodup):wrongE l 3=0:=by
 have go:∀(l:List Pt) (ks:List (Int×Int)),(∀p∈l,0≤p.h∧p.h≤2∧0≤p.k∧p.k≤3∧0≤p.n∧p.n≤1000)→(l.map fun p=>(p.h,p.k)).Nodup→(∀p∈l,(p.h,p.k)∉ks)→wrongGo 3 ks l=0:=by
  intro l
  induction l with
  |nil=>intros;rfl
  |cons p l ih=>
   intro ks h hd hk
   have hp:=h p List.mem_cons_self
   rw [List.map_cons,List.nodup_cons] at hd
   rw [wrongGo,if_neg (by unfold badPt;simp only [decide_eq_true_eq];omega),if_neg (hk p List.mem_cons_self)]
   refine ih _ (fun q hq=>h q (List.mem_cons_of_mem _ hq)) hd.2 (fun q hq hm=>?_)
   rcases List.mem_cons.1 hm with e|hm
   ·exact hd.1 (List.mem_map.2 ⟨q,hq,e⟩)
   ·exact hk q (List.mem_cons_of_mem _ hq) hm
 rw [wrongE,if_neg (by omega)]
 exact go l [] h hd (fun p _ hm=>by simp at hm)
theorem sms_cell {c:CM} {v:Value} {S:List Sm} (h:Sms c v S) {i k:Nat} (hi:i<S.length) (hk:k<4):∃b o cap,v=.slice (some ⟨b,o,none⟩) S.length cap∧c ⟨b,o+i*4+k,none⟩=some (.int .i64 (S[i].get k)):=by
 obtain⟨a,cap,rfl,-,-,-,hel⟩:=h
 obtain⟨b,o,cs,rfl,hR,hA⟩:=hel i _ (List.getElem?_eq_getElem hi)
 obtain⟨rfl,-⟩:=hR
 refine⟨b,o,cap,rfl,?_⟩
 have h9:=hA k
 match k,hk,h9 with
 |0,_,h9=>exact h9 _ rfl
 |1,_,h9=>exact h9 _ rfl
 |2,_,h9=>exact h9 _ rfl
 |3,_,h9=>exact h9 _ rfl
set_option maxRecDepth 100000 in
set_option maxHeartbeats 4000000 in
theorem topDone_walk (W:World) (hV:Vars W) {v:Value} {l:List Pt} (hv:Pts W.cell? v l) (_:l.length*24≤140737488351232):
  Calls Tryz.prog 5 #[v] W fun e w'=>e=.returned (.bool true)∧Grow W w':=by
 have HV:=η hV
 have HP:=η hv
 have HI:=η (Pts.ok hv)
 obtain⟨a,cap,rfl,h1,h2,-,hel⟩:=hv
 have HEL:=η hel
 unfold maxLen at h2
 have hzb:∀w,(zeroValue 4).run Tryz.prog w=.ok (.bool false) w:=fun w=>by kernel_rfl
 have hmm:=@run_makeMap Tryz.prog
 clear hV hel
 go_enter Tryz.func5,Tryz.ntmps5
 go_wp2_with fail
 refine(alive_top W HV.o).mono ?_
 rintro e w1 ⟨rfl,g1⟩
 have G1:=η g1
 clear g1
 by_cases hl:l.length<1∨4<l.length
 ·rcases hl with hl|hl
  ·go_wp2
   go_ret
   exact⟨rfl,G1.o⟩
  ·go_wp2
   go_ret
   exact⟨rfl,G1.o⟩
 have hl1:1≤l.length:=by omega
 have hl4:l.length≤4:=by omega
 clear hl
 go_wp2
 go_loopw [5,23] (fun _ i wr=>∃(k:Nat) (ks:List (Int×Int)),k≤l.length∧i=.int .i64 k∧Grow w1 wr∧MapIs encPair wr w1.heap.size (setKv ks)∧(∀p∈l.take k,0≤p.h∧p.h≤2∧0≤p.k∧p.k≤3∧0≤p.n∧p.n≤1000)∧((l.take k).map fun p=>(p.h,p.k)).Nodup∧∀x,x∈ks↔x∈(l.take k).map fun p=>(p.h,p.k)) (fun _ i _=>l.length - (intOf i).toNat)
 case atStart=>exact⟨0,[],by omega,rfl,grA,MapIs.new w1,by simp,by simp,by simp⟩
 case round=>
  obtain⟨k,ks,hk',rfl,hb,hmap,q1,q2,q3⟩:=hrel
  have HM:=η hmap
  have Q1:=η q1
  have Q2:=η q2
  have Q3:=η q3
  clear hmap q1 q2 q3
  by_cases hlt:k<l.length
  ·obtain⟨b,o,rfl,c0,c1,c2,-,-,-⟩:=Pts.at_ HEL.o k hlt
   have HTK:Hid (l.take (k+1)=l.take k++ [l[k]]):=η (List.take_succ_eq_append_getElem hlt)
   replace c0:=hb.sub _ _ (G1.o.sub _ _ c0)
   replace c1:=hb.sub _ _ (G1.o.sub _ _ c1)
   replace c2:=hb.sub _ _ (G1.o.sub _ _ c2)
   have hw:(l[k].h<0)∨(0≤l[k].h∧2<l[k].h)∨(0≤l[k].h∧l[k].h≤2∧l[k].k<0)∨(0≤l[k].h∧l[k].h≤2∧0≤l[k].k∧3<l[k].k)∨(0≤l[k].h∧l[k].h≤2∧0≤l[k].k∧l[k].k≤3∧l[k].n<0)∨(0≤l[k].h∧l[k].h≤2∧0≤l[k].k∧l[k].k≤3∧0≤l[k].n∧1000<l[k].n)∨(0≤l[k].h∧l[k].h≤2∧0≤l[k].k∧l[k].k≤3∧0≤l[k].n∧l[k].n≤1000):=by omega
   generalize hp:l[k]=p at*
   obtain⟨ph,pk,pn⟩:=p
   clear hp
   simp only at hw c0 c1 c2
   have R9:=row_new wr (.cells #[.int .i64 0,.int .i64 0,.int .i64 0] 31)
   go_wp2_with (first|(refine wpList_store_row rfl (.tmp 5) (.tmp 26) rfl rfl rfl R9 info_pt0 rfl rfl ?_))
   clear R9 c0 c1 c2
   intro w5 r5 g5
   have HM5:Hid (MapIs encPair w5 w1.heap.size (setKv ks)):=η ((HM.o.grown (grownBy_of_grow ((Grow.refl _).alloc _) none) (by simp)).grown g5 (by intro e;have:=Option.some.inj e;have:=HM.o.lt;omega))
   obtain⟨B5,hB5⟩:∃B,B=wr.heap.size:=⟨_,rfl⟩
   rw [←hB5] at r5
   rw [←hB5]
   have G5:Hid (Grow wr w5):=η (((Grow.refl wr).alloc _).grown g5 (fun q hq=>by simp at hq;omega))
   have HB:=η hb
   obtain⟨d0,d1,d2⟩:=cells3 r5
   have z5:B5<w5.heap.size:=(γ r5)
   clear r5 g5 hB5 hb
   rcases hw with hw|⟨w1',hw⟩|⟨w1',w2',hw⟩|⟨w1',w2',w3',hw⟩|⟨w1',w2',w3',w4',hw⟩|⟨w1',w2',w3',w4',w5',hw⟩|⟨w1',w2',w3',w4',w5',hw⟩
   iterate 6 (· (go_wp2;go_ret;exact⟨rfl,G1.o.trans (HB.o.trans G5.o)⟩))
   have hrun:=run_lookup keyPair Tryz.underlying50 hzb HM5.o (ph,pk)
   by_cases hin:(ph,pk)∈ks
   ·have HG:=η (mget_in hin)
    clear hin
    rw [HG.o] at hrun
    simp only [encPair] at hrun
    go_wp2
    go_ret
    exact⟨rfl,G1.o.trans (HB.o.trans G5.o)⟩
   ·have HNI:=η hin
    have HG:=η (mget_out hin)
    clear hin
    rw [HG.o] at hrun
    simp only [encPair] at hrun
    go_wp2_with (first|(at_mapUpdate;refine wp_put keyPair Tryz.underlying50 rfl _ _ _ rfl HM5.o (ph,pk) (.bool true) rfl rfl rfl ?_;intro w' hm' hg';have HM':=η hm';have HG':=η hg';clear hm' hg'))
    obtain⟨ks',hks,hmem⟩:=mput_set ks (ph,pk)
    have hm':=HM'.o
    rw [hks] at hm'
    go_roundw
    case rel=>
     refine⟨k+1,ks',by omega,by go_num,(HB.o.trans G5.o).grown HG'.o (by simp),hm',?_,?_,?_⟩
     ·rw [HTK.o]
      intro q hq
      rcases List.mem_append.1 hq with hq|hq
      ·exact Q1.o q hq
      ·rw [List.mem_singleton] at hq
       subst hq
       exact⟨w1',w2',w3',w4',w5',hw⟩
     ·rw [HTK.o,List.map_append,List.nodup_append]
      refine⟨Q2.o,by simp,fun x hx y hy e=>?_⟩
      simp at hy
      subst e
      exact HNI.o ((Q3.o _).2 (by rw [←hy];exact hx))
     ·intro x
      rw [hmem,HTK.o,List.map_append,List.mem_append,Q3.o]
      simp
    case measure=>simp [intOf];omega
  ·have hkk:l.take k=l:=List.take_of_length_le (by omega)
   have q1:=Q1.o
   have q2:=Q2.o
   rw [hkk] at q1 q2
   have hw3:=pts_right hl1 hl4 q1 q2
   have HDL:=η (done_law hw3 (fun p hp=>(q1 p hp).2.2.2.2.1))
   have HPK:=η q1
   clear hkk q1 q2 hw3 HM Q1 Q2 Q3
   obtain⟨wx,rfl⟩:∃x:World,x=wr:=⟨_,rfl⟩
   obtain⟨wb,hwb⟩:∃y:World,y=wx.alloc (.cells #[.int .i64 1,.int .i64 0,.slice a l.length cap] 28):=⟨_,rfl⟩
   have GX:=η (G1.o.trans hb)
   have HS:Hid (Sl Ty.st wb.cell? (.slice (some ⟨wx.heap.size,0,none⟩) 1 1) [⟨1,0,l⟩]):=η (Sl.lit wx [[.int .i64 1,.int .i64 0,.slice a l.length cap]] (by decide) (by rw [hwb];exact Grow.refl _) rfl rfl (by show 1≤maxLen;decide) rfl ⟨⟨.slice a l.length cap,rfl,(show I64 1 from by unfold I64;decide),(show I64 0 from by unfold I64;decide),HP.o.mono GX.o.sub⟩,trivial⟩)
   have G2:Hid (Grow W wb):=η (by rw [hwb];exact GX.o.alloc _)
   clear hb
   obtain⟨st,hst⟩:∃x:List St,x=[⟨1,0,l⟩]:=⟨_,rfl⟩
   have hls:st.length≤150:=by rw [hst];exact(by decide:1≤150)
   rw [←hst] at HS HDL
   clear hst
   have HSE:=η (top_settled wb HS.o hls)
   have HL:=η hls
   have HL3:=η (settled_ok hls).2.2.2
   clear hls
   go_wp2_with fail
   rw [←hwb]
   clear hwb
   refine HSE.o.mono ?_
   rintro e w3 ⟨v3,rfl,hx,g3⟩
   have HX:=η hx
   obtain⟨al,cl,ao,co,ah,ch,an,cn,rfl⟩:=hx.wd_form
   have G3:=η (G2.o.trans g3)
   clear hx g3 HSE
   have R1:=row_new w3 (.cells #[.slice none 0 0,.int .i64 0,.int .i64 0,.slice none 0 0,.slice none 0 0,.slice none 0 0] 39)
   go_wp2_with (first|(refine wpList_store_row rfl (.tmp 6) (.tmp 76) rfl rfl rfl R1 info_wd rfl rfl ?_))
   clear R1
   intro w5 r5 g5
   obtain⟨B,hB⟩:∃B,B=w3.heap.size:=⟨_,rfl⟩
   rw [←hB] at r5
   rw [←hB]
   have G5:Hid (Grow w3 w5):=η (((Grow.refl w3).alloc _).grown g5 (fun q hq=>by simp at hq;omega))
   have R5:=η r5
   obtain⟨x1,x2,x3,x4,x5,x6⟩:=cells6 r5
   have zX:B<w5.heap.size:=(γ r5)
   clear r5 g5 hB
   have HE:=η (fun(W:World) (hW:Grow w3 W)=>top_even HL.o W (HX.o.mono hW.sub))
   obtain⟨S,hsum⟩:∃T,T=(settledA st).houses.map (·.sums):=⟨_,rfl⟩
   have HSL:Hid (S.length=3):=η (by rw [hsum,List.length_map];exact HL3.o)
   have HGET:Hid (∀p∈l,∀h:p.h.toNat<S.length,S[p.h.toNat].get p.k=p.n):=η (fun p hp h=>by
    obtain⟨hs,e1,e2⟩:=HDL.o p hp
    subst hsum
    rw [List.length_map] at h
    rw [List.getElem?_eq_getElem h] at e1
    rw [List.getElem_map,Option.some.inj e1]
    exact e2)
   have HU:Hid (∀W,Grow w3 W→Calls Tryz.prog 12 #[.agg #[.slice al (settledA st).head.log.length cl,.int .i64 (settledA st).head.boot,.int .i64 (settledA st).head.next,.slice ao (settledA st).head.opn.length co,.slice ah (settledA st).houses.length ch,.slice an (settledA st).net.length cn]] W fun e w'=>∃v',e=.returned v'∧Sms w'.cell? v' S∧Grow W w'):=η (fun W hW=>by rw [hsum];exact top_sums HL.o W (HX.o.mono hW.sub))
   clear hsum HDL HL3
   go_wp2_with fail
   refine(HE.o _ G5.o).mono ?_
   rintro e w6 ⟨rfl,g6⟩
   have G6:=η (G5.o.trans g6)
   have R6:=η (row_grow R5.o g6)
   clear x1 x2 x3 x4 x5 x6 zX g6 HE R5
   generalize settledA st=x at*
   go_wp2
   go_loopw [9,87] (fun _ i wy=>∃j:Nat,j≤l.length∧i=.int .i64 j∧Grow w6 wy) (fun _ i _=>l.length - (intOf i).toNat)
   case atStart=>exact⟨0,by omega,rfl,Grow.refl _⟩
   case round=>
    obtain⟨j,hj',rfl,hc⟩:=hrel
    by_cases hjt:j<l.length
    ·obtain⟨b,o,rfl,c0,c1,c2,-,-,-⟩:=Pts.at_ HEL.o j hjt
     have hpk:=HPK.o _ (List.getElem_mem hjt)
     have hget:=HGET.o _ (List.getElem_mem hjt)
     replace c0:=hc.sub _ _ (G6.o.sub _ _ (G3.o.sub _ _ c0))
     replace c1:=hc.sub _ _ (G6.o.sub _ _ (G3.o.sub _ _ c1))
     replace c2:=hc.sub _ _ (G6.o.sub _ _ (G3.o.sub _ _ c2))
     generalize l[j]=p at*
     obtain⟨ph,pk,pn⟩:=p
     dsimp only at hpk hget c0 c1 c2
     obtain⟨ih,rfl⟩:∃i:Nat,ph=i:=⟨ph.toNat,by omega⟩
     obtain⟨ik,rfl⟩:∃i:Nat,pk=i:=⟨pk.toNat,by omega⟩
     have hi3:ih<S.length:=by have:=HSL.o;omega
     have hk4:ik<4:=by omega
     have hk4i:(ik:Int)<4:=by omega
     have HSG:Hid (S[ih].get ik=pn):=η (hget hi3)
     clear hpk hget
     have HC:=η hc
     obtain⟨wy2,rfl⟩:∃x:World,x=wr:=⟨_,rfl⟩
     have R9:=row_new wy2 (.cells #[.int .i64 0,.int .i64 0,.int .i64 0] 31)
     go_wp2_with (first|(refine wpList_store_row rfl (.tmp 9) (.tmp 90) rfl rfl rfl R9 info_pt0 rfl rfl ?_))
     clear R9 c0 c1 c2
     intro w9 r9 g9
     obtain⟨B9,hB9⟩:∃B,B=wy2.heap.size:=⟨_,rfl⟩
     rw [←hB9] at r9
     rw [←hB9]
     have G9:Hid (Grow wy2 w9):=η (((Grow.refl wy2).alloc _).grown g9 (fun q hq=>by simp at hq;omega))
     have R9:Hid (w9.heap[B9]? =some (.cells #[.int .i64 ih,.int .i64 ik,.int .i64 pn] 31 (0,0))):=η r9
     have RW:=η (row_grow R6.o (HC.o.trans G9.o))
     clear r9 g9 hB9 hc
     have HS9:Hid (∀W,Grow w9 W→W.cell? ⟨B,0,none⟩=some (.slice al x.head.log.length cl)∧W.cell? ⟨B,1,none⟩=some (.int .i64 x.head.boot)∧W.cell? ⟨B,2,none⟩=some (.int .i64 x.head.next)∧W.cell? ⟨B,3,none⟩=some (.slice ao x.head.opn.length co)∧W.cell? ⟨B,4,none⟩=some (.slice ah x.houses.length ch)∧W.cell? ⟨B,5,none⟩=some (.slice an x.net.length cn)∧W.cell? ⟨B9,0,none⟩=some (.int .i64 ih)∧W.cell? ⟨B9,1,none⟩=some (.int .i64 ik)∧W.cell? ⟨B9,2,none⟩=some (.int .i64 pn)):=fun W hW=>by
      obtain⟨j0,j1,j2,j3,j4,j5⟩:=cells6 (row_grow RW.o hW)
      obtain⟨k0,k1,k2⟩:=cells3 (row_grow R9.o hW)
      exact⟨j0,j1,j2,j3,j4,j5,k0,k1,k2⟩
     go_upto_region 19 with fail
     refine bSc (fun w'=>w'.cell? ⟨B,0,none⟩=some (.slice al x.head.log.length cl)∧w'.cell? ⟨B,1,none⟩=some (.int .i64 x.head.boot)∧w'.cell? ⟨B,2,none⟩=some (.int .i64 x.head.next)∧w'.cell? ⟨B,3,none⟩=some (.slice ao x.head.opn.length co)∧w'.cell? ⟨B,4,none⟩=some (.slice ah x.houses.length ch)∧w'.cell? ⟨B,5,none⟩=some (.slice an x.net.length cn)∧w'.cell? ⟨B9,0,none⟩=some (.int .i64 ih)∧w'.cell? ⟨B9,1,none⟩=some (.int .i64 ik)∧w'.cell? ⟨B9,2,none⟩=some (.int .i64 pn)) [] (by kernel_rfl) ?_
     intro wd GD zD
     have ZD:=η zD
     clear zD
     refine bLc [0,2,3,4,5,9,10] 14 (by kernel_rfl) (fun _ _ _ _ _ h=>h) (HS9.o _ GD) ?_
     repeat (refine tNc (v:=?_) rfl (by rfl) ?_ ?_;rotate_left;(· (intro w' hSw;(try dsimp only at hSw);obtain⟨hs0,hs1,hs2,hs3,hs4,hs5,hs6,hs7,hs8⟩:=hSw;go_simp<;>with_reducible rfl));try simp only [Act.put,lzA,lzB,lzC,lzD,lzE,lzF])
     refine tEc ?_
     refine bOc 1 (by kernel_rfl) rfl ?_
     intro K HK
     try simp only [lzA,lzB,lzC]
     go_simp
     go_at_call 12
     refine(HU.o _ (G6.o.trans (HC.o.trans (G9.o.trans GD)))).mono ?_
     rintro e wa ⟨va,rfl,hva,ga⟩
     obtain⟨bs,os,cs,rfl,c8⟩:=sms_cell hva hi3 hk4
     rw [HSG.o] at c8
     have GA:=η (Grow.trans GD ga)
     clear ga hva
     refine HK.o _ _ ⟨.inr (HS9.o _ GA.o),?_⟩
     clear HK K
     try simp only [Act.put,lzA,lzB,lzC,lzD,lzE,lzF]
     refine bOc 6 (by kernel_rfl) rfl ?_
     intro K HK
     try simp only [lzA,lzB,lzC]
     go_simp
     refine HK.o _ _ ⟨.inr (HS9.o _ GA.o),?_⟩
     clear HK K
     try simp only [Act.put,lzA,lzB,lzC,lzD,lzE,lzF]
     refine bOc 7 (by kernel_rfl) rfl ?_
     intro K HK
     try simp only [lzA,lzB,lzC]
     go_simp
     refine HK.o _ _ ⟨.inr (HS9.o _ GA.o),?_⟩
     clear HK K
     try simp only [Act.put,lzA,lzB,lzC,lzD,lzE,lzF]
     refine bOc 8 (by kernel_rfl) rfl ?_
     intro K HK
     try simp only [lzA,lzB,lzC]
     go_simp
     refine HK.o _ _ ⟨.inr (HS9.o _ GA.o),?_⟩
     clear HK K
     try simp only [Act.put,lzA,lzB,lzC,lzD,lzE,lzF]
     refine bOc 11 (by kernel_rfl) rfl ?_
     intro K HK
     try simp only [lzA,lzB,lzC]
     go_simp
     refine HK.o _ _ ⟨.inr (HS9.o _ GA.o),?_⟩
     clear HK K
     try simp only [Act.put,lzA,lzB,lzC,lzD,lzE,lzF]
     refine bDc (by kernel_rfl) ?_
     clear c8
     go_wp2
     go_roundw
     case rel=>exact⟨j+1,by omega,by go_num,HC.o.trans (G9.o.trans GA.o)⟩
     case measure=>simp [intOf];omega
    ·go_wp2
     go_ret
     exact⟨rfl,(G3.o.trans G6.o).trans hc⟩
end Go.Proofs.YthfgeelcbcgahaaGreatDoor
namespace Go.Proofs.YthfgeelcbcgahaaGreatDoor
open Go.ChangeShapes Go.WideShapes Go.ChangeAt Go.RowKit
def laidList:List (String × DataW Unit):=[("math/bits.deBruijn32tab",Rows.laid_math_bits_deBruijn32tab),("math/bits.deBruijn64tab",Rows.laid_math_bits_deBruijn64tab),("internal/strconv.uint64pow10",Rows.laid_internal_strconv_uint64pow10),("unicode/utf8.acceptRanges",Rows.laid_unicode_utf8_acceptRanges),("strconv.ErrRange",Rows.laid_strconv_ErrRange),("strconv.ErrSyntax",Rows.laid_strconv_ErrSyntax),("unicode/utf8.first",Rows.laid_unicode_utf8_first)]
theorem starE: "*" ++ "errors.errorString" = "*errors.errorString":=by decide
theorem rowErr (u:TypeId) (h:Tryz.prog.typeName? 3 u = some "*errors.errorString"):u = 241:=
 typeName_ptr_named (nm:= "errors.errorString") (by rw [starE];kernel_rfl) (by kernel_rfl) (by decide) u (by rw [starE];exact h)
theorem var_lt {W:World} {n:String} {g:Nat} {v:Value} {l:List Value} (hg:Tryz.prog.globalNamed n=some g) (h:W.var? Tryz.prog n=some (v::l).toArray):g<W.heap.size:=
 World.block_lt_of_cell? W (a:=⟨g,0,none⟩) (show W.cell? ⟨g,0,none⟩=some v by have:=World.var?_cell hg h 0;simpa using this)
theorem vars_of {W:World} (h:laidMetH Tryz.prog laidList W) (hs:W.ShapedOpen Tryz.prog):Vars W:=by
 rw [MakeChecks.laidMetH_plain _ _ _ (by kernel_rfl)] at h
 have htab:Lib.TabIs Tryz.prog W "internal/strconv.uint64pow10" .u64 Lib.pow10Tab:=
  Lib.tabIs_of_head (show Tryz.prog.globalNamed "internal/strconv.uint64pow10" = some 5 by kernel_rfl) (show (Tryz.prog.globals[5]?).map (·.type) = some 245 by kernel_rfl)
   (show Tryz.prog.underlying 245=some (.array 20 193) by kernel_rfl) (show Tryz.prog.underlying 193=some (.int .u64) by kernel_rfl) (by kernel_rfl) (by kernel_rfl) h.tail.tail
 obtain ⟨a0,s0,hv0,-,-,-⟩:=laid_sentinel h.tail.tail.tail.tail (show Tryz.prog.globalNamed "strconv.ErrRange" = some 2 by kernel_rfl) (show (Tryz.prog.globals[2]?).map (·.type) = some 122 by kernel_rfl) Tryz.underlying122 rowErr Tryz.underlying241 Tryz.underlying243 rfl rfl Tryz.underlying9 (by kernel_rfl) (by kernel_rfl)
 obtain ⟨a1,s1,hv1,-,-,-⟩:=laid_sentinel h.tail.tail.tail.tail.tail (show Tryz.prog.globalNamed "strconv.ErrSyntax" = some 1 by kernel_rfl) (show (Tryz.prog.globals[1]?).map (·.type) = some 122 by kernel_rfl) Tryz.underlying122 rowErr Tryz.underlying241 Tryz.underlying243 rfl rfl Tryz.underlying9 (by kernel_rfl) (by kernel_rfl)
 have hm:=cell_of_shapedOpen_int (g:=0) (t:=3) (zero:=#[.int .i64 0]) (k:=.i64) hs (of_decide_eq_true (by kernel_rfl)) (by kernel_rfl) rfl (by kernel_rfl) (by kernel_rfl) (by kernel_rfl)
 refine⟨hm,htab,⟨_,_,hv1⟩,⟨_,_,hv0⟩,?_,?_,?_,?_⟩
 ·obtain⟨m,hm⟩:=hm
  exact World.block_lt_of_cell? W _ hm
 ·exact var_lt (by kernel_rfl) htab
 ·exact var_lt (l:=[]) (by kernel_rfl) hv1
 ·exact var_lt (l:=[]) (by kernel_rfl) hv0
set_option maxRecDepth 100000 in
theorem card_witness {H:Type} {enc:TypeId×Value→H} {os:Os} {f:FuncId} {fn:Func} {s:OpenSpec} {laid:List (String×DataW Unit)} (args:Array Value)
  (hv:((World.laidAll Tryz.prog os laid).forCall (fun _ _=>0) ⟨#[],args,[]⟩).variablesZipB Tryz.prog=true)
  (hr:(((World.laidAll Tryz.prog os laid).forCall (fun _ _=>0) ⟨#[],args,[]⟩).heap.toList.drop Tryz.prog.globals.size).take ((begin Tryz.prog (fun _ _=>0) default).world.heap.size - Tryz.prog.globals.size)=(begin Tryz.prog (fun _ _=>0) default).world.heap.toList.drop Tryz.prog.globals.size)
  (hok:Input.okWideB Tryz.prog ((World.laidAll Tryz.prog os laid).forCall (fun _ _=>0) ⟨#[],args,[]⟩) f ⟨#[],args,[]⟩=true)
  (hrow:s.preRow enc Tryz.prog fn [] false laid ((World.laidAll Tryz.prog os laid).forCall (fun _ _=>0) ⟨#[],args,[]⟩).memory args):
  ∃(w:World) (tape:Tape) (i:Input),w.os=os∧(w.forCall tape i).Shaped Tryz.prog∧i.vars=[]∧Input.okWide Tryz.prog (w.forCall tape i) .any w.heap.size f i∧
   s.preRow enc Tryz.prog fn [] false laid (w.forCall tape i).memory i.args∧({}:Assume).holds Tryz.prog (lone (Frame.enter Tryz.prog f i.args .normal) [] (w.forCall tape i)):=
 ⟨World.laidAll Tryz.prog os laid,fun _ _=>0,⟨#[],args,[]⟩,World.laidAll_os _ _ _,World.shaped_of_ZipB hv hr,(Input.okWide_of_okWideB (base:=0) hok).1,(Input.okWide_of_okWideB hok).2,hrow,by
  simp only [Assume.holds]
  exact⟨by simp,by simp,fun _=>Modest.zero,by simp,by simp⟩⟩
theorem laid_met (os:Os) (args:Array Value):laidMetH Tryz.prog laidList ((World.laidAll Tryz.prog os laidList).forCall (fun _ _=>0) ⟨#[],args,[]⟩).memory:=by
 rw [MakeChecks.laidMetH_plain _ _ _ (by kernel_rfl)]
 exact laidMet_laidAll _ (by kernel_rfl) (by kernel_rfl)
end Go.Proofs.YthfgeelcbcgahaaGreatDoor
namespace Go.Proofs.YthfgeelcbcgahaaGreatDoor
open Go.RowKit Go.ChangeShapes Go.WideShapes Go.ChangeAt
def Reads {α:Type} (P:Program) (t:TypeId) (T:Ty α):Prop:=∀(H:Type) (enc:TypeId×Value→H) (W:World) (fuel:Nat) (cs:List Value) (x:DataW H×List MemPlace),
 DataW.trod enc P W 0 (fun _=>true) true fuel t cs=some x→∃y,T.R W.cell? cs y
theorem reads_int {P:Program} {t:TypeId} (ht:P.underlying t=some (.int .i64)):Reads P t Ty.int:=by
 intro H enc W fuel cs x h
 obtain⟨n,rfl,_,hw⟩:=DataW.trod_int ht h
 exact⟨n,rfl,hw⟩
theorem reads_sl {α:Type} {P:Program} {t e:TypeId} {T:Ty α} (hR:Reads P e T) (ht:P.underlying t=some (.slice e)) (hc:P.cellsOf e=T.size) (h0:0<T.size):Reads P t T.sl:=by
 intro H enc W fuel cs x h
 rcases Deep.open_slice ht h with⟨rfl,_⟩|⟨a,len,cap,m,n,D,Pl,rfl,_,hl,hm,hmm,hxe,hx⟩
 ·exact⟨[],_,rfl,none,0,rfl,Nat.le_refl _,Nat.zero_le _,fun _=>rfl,fun i x e=>by simp at e⟩
 ·simp only [if_true] at hmm
  subst m
  have h2:∀i,i<len→∃(p:List Value×α),T.R W.cell? p.1 p.2∧W.cells? 0 (a.add (i*T.size)) T.size=some p.1:=by
   intro i hi
   obtain⟨cs',h1,h2⟩:=hx i (by omega)
   obtain⟨y,hy⟩:=hR H enc W n cs' _ h2
   rw [hc] at h1
   exact⟨(cs',y),hy,h1⟩
  have h3:∃l:List α,l.length=len∧∀i y,l[i]? =some y→∃cs',T.R W.cell? cs' y∧W.cells? 0 (a.add (i*T.size)) T.size=some cs':=by
   clear hx hl h hxe
   induction len with
   |zero=>exact⟨[],rfl,by simp⟩
   |succ len ih=>
    obtain⟨l,hl,hi⟩:=ih (by intro i hi;exact h2 i (by omega))
    obtain⟨⟨cs',y⟩,hy,h1⟩:=h2 len (by omega)
    refine⟨l++ [y],by simp [hl],fun i z hz=>?_⟩
    rcases Nat.lt_or_ge i l.length with hlt|hge
    ·rw [List.getElem?_append_left hlt] at hz;exact hi i z hz
    ·have hb:=(List.getElem?_eq_some_iff.1 hz).1
     simp at hb
     obtain rfl:i=len:=by omega
     rw [List.getElem?_append_right hge,hl] at hz
     simp at hz
     subst hz
     exact⟨cs',hy,h1⟩
  obtain⟨l,hlen,hl2⟩:=h3
  refine⟨l,_,rfl,some a,cap,by rw [hlen],by omega,hm,by simp,fun i y hy=>?_⟩
  obtain⟨cs',hR',hcs⟩:=hl2 i y hy
  obtain⟨_,hlen',hat⟩:=World.cells?_some hcs
  have hpos:0<l.length:=by have:=(List.getElem?_eq_some_iff.1 hy).1;omega
  obtain⟨cs0,_,hcs0⟩:=hl2 0 l[0] (List.getElem?_eq_getElem hpos)
  obtain⟨_,hlen0,hat0⟩:=World.cells?_some hcs0
  have hfirst:=hat0 0 h0
  rw [List.getElem?_eq_getElem (by omega)] at hfirst
  have hsp:=World.cell?_spot hfirst
  obtain⟨b,o,s⟩:=a
  have hs:s=none:=by simpa [Addr.add] using hsp
  subst hs
  refine⟨b,o,cs',rfl,hR',fun j u hu=>?_⟩
  have hj:j<T.size:=by rw [←hlen'];exact(List.getElem?_eq_some_iff.1 hu).1
  have:=hat j hj
  rw [Addr.add_lit,Addr.add_lit,hu] at this
  exact this
def structOf (P:Program) (t:TypeId):Option (List (TypeId×Nat×Nat)):=
 match P.underlying t with
 |some (.struct fs)=>some (fs.toList.map fun f=>(f.type,f.offset,P.cellsOf f.type))
 |_=>none
theorem struct_fields {P:Program} {t:TypeId} {fs':List (TypeId×Nat×Nat)} (hs:structOf P t=some fs') {H:Type} {enc:TypeId×Value→H} {W:World} {fuel:Nat} {cs:List Value} {x:DataW H×List MemPlace}
  (h:DataW.trod enc P W 0 (fun _=>true) true fuel t cs=some x):cs.length=P.cellsOf t∧∀(i:Nat) (f:TypeId×Nat×Nat),fs'[i]? =some f→∃n y,DataW.trod enc P W 0 (fun _=>true) true n f.1 ((cs.drop f.2.1).take f.2.2)=some y:=by
 unfold structOf at hs
 split at hs
 ·rename_i fs hu
  obtain rfl:=Option.some.inj hs
  obtain⟨xs,n,_,_,hl,hlen,hf⟩:=DataW.trod_struct hu h
  refine⟨hl,fun i f hi=>?_⟩
  rw [List.getElem?_map] at hi
  cases hfi:fs.toList[i]? with
  |none=>rw [hfi] at hi;cases hi
  |some fd=>
   rw [hfi] at hi
   obtain rfl:=Option.some.inj hi
   have hfi':fs[i]? =some fd:=by simpa using hfi
   have hlt:i<xs.length:=by rw [hlen];exact(Array.getElem?_eq_some_iff.1 hfi').1
   have:=hf i fd hfi'
   rw [List.getElem?_eq_getElem hlt] at this
   exact⟨n,_,this⟩
 ·cases hs
theorem reads_pt:Reads Tryz.prog 31 Ty.pt:=by
 intro H enc W fuel cs x h
 obtain⟨hl,hf⟩:=struct_fields (fs':=[(3,0,1),(3,1,1),(3,2,1)]) (by kernel_rfl) h
 rw [show(Tryz.prog).cellsOf 31=3 by kernel_rfl] at hl
 match cs,hl with
 | [a,b,c],_=>
  obtain⟨_,_,h0⟩:=hf 0 _ rfl
  obtain⟨_,_,h1⟩:=hf 1 _ rfl
  obtain⟨_,_,h2⟩:=hf 2 _ rfl
  obtain⟨x0,e0,w0⟩:=reads_int (by kernel_rfl) _ _ _ _ _ _ h0
  obtain⟨x1,e1,w1⟩:=reads_int (by kernel_rfl) _ _ _ _ _ _ h1
  obtain⟨x2,e2,w2⟩:=reads_int (by kernel_rfl) _ _ _ _ _ _ h2
  refine⟨⟨x0,x1,x2⟩,?_,w0,w1,w2⟩
  simp at e0 e1 e2
  subst e0 e1 e2
  rfl
theorem reads_pts:Reads Tryz.prog 26 Ty.pts:=reads_sl reads_pt (by kernel_rfl) (by kernel_rfl) (by decide)
theorem arg_sl {α:Type} {P:Program} {t e:TypeId} {T:Ty α} (hR:Reads P t T.sl) (ht:P.underlying t=some (.slice e)) {H:Type} {enc:TypeId×Value→H} {W:World} {r:Reach} {b:Nat} {v:Value} {d:DataW H} {p:List MemPlace}
  (hval:Value.okWide P W r b t v) (h:DataW.Trod enc P W 0 (fun _=>true) true t v d p):∃l,Sl T W.cell? v l:=by
 obtain⟨a,len,cap,rfl⟩:=okWide_slice ht hval
 obtain⟨fuel,hf⟩:=h
 obtain⟨l,v,e,hv⟩:=hR _ _ _ _ _ _ hf
 simp [Value.cells] at e
 subst e
 exact⟨l,hv⟩
theorem own:ownKnob (Tryz.prog).godebug=none:=by kernel_rfl
theorem laidOut:laidOutB Tryz.prog=true:=by kernel_rfl
end Go.Proofs.YthfgeelcbcgahaaGreatDoor
namespace Go.Proofs.YthfgeelcbcgahaaGreatDoor
open Go.RowKit Go.ChangeShapes Go.WideShapes Go.ChangeAt
theorem sl_len {α:Type} {T:Ty α} {c:CM} {a:Option Addr} {n cap:Nat} {l:List α} (h:Sl T c (.slice a n cap) l):l.length=n:=by
 obtain⟨a',cap',he,_⟩:=h
 simp only [Value.slice.injEq] at he
 exact he.2.1.symm
theorem arg_size {α:Type} {P:Program} {t e:TypeId} {T:Ty α} {k:Nat} (ht:P.underlying t=some (.slice e)) (hb:P.bytesOf e=k) {H:Type} {enc:TypeId×Value→H} {W:World} {r:Reach} {b:Nat} {v:Value} {d:DataW H} {p:List MemPlace} {ts:List TypeId} {ds:List (DataW H)} {j:Nat}
  (hsz:(DataW.weightsEach P ts ds).all (· ≤reachBytes)=true) (hj:ts[j]? =some t) (hd:ds[j]? =some d)
  (hval:Value.okWide P W r b t v) (h:DataW.Trod enc P W 0 (fun _=>true) true t v d p) {l:List α} (hl:Sl T W.cell? v l):l.length*k≤140737488351232:=by
 obtain⟨a,len,cap,rfl⟩:=okWide_slice ht hval
 obtain⟨fuel,hf⟩:=h
 have hll:=sl_len hl
 rcases Deep.open_slice ht hf with⟨he,_⟩|⟨a',len',cap',m,n,D,Pl,he,_,hlc,_,hmm,hxe,_⟩
 ·simp [Value.cells] at he
  rw [hll,he.2.1];simp
 ·simp [Value.cells] at he
  obtain⟨_,rfl,rfl⟩:=he
  obtain rfl:d=.slice ((List.range len).map D) ((List.range (m - len)).map fun j=>D (len+j)):=by simpa using congrArg Prod.fst hxe
  have:=sized_slice hsz hj hd ht
  rw [hb,List.length_map,List.length_range] at this
  rw [hll]
  have h2:len*k≤(len+((List.range (m - len)).map fun j=>D (len+j)).length)*k:=Nat.mul_le_mul_right _ (Nat.le_add_right _ _)
  have h3:reachBytes=140737488351232:=rfl
  omega
end Go.Proofs.YthfgeelcbcgahaaGreatDoor
