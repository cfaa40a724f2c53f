/- The parts that laws are proved of, joined: K25, Trod, Trod2, Trod3. No condition beside those that each theorem names. -/
import Derived.Deep.Slices
import Derived.OpenShut
import Derived.Below
import Derived.ChangeOld
import Derived.ProofKit
import Derived.SizedLaws
import Derived.Test.YtgbhpghgohggcaaJS2a
namespace Go.Proofs.Ytgbhpghgohggcaa
open Go.RowKit
theorem whead_hear3 {v vm:Value} {h:Hd} {m:Ms} (w:World) (hv:Of Ty.hd w.cell? v h) (hm:Of Ty.ms w.cell? vm m) (hk:HdOk h) (hi:HdInv h):
  Calls Try.prog 112 #[v,vm] w fun e w'=>∃v1 v2,e=.returned (.tuple #[v1,v2])∧Of Ty.hd (ov (fun _=>none) w w') v1 (hHearH h m)∧Sl Ty.ms (ov (fun _=>none) w w') v2 (hHearM h m)∧Grow w w':=
 (whead_hear w hv hm hk hi).mono fun _ _ ⟨v1,v2,he,h1,h2,h3⟩=>⟨v1,v2,he,h1,h2,h3⟩
theorem all_next {Y l:List Int} {k:Nat} (hk:k<l.length):((l.take (k+1)).all fun x=>decide (x∈Y))=(((l.take k).all fun x=>decide (x∈Y))&&decide (l[k]∈Y)):=by
 rw [List.take_succ_eq_append_getElem hk,List.all_append]
 simp
def AllRel (w wr:World) (B m:Nat) (al ar:Option Addr) (cl cr:Nat) (O:List Opn) (L:List Rc) (d:Int) (P:List Pt) (Y:List Int) (kv:List (Int×Value)) (hd:Hd):Prop:=
 wr.heap[B]? =some (.cells #[.slice al hd.log.length cl,.int .i64 hd.boot,.int .i64 hd.next,.slice ar hd.opn.length cr] 57 (0,0))∧Of Ty.hd (fr w wr [some B,some m]) (.agg #[.slice al hd.log.length cl,.int .i64 hd.boot,.int .i64 hd.next,.slice ar hd.opn.length cr]) hd∧MapIs encInt wr m kv∧Says kv Y∧AllI O L d P Y hd∧HdK hd
set_option maxRecDepth 100000 in
set_option maxHeartbeats 8000000 in
theorem headAll_walk {n0:Int} {v vp vs:Value} {l:List St} {P:List Pt} {S:List Ms} (w:World) (_hn:I64 n0) (hv:Sl Ty.st w.cell? v l) (_hs:l.length*40≤140737488351232) (hp:Pts w.cell? vp P) (_hs2:P.length*24≤140737488351232) (hm:Sl Ty.ms w.cell? vs S) (_hs3:S.length*48≤140737488351232):
  Calls Try.prog 26 #[.int .i64 n0,v,vp,vs] w fun e w'=>e=.returned (.bool true)∧Grow w w':=by
 obtain⟨app,cpp,rfl,-⟩:=id hp
 obtain⟨asl,csl,rfl,ms1,ms2,-,mel⟩:=hm
 unfold maxLen at ms2
 have MEL:=η mel
 clear mel
 by_cases hin:n0<1∨3<n0
 ·have HB:=η (fun(W:World)=>build_no (v:=v) W hin)
  clear hin hv hp
  go_enter Try.func26,Try.ntmps26
  go_wp2_with fail
  refine(alive8 _).mono ?_
  rintro e w1 ⟨rfl,hb1⟩
  go_wp2_with fail
  refine(HB.o _).mono ?_
  rintro e w2 ⟨rfl,hb2⟩
  have G2:=η (hb1.trans hb2)
  clear hb1 hb2
  go_wp2
  go_ret
  exact⟨rfl,G2.o.alloc _⟩
 obtain⟨n,rfl⟩:∃n:Nat,n0=(n:Int):=⟨n0.toNat,by omega⟩
 have hn:1≤n∧n≤3:=by omega
 obtain⟨G,hwi,-⟩:=WI.of_play hn (l.take 150)
 have hfw:=Few.play n (l.take 150) (Few.zero n)
 have hlp:=logP_play (l.take 150) (logP_new n)
 rw [Nat.zero_add] at hfw
 have HOK:=η (hwi.hdok hfw (by rw [List.length_take];omega))
 have HINV:=η (hwi.hdinv hlp)
 have HBG:=η (fun(hw:wrongE P n=0)=>hwi.begun hw)
 have HST:=η (fun(hw:wrongE P n=0)=>AllI.start hwi.core hw)
 have HBY:=η (fun(W:World) (hW:Grow w W)=>build_yes (l:=l) W hn (hv.mono hW.sub))
 have HN3:=η hn.2
 have HP:=η hp
 have HLG0:Hid ((playA (newA n) (l.take 150)).head.log.length≤90000):=η (by have:=hfw.log;rw [List.length_take] at this;omega)
 clear hfw hlp hwi hv hn hin hp
 generalize (playA (newA n) (l.take 150)).head=h at*
 have hmm:=@run_makeMap Try.prog
 have hzb:∀w,(zeroValue 4).run Try.prog w=.ok (.bool false) w:=fun w=>by kernel_rfl
 go_enter Try.func26,Try.ntmps26
 go_wp2_with fail
 refine(alive8 _).mono ?_
 rintro e w1 ⟨rfl,hb1⟩
 have G1:=η hb1
 clear hb1
 go_wp2_with fail
 refine(HBY.o _ G1.o).mono ?_
 rintro e w2 ⟨v2,rfl,hx2,hb2⟩
 obtain⟨al,cl,ar,cr,rfl⟩:=hx2.hd_form
 have HX2:=η hx2
 have G2:=η (G1.o.trans hb2)
 clear hx2 hb2 HBY
 obtain⟨w3,hwq⟩:∃zq:World,zq=w2.alloc (.cells #[.slice al h.log.length cl,.int .i64 h.boot,.int .i64 h.next,.slice ar h.opn.length cr] 57):=⟨_,rfl⟩
 obtain⟨B7,hBq⟩:∃zq,zq=w2.heap.size:=⟨_,rfl⟩
 have G23:Hid (Grow w2 w3):=η (by rw [hwq];exact(Grow.refl _).alloc _)
 have R7:Hid (w3.heap[B7]? =some (.cells #[.slice al h.log.length cl,.int .i64 h.boot,.int .i64 h.next,.slice ar h.opn.length cr] 57 (0,0))):=η (by rw [hwq,hBq];exact row_new _ _)
 have SB7:Hid (B7=w2.heap.size):=η hBq
 go_upto_region 4 with fail
 rw [←hwq,←hBq]
 clear hwq hBq
 have HX3:=η (HX2.o.mono G23.o.sub)
 have G3:=η (G2.o.trans G23.o)
 go_wp2_with fail
 refine(ref_wrongParts w3 (HP.o.mono G3.o.sub)).mono ?_
 rintro e wv ⟨rfl,hbv⟩
 have GV:=η (G3.o.trans hbv)
 have R7v:=η (row_grow R7.o hbv)
 have HXv:=η (HX3.o.mono hbv.sub)
 clear hbv
 by_cases hw:wrongE P n=0
 rotate_left
 ·have hwb:(wrongE P n !=0)=true:=by simp [hw]
  clear hw
  go_wp2
  go_ret
  exact⟨rfl,GV.o⟩
 have hwb:(wrongE P n !=0)=false:=by simp [hw]
 have HPR:=η (ptsR_of HN3.o hw)
 have HYK:=η (HBG.o hw)
 have HST2:=η (HST.o hw)
 clear hw HBG HST
 obtain⟨d0,d1,d2,d3⟩:=cells4 R7v.o
 have z7:B7<wv.heap.size:=(γ R7v.o)
 have HZ7:Hid (w.heap.size≤B7∧B7<wv.heap.size):=η ⟨by have:=SB7.o;have:=G2.o.size;omega,z7⟩
 go_wp2_with fail
 refine(whead_begin wv HXv.o (HP.o.mono GV.o.sub) HOK.o HINV.o.logp HPR.o).mono ?_
 rintro e w4 ⟨v4,vm4,rfl,hx4,hm4,hb4⟩
 clear hwb d0 d1 d2 d3 z7
 obtain⟨al4,cl4,ar4,cr4,rfl⟩:=hx4.hd_form
 obtain⟨am,cm,rfl,-⟩:=id hm4
 have HX4:=η hx4
 have R74:=η (row_grow R7v.o hb4)
 have G4:=η hb4
 clear hx4 hm4 hb4
 by_cases hfu:fullE h=true
 ·obtain⟨e1,e2,e3⟩:=begin_full (P:=P) hfu
  rw [e2,e3]
  clear HX4 e1 e2 e3 hfu
  generalize beginH h P=y at*
  go_wp2_with (first|(refine wpList_store_row rfl (.tmp 9) (.tmp 41) rfl rfl rfl R74.o info_hd rfl rfl ?_))
  intro w5 r5 g5
  have G5:=η ((GV.o.trans G4.o).grown g5 (fun q hq=>by have:=Option.some.inj hq;have:=HZ7.o;omega))
  clear r5 g5
  go_wp2
  go_ret
  exact⟨rfl,G5.o⟩
 have hfu2:fullE h=false:=by simpa using hfu
 obtain⟨e1,e2,e3⟩:=begin_go (P:=P) hfu2
 obtain⟨hai,hof⟩:=HST2.o hfu2
 rw [e3]
 have HLO:Hid ((beginH h P).opn=h.opn++ [newO h P]∧(beginH h P).log=h.log):=η (by rw [e1];exact⟨rfl,rfl⟩)
 have HAI:=η hai
 have HOF:=η hof
 have HDD:Hid ((newO h P).deed=64*h.boot+h.next):=η rfl
 clear hai hof e1 e2 e3 hfu hfu2 HST2
 generalize beginM h P=msb at*
 generalize beginH h P=y at*
 generalize hdd:64*h.boot+h.next=dd at*
 clear hdd
 go_wp2_with (first|(refine wpList_store_row rfl (.tmp 9) (.tmp 41) rfl rfl rfl R74.o info_hd rfl rfl ?_))
 intro w5 r5 g5
 have R75:=η r5
 have G5:=η ((GV.o.trans G4.o).grown g5 (fun q hq=>by have:=Option.some.inj hq;have:=HZ7.o;omega))
 have HZ5:Hid (w.heap.size≤B7∧B7<w5.heap.size):=η ⟨HZ7.o.1,(γ r5)⟩
 have HX5:Hid (Of Ty.hd (fr w w5 [some B7]) (.agg #[.slice al4 y.log.length cl4,.int .i64 y.boot,.int .i64 y.next,.slice ar4 y.opn.length cr4]) y):=η (HX4.o.mono ((ov_frs (w:=w) (X:=[some B7]) GV.o (fun q hq=>by
  obtain rfl:=Option.some.inj (List.mem_singleton.1 hq)
  exact HZ7.o.2)).trans (fr_by g5 (by simp))))
 clear r5 g5 HX4 R74 HZ7
 obtain⟨HLO1,HLO2⟩:=HLO.o
 have HLN:Hid (y.opn.length=h.opn.length+1):=η (by rw [HLO1];simp)
 have HLW:Hid (∃b o,ar4=some ⟨b,o,none⟩∧w5.cell? ⟨b,o+h.opn.length*4,none⟩=some (.int .i64 dd)∧I64 dd):=η (by
  obtain⟨ar',cr',he,-,-,-,hel⟩:=(Of.hd_log (HX5.o.mono (fr_sub _ _ _))).2
  obtain⟨rfl,rfl⟩:ar4=ar'∧cr4=cr':=by simpa using he
  have hlt2:h.opn.length<y.opn.length:=by rw [HLN.o];omega
  obtain⟨b,o,vp,vh,rfl,c0,-,-,-,i0,-⟩:=Opns.at_ hel _ hlt2
  have e3:y.opn[h.opn.length]=newO h P:=by simp [HLO1]
  rw [e3,HDD.o] at c0 i0
  exact⟨b,o,rfl,c0,i0⟩)
 clear HLO1 HLO2
 obtain⟨bl,ol,rfl,cl0,hid⟩:=HLW.o
 have HID:=η hid
 clear HLW hid
 obtain⟨lno,hlno⟩:∃q,q=h.opn.length:=⟨_,rfl⟩
 have HLN2:=HLN.o
 rw [←hlno] at HLN2 cl0
 have h12:lno≤12:=by rw [hlno];exact HOK.o.opn
 clear hlno HLN
 generalize hly:y.opn.length=ly at*
 have HLY:=η hly
 clear hly
 subst HLN2
 have hwl:IntKind.i64.wrap (((lno+1:Nat):Int) - 1)=(lno:Int):=by rw [IntWalk.i64_in _ (by omega)];omega
 obtain⟨b0,b1,b2,b3⟩:=cells4 R75.o
 have z7:B7<w5.heap.size:=(γ R75.o)
 go_wp2_with fail
 obtain⟨MB,hMB⟩:∃q,q=w5.heap.size:=⟨_,rfl⟩
 have hmp:=MapIs.new (enc:=encInt) w5
 rw [←hMB] at hmp ⊢
 obtain⟨w6,hw6⟩:∃q:World,q=w5.alloc (.map #[] 0):=⟨_,rfl⟩
 rw [←hw6] at hmp ⊢
 have G56:Hid (Grow w5 w6):=η (by rw [hw6];exact(Grow.refl _).alloc _)
 have HMP:=η hmp
 have HMB:=η hMB
 clear hw6 hMB hmp b0 b1 b2 b3 z7 cl0 hwl
 refine(ref_decided (c:=w6.cell?) (l:=y.log) w6 (Sub.refl _) (Of.hd_log ((HX5.o.mono (fr_sub _ _ _)).mono G56.o.sub)).1 (by rw [HLO.o.2];have:=HLG0.o;omega)).mono ?_
 rintro e w7 ⟨v7,rfl,ho7,hb7⟩
 rw [HLO.o.2] at ho7
 obtain⟨a7,c7,rfl⟩:=ho7.form
 have G57:=η (G56.o.trans hb7)
 have R77:=η (row_grow R75.o G57.o)
 have HMP7:=η (HMP.o.grown (grownBy_of_grow hb7 none) (by simp))
 have HX7:Hid (Of Ty.hd (fr w w7 [some B7,some MB]) (.agg #[.slice al4 y.log.length cl4,.int .i64 y.boot,.int .i64 y.next,.slice (some ⟨bl,ol,none⟩) (lno+1) cr4]) y):=η (by
  have e:=HX5.o.mono (fr_step (X':=[some B7,some MB]) (w':=w7) fun k hk _ hx=>⟨G57.o.block k hk,fun hm=>by
   simp only [List.mem_cons,List.not_mem_nil,or_false] at hx hm
   rcases hm with e|e
   ·exact hx e
   ·have:=Option.some.inj e;have:=HMB.o;omega⟩)
  exact e)
 have G7:=η (G5.o.trans G57.o)
 have HZM:Hid (w.heap.size≤B7∧B7<w7.heap.size∧w.heap.size≤MB∧MB<w7.heap.size∧B7≠MB):=η (by have:=HZ5.o;have:=HMB.o;have:=HMP7.o.lt;have:=G5.o.size;have:=G57.o.size;omega)
 clear ho7 hb7 HX5 R75 HMP
 obtain⟨nb,hnb⟩:∃q,q=(decidedR h.log).length:=⟨_,rfl⟩
 rw [←hnb]
 have HNB:Hid (nb=(decidedR h.log).length∧nb≤90000):=η ⟨hnb,by rw [hnb];unfold decidedR;rw [List.length_map];exact Nat.le_trans (List.length_filter_le _ _) HLG0.o⟩
 clear hnb
 go_wp2
 have HLYd:Hid (lno+1=y.opn.length):=η HLY.o.symm
 go_loopw [65] (fun i wr=>∃(k:Nat) (Y:List Int) (kv:List (Int×Value)) (hd:Hd) (al ar:Option Addr) (cl cr:Nat),k≤S.length∧i=.int .i64 k∧AllRel w wr B7 MB al ar cl cr h.opn h.log dd P Y kv hd∧Grow w wr∧w7.heap.size≤wr.heap.size) (fun i _=>S.length - (intOf i).toNat)
 case atStart=>exact⟨0,[],[],y,al4,_,cl4,cr4,by omega,rfl,⟨by rw [←HLYd.o];exact R77.o,by rw [←HLYd.o];exact HX7.o,HMP7.o,Says.nil,HAI.o,HYK.o⟩,G7.o,Nat.le_refl _⟩
 case round=>
  obtain⟨k,Y,kv,hd,al,ar,cl,cr,hk',rfl,⟨hrow,hof,hmap,hsay,hai,hdk⟩,hgr,hsz⟩:=hrel
  have HROW:=η hrow
  have HOFD:=η hof
  have HMAP:=η hmap
  have HSAY:=η hsay
  have HAID:=η hai
  have HDKD:=η hdk
  have HGR:=η hgr
  have HSZ:=η hsz
  clear hrow hof hmap hsay hai hdk hgr hsz
  by_cases hlt:k<S.length
  ·obtain⟨bb,oo,vq,rfl,c0,c1,c2,c3,i0,i1,i2,hPq⟩:=Mss.at_ MEL.o k hlt
   obtain⟨apm,cpm,rfl,-⟩:=id hPq
   replace c0:=HGR.o.sub _ _ c0
   replace c1:=HGR.o.sub _ _ c1
   replace c2:=HGR.o.sub _ _ c2
   replace c3:=HGR.o.sub _ _ c3
   have HI:=η (And.intro i0 i2)
   clear hPq i0 i1 i2
   generalize S[k]=m at*
   go_upto_region 15 with fail
   obtain⟨wm,hwq⟩:∃zq:World,zq=wr.alloc (.cells #[.int .i64 m.kind,.int .i64 m.deed,.int .i64 m.house,.slice apm m.parts.length cpm] 39):=⟨_,rfl⟩
   obtain⟨BM,hBq⟩:∃zq,zq=wr.heap.size:=⟨_,rfl⟩
   have GM:Hid (Grow wr wm):=η (by rw [hwq];exact(Grow.refl _).alloc _)
   have RM:Hid (wm.heap[BM]? =some (.cells #[.int .i64 m.kind,.int .i64 m.deed,.int .i64 m.house,.slice apm m.parts.length cpm] 39 (0,0))):=η (by rw [hwq,hBq];exact row_new _ _)
   have SBM:Hid (BM=wr.heap.size):=η hBq
   rw [←hwq,←hBq]
   clear hwq hBq c0 c1 c2 c3
   go_wp2_with (first|(refine wpList_store_cell rfl (.tmp 70) (.tmp 69) (v:=.int .i64 dd) (new:=#[.int .i64 m.kind,.int .i64 dd,.int .i64 m.house,.slice apm m.parts.length cpm]) rfl rfl (by rfl) (by rfl) RM.o info_int1 (by simp) (by rfl) (by rfl) ?_))
   intro wn rn gn
   have RN:=η rn
   have GN:=η gn
   clear rn gn
   go_wp2_with (first|(refine wpList_store_cell rfl (.tmp 71) (.const (.slice none 0 0)) (v:=.slice none 0 0) (new:=#[.int .i64 m.kind,.int .i64 dd,.int .i64 m.house,.slice none 0 0]) rfl rfl (by rfl) (by rfl) RN.o info_pts1 (by simp) (by rfl) (by rfl) ?_))
   intro w8 r8 g8
   have R8:=η r8
   have G8:Hid (Grow wr w8):=η ((GM.o.grown GN.o (fun q hq=>by have:=Option.some.inj hq;have:=SBM.o;omega)).grown g8 (fun q hq=>by have:=Option.some.inj hq;have:=SBM.o;omega))
   clear r8 g8 GN RN RM GM
   obtain⟨m0,m1,m2,m3⟩:=cells4 R8.o
   have zm:BM<w8.heap.size:=(γ R8.o)
   go_upto_region 16 with fail
   have HG8:=η (HGR.o.trans G8.o)
   by_cases hkk:m.kind=2∨m.kind=6
   rotate_left
   ·have t1:(m.kind !=2)=true:=by simp;omega
    have t2:(m.kind !=6)=true:=by simp;omega
    clear hkk
    go_wp2
    go_ret
    exact⟨rfl,HG8.o⟩
   by_cases hbd:m.house<0∨(n:Int)≤m.house
   ·rcases hkk with hkk|hkk
    ·have t1:(m.kind !=2)=false:=by simp [hkk]
     clear hkk
     rcases hbd with hbd|hbd
     ·go_wp2
      go_ret
      exact⟨rfl,HG8.o⟩
     ·have hb0:¬m.house<0:=by omega
      go_wp2
      go_ret
      exact⟨rfl,HG8.o⟩
    ·have t1:(m.kind !=2)=true:=by simp [hkk]
     have t2:(m.kind !=6)=false:=by simp [hkk]
     clear hkk
     rcases hbd with hbd|hbd
     ·go_wp2
      go_ret
      exact⟨rfl,HG8.o⟩
     ·have hb0:¬m.house<0:=by omega
      go_wp2
      go_ret
      exact⟨rfl,HG8.o⟩
   have HKK:=η hkk
   have hb0:¬m.house<0:=fun e=>hbd (.inl e)
   have hb1:¬(n:Int)≤m.house:=fun e=>hbd (.inr e)
   clear hbd
   go_cut [90] from 72 to 109 (fun s90 wc=>s90=.bool false∧Grow w8 wc)
   case first=>
    rcases hkk with hkk|hkk
    ·have t1:(m.kind !=2)=false:=by simp [hkk]
     clear hkk
     go_wp2
     go_meet
     case rel=>exact⟨rfl,grA⟩
    ·have t1:(m.kind !=2)=true:=by simp [hkk]
     have t2:(m.kind !=6)=false:=by simp [hkk]
     clear hkk
     go_wp2
     go_meet
     case rel=>exact⟨rfl,grA⟩
   case rest=>
   obtain⟨rfl,hgc⟩:=hcut
   obtain⟨w9,rfl⟩:∃q:World,q=wc:=⟨_,rfl⟩
   have G9:=η (G8.o.trans hgc)
   have R9:=η (row_grow R8.o hgc)
   clear hgc hkk hb0 hb1 m0 m1 m2 m3 zm
   have ROWB:=η (row_grow HROW.o G9.o)
   obtain⟨m0,m1,m2,m3⟩:=cells4 R9.o
   obtain⟨d0,d1,d2,d3⟩:=cells4 ROWB.o
   have zm:BM<w9.heap.size:=(γ R9.o)
   have z7:B7<w9.heap.size:=(γ ROWB.o)
   have HLGS:=η (HAID.o.logs HINV.o.logp HPR.o.len)
   go_wp2_with fail
   refine(whead_hear3 (h:=hd) (m:=⟨m.kind,dd,m.house,[]⟩) w9 ((HOFD.o.mono (fr_sub _ _ _)).mono G9.o.sub) ⟨_,rfl,_,rfl,HI.o.1,HID.o,HI.o.2,Sl.nil _ _⟩ (HDKD.o.ok (by have:=HLGS.o.1;have:=HLG0.o;omega)) (HDKD.o.inv HLGS.o.2)).mono ?_
   rintro e w10 ⟨v1,v2,rfl,hx,hmm2,hb10⟩
   have HAI2:=η (HAID.o.hear HOF.o ⟨m.kind,dd,m.house,[]⟩ rfl HKK.o)
   have HDK2:=η (HDKD.o.hear ⟨m.kind,dd,m.house,[]⟩)
   generalize hHearH hd ⟨m.kind,dd,m.house,[]⟩=hd2 at*
   obtain⟨al2,cl2,ar2,cr2,rfl⟩:=hx.hd_form
   obtain⟨am2,cm2,rfl,-⟩:=id hmm2
   have HZR:Hid (B7<w9.heap.size∧MB<w9.heap.size∧BM≠B7∧BM≠MB):=η (by have:=HZM.o;have:=HSZ.o;have:=G9.o.size;have:=SBM.o;omega)
   have HXN:=η (hx.mono (ov_frs (w:=w) (X:=[some B7,some MB]) (HGR.o.trans G9.o) (fun q hq=>by
    simp only [List.mem_cons,List.not_mem_nil,or_false,Option.some.injEq] at hq
    have:=HZR.o
    rcases hq with rfl|rfl<;>omega)))
   have G10:=η (G9.o.trans hb10)
   have RM10:=η (row_grow R9.o hb10)
   have RB10:=η (row_grow HROW.o G10.o)
   clear hx hmm2 hb10 m0 m1 m2 m3 d0 d1 d2 d3 zm z7
   go_wp2_with (first|(refine wpList_store_row rfl (.tmp 9) (.tmp 95) rfl rfl rfl RB10.o info_hd rfl rfl ?_))
   intro w11 r11 g11
   have R11:=η r11
   have HX11:=η (HXN.o.mono (fr_by g11 (by simp)))
   have RM11:=η (row_by RM10.o g11 (fun e=>by have:=Option.some.inj e;have:=HZR.o;omega))
   have HM11:=η ((HMAP.o.grown (grownBy_of_grow G10.o none) (by simp)).grown g11 (fun e=>by have:=Option.some.inj e;have:=HZM.o;omega))
   have G11:=η ((HGR.o.trans G10.o).grown g11 (fun q hq=>by have:=Option.some.inj hq;have:=HZM.o;omega))
   have HS11:Hid (w7.heap.size≤w11.heap.size):=η (by have:=HSZ.o;have:=G10.o.size;have:=g11.size;omega)
   clear r11 g11
   obtain⟨m0,m1,m2,m3⟩:=cells4 RM11.o
   have zm:BM<w11.heap.size:=(γ RM11.o)
   obtain⟨b,hb⟩:∃q,q=decide (m.house∈Y):=⟨_,rfl⟩
   have HSB:Hid ((mget kv m.house).getD (.bool false)=.bool b):=η (by rw [hb];exact HSAY.o m.house)
   have HBB:=η hb
   clear hb
   by_cases hk2:m.kind=2
   ·have t1:(m.kind==2)=true:=by simp [hk2]
    have HY2:Hid (AllI h.opn h.log dd P (m.house::Y) hd2):=η (by have:=HAI2.o;simpa [hk2] using this)
    clear hk2
    cases b
    all_goals
     go_wp2_with (first|(at_lookup;refine wp_lookup_g keyInt Try.underlying63 hzb (by rfl) _ _ rfl HM11.o m.house _ HSB.o rfl rfl ?_)|(at_mapUpdate;refine wp_put keyInt Try.underlying63 rfl _ _ _ rfl HM11.o m.house (.bool true) rfl rfl rfl ?_;intro wq hm' hg';have HM':=η hm';have HG':=η hg';clear hm' hg'))
     try go_wp2
     go_roundw
     case rel=>exact⟨k+1,m.house::Y,_,hd2,al2,ar2,cl2,cr2,by omega,by go_num,⟨row_by R11.o HG'.o (fun e=>by have:=Option.some.inj e;have:=HZM.o;omega),HX11.o.mono (fr_by HG'.o (by simp)),HM'.o,HSAY.o.put (fun x hx=>by simp [hx]) (by simp),HY2.o,HDK2.o⟩,G11.o.grown HG'.o (fun q hq=>by have:=Option.some.inj hq;have:=HZM.o;omega),by have:=HS11.o;have:=HG'.o.size;omega⟩
     case measure=>simp [intOf];omega
   ·have t1:(m.kind==2)=false:=by simp [hk2]
    have HY2:Hid (AllI h.opn h.log dd P Y hd2):=η (by have:=HAI2.o;simpa [hk2] using this)
    clear hk2
    cases b
    all_goals
     go_wp2_with (first|(at_lookup;refine wp_lookup_g keyInt Try.underlying63 hzb (by rfl) _ _ rfl HM11.o m.house _ HSB.o rfl rfl ?_)|(at_mapUpdate;refine wp_put keyInt Try.underlying63 rfl _ _ _ rfl HM11.o m.house (.bool _) rfl rfl rfl ?_;intro wq hm' hg';have HM':=η hm';have HG':=η hg';clear hm' hg'))
     try go_wp2
     go_roundw
     case rel=>exact⟨k+1,Y,_,hd2,al2,ar2,cl2,cr2,by omega,by go_num,⟨row_by R11.o HG'.o (fun e=>by have:=Option.some.inj e;have:=HZM.o;omega),HX11.o.mono (fr_by HG'.o (by simp)),HM'.o,HSAY.o.put (fun x hx=>Iff.rfl) HBB.o,HY2.o,HDK2.o⟩,G11.o.grown HG'.o (fun q hq=>by have:=Option.some.inj hq;have:=HZM.o;omega),by have:=HS11.o;have:=HG'.o.size;omega⟩
     case measure=>simp [intOf];omega
  ·have HLAW:=η HAID.o.law
   have HLGS:=η (HAID.o.logs HINV.o.logp HPR.o.len)
   have HHS:=η (houses_len P)
   go_wp2_with fail
   refine(ref_houses wr (HP.o.mono HGR.o.sub) (by have:=HPR.o.len;omega)).mono ?_
   rintro e w8 ⟨v8,rfl,ho8,hb8⟩
   obtain⟨a8,c8,rfl⟩:=owns_form ho8
   have HO8:=η (OwnC.ints (c:=fun _=>none) ho8 (houses_ok P))
   have HB8:=η hb8
   clear ho8 hb8
   obtain⟨HH,hHH⟩:∃q,q=housesE P:=⟨_,rfl⟩
   rw [←hHH] at HO8 HLAW HHS ⊢
   clear hHH
   go_wp2
   obtain⟨wx,hwx⟩:∃q:World,q=wr:=⟨_,rfl⟩
   rw [←hwx] at HROW HOFD HMAP HGR HSZ HB8 HO8
   clear hwx
   have hh3:=HHS.o
   go_loopw [18,113] (fun s18 i wr=>∃j:Nat,j≤HH.length∧i=.int .i64 j∧s18=.bool ((HH.take j).all fun x=>decide (x∈Y))∧Grow w8 wr) (fun _ i _=>HH.length - (intOf i).toNat)
   case atStart=>exact⟨0,by omega,rfl,rfl,Grow.refl _⟩
   case round=>
    obtain⟨j,hj',rfl,rfl,hb⟩:=hrel
    by_cases hjl:j<HH.length
    ·obtain⟨g,cs,rfl,⟨rfl,-⟩,hA⟩:=HO8.o.get (by decide) j hjl
     have c0:=hA 0 _ rfl
     simp only [show Ty.int.size=1 from rfl,Nat.add_zero,Nat.mul_one] at c0
     replace c0:=hb.sub _ _ c0
     have HNX:=η (all_next (Y:=Y) hjl)
     have HM:=η ((HMAP.o.grown (grownBy_of_grow HB8.o none) (by simp)).grown (grownBy_of_grow hb none) (by simp))
     have HB:=η hb
     clear hA hb
     generalize HH[j]=q at*
     obtain⟨b,hb⟩:∃t,t=decide (q∈Y):=⟨_,rfl⟩
     have HSB:Hid ((mget kv q).getD (.bool false)=.bool b):=η (by rw [hb];exact HSAY.o q)
     rw [←hb] at HNX
     clear hb
     generalize ((HH.take j).all fun x=>decide (x∈Y))=t at*
     cases t
     ·go_wp2_with (first|(at_lookup;refine wp_not (by rfl) ?_))
      try go_wp2
      go_roundw
      case rel=>exact⟨j+1,by omega,by go_num,by rw [HNX.o];simp,HB.o⟩
      case measure=>simp [intOf];omega
     ·cases b
      all_goals
       go_wp2_with (first|(at_lookup;go_loud (refine wp_lookup_g keyInt Try.underlying63 hzb (by rfl) _ _ rfl HM.o q _ HSB.o rfl rfl ?_)))
       try go_wp2
       go_roundw
       case rel=>exact⟨j+1,by omega,by go_num,by rw [HNX.o];simp,HB.o⟩
       case measure=>simp [intOf];omega
    ·rw [List.take_of_length_le (by omega)]
     have GA:=η (HB8.o.trans hb)
     have RA:=η (row_grow HROW.o GA.o)
     have HXA:=η ((HOFD.o.mono (fr_sub _ _ _)).mono GA.o.sub)
     clear hb
     obtain⟨d0,d1,d2,d3⟩:=cells4 RA.o
     have z7:B7<wr.heap.size:=(γ RA.o)
     go_wp2_with fail
     refine(ref_decided (c:=wr.cell?) (l:=hd.log) wr (Sub.refl _) (Of.hd_log HXA.o).1 (by have:=HLGS.o.1;have:=HLG0.o;omega)).mono ?_
     rintro e w9 ⟨v9,rfl,ho9,hb9⟩
     obtain⟨a9,c9,rfl⟩:=ho9.form
     have G9:=η hb9
     have R9:=η (row_grow RA.o hb9)
     have HX9:=η (HXA.o.mono hb9.sub)
     clear ho9 hb9 d0 d1 d2 d3 z7
     obtain⟨na,hna⟩:∃q,q=(decidedR hd.log).length:=⟨_,rfl⟩
     have HL1:Hid (decide (nb<na)=HH.all fun x=>decide (x∈Y)):=η (by rw [hna,HNB.o.1];exact HLAW.o.1)
     have HL2:na≤nb+1:=by rw [hna,HNB.o.1];exact HLAW.o.2
     rw [←hna]
     have hnb9:=HNB.o.2
     generalize (HH.all fun x=>decide (x∈Y))=t at*
     by_cases hgt:nb<na
     ·obtain rfl:true=t:=by rw [←HL1.o];simp [hgt]
      obtain⟨d0,d1,d2,d3⟩:=cells4 R9.o
      have z7:B7<w9.heap.size:=(γ R9.o)
      have hnaH:=η hna
      clear hna
      go_wp2_with fail
      refine(ref_decided (c:=w9.cell?) (l:=hd.log) w9 (Sub.refl _) (Of.hd_log HX9.o).1 (by have:=HLGS.o.1;have:=HLG0.o;omega)).mono ?_
      rintro e w10 ⟨v10,rfl,ho10,hb10⟩
      obtain⟨a10,c10,rfl⟩:=ho10.form
      have G10:=η hb10
      clear ho10 hb10 d0 d1 d2 d3 z7
      rw [←hnaH.o]
      have hwn:IntKind.i64.wrap ((nb:Int)+1)=(nb:Int)+1:=IntWalk.i64_in _ (by omega)
      have hl2:(na:Int)≤(nb:Int)+1:=by omega
      go_wp2
      go_ret
      exact⟨rfl,HGR.o.trans (GA.o.trans (G9.o.trans G10.o))⟩
     ·obtain rfl:false=t:=by rw [←HL1.o];simp [hgt]
      obtain⟨d0,d1,d2,d3⟩:=cells4 R9.o
      have z7:B7<w9.heap.size:=(γ R9.o)
      have hnaH:=η hna
      clear hna
      go_wp2_with fail
      refine(ref_decided (c:=w9.cell?) (l:=hd.log) w9 (Sub.refl _) (Of.hd_log HX9.o).1 (by have:=HLGS.o.1;have:=HLG0.o;omega)).mono ?_
      rintro e w10 ⟨v10,rfl,ho10,hb10⟩
      obtain⟨a10,c10,rfl⟩:=ho10.form
      have G10:=η hb10
      clear ho10 hb10 d0 d1 d2 d3 z7
      rw [←hnaH.o]
      have hwn:IntKind.i64.wrap ((nb:Int)+1)=(nb:Int)+1:=IntWalk.i64_in _ (by omega)
      have hl2:(na:Int)≤(nb:Int)+1:=by omega
      go_wp2
      go_ret
      exact⟨rfl,HGR.o.trans (GA.o.trans (G9.o.trans G10.o))⟩
end Go.Proofs.Ytgbhpghgohggcaa
namespace Go.Proofs.Ytgbhpghgohggcaa
open Go.RowKit Go.ChangeShapes Go.WideShapes Go.ChangeAt
def Reads {α:Type} (P:Program) (t:TypeId) (T:Ty α):Prop:=∀(H:Type) (enc:TypeId×Value→H) (W:World) (fuel:Nat) (cs:List Value) (x:DataW H×List MemPlace),
 DataW.trod enc P W 0 (fun _=>true) true fuel t cs=some x→∃y,T.R W.cell? cs y
theorem reads_int {P:Program} {t:TypeId} (ht:P.underlying t=some (.int .i64)):Reads P t Ty.int:=by
 intro H enc W fuel cs x h
 obtain⟨n,rfl,_,hw⟩:=DataW.trod_int ht h
 exact⟨n,rfl,hw⟩
theorem reads_sl {α:Type} {P:Program} {t e:TypeId} {T:Ty α} (hR:Reads P e T) (ht:P.underlying t=some (.slice e)) (hc:P.cellsOf e=T.size) (h0:0<T.size):Reads P t T.sl:=by
 intro H enc W fuel cs x h
 rcases Deep.open_slice ht h with⟨rfl,_⟩|⟨a,len,cap,m,n,D,Pl,rfl,_,hl,hm,hmm,hxe,hx⟩
 ·exact⟨[],_,rfl,none,0,rfl,Nat.le_refl _,Nat.zero_le _,fun _=>rfl,fun i x e=>by simp at e⟩
 ·simp only [if_true] at hmm
  subst m
  have h2:∀i,i<len→∃(p:List Value×α),T.R W.cell? p.1 p.2∧W.cells? 0 (a.add (i*T.size)) T.size=some p.1:=by
   intro i hi
   obtain⟨cs',h1,h2⟩:=hx i (by omega)
   obtain⟨y,hy⟩:=hR H enc W n cs' _ h2
   rw [hc] at h1
   exact⟨(cs',y),hy,h1⟩
  have h3:∃l:List α,l.length=len∧∀i y,l[i]? =some y→∃cs',T.R W.cell? cs' y∧W.cells? 0 (a.add (i*T.size)) T.size=some cs':=by
   clear hx hl h hxe
   induction len with
   |zero=>exact⟨[],rfl,by simp⟩
   |succ len ih=>
    obtain⟨l,hl,hi⟩:=ih (by intro i hi;exact h2 i (by omega))
    obtain⟨⟨cs',y⟩,hy,h1⟩:=h2 len (by omega)
    refine⟨l++ [y],by simp [hl],fun i z hz=>?_⟩
    rcases Nat.lt_or_ge i l.length with hlt|hge
    ·rw [List.getElem?_append_left hlt] at hz;exact hi i z hz
    ·have hb:=(List.getElem?_eq_some_iff.1 hz).1
     simp at hb
     obtain rfl:i=len:=by omega
     rw [List.getElem?_append_right hge,hl] at hz
     simp at hz
     subst hz
     exact⟨cs',hy,h1⟩
  obtain⟨l,hlen,hl2⟩:=h3
  refine⟨l,_,rfl,some a,cap,by rw [hlen],by omega,hm,by simp,fun i y hy=>?_⟩
  obtain⟨cs',hR',hcs⟩:=hl2 i y hy
  obtain⟨_,hlen',hat⟩:=World.cells?_some hcs
  have hpos:0<l.length:=by have:=(List.getElem?_eq_some_iff.1 hy).1;omega
  obtain⟨cs0,_,hcs0⟩:=hl2 0 l[0] (List.getElem?_eq_getElem hpos)
  obtain⟨_,hlen0,hat0⟩:=World.cells?_some hcs0
  have hfirst:=hat0 0 h0
  rw [List.getElem?_eq_getElem (by omega)] at hfirst
  have hsp:=World.cell?_spot hfirst
  obtain⟨b,o,s⟩:=a
  have hs:s=none:=by simpa [Addr.add] using hsp
  subst hs
  refine⟨b,o,cs',rfl,hR',fun j u hu=>?_⟩
  have hj:j<T.size:=by rw [←hlen'];exact(List.getElem?_eq_some_iff.1 hu).1
  have:=hat j hj
  rw [Addr.add_lit,Addr.add_lit,hu] at this
  exact this
def structOf (P:Program) (t:TypeId):Option (List (TypeId×Nat×Nat)):=
 match P.underlying t with
 |some (.struct fs)=>some (fs.toList.map fun f=>(f.type,f.offset,P.cellsOf f.type))
 |_=>none
theorem struct_fields {P:Program} {t:TypeId} {fs':List (TypeId×Nat×Nat)} (hs:structOf P t=some fs') {H:Type} {enc:TypeId×Value→H} {W:World} {fuel:Nat} {cs:List Value} {x:DataW H×List MemPlace}
  (h:DataW.trod enc P W 0 (fun _=>true) true fuel t cs=some x):cs.length=P.cellsOf t∧∀(i:Nat) (f:TypeId×Nat×Nat),fs'[i]? =some f→∃n y,DataW.trod enc P W 0 (fun _=>true) true n f.1 ((cs.drop f.2.1).take f.2.2)=some y:=by
 unfold structOf at hs
 split at hs
 ·rename_i fs hu
  obtain rfl:=Option.some.inj hs
  obtain⟨xs,n,_,_,hl,hlen,hf⟩:=DataW.trod_struct hu h
  refine⟨hl,fun i f hi=>?_⟩
  rw [List.getElem?_map] at hi
  cases hfi:fs.toList[i]? with
  |none=>rw [hfi] at hi;cases hi
  |some fd=>
   rw [hfi] at hi
   obtain rfl:=Option.some.inj hi
   have hfi':fs[i]? =some fd:=by simpa using hfi
   have hlt:i<xs.length:=by rw [hlen];exact(Array.getElem?_eq_some_iff.1 hfi').1
   have:=hf i fd hfi'
   rw [List.getElem?_eq_getElem hlt] at this
   exact⟨n,_,this⟩
 ·cases hs
theorem reads_pt:Reads Try.prog 32 Ty.pt:=by
 intro H enc W fuel cs x h
 obtain⟨hl,hf⟩:=struct_fields (fs':=[(3,0,1),(3,1,1),(3,2,1)]) (by kernel_rfl) h
 rw [show(Try.prog).cellsOf 32=3 by kernel_rfl] at hl
 match cs,hl with
 | [a,b,c],_=>
  obtain⟨_,_,h0⟩:=hf 0 _ rfl
  obtain⟨_,_,h1⟩:=hf 1 _ rfl
  obtain⟨_,_,h2⟩:=hf 2 _ rfl
  obtain⟨x0,e0,w0⟩:=reads_int (by kernel_rfl) _ _ _ _ _ _ h0
  obtain⟨x1,e1,w1⟩:=reads_int (by kernel_rfl) _ _ _ _ _ _ h1
  obtain⟨x2,e2,w2⟩:=reads_int (by kernel_rfl) _ _ _ _ _ _ h2
  refine⟨⟨x0,x1,x2⟩,?_,w0,w1,w2⟩
  simp at e0 e1 e2
  subst e0 e1 e2
  rfl
theorem reads_pts:Reads Try.prog 23 Ty.pts:=reads_sl reads_pt (by kernel_rfl) (by kernel_rfl) (by decide)
theorem reads_ms:Reads Try.prog 39 Ty.ms:=by
 intro H enc W fuel cs x h
 obtain⟨hl,hf⟩:=struct_fields (fs':=[(3,0,1),(3,1,1),(3,2,1),(23,3,1)]) (by kernel_rfl) h
 rw [show(Try.prog).cellsOf 39=4 by kernel_rfl] at hl
 match cs,hl with
 | [a,b,c,d],_=>
  obtain⟨_,_,h0⟩:=hf 0 _ rfl
  obtain⟨_,_,h1⟩:=hf 1 _ rfl
  obtain⟨_,_,h2⟩:=hf 2 _ rfl
  obtain⟨_,_,h3⟩:=hf 3 _ rfl
  obtain⟨x0,e0,w0⟩:=reads_int (by kernel_rfl) _ _ _ _ _ _ h0
  obtain⟨x1,e1,w1⟩:=reads_int (by kernel_rfl) _ _ _ _ _ _ h1
  obtain⟨x2,e2,w2⟩:=reads_int (by kernel_rfl) _ _ _ _ _ _ h2
  obtain⟨x3,v3,e3,w3⟩:=reads_pts _ _ _ _ _ _ h3
  refine⟨⟨x0,x1,x2,x3⟩,v3,?_,w0,w1,w2,w3⟩
  simp at e0 e1 e2 e3
  subst e0 e1 e2 e3
  rfl
theorem reads_mss:Reads Try.prog 36 (Ty.sl Ty.ms):=reads_sl reads_ms (by kernel_rfl) (by kernel_rfl) (by decide)
theorem arg_sl {α:Type} {P:Program} {t e:TypeId} {T:Ty α} (hR:Reads P t T.sl) (ht:P.underlying t=some (.slice e)) {H:Type} {enc:TypeId×Value→H} {W:World} {r:Reach} {b:Nat} {v:Value} {d:DataW H} {p:List MemPlace}
  (hval:Value.okWide P W r b t v) (h:DataW.Trod enc P W 0 (fun _=>true) true t v d p):∃l,Sl T W.cell? v l:=by
 obtain⟨a,len,cap,rfl⟩:=okWide_slice ht hval
 obtain⟨fuel,hf⟩:=h
 obtain⟨l,v,e,hv⟩:=hR _ _ _ _ _ _ hf
 simp [Value.cells] at e
 subst e
 exact⟨l,hv⟩
theorem own:ownKnob (Try.prog).godebug=none:=by kernel_rfl
theorem laidOut:laidOutB Try.prog=true:=by kernel_rfl
end Go.Proofs.Ytgbhpghgohggcaa
namespace Go.Proofs.Ytgbhpghgohggcaa
open Go.RowKit Go.ChangeShapes Go.WideShapes Go.ChangeAt
theorem sl_len {α:Type} {T:Ty α} {c:CM} {a:Option Addr} {n cap:Nat} {l:List α} (h:Sl T c (.slice a n cap) l):l.length=n:=by
 obtain⟨a',cap',he,_⟩:=h
 simp only [Value.slice.injEq] at he
 exact he.2.1.symm
theorem arg_size {α:Type} {P:Program} {t e:TypeId} {T:Ty α} {k:Nat} (ht:P.underlying t=some (.slice e)) (hb:P.bytesOf e=k) {H:Type} {enc:TypeId×Value→H} {W:World} {r:Reach} {b:Nat} {v:Value} {d:DataW H} {p:List MemPlace} {ts:List TypeId} {ds:List (DataW H)} {j:Nat}
  (hsz:(DataW.weightsEach P ts ds).all (· ≤reachBytes)=true) (hj:ts[j]? =some t) (hd:ds[j]? =some d)
  (hval:Value.okWide P W r b t v) (h:DataW.Trod enc P W 0 (fun _=>true) true t v d p) {l:List α} (hl:Sl T W.cell? v l):l.length*k≤140737488351232:=by
 obtain⟨a,len,cap,rfl⟩:=okWide_slice ht hval
 obtain⟨fuel,hf⟩:=h
 have hll:=sl_len hl
 rcases Deep.open_slice ht hf with⟨he,_⟩|⟨a',len',cap',m,n,D,Pl,he,_,hlc,_,hmm,hxe,_⟩
 ·simp [Value.cells] at he
  rw [hll,he.2.1];simp
 ·simp [Value.cells] at he
  obtain⟨_,rfl,rfl⟩:=he
  obtain rfl:d=.slice ((List.range len).map D) ((List.range (m - len)).map fun j=>D (len+j)):=by simpa using congrArg Prod.fst hxe
  have:=sized_slice hsz hj hd ht
  rw [hb,List.length_map,List.length_range] at this
  rw [hll]
  have h2:len*k≤(len+((List.range (m - len)).map fun j=>D (len+j)).length)*k:=Nat.mul_le_mul_right _ (Nat.le_add_right _ _)
  have h3:reachBytes=140737488351232:=rfl
  omega
theorem reads_st:Reads Try.prog 164 Ty.st:=by
 intro H enc W fuel cs x h
 obtain⟨hl,hf⟩:=struct_fields (fs':=[(3,0,1),(3,1,1),(23,2,1)]) (by kernel_rfl) h
 rw [show(Try.prog).cellsOf 164=3 by kernel_rfl] at hl
 match cs,hl with
 | [a,b,c],_=>
  obtain⟨_,_,h0⟩:=hf 0 _ rfl
  obtain⟨_,_,h1⟩:=hf 1 _ rfl
  obtain⟨_,_,h2⟩:=hf 2 _ rfl
  obtain⟨x0,e0,w0⟩:=reads_int (by kernel_rfl) _ _ _ _ _ _ h0
  obtain⟨x1,e1,w1⟩:=reads_int (by kernel_rfl) _ _ _ _ _ _ h1
  obtain⟨x2,v2,e2,w2⟩:=reads_pts _ _ _ _ _ _ h2
  refine⟨⟨x0,x1,x2⟩,v2,?_,w0,w1,w2⟩
  simp at e0 e1 e2
  subst e0 e1 e2
  rfl
theorem reads_sts:Reads Try.prog 90 (Ty.sl Ty.st):=reads_sl reads_st (by kernel_rfl) (by kernel_rfl) (by decide)
end Go.Proofs.Ytgbhpghgohggcaa
