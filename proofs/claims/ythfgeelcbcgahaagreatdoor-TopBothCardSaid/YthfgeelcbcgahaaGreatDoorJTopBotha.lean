/- The parts that laws are proved of, joined: G29, G30, T9, Trod, Trod2, Trod3. No condition beside those that each theorem names. -/
import Derived.Test.YthfgeelcbcgahaaGreatDoorTie
import Derived.Test.YthfgeelcbcgahaaGreatDoorCards
import Derived.Deep.DeepHandedRow
import Derived.Lib.LaidTab
import Derived.Lay
import Derived.Stop.LaidErr
import Derived.Shelf.Vars
import Derived.SevenTiedAt
import Derived.Deep.Slices
import Derived.OpenShut
import Derived.Below
import Derived.ChangeOld
import Derived.ProofKit
import Derived.SizedLaws
import Derived.Test.YthfgeelcbcgahaaGreatDoorJD5a
namespace Go.Proofs.YthfgeelcbcgahaaGreatDoor
open Go.RowKit
theorem sms_cell {c:CM} {v:Value} {S:List Sm} (h:Sms c v S) {i k:Nat} (hi:i<S.length) (hk:k<4):∃b o cap,v=.slice (some ⟨b,o,none⟩) S.length cap∧c ⟨b,o+i*4+k,none⟩=some (.int .i64 (S[i].get k)):=by
 obtain⟨a,cap,rfl,-,-,-,hel⟩:=h
 obtain⟨b,o,cs,rfl,hR,hA⟩:=hel i _ (List.getElem?_eq_getElem hi)
 obtain⟨rfl,-⟩:=hR
 refine⟨b,o,cap,rfl,?_⟩
 have h9:=hA k
 match k,hk,h9 with
 |0,_,h9=>exact h9 _ rfl
 |1,_,h9=>exact h9 _ rfl
 |2,_,h9=>exact h9 _ rfl
 |3,_,h9=>exact h9 _ rfl
theorem ei_st:EI Tryz.prog 23 28 3 40:=EI.mk' (z:=.agg #[.int .i64 0,.int .i64 0,.slice none 0 0]) (by kernel_rfl) (by kernel_rfl) rfl (by decide) rfl
theorem one_Tst:TOne Ty.st:=by
 rintro c cs x ⟨v,rfl,-,-,h⟩ u hu
 simp only [List.mem_cons,List.not_mem_nil,or_false] at hu
 rcases hu with rfl|rfl|rfl
 ·rfl
 ·rfl
 ·exact sl_oneCell h
theorem frag_appt {w w':World} {v v':Value} (hg:w.grownBy w' v.ownBlock) (hb:v'.ownBlock=v.ownBlock∨∃g,v'.ownBlock=some g∧w.heap.size≤g):Sub (frag w v.ownBlock) (frag w' v'.ownBlock):=by
 rcases hb with hb|⟨g,hb,hge⟩
 ·rw [hb]
  exact frag_grown hg
 ·rw [hb]
  intro ad u e
  have e':=frag_grown hg ad u e
  have hl:=World.block_lt_of_cell? w ad (frag_sub _ _ ad u e)
  unfold frag
  rw [if_neg (by intro h;have:=Option.some.inj h;omega)]
  exact frag_sub _ _ ad u e'
theorem two_parts {w W:World} {r:Option Nat} {p q:Pt} {e:Nat} (hr:r≠some w.heap.size) (hW:Grow (w.alloc (.cells #[.int .i64 p.h,.int .i64 p.k,.int .i64 p.n,.int .i64 q.h,.int .i64 q.k,.int .i64 q.n] e)) W) (hp:I64 p.h∧I64 p.k∧I64 p.n) (hq:I64 q.h∧I64 q.k∧I64 q.n):Sl Ty.pt (frag W r) (.slice (some ⟨w.heap.size,0,none⟩) 2 2) [p,q]:=
 ((OwnC.lit (T:=Ty.pt) (c:=fun _=>none) (base:=w.heap.size) (e:=e) w [p.cells,q.cells] (l:=[p,q]) rfl rfl (Nat.le_refl _) (by show 2≤maxLen;decide) rfl ⟨⟨rfl,hp⟩,⟨rfl,hq⟩,trivial⟩).grow hW).slb (by decide) (fun a v e=>by cases e) fun ad ha=>by
  have hb:ad.block=w.heap.size:=(Option.some.inj ha).symm
  unfold frag
  rw [if_neg (by rw [hb];exact fun h=>hr h.symm)]
theorem ints_at {c:CM} {a:Option Addr} {l:List Int} (h:∀i x,l[i]? =some x→∃b o cs,a=some ⟨b,o,none⟩∧Ty.int.R c cs x∧At c b (o+i*Ty.int.size) cs) (k:Nat) (hk:k<l.length):
  ∃b o,a=some ⟨b,o,none⟩∧c ⟨b,o+k*1,none⟩=some (.int .i64 l[k])∧I64 l[k]:=by
 obtain⟨b,o,cs,ha,⟨rfl,hR⟩,hA⟩:=h k l[k] (by simp [hk])
 exact⟨b,o,ha,hA 0 _ rfl,hR⟩
def BothL (l:List St):Prop:=∀s∈l,s.kind=1→∃n,s.parts=[⟨0,2,n⟩,⟨2,3,n⟩]
theorem BothL.nil:BothL []:=fun s hs=>by cases hs
theorem BothL.snoc {l:List St} {x:St} (h:BothL l) (hx:x.kind=1→∃n,x.parts=[⟨0,2,n⟩,⟨2,3,n⟩]):BothL (l++ [x]):=fun s hs=>by
 rcases List.mem_append.1 hs with hs|hs
 ·exact h s hs
 ·rw [List.mem_singleton] at hs
  rw [hs]
  exact hx
theorem both_settled {l:List St} (h:BothL l) {h0 h2:Hs} (e0:(settledA l).houses[0]? =some h0) (e2:(settledA l).houses[2]? =some h2):h0.sums.get 2=h2.sums.get 3:=by
 obtain⟨G,hw,hG⟩:=WI.of_play (n:=3) (by omega) l
 obtain⟨hq,hi,-⟩:=hw.settle
 exact both_law (k:=0) (k':=2) (q1:=2) (q2:=3) hi hq (by omega) (by omega) (fun x hx=>by
  obtain⟨s,hs,hk,e⟩:=hG x hx
  obtain⟨n,en⟩:=h s hs hk
  rw [e,en]
  simp [amt,atK]) e0 e2
set_option maxRecDepth 100000 in
set_option maxHeartbeats 4000000 in
theorem topBoth_walk (W:World) (hV:Vars W) {v vb:Value} {am:List Int} {bt:List St} (hv:Sl Ty.int W.cell? v am) (_:am.length*8≤140737488351232) (hb:Sl Ty.st W.cell? vb bt) (_:bt.length*40≤140737488351232):
  Calls Tryz.prog 4 #[v,vb] W fun e w'=>e=.returned (.bool true)∧Grow W w':=by
 have HV:=η hV
 obtain⟨ai,ci,rfl,i1,i2,-,hei⟩:=hv
 obtain⟨as_,cs,rfl,h1,h2,-,hel⟩:=hb
 have HEI:=η hei
 have HEL:=η hel
 unfold maxLen at i2 h2
 clear hV hel hei
 go_enter Tryz.func4,Tryz.ntmps4
 go_wp2_with fail
 refine(alive_top W HV.o).mono ?_
 rintro e w1 ⟨rfl,g1⟩
 have G1:=η g1
 clear g1
 by_cases hl:20<am.length
 ·go_wp2
  go_ret
  exact⟨rfl,G1.o⟩
 by_cases hl2:80<bt.length
 ·go_wp2
  go_ret
  exact⟨rfl,G1.o⟩
 go_wp2
 go_loopw [5,6,7,8,23] (fun s _ _ _ i wr=>∃(k:Nat) (L:List St),k≤bt.length∧i=.int .i64 k∧Grow w1 wr∧OwnT Ty.st wr w1.heap.size 28 s L∧L.length≤2*k∧(am.length<k→L.length≤k+am.length)∧BothL L) (fun _ _ _ _ i _=>bt.length - (intOf i).toNat)
 case atStart=>exact⟨0,[],by omega,rfl,grA,OwnT.nil _ _ _ _,by simp,by simp,BothL.nil⟩
 case round=>
  obtain⟨k,L,hk',rfl,hb,hown,hlk,hlk2,hbo⟩:=hrel
  obtain⟨av,cv,rfl⟩:=OwnC.form (c:=frag wr (Value.ownBlock _)) hown
  have HOWN:=η hown
  have HLK:=η (And.intro hlk hlk2)
  have HBO:=η hbo
  clear hlk hlk2 hbo hown
  by_cases hlt:k<bt.length
  ·obtain⟨b,o,vp,rfl,c0,c1,c2,i0,i1',hP⟩:=Sts.at_ HEL.o k hlt
   obtain⟨ap,cp,rfl,-⟩:=id hP
   have HI:=η (And.intro i0 (And.intro i1' hP))
   replace c0:=hb.sub _ _ (G1.o.sub _ _ c0)
   replace c1:=hb.sub _ _ (G1.o.sub _ _ c1)
   replace c2:=hb.sub _ _ (G1.o.sub _ _ c2)
   generalize hp:bt[k]=p at*
   obtain⟨pk,pn,pp⟩:=p
   clear hp i0 i1' hP
   dsimp only at c0 c1 c2 HI
   have R9:=row_new wr (.cells #[.int .i64 0,.int .i64 0,.slice none 0 0] 28)
   go_wp2_with (first|(refine wpList_store_row rfl (.tmp 7) (.tmp 27) rfl rfl rfl R9 info_st rfl rfl ?_))
   clear R9 c0 c1 c2
   intro w5 r5 g5
   obtain⟨B5,hB5⟩:∃B,B=wr.heap.size:=⟨_,rfl⟩
   rw [←hB5] at r5
   rw [←hB5]
   have G5:Hid (Grow wr w5):=η (((Grow.refl wr).alloc _).grown g5 (fun q hq=>by simp at hq;omega))
   have HB:=η hb
   obtain⟨d0,d1,d2⟩:=cells3 r5
   clear r5 g5 hB5 hb
   by_cases hk1:pk=1
   ·subst hk1
    go_wp2
    go_ret
    exact⟨rfl,G1.o.trans (HB.o.trans G5.o)⟩
   have b1:(pk==1)=false:=by simp [hk1]
   have HK1:=η hk1
   clear hk1
   go_wp2_with (first|(at_builtin;refine wpList_appc (c:=frag (w5.alloc (.cells #[.int .i64 pk,.int .i64 pn,.slice ap pp.length cp] 28)) (Value.slice av L.length cv).ownBlock) (base:=w1.heap.size) (l:=L) (m:=[⟨pk,pn,pp⟩]) (v:=.slice av L.length cv) ei_st rfl one_Tst (by decide) rfl (.tmp 31) (.tmp 33) rfl rfl ?own rfl (Src.of_new (T:=Ty.st) (x:=⟨pk,pn,pp⟩) (cs:=#[.int .i64 pk,.int .i64 pn,.slice ap pp.length cp]) ?d0 _ _ ?d1) ?d2 ?d3 ?_))
   case own=>exact HOWN.o.grow (G5.o.alloc _)
   case d0=>exact⟨_,rfl,HI.o.1,HI.o.2.1,HI.o.2.2.mono (frag_of_lt (G1.o.trans (HB.o.trans (G5.o.alloc _))) (fun q hq=>Nat.le_trans G1.o.size (OwnC.lt (c:=frag wr (Value.slice av L.length cv).ownBlock) HOWN.o q hq).1))⟩
   case d1=>first|rfl|simp
   case d2=>have:=HLK.o.1;simp;omega
   case d3=>have:=HB.o.size;have:=G5.o.size;simp;omega
   intro a9 c9 w9 ho9 hg9 hb9
   have HG9:Hid (Grow w1 w9):=η (grow_by (w0:=w1) ((HB.o.trans G5.o).alloc _) hg9 (fun q hq=>(OwnC.lt (c:=frag wr (Value.slice av L.length cv).ownBlock) HOWN.o q hq).1))
   have ho9':OwnT Ty.st w9 w1.heap.size 28 (.slice a9 (L.length+1) c9) (L++ [⟨pk,pn,pp⟩]):=ho9.mono (frag_appt hg9 (hb9.imp_right fun⟨g,e,hge⟩=>⟨g,e,by simpa using hge⟩))
   have HO9:=η ho9'
   have HBO9:Hid (BothL (L++ [⟨pk,pn,pp⟩])):=η (HBO.o.snoc fun h=>absurd h HK1.o)
   have HL9:Hid ((L++ [(⟨pk,pn,pp⟩:St)]).length=L.length+1):=η (by simp)
   clear ho9 hg9 hb9 ho9' d0 d1 d2 b1 HBO
   generalize L++ [(⟨pk,pn,pp⟩:St)]=L9 at*
   by_cases hik:k<am.length
   ·obtain⟨b',o',rfl,c0,i9⟩:=ints_at HEI.o k hik
    replace c0:=HG9.o.sub _ _ (G1.o.sub _ _ c0)
    have HI9:=η i9
    generalize am[k]=n at*
    clear i9
    have c0':=c0
    rw [Nat.mul_one] at c0'
    have hw:n< -1000∨(-1000≤n∧1000<n)∨(-1000≤n∧n≤1000):=by omega
    rcases hw with hw|⟨hw1,hw⟩|⟨hw1,hw⟩
    iterate 2 (· (go_wp2;go_ret;exact⟨rfl,G1.o.trans HG9.o⟩))
    go_wp2_with (first|(at_builtin;refine wpList_appc (c:=frag ((w9.alloc (.cells #[.int .i64 0,.int .i64 2,.int .i64 n,.int .i64 2,.int .i64 3,.int .i64 n] 31)).alloc (.cells #[.int .i64 1,.int .i64 0,.slice (some ⟨w9.heap.size,0,none⟩) 2 2] 28)) (Value.slice a9 (L.length+1) c9).ownBlock) (base:=w1.heap.size) (l:=L9) (m:=[⟨1,0,[⟨0,2,n⟩,⟨2,3,n⟩]⟩]) (v:=.slice a9 (L.length+1) c9) ei_st rfl one_Tst (by decide) rfl (.tmp 49) (.tmp 56) rfl rfl ?own rfl (Src.of_new (T:=Ty.st) (x:=⟨1,0,[⟨0,2,n⟩,⟨2,3,n⟩]⟩) (cs:=#[.int .i64 1,.int .i64 0,.slice (some ⟨w9.heap.size,0,none⟩) 2 2]) ?d0 _ _ ?d1) ?d2 ?d3 ?_))
    case own=>exact HO9.o.grow (((Grow.refl _).alloc _).alloc _)
    case d0=>exact⟨_,rfl,(show I64 1 from by unfold I64;decide),(show I64 0 from by unfold I64;decide),two_parts (p:=⟨0,2,n⟩) (q:=⟨2,3,n⟩) (fun e=>by have:=(OwnC.lt (c:=frag w9 (Value.slice a9 (L.length+1) c9).ownBlock) HO9.o _ e).2;omega) ((Grow.refl _).alloc _) ⟨(show I64 0 from by unfold I64;decide),(show I64 2 from by unfold I64;decide),HI9.o⟩ ⟨(show I64 2 from by unfold I64;decide),(show I64 3 from by unfold I64;decide),HI9.o⟩⟩
    case d1=>first|rfl|simp
    case d2=>have:=HLK.o.1;have:=HL9.o;simp;omega
    case d3=>have:=HG9.o.size;simp;omega
    intro a7 c7 w7 ho7 hg7 hb7
    have HG7:Hid (Grow w1 w7):=η (grow_by (w0:=w1) ((HG9.o.alloc _).alloc _) hg7 (fun q hq=>(OwnC.lt (c:=frag w9 (Value.slice a9 (L.length+1) c9).ownBlock) HO9.o q hq).1))
    have ho7':OwnT Ty.st w7 w1.heap.size 28 (.slice a7 (L9.length+1) c7) (L9++ [⟨1,0,[⟨0,2,n⟩,⟨2,3,n⟩]⟩]):=ho7.mono (frag_appt hg7 (hb7.imp_right fun⟨g,e,hge⟩=>⟨g,e,by simpa using hge⟩))
    have HO7:=η ho7'
    clear ho7 hg7 hb7 ho7' c0 c0'
    go_wp2
    go_roundw
    case rel=>exact⟨k+1,L9++ [⟨1,0,[⟨0,2,n⟩,⟨2,3,n⟩]⟩],by omega,by go_num,HG7.o,HO7.o,by have:=HL9.o;have:=HLK.o;simp;omega,fun h=>by omega,HBO9.o.snoc fun _=>⟨n,rfl⟩⟩
    case measure=>simp [intOf];omega
   ·go_wp2
    go_roundw
    case rel=>exact⟨k+1,L9,by omega,by go_num,HG9.o,by(first|exact HO9.o|(rw [HL9.o];exact HO9.o)),by have:=HL9.o;have:=HLK.o;omega,fun h=>by have:=HL9.o;have:=HLK.o;by_cases e:am.length<k;(· have:=this.2 e;omega);(· omega),HBO9.o⟩
    case measure=>simp [intOf];omega
  ·have hls:L.length≤150:=by
    have:=HLK.o
    by_cases e:am.length<k
    ·have:=this.2 e;omega
    ·omega
   have HSE:=η (top_settled wr (OwnT.sl (by decide) HOWN.o) hls)
   have HL:=η hls
   have HL3:=η (settled_ok hls).2.2.2
   have G2:=η (G1.o.trans hb)
   clear hls hb
   go_wp2_with fail
   refine HSE.o.mono ?_
   rintro e w3 ⟨v3,rfl,hx,g3⟩
   have HX:=η hx
   obtain⟨al,cl,ao,co,ah,ch,an,cn,rfl⟩:=hx.wd_form
   have G3:=η (G2.o.trans g3)
   clear hx g3 HSE
   have R1:=row_new w3 (.cells #[.slice none 0 0,.int .i64 0,.int .i64 0,.slice none 0 0,.slice none 0 0,.slice none 0 0] 39)
   go_wp2_with (first|(refine wpList_store_row rfl (.tmp 9) (.tmp 62) rfl rfl rfl R1 info_wd rfl rfl ?_))
   clear R1
   intro w5 r5 g5
   obtain⟨B,hB⟩:∃B,B=w3.heap.size:=⟨_,rfl⟩
   rw [←hB] at r5
   rw [←hB]
   have G5:Hid (Grow w3 w5):=η (((Grow.refl w3).alloc _).grown g5 (fun q hq=>by simp at hq;omega))
   have R5:=η r5
   clear r5 g5 hB
   obtain⟨S,hsum⟩:∃T,T=(settledA L).houses.map (·.sums):=⟨_,rfl⟩
   have hSL:S.length=3:=by rw [hsum,List.length_map];exact HL3.o
   have hs0:0<S.length:=by omega
   have hs2:2<S.length:=by omega
   have hs2i:(2:Int)<S.length:=by omega
   obtain⟨z,hz⟩:∃z,z=S[0].get 2:=⟨_,rfl⟩
   have HZ0:=η hz
   have HZ2:Hid (z=S[2].get 3):=η (by
    have hh:=HL3.o
    subst hsum
    rw [hz]
    have e0:(settledA L).houses[0]? =some (settledA L).houses[0]:=List.getElem?_eq_getElem (by omega)
    have e2:(settledA L).houses[2]? =some (settledA L).houses[2]:=List.getElem?_eq_getElem (by omega)
    have:=both_settled HBO.o e0 e2
    simpa using this)
   have HU:Hid (∀W,Grow w3 W→Calls Tryz.prog 12 #[.agg #[.slice al (settledA L).head.log.length cl,.int .i64 (settledA L).head.boot,.int .i64 (settledA L).head.next,.slice ao (settledA L).head.opn.length co,.slice ah (settledA L).houses.length ch,.slice an (settledA L).net.length cn]] W fun e w'=>∃v',e=.returned v'∧Sms w'.cell? v' S∧Grow W w'):=η (fun W hW=>by rw [hsum];exact top_sums HL.o W (HX.o.mono hW.sub))
   have HS0:=η hs0
   have HS2:=η hs2
   clear hsum HL3 hSL hz
   generalize settledA L=x at*
   have HS:Hid (∀W,Grow w5 W→W.cell? ⟨B,0,none⟩=some (.slice al x.head.log.length cl)∧W.cell? ⟨B,1,none⟩=some (.int .i64 x.head.boot)∧W.cell? ⟨B,2,none⟩=some (.int .i64 x.head.next)∧W.cell? ⟨B,3,none⟩=some (.slice ao x.head.opn.length co)∧W.cell? ⟨B,4,none⟩=some (.slice ah x.houses.length ch)∧W.cell? ⟨B,5,none⟩=some (.slice an x.net.length cn)):=η fun W hW=>by
    obtain⟨j0,j1,j2,j3,j4,j5⟩:=cells6 (row_grow R5.o hW)
    exact⟨j0,j1,j2,j3,j4,j5⟩
   go_upto_region 19 with fail
   refine bSc (fun w'=>w'.cell? ⟨B,0,none⟩=some (.slice al x.head.log.length cl)∧w'.cell? ⟨B,1,none⟩=some (.int .i64 x.head.boot)∧w'.cell? ⟨B,2,none⟩=some (.int .i64 x.head.next)∧w'.cell? ⟨B,3,none⟩=some (.slice ao x.head.opn.length co)∧w'.cell? ⟨B,4,none⟩=some (.slice ah x.houses.length ch)∧w'.cell? ⟨B,5,none⟩=some (.slice an x.net.length cn)) [] (by kernel_rfl) ?_
   intro wd GD zD
   have ZD:=η zD
   clear zD
   refine bLc [0,1] 17 (by kernel_rfl) (fun _ _ _ _ _ h=>h) (HS.o _ GD) ?_
   repeat (refine tNc (v:=?_) rfl (by rfl) ?_ ?_;rotate_left;(· (intro w' hSw;(try dsimp only at hSw);obtain⟨hs0,hs1,hs2,hs3,hs4,hs5⟩:=hSw;go_simp<;>with_reducible rfl));try simp only [Act.put,lzA,lzB,lzC,lzD,lzE,lzF])
   refine tEc ?_
   refine bLc [2,7] 17 (by kernel_rfl) (fun _ _ _ _ _ h=>h) (HS.o _ GD) ?_
   repeat (refine tNc (v:=?_) rfl (by rfl) ?_ ?_;rotate_left;(· (intro w' hSw;(try dsimp only at hSw);obtain⟨hs0,hs1,hs2,hs3,hs4,hs5⟩:=hSw;go_simp<;>with_reducible rfl));try simp only [Act.put,lzA,lzB,lzC,lzD,lzE,lzF])
   refine tEc ?_
   refine bOc 3 (by kernel_rfl) rfl ?_
   intro K HK
   refine wanted_yes (by rfl) ?_
   try simp only [lzA,lzB,lzC]
   go_simp
   go_at_call 12
   refine(HU.o _ (G5.o.trans GD)).mono ?_
   rintro e wa ⟨va,rfl,hva,ga⟩
   obtain⟨ba,oa,ca,rfl,y0⟩:=sms_cell (k:=2) hva HS0.o (by omega)
   rw [show((2:Nat):Int)=2 from rfl,←HZ0.o] at y0
   have GA:=η (Grow.trans GD ga)
   clear ga hva
   refine HK.o _ _ ⟨.inr (HS.o _ GA.o),?_⟩
   clear HK K
   try simp only [Act.put,lzA,lzB,lzC,lzD,lzE,lzF]
   refine bLc [4,5] 17 (by kernel_rfl) (fun _ _ _ _ _ h=>h) (HS.o _ GA.o) ?_
   repeat (refine tNc (v:=?_) rfl (by rfl) ?_ ?_;rotate_left;(· (intro w' hSw;(try dsimp only at hSw);obtain⟨hs0,hs1,hs2,hs3,hs4,hs5⟩:=hSw;go_simp<;>with_reducible rfl));try simp only [Act.put,lzA,lzB,lzC,lzD,lzE,lzF])
   refine tEc ?_
   refine bPc 6 8 (by kernel_rfl) rfl rfl ?_ ?_
   ·intro K HK
    refine wanted_yes (by rfl) ?_
    try simp only [lzA,lzB,lzC]
    go_simp
    refine HK.o _ _ ⟨.inr (HS.o _ GA.o),?_⟩
    clear HK K
    try simp only [Act.put,lzA,lzB,lzC,lzD,lzE,lzF]
    refine bOc 8 (by kernel_rfl) rfl ?_
    intro K HK
    refine wanted_yes (by rfl) ?_
    try simp only [lzA,lzB,lzC]
    go_simp
    go_at_call 12
    refine(HU.o _ (G5.o.trans GA.o)).mono ?_
    rintro e wb ⟨vb,rfl,hvb,gb⟩
    obtain⟨bb,ob,cb,rfl,y2⟩:=sms_cell (k:=3) hvb HS2.o (by omega)
    rw [show((3:Nat):Int)=3 from rfl,←HZ2.o] at y2
    replace y0:=gb.sub _ _ y0
    have GB:=η (Grow.trans GA.o gb)
    clear gb hvb
    refine HK.o _ _ ⟨.inr (HS.o _ GB.o),?_⟩
    clear HK K
    try simp only [Act.put,lzA,lzB,lzC,lzD,lzE,lzF]
    refine bLc [9,10] 17 (by kernel_rfl) (fun _ _ _ _ _ h=>h) (HS.o _ GB.o) ?_
    repeat (refine tNc (v:=?_) rfl (by rfl) ?_ ?_;rotate_left;(· (intro w' hSw;(try dsimp only at hSw);obtain⟨hs0,hs1,hs2,hs3,hs4,hs5⟩:=hSw;go_simp<;>with_reducible rfl));try simp only [Act.put,lzA,lzB,lzC,lzD,lzE,lzF])
    refine tEc ?_
    refine bOc 11 (by kernel_rfl) rfl ?_
    intro K HK
    refine wanted_yes (by rfl) ?_
    try simp only [lzA,lzB,lzC]
    go_simp
    refine HK.o _ _ ⟨.inr (HS.o _ GB.o),?_⟩
    clear HK K
    try simp only [Act.put,lzA,lzB,lzC,lzD,lzE,lzF]
    refine bLc [12,13] 17 (by kernel_rfl) (fun _ _ _ _ _ h=>h) (HS.o _ GB.o) ?_
    repeat (refine tNc (v:=?_) rfl (by rfl) ?_ ?_;rotate_left;(· (intro w' hSw;(try dsimp only at hSw);obtain⟨hs0,hs1,hs2,hs3,hs4,hs5⟩:=hSw;go_simp<;>with_reducible rfl));try simp only [Act.put,lzA,lzB,lzC,lzD,lzE,lzF])
    refine tEc ?_
    refine bOc 14 (by kernel_rfl) rfl ?_
    intro K HK
    try simp only [lzA,lzB,lzC]
    go_simp
    refine HK.o _ _ ⟨.inr (HS.o _ GB.o),?_⟩
    clear HK K
    try simp only [Act.put,lzA,lzB,lzC,lzD,lzE,lzF]
    refine bDc (by kernel_rfl) ?_
    clear y0 y2
    go_wp2
    go_ret
    exact⟨rfl,G3.o.trans (G5.o.trans GB.o)⟩
   ·intro K HK
    refine wanted_yes (by rfl) ?_
    try simp only [lzA,lzB,lzC]
    go_simp
    go_at_call 12
    refine(HU.o _ (G5.o.trans GA.o)).mono ?_
    rintro e wb ⟨vb,rfl,hvb,gb⟩
    obtain⟨bb,ob,cb,rfl,y2⟩:=sms_cell (k:=3) hvb HS2.o (by omega)
    rw [show((3:Nat):Int)=3 from rfl,←HZ2.o] at y2
    replace y0:=gb.sub _ _ y0
    have GB:=η (Grow.trans GA.o gb)
    clear gb hvb
    refine HK.o _ _ ⟨.inr (HS.o _ GB.o),?_⟩
    clear HK K
    try simp only [Act.put,lzA,lzB,lzC,lzD,lzE,lzF]
    refine bLc [9,10] 17 (by kernel_rfl) (fun _ _ _ _ _ h=>h) (HS.o _ GB.o) ?_
    repeat (refine tNc (v:=?_) rfl (by rfl) ?_ ?_;rotate_left;(· (intro w' hSw;(try dsimp only at hSw);obtain⟨hs0,hs1,hs2,hs3,hs4,hs5⟩:=hSw;go_simp<;>with_reducible rfl));try simp only [Act.put,lzA,lzB,lzC,lzD,lzE,lzF])
    refine tEc ?_
    refine bPc 6 11 (by kernel_rfl) rfl rfl ?_ ?_
    ·intro K HK
     refine wanted_yes (by rfl) ?_
     try simp only [lzA,lzB,lzC]
     go_simp
     refine HK.o _ _ ⟨.inr (HS.o _ GB.o),?_⟩
     clear HK K
     try simp only [Act.put,lzA,lzB,lzC,lzD,lzE,lzF]
     refine bOc 11 (by kernel_rfl) rfl ?_
     intro K HK
     refine wanted_yes (by rfl) ?_
     try simp only [lzA,lzB,lzC]
     go_simp
     refine HK.o _ _ ⟨.inr (HS.o _ GB.o),?_⟩
     clear HK K
     try simp only [Act.put,lzA,lzB,lzC,lzD,lzE,lzF]
     refine bLc [12,13] 17 (by kernel_rfl) (fun _ _ _ _ _ h=>h) (HS.o _ GB.o) ?_
     repeat (refine tNc (v:=?_) rfl (by rfl) ?_ ?_;rotate_left;(· (intro w' hSw;(try dsimp only at hSw);obtain⟨hs0,hs1,hs2,hs3,hs4,hs5⟩:=hSw;go_simp<;>with_reducible rfl));try simp only [Act.put,lzA,lzB,lzC,lzD,lzE,lzF])
     refine tEc ?_
     refine bOc 14 (by kernel_rfl) rfl ?_
     intro K HK
     try simp only [lzA,lzB,lzC]
     go_simp
     refine HK.o _ _ ⟨.inr (HS.o _ GB.o),?_⟩
     clear HK K
     try simp only [Act.put,lzA,lzB,lzC,lzD,lzE,lzF]
     refine bDc (by kernel_rfl) ?_
     clear y0 y2
     go_wp2
     go_ret
     exact⟨rfl,G3.o.trans (G5.o.trans GB.o)⟩
    ·intro K HK
     refine wanted_yes (by rfl) ?_
     try simp only [lzA,lzB,lzC]
     go_simp
     refine HK.o _ _ ⟨.inr (HS.o _ GB.o),?_⟩
     clear HK K
     try simp only [Act.put,lzA,lzB,lzC,lzD,lzE,lzF]
     refine bOc 6 (by kernel_rfl) rfl ?_
     intro K HK
     refine wanted_yes (by rfl) ?_
     try simp only [lzA,lzB,lzC]
     go_simp
     refine HK.o _ _ ⟨.inr (HS.o _ GB.o),?_⟩
     clear HK K
     try simp only [Act.put,lzA,lzB,lzC,lzD,lzE,lzF]
     refine bLc [12,13] 17 (by kernel_rfl) (fun _ _ _ _ _ h=>h) (HS.o _ GB.o) ?_
     repeat (refine tNc (v:=?_) rfl (by rfl) ?_ ?_;rotate_left;(· (intro w' hSw;(try dsimp only at hSw);obtain⟨hs0,hs1,hs2,hs3,hs4,hs5⟩:=hSw;go_simp<;>with_reducible rfl));try simp only [Act.put,lzA,lzB,lzC,lzD,lzE,lzF])
     refine tEc ?_
     refine bOc 14 (by kernel_rfl) rfl ?_
     intro K HK
     try simp only [lzA,lzB,lzC]
     go_simp
     refine HK.o _ _ ⟨.inr (HS.o _ GB.o),?_⟩
     clear HK K
     try simp only [Act.put,lzA,lzB,lzC,lzD,lzE,lzF]
     refine bDc (by kernel_rfl) ?_
     clear y0 y2
     go_wp2
     go_ret
     exact⟨rfl,G3.o.trans (G5.o.trans GB.o)⟩
end Go.Proofs.YthfgeelcbcgahaaGreatDoor
namespace Go.Proofs.YthfgeelcbcgahaaGreatDoor
open Go.ChangeShapes Go.WideShapes Go.ChangeAt Go.RowKit
def laidList:List (String × DataW Unit):=[("math/bits.deBruijn32tab",Rows.laid_math_bits_deBruijn32tab),("math/bits.deBruijn64tab",Rows.laid_math_bits_deBruijn64tab),("internal/strconv.uint64pow10",Rows.laid_internal_strconv_uint64pow10),("unicode/utf8.acceptRanges",Rows.laid_unicode_utf8_acceptRanges),("strconv.ErrRange",Rows.laid_strconv_ErrRange),("strconv.ErrSyntax",Rows.laid_strconv_ErrSyntax),("unicode/utf8.first",Rows.laid_unicode_utf8_first)]
theorem starE: "*" ++ "errors.errorString" = "*errors.errorString":=by decide
theorem rowErr (u:TypeId) (h:Tryz.prog.typeName? 3 u = some "*errors.errorString"):u = 241:=
 typeName_ptr_named (nm:= "errors.errorString") (by rw [starE];kernel_rfl) (by kernel_rfl) (by decide) u (by rw [starE];exact h)
theorem var_lt {W:World} {n:String} {g:Nat} {v:Value} {l:List Value} (hg:Tryz.prog.globalNamed n=some g) (h:W.var? Tryz.prog n=some (v::l).toArray):g<W.heap.size:=
 World.block_lt_of_cell? W (a:=⟨g,0,none⟩) (show W.cell? ⟨g,0,none⟩=some v by have:=World.var?_cell hg h 0;simpa using this)
theorem vars_of {W:World} (h:laidMetH Tryz.prog laidList W) (hs:W.ShapedOpen Tryz.prog):Vars W:=by
 rw [MakeChecks.laidMetH_plain _ _ _ (by kernel_rfl)] at h
 have htab:Lib.TabIs Tryz.prog W "internal/strconv.uint64pow10" .u64 Lib.pow10Tab:=
  Lib.tabIs_of_head (show Tryz.prog.globalNamed "internal/strconv.uint64pow10" = some 5 by kernel_rfl) (show (Tryz.prog.globals[5]?).map (·.type) = some 245 by kernel_rfl)
   (show Tryz.prog.underlying 245=some (.array 20 193) by kernel_rfl) (show Tryz.prog.underlying 193=some (.int .u64) by kernel_rfl) (by kernel_rfl) (by kernel_rfl) h.tail.tail
 obtain ⟨a0,s0,hv0,-,-,-⟩:=laid_sentinel h.tail.tail.tail.tail (show Tryz.prog.globalNamed "strconv.ErrRange" = some 2 by kernel_rfl) (show (Tryz.prog.globals[2]?).map (·.type) = some 122 by kernel_rfl) Tryz.underlying122 rowErr Tryz.underlying241 Tryz.underlying243 rfl rfl Tryz.underlying9 (by kernel_rfl) (by kernel_rfl)
 obtain ⟨a1,s1,hv1,-,-,-⟩:=laid_sentinel h.tail.tail.tail.tail.tail (show Tryz.prog.globalNamed "strconv.ErrSyntax" = some 1 by kernel_rfl) (show (Tryz.prog.globals[1]?).map (·.type) = some 122 by kernel_rfl) Tryz.underlying122 rowErr Tryz.underlying241 Tryz.underlying243 rfl rfl Tryz.underlying9 (by kernel_rfl) (by kernel_rfl)
 have hm:=cell_of_shapedOpen_int (g:=0) (t:=3) (zero:=#[.int .i64 0]) (k:=.i64) hs (of_decide_eq_true (by kernel_rfl)) (by kernel_rfl) rfl (by kernel_rfl) (by kernel_rfl) (by kernel_rfl)
 refine⟨hm,htab,⟨_,_,hv1⟩,⟨_,_,hv0⟩,?_,?_,?_,?_⟩
 ·obtain⟨m,hm⟩:=hm
  exact World.block_lt_of_cell? W _ hm
 ·exact var_lt (by kernel_rfl) htab
 ·exact var_lt (l:=[]) (by kernel_rfl) hv1
 ·exact var_lt (l:=[]) (by kernel_rfl) hv0
set_option maxRecDepth 100000 in
theorem card_witness {H:Type} {enc:TypeId×Value→H} {os:Os} {f:FuncId} {fn:Func} {s:OpenSpec} {laid:List (String×DataW Unit)} (args:Array Value)
  (hv:((World.laidAll Tryz.prog os laid).forCall (fun _ _=>0) ⟨#[],args,[]⟩).variablesZipB Tryz.prog=true)
  (hr:(((World.laidAll Tryz.prog os laid).forCall (fun _ _=>0) ⟨#[],args,[]⟩).heap.toList.drop Tryz.prog.globals.size).take ((begin Tryz.prog (fun _ _=>0) default).world.heap.size - Tryz.prog.globals.size)=(begin Tryz.prog (fun _ _=>0) default).world.heap.toList.drop Tryz.prog.globals.size)
  (hok:Input.okWideB Tryz.prog ((World.laidAll Tryz.prog os laid).forCall (fun _ _=>0) ⟨#[],args,[]⟩) f ⟨#[],args,[]⟩=true)
  (hrow:s.preRow enc Tryz.prog fn [] false laid ((World.laidAll Tryz.prog os laid).forCall (fun _ _=>0) ⟨#[],args,[]⟩).memory args):
  ∃(w:World) (tape:Tape) (i:Input),w.os=os∧(w.forCall tape i).Shaped Tryz.prog∧i.vars=[]∧Input.okWide Tryz.prog (w.forCall tape i) .any w.heap.size f i∧
   s.preRow enc Tryz.prog fn [] false laid (w.forCall tape i).memory i.args∧({}:Assume).holds Tryz.prog (lone (Frame.enter Tryz.prog f i.args .normal) [] (w.forCall tape i)):=
 ⟨World.laidAll Tryz.prog os laid,fun _ _=>0,⟨#[],args,[]⟩,World.laidAll_os _ _ _,World.shaped_of_ZipB hv hr,(Input.okWide_of_okWideB (base:=0) hok).1,(Input.okWide_of_okWideB hok).2,hrow,by
  simp only [Assume.holds]
  exact⟨by simp,by simp,fun _=>Modest.zero,by simp,by simp⟩⟩
theorem laid_met (os:Os) (args:Array Value):laidMetH Tryz.prog laidList ((World.laidAll Tryz.prog os laidList).forCall (fun _ _=>0) ⟨#[],args,[]⟩).memory:=by
 rw [MakeChecks.laidMetH_plain _ _ _ (by kernel_rfl)]
 exact laidMet_laidAll _ (by kernel_rfl) (by kernel_rfl)
end Go.Proofs.YthfgeelcbcgahaaGreatDoor
namespace Go.Proofs.YthfgeelcbcgahaaGreatDoor
open Go.RowKit Go.ChangeShapes Go.WideShapes Go.ChangeAt
def Reads {α:Type} (P:Program) (t:TypeId) (T:Ty α):Prop:=∀(H:Type) (enc:TypeId×Value→H) (W:World) (fuel:Nat) (cs:List Value) (x:DataW H×List MemPlace),
 DataW.trod enc P W 0 (fun _=>true) true fuel t cs=some x→∃y,T.R W.cell? cs y
theorem reads_int {P:Program} {t:TypeId} (ht:P.underlying t=some (.int .i64)):Reads P t Ty.int:=by
 intro H enc W fuel cs x h
 obtain⟨n,rfl,_,hw⟩:=DataW.trod_int ht h
 exact⟨n,rfl,hw⟩
theorem reads_sl {α:Type} {P:Program} {t e:TypeId} {T:Ty α} (hR:Reads P e T) (ht:P.underlying t=some (.slice e)) (hc:P.cellsOf e=T.size) (h0:0<T.size):Reads P t T.sl:=by
 intro H enc W fuel cs x h
 rcases Deep.open_slice ht h with⟨rfl,_⟩|⟨a,len,cap,m,n,D,Pl,rfl,_,hl,hm,hmm,hxe,hx⟩
 ·exact⟨[],_,rfl,none,0,rfl,Nat.le_refl _,Nat.zero_le _,fun _=>rfl,fun i x e=>by simp at e⟩
 ·simp only [if_true] at hmm
  subst m
  have h2:∀i,i<len→∃(p:List Value×α),T.R W.cell? p.1 p.2∧W.cells? 0 (a.add (i*T.size)) T.size=some p.1:=by
   intro i hi
   obtain⟨cs',h1,h2⟩:=hx i (by omega)
   obtain⟨y,hy⟩:=hR H enc W n cs' _ h2
   rw [hc] at h1
   exact⟨(cs',y),hy,h1⟩
  have h3:∃l:List α,l.length=len∧∀i y,l[i]? =some y→∃cs',T.R W.cell? cs' y∧W.cells? 0 (a.add (i*T.size)) T.size=some cs':=by
   clear hx hl h hxe
   induction len with
   |zero=>exact⟨[],rfl,by simp⟩
   |succ len ih=>
    obtain⟨l,hl,hi⟩:=ih (by intro i hi;exact h2 i (by omega))
    obtain⟨⟨cs',y⟩,hy,h1⟩:=h2 len (by omega)
    refine⟨l++ [y],by simp [hl],fun i z hz=>?_⟩
    rcases Nat.lt_or_ge i l.length with hlt|hge
    ·rw [List.getElem?_append_left hlt] at hz;exact hi i z hz
    ·have hb:=(List.getElem?_eq_some_iff.1 hz).1
     simp at hb
     obtain rfl:i=len:=by omega
     rw [List.getElem?_append_right hge,hl] at hz
     simp at hz
     subst hz
     exact⟨cs',hy,h1⟩
  obtain⟨l,hlen,hl2⟩:=h3
  refine⟨l,_,rfl,some a,cap,by rw [hlen],by omega,hm,by simp,fun i y hy=>?_⟩
  obtain⟨cs',hR',hcs⟩:=hl2 i y hy
  obtain⟨_,hlen',hat⟩:=World.cells?_some hcs
  have hpos:0<l.length:=by have:=(List.getElem?_eq_some_iff.1 hy).1;omega
  obtain⟨cs0,_,hcs0⟩:=hl2 0 l[0] (List.getElem?_eq_getElem hpos)
  obtain⟨_,hlen0,hat0⟩:=World.cells?_some hcs0
  have hfirst:=hat0 0 h0
  rw [List.getElem?_eq_getElem (by omega)] at hfirst
  have hsp:=World.cell?_spot hfirst
  obtain⟨b,o,s⟩:=a
  have hs:s=none:=by simpa [Addr.add] using hsp
  subst hs
  refine⟨b,o,cs',rfl,hR',fun j u hu=>?_⟩
  have hj:j<T.size:=by rw [←hlen'];exact(List.getElem?_eq_some_iff.1 hu).1
  have:=hat j hj
  rw [Addr.add_lit,Addr.add_lit,hu] at this
  exact this
def structOf (P:Program) (t:TypeId):Option (List (TypeId×Nat×Nat)):=
 match P.underlying t with
 |some (.struct fs)=>some (fs.toList.map fun f=>(f.type,f.offset,P.cellsOf f.type))
 |_=>none
theorem struct_fields {P:Program} {t:TypeId} {fs':List (TypeId×Nat×Nat)} (hs:structOf P t=some fs') {H:Type} {enc:TypeId×Value→H} {W:World} {fuel:Nat} {cs:List Value} {x:DataW H×List MemPlace}
  (h:DataW.trod enc P W 0 (fun _=>true) true fuel t cs=some x):cs.length=P.cellsOf t∧∀(i:Nat) (f:TypeId×Nat×Nat),fs'[i]? =some f→∃n y,DataW.trod enc P W 0 (fun _=>true) true n f.1 ((cs.drop f.2.1).take f.2.2)=some y:=by
 unfold structOf at hs
 split at hs
 ·rename_i fs hu
  obtain rfl:=Option.some.inj hs
  obtain⟨xs,n,_,_,hl,hlen,hf⟩:=DataW.trod_struct hu h
  refine⟨hl,fun i f hi=>?_⟩
  rw [List.getElem?_map] at hi
  cases hfi:fs.toList[i]? with
  |none=>rw [hfi] at hi;cases hi
  |some fd=>
   rw [hfi] at hi
   obtain rfl:=Option.some.inj hi
   have hfi':fs[i]? =some fd:=by simpa using hfi
   have hlt:i<xs.length:=by rw [hlen];exact(Array.getElem?_eq_some_iff.1 hfi').1
   have:=hf i fd hfi'
   rw [List.getElem?_eq_getElem hlt] at this
   exact⟨n,_,this⟩
 ·cases hs
theorem reads_pt:Reads Tryz.prog 31 Ty.pt:=by
 intro H enc W fuel cs x h
 obtain⟨hl,hf⟩:=struct_fields (fs':=[(3,0,1),(3,1,1),(3,2,1)]) (by kernel_rfl) h
 rw [show(Tryz.prog).cellsOf 31=3 by kernel_rfl] at hl
 match cs,hl with
 | [a,b,c],_=>
  obtain⟨_,_,h0⟩:=hf 0 _ rfl
  obtain⟨_,_,h1⟩:=hf 1 _ rfl
  obtain⟨_,_,h2⟩:=hf 2 _ rfl
  obtain⟨x0,e0,w0⟩:=reads_int (by kernel_rfl) _ _ _ _ _ _ h0
  obtain⟨x1,e1,w1⟩:=reads_int (by kernel_rfl) _ _ _ _ _ _ h1
  obtain⟨x2,e2,w2⟩:=reads_int (by kernel_rfl) _ _ _ _ _ _ h2
  refine⟨⟨x0,x1,x2⟩,?_,w0,w1,w2⟩
  simp at e0 e1 e2
  subst e0 e1 e2
  rfl
theorem reads_pts:Reads Tryz.prog 26 Ty.pts:=reads_sl reads_pt (by kernel_rfl) (by kernel_rfl) (by decide)
theorem reads_ints:Reads Tryz.prog 47 (Ty.sl Ty.int):=reads_sl (reads_int (t:=3) (by kernel_rfl)) (by kernel_rfl) (by kernel_rfl) (by decide)
theorem arg_sl {α:Type} {P:Program} {t e:TypeId} {T:Ty α} (hR:Reads P t T.sl) (ht:P.underlying t=some (.slice e)) {H:Type} {enc:TypeId×Value→H} {W:World} {r:Reach} {b:Nat} {v:Value} {d:DataW H} {p:List MemPlace}
  (hval:Value.okWide P W r b t v) (h:DataW.Trod enc P W 0 (fun _=>true) true t v d p):∃l,Sl T W.cell? v l:=by
 obtain⟨a,len,cap,rfl⟩:=okWide_slice ht hval
 obtain⟨fuel,hf⟩:=h
 obtain⟨l,v,e,hv⟩:=hR _ _ _ _ _ _ hf
 simp [Value.cells] at e
 subst e
 exact⟨l,hv⟩
theorem own:ownKnob (Tryz.prog).godebug=none:=by kernel_rfl
theorem laidOut:laidOutB Tryz.prog=true:=by kernel_rfl
end Go.Proofs.YthfgeelcbcgahaaGreatDoor
namespace Go.Proofs.YthfgeelcbcgahaaGreatDoor
open Go.RowKit Go.ChangeShapes Go.WideShapes Go.ChangeAt
theorem sl_len {α:Type} {T:Ty α} {c:CM} {a:Option Addr} {n cap:Nat} {l:List α} (h:Sl T c (.slice a n cap) l):l.length=n:=by
 obtain⟨a',cap',he,_⟩:=h
 simp only [Value.slice.injEq] at he
 exact he.2.1.symm
theorem arg_size {α:Type} {P:Program} {t e:TypeId} {T:Ty α} {k:Nat} (ht:P.underlying t=some (.slice e)) (hb:P.bytesOf e=k) {H:Type} {enc:TypeId×Value→H} {W:World} {r:Reach} {b:Nat} {v:Value} {d:DataW H} {p:List MemPlace} {ts:List TypeId} {ds:List (DataW H)} {j:Nat}
  (hsz:(DataW.weightsEach P ts ds).all (· ≤reachBytes)=true) (hj:ts[j]? =some t) (hd:ds[j]? =some d)
  (hval:Value.okWide P W r b t v) (h:DataW.Trod enc P W 0 (fun _=>true) true t v d p) {l:List α} (hl:Sl T W.cell? v l):l.length*k≤140737488351232:=by
 obtain⟨a,len,cap,rfl⟩:=okWide_slice ht hval
 obtain⟨fuel,hf⟩:=h
 have hll:=sl_len hl
 rcases Deep.open_slice ht hf with⟨he,_⟩|⟨a',len',cap',m,n,D,Pl,he,_,hlc,_,hmm,hxe,_⟩
 ·simp [Value.cells] at he
  rw [hll,he.2.1];simp
 ·simp [Value.cells] at he
  obtain⟨_,rfl,rfl⟩:=he
  obtain rfl:d=.slice ((List.range len).map D) ((List.range (m - len)).map fun j=>D (len+j)):=by simpa using congrArg Prod.fst hxe
  have:=sized_slice hsz hj hd ht
  rw [hb,List.length_map,List.length_range] at this
  rw [hll]
  have h2:len*k≤(len+((List.range (m - len)).map fun j=>D (len+j)).length)*k:=Nat.mul_le_mul_right _ (Nat.le_add_right _ _)
  have h3:reachBytes=140737488351232:=rfl
  omega
theorem reads_st:Reads Tryz.prog 28 Ty.st:=by
 intro H enc W fuel cs x h
 obtain⟨hl,hf⟩:=struct_fields (fs':=[(3,0,1),(3,1,1),(26,2,1)]) (by kernel_rfl) h
 rw [show(Tryz.prog).cellsOf 28=3 by kernel_rfl] at hl
 match cs,hl with
 | [a,b,c],_=>
  obtain⟨_,_,h0⟩:=hf 0 _ rfl
  obtain⟨_,_,h1⟩:=hf 1 _ rfl
  obtain⟨_,_,h2⟩:=hf 2 _ rfl
  obtain⟨x0,e0,w0⟩:=reads_int (by kernel_rfl) _ _ _ _ _ _ h0
  obtain⟨x1,e1,w1⟩:=reads_int (by kernel_rfl) _ _ _ _ _ _ h1
  obtain⟨x2,v2,e2,w2⟩:=reads_pts _ _ _ _ _ _ h2
  refine⟨⟨x0,x1,x2⟩,v2,?_,w0,w1,w2⟩
  simp at e0 e1 e2
  subst e0 e1 e2
  rfl
theorem reads_sts:Reads Tryz.prog 23 (Ty.sl Ty.st):=reads_sl reads_st (by kernel_rfl) (by kernel_rfl) (by decide)
end Go.Proofs.YthfgeelcbcgahaaGreatDoor
