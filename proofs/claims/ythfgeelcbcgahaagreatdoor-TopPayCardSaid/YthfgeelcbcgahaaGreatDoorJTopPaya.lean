/- The parts that laws are proved of, joined: G29, G30, G31, G32, T9, Trod, Trod2, Trod3, Trod4. No condition beside those that each theorem names. -/
import Derived.Test.YthfgeelcbcgahaaGreatDoorTie
import Derived.Test.YthfgeelcbcgahaaGreatDoorCards
import Derived.Deep.DeepHandedRow
import Derived.Lib.LaidTab
import Derived.Lay
import Derived.Stop.LaidErr
import Derived.Shelf.Vars
import Derived.SevenTiedAt
import Derived.Deep.Slices
import Derived.OpenShut
import Derived.Below
import Derived.ChangeOld
import Derived.ProofKit
import Derived.SizedLaws
import Derived.Test.YthfgeelcbcgahaaGreatDoorJD5a
namespace Go.Proofs.YthfgeelcbcgahaaGreatDoor
open Go.RowKit
theorem ei_st:EI Tryz.prog 23 28 3 40:=EI.mk' (z:=.agg #[.int .i64 0,.int .i64 0,.slice none 0 0]) (by kernel_rfl) (by kernel_rfl) rfl (by decide) rfl
theorem one_Tst:TOne Ty.st:=by
 rintro c cs x ⟨v,rfl,-,-,h⟩ u hu
 simp only [List.mem_cons,List.not_mem_nil,or_false] at hu
 rcases hu with rfl|rfl|rfl
 ·rfl
 ·rfl
 ·exact sl_oneCell h
theorem frag_appt {w w':World} {v v':Value} (hg:w.grownBy w' v.ownBlock) (hb:v'.ownBlock=v.ownBlock∨∃g,v'.ownBlock=some g∧w.heap.size≤g):Sub (frag w v.ownBlock) (frag w' v'.ownBlock):=by
 rcases hb with hb|⟨g,hb,hge⟩
 ·rw [hb]
  exact frag_grown hg
 ·rw [hb]
  intro ad u e
  have e':=frag_grown hg ad u e
  have hl:=World.block_lt_of_cell? w ad (frag_sub _ _ ad u e)
  unfold frag
  rw [if_neg (by intro h;have:=Option.some.inj h;omega)]
  exact frag_sub _ _ ad u e'
theorem two_parts {w W:World} {r:Option Nat} {p q:Pt} {e:Nat} (hr:r≠some w.heap.size) (hW:Grow (w.alloc (.cells #[.int .i64 p.h,.int .i64 p.k,.int .i64 p.n,.int .i64 q.h,.int .i64 q.k,.int .i64 q.n] e)) W) (hp:I64 p.h∧I64 p.k∧I64 p.n) (hq:I64 q.h∧I64 q.k∧I64 q.n):Sl Ty.pt (frag W r) (.slice (some ⟨w.heap.size,0,none⟩) 2 2) [p,q]:=
 ((OwnC.lit (T:=Ty.pt) (c:=fun _=>none) (base:=w.heap.size) (e:=e) w [p.cells,q.cells] (l:=[p,q]) rfl rfl (Nat.le_refl _) (by show 2≤maxLen;decide) rfl ⟨⟨rfl,hp⟩,⟨rfl,hq⟩,trivial⟩).grow hW).slb (by decide) (fun a v e=>by cases e) fun ad ha=>by
  have hb:ad.block=w.heap.size:=(Option.some.inj ha).symm
  unfold frag
  rw [if_neg (by rw [hb];exact fun h=>hr h.symm)]
def BothL (l:List St):Prop:=∀s∈l,s.kind=1→∃n,s.parts=[⟨0,2,n⟩,⟨2,3,n⟩]
theorem BothL.nil:BothL []:=fun s hs=>by cases hs
theorem BothL.snoc {l:List St} {x:St} (h:BothL l) (hx:x.kind=1→∃n,x.parts=[⟨0,2,n⟩,⟨2,3,n⟩]):BothL (l++ [x]):=fun s hs=>by
 rcases List.mem_append.1 hs with hs|hs
 ·exact h s hs
 ·rw [List.mem_singleton] at hs
  rw [hs]
  exact hx
def S0b:List UInt8:=[48,46,48,43,49,48,48,32,49,46,48,43,49,48,48,32,50,46,48,43,49,48,48]
theorem print0:printE P0=S0b:=by
 unfold printE P0 S0b wordOf
 have h:∀n:Nat,n<10→Lib.itoa (n:Int)=[UInt8.ofNat (48+n)]:=fun n hn=>by rw [Lib.itoa_nonneg,dec_small hn]
 have e0:Lib.itoa 0=[48]:=h 0 (by decide)
 have e1:Lib.itoa 1=[49]:=h 1 (by decide)
 have e2:Lib.itoa 2=[50]:=h 2 (by decide)
 have e100:Lib.itoa 100=[49,48,48]:=by
  show Lib.itoa ((100:Nat):Int)=_
  rw [Lib.itoa_nonneg,Lib.decDigits,dif_neg (by decide),Lib.decDigits,dif_neg (by decide),dec_small (by decide)]
  decide
 simp only [List.map_cons,List.map_nil]
 rw [e0,e1,e2,e100]
 decide
theorem parse0:parseE S0b=(P0,0):=by
 rw [←print0]
 exact parse_print (by decide)
def firstN (j:Nat):List St:=⟨1,0,P0⟩::List.replicate j ⟨2,0,[]⟩
theorem firstN_len (j:Nat):(firstN j).length=j+1:=by unfold firstN;rw [List.length_cons,List.length_replicate]
theorem firstN_snoc (j:Nat):firstN j++ [⟨2,0,[]⟩]=firstN (j+1):=by unfold firstN;rw [List.cons_append,List.replicate_succ']
set_option maxRecDepth 100000 in
set_option maxHeartbeats 2000000 in
theorem top_first (w:World) (hV:Vars w):Calls Tryz.prog 8 #[] w fun e w'=>∃v,e=.returned v∧OwnT Ty.st w' w.heap.size 28 v firstA∧Grow w w':=by
 have hp:=top_begin ⟨#[48,46,48,43,49,48,48,32,49,46,48,43,49,48,48,32,50,46,48,43,49,48,48]⟩ w hV (by show 23<4294967281;omega)
 have e8:(⟨#[48,46,48,43,49,48,48,32,49,46,48,43,49,48,48,32,50,46,48,43,49,48,48]⟩:ByteArray).data.toList=S0b:=rfl
 rw [e8,parse0] at hp
 have HP:=η hp
 clear hp e8
 go_enter Tryz.func8,Tryz.ntmps8
 go_wp2_with fail
 refine HP.o.mono ?_
 rintro e w1 ⟨v,rfl,hv,g1⟩
 have G1:=η g1
 obtain⟨wb,hwb⟩:∃y:World,y=w1.alloc (.cells #[.int .i64 1,.int .i64 0,v] 28):=⟨_,rfl⟩
 have HO1:Hid (OwnT Ty.st wb w.heap.size 28 (.slice (some ⟨w1.heap.size,0,none⟩) 1 1) (firstN 0)):=η (by
  have h9:Sub w1.cell? (frag wb (some w1.heap.size)):=frag_of_lt (by rw [hwb];exact(Grow.refl _).alloc _) (fun k hk=>by have:=Option.some.inj hk;omega)
  have:=OwnC.lit (T:=Ty.st) (c:=frag wb (some w1.heap.size)) (base:=w.heap.size) (e:=28) w1 (cs:=#[.int .i64 1,.int .i64 0,v]) [[.int .i64 1,.int .i64 0,v]] (l:=firstN 0) (g:=w1.heap.size) (n:=1) rfl rfl g1.size (by show 1≤maxLen;decide) rfl ⟨⟨v,rfl,(show I64 1 from by unfold I64;decide),(show I64 0 from by unfold I64;decide),hv.mono h9⟩,trivial⟩
  rw [←hwb] at this
  exact this)
 have G2:Hid (Grow w wb):=η (by rw [hwb];exact g1.alloc _)
 clear hv g1
 go_wp2_with fail
 (try rw [←hwb])
 clear hwb
 go_loopw [1,4] (fun s i wr=>∃j:Nat,j≤12∧i=.int .i64 j∧Grow w wr∧OwnT Ty.st wr w.heap.size 28 s (firstN j)) (fun _ i _=>12 - (intOf i).toNat)
 case atStart=>exact⟨0,by omega,rfl,G2.o,HO1.o⟩
 case round=>
  obtain⟨j,hj,rfl,hb,hown⟩:=hrel
  have HB:=η hb
  have HN:=η (firstN_snoc j)
  have HL:=η (firstN_len j)
  have HL2:=η (firstN_len (j+1))
  by_cases hj12:j<12
  ·generalize firstN j=L at*
   clear HL2
   obtain⟨av,cv,rfl⟩:=OwnC.form (c:=frag wr (Value.ownBlock _)) hown
   have HOWN:=η hown
   clear hown hb
   go_wp2_with (first|(at_builtin;refine wpList_appc (c:=frag (wr.alloc (.cells #[.int .i64 2,.int .i64 0,.slice none 0 0] 28)) (Value.slice av L.length cv).ownBlock) (base:=w.heap.size) (l:=L) (m:=[⟨2,0,[]⟩]) (v:=.slice av L.length cv) ei_st rfl one_Tst (by decide) rfl (.tmp 6) (.tmp 8) rfl rfl ?own rfl (Src.of_new (T:=Ty.st) (x:=⟨2,0,[]⟩) (cs:=#[.int .i64 2,.int .i64 0,.slice none 0 0]) ?d0 _ _ ?d1) ?d2 ?d3 ?_))
   case own=>exact HOWN.o.grow ((Grow.refl _).alloc _)
   case d0=>exact⟨_,rfl,(show I64 2 from by unfold I64;decide),(show I64 0 from by unfold I64;decide),Sl.nil _ _⟩
   case d1=>first|rfl|simp
   case d2=>have:=HL.o;simp;omega
   case d3=>have:=HB.o.size;simp;omega
   intro a9 c9 w9 ho9 hg9 hb9
   have HG9:Hid (Grow w w9):=η (grow_by (w0:=w) (HB.o.alloc _) hg9 (fun q hq=>(OwnC.lt (c:=frag wr (Value.slice av L.length cv).ownBlock) HOWN.o q hq).1))
   have ho9':OwnT Ty.st w9 w.heap.size 28 (.slice a9 (L.length+1) c9) (L++ [⟨2,0,[]⟩]):=ho9.mono (frag_appt hg9 (hb9.imp_right fun⟨g,e,hge⟩=>⟨g,e,by simpa using hge⟩))
   rw [HN.o] at ho9'
   have HO9:=η ho9'
   clear ho9 hg9 hb9 ho9'
   go_wp2
   go_roundw
   case rel=>exact⟨j+1,by omega,by go_num,HG9.o,HO9.o⟩
   case measure=>simp [intOf];omega
  ·obtain rfl:j=12:=by omega
   go_wp2
   go_ret
   exact⟨_,rfl,hown,hb⟩
theorem info_a3:(Tryz.prog.info? 29).map (·.size)=some 3:=by kernel_rfl
theorem hs_total:∀l:List Hs,totalE (l.map (·.sums))=hsSum l
 | []=>rfl
 |h::l=>by rw [List.map_cons,totalE,hsSum,hs_total l]
def PayL (l:List St):Prop:=∃R,l=firstA++R∧∀s∈R,s.kind=1→psum s.parts=0
theorem PayL.nil:PayL firstA:=⟨[],by rw [List.append_nil],fun s hs=>by cases hs⟩
theorem PayL.snoc {l:List St} {x:St} (h:PayL l) (hx:x.kind=1→psum x.parts=0):PayL (l++ [x]):=by
 obtain⟨R,rfl,hR⟩:=h
 refine⟨R++ [x],by rw [List.append_assoc],fun s hs=>?_⟩
 rcases List.mem_append.1 hs with hs|hs
 ·exact hR s hs
 ·rw [List.mem_singleton] at hs
  rw [hs]
  exact hx
theorem pay_settled {l:List St} (h:PayL l):totalE ((settledA l).houses.map (·.sums))=300:=by
 obtain⟨R,rfl,hR⟩:=h
 obtain⟨G,-,-,e⟩:=pay_law hR
 rw [hs_total]
 exact e
set_option maxRecDepth 100000 in
set_option maxHeartbeats 4000000 in
theorem topPay_walk (W:World) (hV:Vars W) {v vb:Value} {am:List Pt} {bt:List St} (hv:Pts W.cell? v am) (_:am.length*24≤140737488351232) (hb:Sl Ty.st W.cell? vb bt) (_:bt.length*40≤140737488351232):
  Calls Tryz.prog 3 #[v,vb] W fun e w'=>e=.returned (.bool true)∧Grow W w':=by
 have HV:=η hV
 obtain⟨ai,ci,rfl,i1,i2,-,hei⟩:=hv
 obtain⟨as_,cs,rfl,h1,h2,-,hel⟩:=hb
 have HEI:=η hei
 have HEL:=η hel
 unfold maxLen at i2 h2
 clear hV hel hei
 go_enter Tryz.func3,Tryz.ntmps3
 go_wp2_with fail
 refine(alive_top W HV.o).mono ?_
 rintro e w1 ⟨rfl,g1⟩
 have G1:=η g1
 clear g1
 by_cases hl:20<am.length
 ·go_wp2
  go_ret
  exact⟨rfl,G1.o⟩
 by_cases hl2:80<bt.length
 ·go_wp2
  go_ret
  exact⟨rfl,G1.o⟩
 have HF:=η (top_first w1 (HV.o.grow G1.o))
 go_wp2_with fail
 refine HF.o.mono ?_
 rintro e w2 ⟨vf,rfl,hof,g2⟩
 have HOF:=η hof
 obtain⟨a0,cf,rfl⟩:=OwnC.form (c:=frag w2 (Value.ownBlock _)) hof
 have G2':=η g2
 clear hof g2 HF
 go_wp2
 go_loopw [5,6,7,8,24] (fun s _ _ _ i wr=>∃(k:Nat) (L:List St),k≤bt.length∧i=.int .i64 k∧Grow w1 wr∧OwnT Ty.st wr w1.heap.size 28 s L∧L.length≤13+2*k∧(am.length<k→L.length≤13+k+am.length)∧PayL L) (fun _ _ _ _ i _=>bt.length - (intOf i).toNat)
 case atStart=>exact⟨0,firstA,by omega,rfl,G2'.o,HOF.o,by decide,fun h=>by omega,PayL.nil⟩
 case round=>
  obtain⟨k,L,hk',rfl,hb,hown,hlk,hlk2,hbo⟩:=hrel
  obtain⟨av,cv,rfl⟩:=OwnC.form (c:=frag wr (Value.ownBlock _)) hown
  have HOWN:=η hown
  have HLK:=η (And.intro hlk hlk2)
  have HBO:=η hbo
  clear hlk hlk2 hbo hown
  by_cases hlt:k<bt.length
  ·obtain⟨b,o,vp,rfl,c0,c1,c2,i0,i1',hP⟩:=Sts.at_ HEL.o k hlt
   obtain⟨ap,cp,rfl,-⟩:=id hP
   have HI:=η (And.intro i0 (And.intro i1' hP))
   replace c0:=hb.sub _ _ (G1.o.sub _ _ c0)
   replace c1:=hb.sub _ _ (G1.o.sub _ _ c1)
   replace c2:=hb.sub _ _ (G1.o.sub _ _ c2)
   generalize hp:bt[k]=p at*
   obtain⟨pk,pn,pp⟩:=p
   clear hp i0 i1' hP
   dsimp only at c0 c1 c2 HI
   have R9:=row_new wr (.cells #[.int .i64 0,.int .i64 0,.slice none 0 0] 28)
   go_wp2_with (first|(refine wpList_store_row rfl (.tmp 7) (.tmp 28) rfl rfl rfl R9 info_st rfl rfl ?_))
   clear R9 c0 c1 c2
   intro w5 r5 g5
   obtain⟨B5,hB5⟩:∃B,B=wr.heap.size:=⟨_,rfl⟩
   rw [←hB5] at r5
   rw [←hB5]
   have G5:Hid (Grow wr w5):=η (((Grow.refl wr).alloc _).grown g5 (fun q hq=>by simp at hq;omega))
   have HB:=η hb
   obtain⟨d0,d1,d2⟩:=cells3 r5
   clear r5 g5 hB5 hb
   by_cases hk1:pk=1
   ·subst hk1
    go_wp2
    go_ret
    exact⟨rfl,G1.o.trans (HB.o.trans G5.o)⟩
   have b1:(pk==1)=false:=by simp [hk1]
   have HK1:=η hk1
   clear hk1
   go_wp2_with (first|(at_builtin;refine wpList_appc (c:=frag (w5.alloc (.cells #[.int .i64 pk,.int .i64 pn,.slice ap pp.length cp] 28)) (Value.slice av L.length cv).ownBlock) (base:=w1.heap.size) (l:=L) (m:=[⟨pk,pn,pp⟩]) (v:=.slice av L.length cv) ei_st rfl one_Tst (by decide) rfl (.tmp 32) (.tmp 34) rfl rfl ?own rfl (Src.of_new (T:=Ty.st) (x:=⟨pk,pn,pp⟩) (cs:=#[.int .i64 pk,.int .i64 pn,.slice ap pp.length cp]) ?d0 _ _ ?d1) ?d2 ?d3 ?_))
   case own=>exact HOWN.o.grow (G5.o.alloc _)
   case d0=>exact⟨_,rfl,HI.o.1,HI.o.2.1,HI.o.2.2.mono (frag_of_lt (G1.o.trans (HB.o.trans (G5.o.alloc _))) (fun q hq=>Nat.le_trans G1.o.size (OwnC.lt (c:=frag wr (Value.slice av L.length cv).ownBlock) HOWN.o q hq).1))⟩
   case d1=>first|rfl|simp
   case d2=>have:=HLK.o.1;simp;omega
   case d3=>have:=HB.o.size;have:=G5.o.size;simp;omega
   intro a9 c9 w9 ho9 hg9 hb9
   have HG9:Hid (Grow w1 w9):=η (grow_by (w0:=w1) ((HB.o.trans G5.o).alloc _) hg9 (fun q hq=>(OwnC.lt (c:=frag wr (Value.slice av L.length cv).ownBlock) HOWN.o q hq).1))
   have ho9':OwnT Ty.st w9 w1.heap.size 28 (.slice a9 (L.length+1) c9) (L++ [⟨pk,pn,pp⟩]):=ho9.mono (frag_appt hg9 (hb9.imp_right fun⟨g,e,hge⟩=>⟨g,e,by simpa using hge⟩))
   have HO9:=η ho9'
   have HBO9:Hid (PayL (L++ [⟨pk,pn,pp⟩])):=η (HBO.o.snoc fun h=>absurd h HK1.o)
   have HL9:Hid ((L++ [(⟨pk,pn,pp⟩:St)]).length=L.length+1):=η (by simp)
   clear ho9 hg9 hb9 ho9' d0 d1 d2 b1 HBO
   generalize L++ [(⟨pk,pn,pp⟩:St)]=L9 at*
   by_cases hik:k<am.length
   ·obtain⟨b',o',rfl,c0,c1,c2,ia,ib,ic⟩:=Pts.at_ HEI.o k hik
    replace c0:=HG9.o.sub _ _ (G1.o.sub _ _ c0)
    replace c1:=HG9.o.sub _ _ (G1.o.sub _ _ c1)
    replace c2:=HG9.o.sub _ _ (G1.o.sub _ _ c2)
    generalize am[k]=p at*
    obtain⟨ph,pq,n⟩:=p
    dsimp only at c0 c1 c2 ia ib ic
    have HI9:=η (And.intro ia (And.intro ib ic))
    clear ia ib ic
    have RA:=row_new w9 (.cells #[.int .i64 0,.int .i64 0,.int .i64 0] 29)
    go_wp2_with (first|(refine wpList_store_row rfl (.tmp 8) (.tmp 43) rfl rfl rfl RA info_a3 rfl rfl ?_))
    clear RA c0 c1 c2
    intro w8 r8 g8
    obtain⟨B8,hB8⟩:∃B,B=w9.heap.size:=⟨_,rfl⟩
    rw [←hB8] at r8
    rw [←hB8]
    have G8:Hid (Grow w9 w8):=η (((Grow.refl w9).alloc _).grown g8 (fun q hq=>by simp at hq;omega))
    obtain⟨d0,d1,d2⟩:=cells3 r8
    clear r8 g8 hB8
    have hw:(ph<0)∨(0≤ph∧2<ph)∨(0≤ph∧ph≤2∧pq<0)∨(0≤ph∧ph≤2∧0≤pq∧2<pq)∨(0≤ph∧ph≤2∧0≤pq∧pq≤2∧ph=pq)∨(0≤ph∧ph≤2∧0≤pq∧pq≤2∧ph≠pq∧n<0)∨(0≤ph∧ph≤2∧0≤pq∧pq≤2∧ph≠pq∧0≤n∧1000<n)∨(0≤ph∧ph≤2∧0≤pq∧pq≤2∧ph≠pq∧0≤n∧n≤1000):=by omega
    rcases hw with hw|⟨u1,hw⟩|⟨u1,u2,hw⟩|⟨u1,u2,u3,hw⟩|⟨u1,u2,u3,u4,hw⟩|⟨u1,u2,u3,u4,u5,hw⟩|⟨u1,u2,u3,u4,u5,u6,hw⟩|⟨u1,u2,u3,u4,u5,u6,hw⟩
    iterate 4 (· (go_wp2;go_ret;exact⟨rfl,G1.o.trans (HG9.o.trans G8.o)⟩))
    ·subst hw
     go_wp2
     go_ret
     exact⟨rfl,G1.o.trans (HG9.o.trans G8.o)⟩
    iterate 2 (· (have b5:(ph==pq)=false:=(by simp [u5]);go_wp2;go_ret;exact⟨rfl,G1.o.trans (HG9.o.trans G8.o)⟩))
    have b5:(ph==pq)=false:=by simp [u5]
    have HU5:=η u5
    have HU:=η (And.intro u1 (And.intro u2 (And.intro u3 (And.intro u4 (And.intro u6 hw)))))
    clear u5
    go_wp2_with (first|(at_builtin;refine wpList_appc (c:=frag ((w8.alloc (.cells #[.int .i64 ph,.int .i64 0,.int .i64 (-n),.int .i64 pq,.int .i64 0,.int .i64 n] 31)).alloc (.cells #[.int .i64 1,.int .i64 0,.slice (some ⟨w8.heap.size,0,none⟩) 2 2] 28)) (Value.slice a9 (L.length+1) c9).ownBlock) (base:=w1.heap.size) (l:=L9) (m:=[⟨1,0,[⟨ph,0,-n⟩,⟨pq,0,n⟩]⟩]) (v:=.slice a9 (L.length+1) c9) ei_st rfl one_Tst (by decide) rfl (.tmp 79) (.tmp 93) rfl rfl ?own rfl (Src.of_new (T:=Ty.st) (x:=⟨1,0,[⟨ph,0,-n⟩,⟨pq,0,n⟩]⟩) (cs:=#[.int .i64 1,.int .i64 0,.slice (some ⟨w8.heap.size,0,none⟩) 2 2]) ?d0 _ _ ?d1) ?d2 ?d3 ?_))
    case own=>exact HO9.o.grow ((G8.o.alloc _).alloc _)
    case d0=>exact⟨_,rfl,(show I64 1 from by unfold I64;decide),(show I64 0 from by unfold I64;decide),two_parts (p:=⟨ph,0,-n⟩) (q:=⟨pq,0,n⟩) (fun e=>by have:=(OwnC.lt (c:=frag w9 (Value.slice a9 (L.length+1) c9).ownBlock) HO9.o _ e).2;have:=G8.o.size;omega) ((Grow.refl _).alloc _) ⟨HI9.o.1,(show I64 0 from by unfold I64;decide),(show I64 (-n) from i64_oft (by have:=HU.o;omega) (by have:=HU.o;omega))⟩ ⟨HI9.o.2.1,(show I64 0 from by unfold I64;decide),HI9.o.2.2⟩⟩
    case d1=>first|rfl|simp
    case d2=>have:=HLK.o.1;have:=HL9.o;simp;omega
    case d3=>have:=HG9.o.size;have:=G8.o.size;simp;omega
    intro a7 c7 w7 ho7 hg7 hb7
    have HG7:Hid (Grow w1 w7):=η (grow_by (w0:=w1) (((HG9.o.trans G8.o).alloc _).alloc _) hg7 (fun q hq=>(OwnC.lt (c:=frag w9 (Value.slice a9 (L.length+1) c9).ownBlock) HO9.o q hq).1))
    have ho7':OwnT Ty.st w7 w1.heap.size 28 (.slice a7 (L9.length+1) c7) (L9++ [⟨1,0,[⟨ph,0,-n⟩,⟨pq,0,n⟩]⟩]):=ho7.mono (frag_appt hg7 (hb7.imp_right fun⟨g,e,hge⟩=>⟨g,e,by simpa using hge⟩))
    have HO7:=η ho7'
    clear ho7 hg7 hb7 ho7' d0 d1 d2 b5
    go_wp2
    go_roundw
    case rel=>exact⟨k+1,L9++ [⟨1,0,[⟨ph,0,-n⟩,⟨pq,0,n⟩]⟩],by omega,by go_num,HG7.o,HO7.o,by have:=HL9.o;have:=HLK.o;simp;omega,fun h=>by omega,HBO9.o.snoc fun _=>by show -n+(n+0)=0;omega⟩
    case measure=>simp [intOf];omega
   ·go_wp2
    go_roundw
    case rel=>exact⟨k+1,L9,by omega,by go_num,HG9.o,by(first|exact HO9.o|(rw [HL9.o];exact HO9.o)),by have:=HL9.o;have:=HLK.o;omega,fun h=>by have:=HL9.o;have:=HLK.o;by_cases e:am.length<k;(· have:=this.2 e;omega);(· omega),HBO9.o⟩
    case measure=>simp [intOf];omega
  ·have hls:L.length≤150:=by
    have:=HLK.o
    by_cases e:am.length<k
    ·have:=this.2 e;omega
    ·omega
   have HSE:=η (top_settled wr (OwnT.sl (by decide) HOWN.o) hls)
   have HL:=η hls
   have HL3:=η (settled_ok hls).2.2.2
   have G2:=η (G1.o.trans hb)
   clear hls hb
   go_wp2_with fail
   refine HSE.o.mono ?_
   rintro e w3 ⟨v3,rfl,hx,g3⟩
   have HX:=η hx
   obtain⟨al,cl,ao,co,ah,ch,an,cn,rfl⟩:=hx.wd_form
   have G3:=η (G2.o.trans g3)
   clear hx g3 HSE
   have R1:=row_new w3 (.cells #[.slice none 0 0,.int .i64 0,.int .i64 0,.slice none 0 0,.slice none 0 0,.slice none 0 0] 39)
   go_wp2_with (first|(refine wpList_store_row rfl (.tmp 9) (.tmp 99) rfl rfl rfl R1 info_wd rfl rfl ?_))
   clear R1
   intro w5 r5 g5
   obtain⟨B,hB⟩:∃B,B=w3.heap.size:=⟨_,rfl⟩
   rw [←hB] at r5
   rw [←hB]
   have G5:Hid (Grow w3 w5):=η (((Grow.refl w3).alloc _).grown g5 (fun q hq=>by simp at hq;omega))
   have R5:=η r5
   clear r5 g5 hB
   obtain⟨S,hsum⟩:∃T,T=(settledA L).houses.map (·.sums):=⟨_,rfl⟩
   have HT:Hid (∀W v,Sms W.cell? v S→Calls Tryz.prog 11 #[v] W fun e w'=>e=.returned (.int .i64 300)∧Grow W w'):=η (fun W v hv=>by rw [hsum] at hv;have:=top_total HL.o W hv;rwa [pay_settled HBO.o] at this)
   have HE:=η (fun(W:World) (hW:Grow w3 W)=>top_even HL.o W (HX.o.mono hW.sub))
   have HU:Hid (∀W,Grow w3 W→Calls Tryz.prog 12 #[.agg #[.slice al (settledA L).head.log.length cl,.int .i64 (settledA L).head.boot,.int .i64 (settledA L).head.next,.slice ao (settledA L).head.opn.length co,.slice ah (settledA L).houses.length ch,.slice an (settledA L).net.length cn]] W fun e w'=>∃v',e=.returned v'∧Sms w'.cell? v' S∧Grow W w'):=η (fun W hW=>by rw [hsum];exact top_sums HL.o W (HX.o.mono hW.sub))
   clear hsum HL3
   obtain⟨x1,x2,x3,x4,x5,x6⟩:=cells6 R5.o
   go_wp2_with fail
   refine(HE.o _ G5.o).mono ?_
   rintro e w6 ⟨rfl,g6⟩
   have G6:=η (G5.o.trans g6)
   have R6:=η (row_grow R5.o g6)
   clear x1 x2 x3 x4 x5 x6 g6 HE R5
   obtain⟨x1,x2,x3,x4,x5,x6⟩:=cells6 R6.o
   go_wp2_with fail
   refine(HU.o _ G6.o).mono ?_
   rintro e w7 ⟨v7,rfl,hv7,g7⟩
   have HT7:=η (HT.o _ _ hv7)
   obtain⟨a7,c7,rfl,-⟩:=id hv7
   have G7:=η (G6.o.trans g7)
   clear x1 x2 x3 x4 x5 x6 g7 hv7 R6
   go_wp2_with fail
   refine HT7.o.mono ?_
   rintro e w8 ⟨rfl,g8⟩
   go_wp2
   go_ret
   exact⟨rfl,(G3.o.trans G7.o).trans g8⟩
end Go.Proofs.YthfgeelcbcgahaaGreatDoor
namespace Go.Proofs.YthfgeelcbcgahaaGreatDoor
open Go.ChangeShapes Go.WideShapes Go.ChangeAt Go.RowKit
def laidList:List (String × DataW Unit):=[("math/bits.deBruijn32tab",Rows.laid_math_bits_deBruijn32tab),("math/bits.deBruijn64tab",Rows.laid_math_bits_deBruijn64tab),("internal/strconv.uint64pow10",Rows.laid_internal_strconv_uint64pow10),("unicode/utf8.acceptRanges",Rows.laid_unicode_utf8_acceptRanges),("strconv.ErrRange",Rows.laid_strconv_ErrRange),("strconv.ErrSyntax",Rows.laid_strconv_ErrSyntax),("unicode/utf8.first",Rows.laid_unicode_utf8_first)]
theorem starE: "*" ++ "errors.errorString" = "*errors.errorString":=by decide
theorem rowErr (u:TypeId) (h:Tryz.prog.typeName? 3 u = some "*errors.errorString"):u = 241:=
 typeName_ptr_named (nm:= "errors.errorString") (by rw [starE];kernel_rfl) (by kernel_rfl) (by decide) u (by rw [starE];exact h)
theorem var_lt {W:World} {n:String} {g:Nat} {v:Value} {l:List Value} (hg:Tryz.prog.globalNamed n=some g) (h:W.var? Tryz.prog n=some (v::l).toArray):g<W.heap.size:=
 World.block_lt_of_cell? W (a:=⟨g,0,none⟩) (show W.cell? ⟨g,0,none⟩=some v by have:=World.var?_cell hg h 0;simpa using this)
theorem vars_of {W:World} (h:laidMetH Tryz.prog laidList W) (hs:W.ShapedOpen Tryz.prog):Vars W:=by
 rw [MakeChecks.laidMetH_plain _ _ _ (by kernel_rfl)] at h
 have htab:Lib.TabIs Tryz.prog W "internal/strconv.uint64pow10" .u64 Lib.pow10Tab:=
  Lib.tabIs_of_head (show Tryz.prog.globalNamed "internal/strconv.uint64pow10" = some 5 by kernel_rfl) (show (Tryz.prog.globals[5]?).map (·.type) = some 245 by kernel_rfl)
   (show Tryz.prog.underlying 245=some (.array 20 193) by kernel_rfl) (show Tryz.prog.underlying 193=some (.int .u64) by kernel_rfl) (by kernel_rfl) (by kernel_rfl) h.tail.tail
 obtain ⟨a0,s0,hv0,-,-,-⟩:=laid_sentinel h.tail.tail.tail.tail (show Tryz.prog.globalNamed "strconv.ErrRange" = some 2 by kernel_rfl) (show (Tryz.prog.globals[2]?).map (·.type) = some 122 by kernel_rfl) Tryz.underlying122 rowErr Tryz.underlying241 Tryz.underlying243 rfl rfl Tryz.underlying9 (by kernel_rfl) (by kernel_rfl)
 obtain ⟨a1,s1,hv1,-,-,-⟩:=laid_sentinel h.tail.tail.tail.tail.tail (show Tryz.prog.globalNamed "strconv.ErrSyntax" = some 1 by kernel_rfl) (show (Tryz.prog.globals[1]?).map (·.type) = some 122 by kernel_rfl) Tryz.underlying122 rowErr Tryz.underlying241 Tryz.underlying243 rfl rfl Tryz.underlying9 (by kernel_rfl) (by kernel_rfl)
 have hm:=cell_of_shapedOpen_int (g:=0) (t:=3) (zero:=#[.int .i64 0]) (k:=.i64) hs (of_decide_eq_true (by kernel_rfl)) (by kernel_rfl) rfl (by kernel_rfl) (by kernel_rfl) (by kernel_rfl)
 refine⟨hm,htab,⟨_,_,hv1⟩,⟨_,_,hv0⟩,?_,?_,?_,?_⟩
 ·obtain⟨m,hm⟩:=hm
  exact World.block_lt_of_cell? W _ hm
 ·exact var_lt (by kernel_rfl) htab
 ·exact var_lt (l:=[]) (by kernel_rfl) hv1
 ·exact var_lt (l:=[]) (by kernel_rfl) hv0
set_option maxRecDepth 100000 in
theorem card_witness {H:Type} {enc:TypeId×Value→H} {os:Os} {f:FuncId} {fn:Func} {s:OpenSpec} {laid:List (String×DataW Unit)} (args:Array Value)
  (hv:((World.laidAll Tryz.prog os laid).forCall (fun _ _=>0) ⟨#[],args,[]⟩).variablesZipB Tryz.prog=true)
  (hr:(((World.laidAll Tryz.prog os laid).forCall (fun _ _=>0) ⟨#[],args,[]⟩).heap.toList.drop Tryz.prog.globals.size).take ((begin Tryz.prog (fun _ _=>0) default).world.heap.size - Tryz.prog.globals.size)=(begin Tryz.prog (fun _ _=>0) default).world.heap.toList.drop Tryz.prog.globals.size)
  (hok:Input.okWideB Tryz.prog ((World.laidAll Tryz.prog os laid).forCall (fun _ _=>0) ⟨#[],args,[]⟩) f ⟨#[],args,[]⟩=true)
  (hrow:s.preRow enc Tryz.prog fn [] false laid ((World.laidAll Tryz.prog os laid).forCall (fun _ _=>0) ⟨#[],args,[]⟩).memory args):
  ∃(w:World) (tape:Tape) (i:Input),w.os=os∧(w.forCall tape i).Shaped Tryz.prog∧i.vars=[]∧Input.okWide Tryz.prog (w.forCall tape i) .any w.heap.size f i∧
   s.preRow enc Tryz.prog fn [] false laid (w.forCall tape i).memory i.args∧({}:Assume).holds Tryz.prog (lone (Frame.enter Tryz.prog f i.args .normal) [] (w.forCall tape i)):=
 ⟨World.laidAll Tryz.prog os laid,fun _ _=>0,⟨#[],args,[]⟩,World.laidAll_os _ _ _,World.shaped_of_ZipB hv hr,(Input.okWide_of_okWideB (base:=0) hok).1,(Input.okWide_of_okWideB hok).2,hrow,by
  simp only [Assume.holds]
  exact⟨by simp,by simp,fun _=>Modest.zero,by simp,by simp⟩⟩
theorem laid_met (os:Os) (args:Array Value):laidMetH Tryz.prog laidList ((World.laidAll Tryz.prog os laidList).forCall (fun _ _=>0) ⟨#[],args,[]⟩).memory:=by
 rw [MakeChecks.laidMetH_plain _ _ _ (by kernel_rfl)]
 exact laidMet_laidAll _ (by kernel_rfl) (by kernel_rfl)
end Go.Proofs.YthfgeelcbcgahaaGreatDoor
namespace Go.Proofs.YthfgeelcbcgahaaGreatDoor
open Go.RowKit Go.ChangeShapes Go.WideShapes Go.ChangeAt
def Reads {α:Type} (P:Program) (t:TypeId) (T:Ty α):Prop:=∀(H:Type) (enc:TypeId×Value→H) (W:World) (fuel:Nat) (cs:List Value) (x:DataW H×List MemPlace),
 DataW.trod enc P W 0 (fun _=>true) true fuel t cs=some x→∃y,T.R W.cell? cs y
theorem reads_int {P:Program} {t:TypeId} (ht:P.underlying t=some (.int .i64)):Reads P t Ty.int:=by
 intro H enc W fuel cs x h
 obtain⟨n,rfl,_,hw⟩:=DataW.trod_int ht h
 exact⟨n,rfl,hw⟩
theorem reads_sl {α:Type} {P:Program} {t e:TypeId} {T:Ty α} (hR:Reads P e T) (ht:P.underlying t=some (.slice e)) (hc:P.cellsOf e=T.size) (h0:0<T.size):Reads P t T.sl:=by
 intro H enc W fuel cs x h
 rcases Deep.open_slice ht h with⟨rfl,_⟩|⟨a,len,cap,m,n,D,Pl,rfl,_,hl,hm,hmm,hxe,hx⟩
 ·exact⟨[],_,rfl,none,0,rfl,Nat.le_refl _,Nat.zero_le _,fun _=>rfl,fun i x e=>by simp at e⟩
 ·simp only [if_true] at hmm
  subst m
  have h2:∀i,i<len→∃(p:List Value×α),T.R W.cell? p.1 p.2∧W.cells? 0 (a.add (i*T.size)) T.size=some p.1:=by
   intro i hi
   obtain⟨cs',h1,h2⟩:=hx i (by omega)
   obtain⟨y,hy⟩:=hR H enc W n cs' _ h2
   rw [hc] at h1
   exact⟨(cs',y),hy,h1⟩
  have h3:∃l:List α,l.length=len∧∀i y,l[i]? =some y→∃cs',T.R W.cell? cs' y∧W.cells? 0 (a.add (i*T.size)) T.size=some cs':=by
   clear hx hl h hxe
   induction len with
   |zero=>exact⟨[],rfl,by simp⟩
   |succ len ih=>
    obtain⟨l,hl,hi⟩:=ih (by intro i hi;exact h2 i (by omega))
    obtain⟨⟨cs',y⟩,hy,h1⟩:=h2 len (by omega)
    refine⟨l++ [y],by simp [hl],fun i z hz=>?_⟩
    rcases Nat.lt_or_ge i l.length with hlt|hge
    ·rw [List.getElem?_append_left hlt] at hz;exact hi i z hz
    ·have hb:=(List.getElem?_eq_some_iff.1 hz).1
     simp at hb
     obtain rfl:i=len:=by omega
     rw [List.getElem?_append_right hge,hl] at hz
     simp at hz
     subst hz
     exact⟨cs',hy,h1⟩
  obtain⟨l,hlen,hl2⟩:=h3
  refine⟨l,_,rfl,some a,cap,by rw [hlen],by omega,hm,by simp,fun i y hy=>?_⟩
  obtain⟨cs',hR',hcs⟩:=hl2 i y hy
  obtain⟨_,hlen',hat⟩:=World.cells?_some hcs
  have hpos:0<l.length:=by have:=(List.getElem?_eq_some_iff.1 hy).1;omega
  obtain⟨cs0,_,hcs0⟩:=hl2 0 l[0] (List.getElem?_eq_getElem hpos)
  obtain⟨_,hlen0,hat0⟩:=World.cells?_some hcs0
  have hfirst:=hat0 0 h0
  rw [List.getElem?_eq_getElem (by omega)] at hfirst
  have hsp:=World.cell?_spot hfirst
  obtain⟨b,o,s⟩:=a
  have hs:s=none:=by simpa [Addr.add] using hsp
  subst hs
  refine⟨b,o,cs',rfl,hR',fun j u hu=>?_⟩
  have hj:j<T.size:=by rw [←hlen'];exact(List.getElem?_eq_some_iff.1 hu).1
  have:=hat j hj
  rw [Addr.add_lit,Addr.add_lit,hu] at this
  exact this
def structOf (P:Program) (t:TypeId):Option (List (TypeId×Nat×Nat)):=
 match P.underlying t with
 |some (.struct fs)=>some (fs.toList.map fun f=>(f.type,f.offset,P.cellsOf f.type))
 |_=>none
theorem struct_fields {P:Program} {t:TypeId} {fs':List (TypeId×Nat×Nat)} (hs:structOf P t=some fs') {H:Type} {enc:TypeId×Value→H} {W:World} {fuel:Nat} {cs:List Value} {x:DataW H×List MemPlace}
  (h:DataW.trod enc P W 0 (fun _=>true) true fuel t cs=some x):cs.length=P.cellsOf t∧∀(i:Nat) (f:TypeId×Nat×Nat),fs'[i]? =some f→∃n y,DataW.trod enc P W 0 (fun _=>true) true n f.1 ((cs.drop f.2.1).take f.2.2)=some y:=by
 unfold structOf at hs
 split at hs
 ·rename_i fs hu
  obtain rfl:=Option.some.inj hs
  obtain⟨xs,n,_,_,hl,hlen,hf⟩:=DataW.trod_struct hu h
  refine⟨hl,fun i f hi=>?_⟩
  rw [List.getElem?_map] at hi
  cases hfi:fs.toList[i]? with
  |none=>rw [hfi] at hi;cases hi
  |some fd=>
   rw [hfi] at hi
   obtain rfl:=Option.some.inj hi
   have hfi':fs[i]? =some fd:=by simpa using hfi
   have hlt:i<xs.length:=by rw [hlen];exact(Array.getElem?_eq_some_iff.1 hfi').1
   have:=hf i fd hfi'
   rw [List.getElem?_eq_getElem hlt] at this
   exact⟨n,_,this⟩
 ·cases hs
theorem reads_pt:Reads Tryz.prog 31 Ty.pt:=by
 intro H enc W fuel cs x h
 obtain⟨hl,hf⟩:=struct_fields (fs':=[(3,0,1),(3,1,1),(3,2,1)]) (by kernel_rfl) h
 rw [show(Tryz.prog).cellsOf 31=3 by kernel_rfl] at hl
 match cs,hl with
 | [a,b,c],_=>
  obtain⟨_,_,h0⟩:=hf 0 _ rfl
  obtain⟨_,_,h1⟩:=hf 1 _ rfl
  obtain⟨_,_,h2⟩:=hf 2 _ rfl
  obtain⟨x0,e0,w0⟩:=reads_int (by kernel_rfl) _ _ _ _ _ _ h0
  obtain⟨x1,e1,w1⟩:=reads_int (by kernel_rfl) _ _ _ _ _ _ h1
  obtain⟨x2,e2,w2⟩:=reads_int (by kernel_rfl) _ _ _ _ _ _ h2
  refine⟨⟨x0,x1,x2⟩,?_,w0,w1,w2⟩
  simp at e0 e1 e2
  subst e0 e1 e2
  rfl
theorem reads_pts:Reads Tryz.prog 26 Ty.pts:=reads_sl reads_pt (by kernel_rfl) (by kernel_rfl) (by decide)
theorem arg_sl {α:Type} {P:Program} {t e:TypeId} {T:Ty α} (hR:Reads P t T.sl) (ht:P.underlying t=some (.slice e)) {H:Type} {enc:TypeId×Value→H} {W:World} {r:Reach} {b:Nat} {v:Value} {d:DataW H} {p:List MemPlace}
  (hval:Value.okWide P W r b t v) (h:DataW.Trod enc P W 0 (fun _=>true) true t v d p):∃l,Sl T W.cell? v l:=by
 obtain⟨a,len,cap,rfl⟩:=okWide_slice ht hval
 obtain⟨fuel,hf⟩:=h
 obtain⟨l,v,e,hv⟩:=hR _ _ _ _ _ _ hf
 simp [Value.cells] at e
 subst e
 exact⟨l,hv⟩
theorem own:ownKnob (Tryz.prog).godebug=none:=by kernel_rfl
theorem laidOut:laidOutB Tryz.prog=true:=by kernel_rfl
end Go.Proofs.YthfgeelcbcgahaaGreatDoor
namespace Go.Proofs.YthfgeelcbcgahaaGreatDoor
open Go.RowKit Go.ChangeShapes Go.WideShapes Go.ChangeAt
theorem sl_len {α:Type} {T:Ty α} {c:CM} {a:Option Addr} {n cap:Nat} {l:List α} (h:Sl T c (.slice a n cap) l):l.length=n:=by
 obtain⟨a',cap',he,_⟩:=h
 simp only [Value.slice.injEq] at he
 exact he.2.1.symm
theorem arg_size {α:Type} {P:Program} {t e:TypeId} {T:Ty α} {k:Nat} (ht:P.underlying t=some (.slice e)) (hb:P.bytesOf e=k) {H:Type} {enc:TypeId×Value→H} {W:World} {r:Reach} {b:Nat} {v:Value} {d:DataW H} {p:List MemPlace} {ts:List TypeId} {ds:List (DataW H)} {j:Nat}
  (hsz:(DataW.weightsEach P ts ds).all (· ≤reachBytes)=true) (hj:ts[j]? =some t) (hd:ds[j]? =some d)
  (hval:Value.okWide P W r b t v) (h:DataW.Trod enc P W 0 (fun _=>true) true t v d p) {l:List α} (hl:Sl T W.cell? v l):l.length*k≤140737488351232:=by
 obtain⟨a,len,cap,rfl⟩:=okWide_slice ht hval
 obtain⟨fuel,hf⟩:=h
 have hll:=sl_len hl
 rcases Deep.open_slice ht hf with⟨he,_⟩|⟨a',len',cap',m,n,D,Pl,he,_,hlc,_,hmm,hxe,_⟩
 ·simp [Value.cells] at he
  rw [hll,he.2.1];simp
 ·simp [Value.cells] at he
  obtain⟨_,rfl,rfl⟩:=he
  obtain rfl:d=.slice ((List.range len).map D) ((List.range (m - len)).map fun j=>D (len+j)):=by simpa using congrArg Prod.fst hxe
  have:=sized_slice hsz hj hd ht
  rw [hb,List.length_map,List.length_range] at this
  rw [hll]
  have h2:len*k≤(len+((List.range (m - len)).map fun j=>D (len+j)).length)*k:=Nat.mul_le_mul_right _ (Nat.le_add_right _ _)
  have h3:reachBytes=140737488351232:=rfl
  omega
theorem reads_st:Reads Tryz.prog 28 Ty.st:=by
 intro H enc W fuel cs x h
 obtain⟨hl,hf⟩:=struct_fields (fs':=[(3,0,1),(3,1,1),(26,2,1)]) (by kernel_rfl) h
 rw [show(Tryz.prog).cellsOf 28=3 by kernel_rfl] at hl
 match cs,hl with
 | [a,b,c],_=>
  obtain⟨_,_,h0⟩:=hf 0 _ rfl
  obtain⟨_,_,h1⟩:=hf 1 _ rfl
  obtain⟨_,_,h2⟩:=hf 2 _ rfl
  obtain⟨x0,e0,w0⟩:=reads_int (by kernel_rfl) _ _ _ _ _ _ h0
  obtain⟨x1,e1,w1⟩:=reads_int (by kernel_rfl) _ _ _ _ _ _ h1
  obtain⟨x2,v2,e2,w2⟩:=reads_pts _ _ _ _ _ _ h2
  refine⟨⟨x0,x1,x2⟩,v2,?_,w0,w1,w2⟩
  simp at e0 e1 e2
  subst e0 e1 e2
  rfl
theorem reads_sts:Reads Tryz.prog 23 (Ty.sl Ty.st):=reads_sl reads_st (by kernel_rfl) (by kernel_rfl) (by decide)
end Go.Proofs.YthfgeelcbcgahaaGreatDoor
namespace Go.Proofs.YthfgeelcbcgahaaGreatDoor
open Go.RowKit
theorem reads_a3:Reads Tryz.prog 29 Ty.pt:=by
 intro H enc W fuel cs x h
 obtain⟨xs,m,_,_,hl,hx,hf⟩:=DataW.trod_array (n:=3) (e:=3) (by kernel_rfl) h
 rw [show(Tryz.prog).cellsOf 29=3 by kernel_rfl] at hl
 rw [show(Tryz.prog).cellsOf 3=1 by kernel_rfl] at hf
 match cs,hl with
 | [a,b,c],_=>
  have g:∀i,i<3→∃y,DataW.trod enc Tryz.prog W 0 (fun _=>true) true m 3 (([a,b,c].drop (i*1)).take 1)=some y:=fun i hi=>by
   rw [hf i hi];exact⟨xs[i]'(by omega),List.getElem?_eq_getElem (by omega)⟩
  obtain⟨_,h0⟩:=g 0 (by decide)
  obtain⟨_,h1⟩:=g 1 (by decide)
  obtain⟨_,h2⟩:=g 2 (by decide)
  obtain⟨x0,e0,w0⟩:=reads_int (by kernel_rfl) _ _ _ _ _ _ h0
  obtain⟨x1,e1,w1⟩:=reads_int (by kernel_rfl) _ _ _ _ _ _ h1
  obtain⟨x2,e2,w2⟩:=reads_int (by kernel_rfl) _ _ _ _ _ _ h2
  refine⟨⟨x0,x1,x2⟩,?_,w0,w1,w2⟩
  simp at e0 e1 e2
  subst e0 e1 e2
  rfl
theorem reads_pays:Reads Tryz.prog 22 (Ty.sl Ty.pt):=reads_sl reads_a3 (by kernel_rfl) (by kernel_rfl) (by decide)
end Go.Proofs.YthfgeelcbcgahaaGreatDoor
