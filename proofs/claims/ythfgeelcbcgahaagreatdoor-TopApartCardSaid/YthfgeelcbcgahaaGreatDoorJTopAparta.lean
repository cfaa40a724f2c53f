/- The parts that laws are proved of, joined: G29, G30, Q13, G33, T9, Trod, Trod2, Trod3. No condition beside those that each theorem names. -/
import Derived.Test.YthfgeelcbcgahaaGreatDoorTie
import Derived.Test.YthfgeelcbcgahaaGreatDoorCards
import Derived.Deep.DeepHandedRow
import Derived.Lib.LaidTab
import Derived.Lay
import Derived.Stop.LaidErr
import Derived.Shelf.Vars
import Derived.SevenTiedAt
import Derived.Deep.Slices
import Derived.OpenShut
import Derived.Below
import Derived.ChangeOld
import Derived.ProofKit
import Derived.SizedLaws
import Derived.Test.YthfgeelcbcgahaaGreatDoorJD5a
namespace Go.Proofs.YthfgeelcbcgahaaGreatDoor
open Go.RowKit
theorem amt_pos {P:List Pt} (h:∀p∈P,0≤p.n) (k q:Int):0≤amt k q P:=by
 unfold amt
 cases e:P.find? (atK k q) with
 |none=>exact Int.le_refl _
 |some p=>exact h p (List.mem_of_find?_eq_some e)
theorem pts_right {l:List Pt} (h1:1≤l.length) (h4:l.length≤4) (h:∀p∈l,0≤p.h∧p.h≤2∧0≤p.k∧p.k≤3∧0≤p.n∧p.n≤1000) (hd:(l.map fun p=>(p.h,p.k)).Nodup):wrongE l 3=0:=by
 have go:∀(l:List Pt) (ks:List (Int×Int)),(∀p∈l,0≤p.h∧p.h≤2∧0≤p.k∧p.k≤3∧0≤p.n∧p.n≤1000)→(l.map fun p=>(p.h,p.k)).Nodup→(∀p∈l,(p.h,p.k)∉ks)→wrongGo 3 ks l=0:=by
  intro l
  induction l with
  |nil=>intros;rfl
  |cons p l ih=>
   intro ks h hd hk
   have hp:=h p List.mem_cons_self
   rw [List.map_cons,List.nodup_cons] at hd
   rw [wrongGo,if_neg (by unfold badPt;simp only [decide_eq_true_eq];omega),if_neg (hk p List.mem_cons_self)]
   refine ih _ (fun q hq=>h q (List.mem_cons_of_mem _ hq)) hd.2 (fun q hq hm=>?_)
   rcases List.mem_cons.1 hm with e|hm
   ·exact hd.1 (List.mem_map.2 ⟨q,hq,e⟩)
   ·exact hk q (List.mem_cons_of_mem _ hq) hm
 rw [wrongE,if_neg (by omega)]
 exact go l [] h hd (fun p _ hm=>by simp at hm)
theorem sms_cell {c:CM} {v:Value} {S:List Sm} (h:Sms c v S) {i k:Nat} (hi:i<S.length) (hk:k<4):∃b o cap,v=.slice (some ⟨b,o,none⟩) S.length cap∧c ⟨b,o+i*4+k,none⟩=some (.int .i64 (S[i].get k)):=by
 obtain⟨a,cap,rfl,-,-,-,hel⟩:=h
 obtain⟨b,o,cs,rfl,hR,hA⟩:=hel i _ (List.getElem?_eq_getElem hi)
 obtain⟨rfl,-⟩:=hR
 refine⟨b,o,cap,rfl,?_⟩
 have h9:=hA k
 match k,hk,h9 with
 |0,_,h9=>exact h9 _ rfl
 |1,_,h9=>exact h9 _ rfl
 |2,_,h9=>exact h9 _ rfl
 |3,_,h9=>exact h9 _ rfl
theorem ei_st:EI Tryz.prog 23 28 3 40:=EI.mk' (z:=.agg #[.int .i64 0,.int .i64 0,.slice none 0 0]) (by kernel_rfl) (by kernel_rfl) rfl (by decide) rfl
theorem one_Tst:TOne Ty.st:=by
 rintro c cs x ⟨v,rfl,-,-,h⟩ u hu
 simp only [List.mem_cons,List.not_mem_nil,or_false] at hu
 rcases hu with rfl|rfl|rfl
 ·rfl
 ·rfl
 ·exact sl_oneCell h
theorem frag_appt {w w':World} {v v':Value} (hg:w.grownBy w' v.ownBlock) (hb:v'.ownBlock=v.ownBlock∨∃g,v'.ownBlock=some g∧w.heap.size≤g):Sub (frag w v.ownBlock) (frag w' v'.ownBlock):=by
 rcases hb with hb|⟨g,hb,hge⟩
 ·rw [hb]
  exact frag_grown hg
 ·rw [hb]
  intro ad u e
  have e':=frag_grown hg ad u e
  have hl:=World.block_lt_of_cell? w ad (frag_sub _ _ ad u e)
  unfold frag
  rw [if_neg (by intro h;have:=Option.some.inj h;omega)]
  exact frag_sub _ _ ad u e'
theorem two_parts {w W:World} {r:Option Nat} {p q:Pt} {e:Nat} (hr:r≠some w.heap.size) (hW:Grow (w.alloc (.cells #[.int .i64 p.h,.int .i64 p.k,.int .i64 p.n,.int .i64 q.h,.int .i64 q.k,.int .i64 q.n] e)) W) (hp:I64 p.h∧I64 p.k∧I64 p.n) (hq:I64 q.h∧I64 q.k∧I64 q.n):Sl Ty.pt (frag W r) (.slice (some ⟨w.heap.size,0,none⟩) 2 2) [p,q]:=
 ((OwnC.lit (T:=Ty.pt) (c:=fun _=>none) (base:=w.heap.size) (e:=e) w [p.cells,q.cells] (l:=[p,q]) rfl rfl (Nat.le_refl _) (by show 2≤maxLen;decide) rfl ⟨⟨rfl,hp⟩,⟨rfl,hq⟩,trivial⟩).grow hW).slb (by decide) (fun a v e=>by cases e) fun ad ha=>by
  have hb:ad.block=w.heap.size:=(Option.some.inj ha).symm
  unfold frag
  rw [if_neg (by rw [hb];exact fun h=>hr h.symm)]
theorem ints_at {c:CM} {a:Option Addr} {l:List Int} (h:∀i x,l[i]? =some x→∃b o cs,a=some ⟨b,o,none⟩∧Ty.int.R c cs x∧At c b (o+i*Ty.int.size) cs) (k:Nat) (hk:k<l.length):
  ∃b o,a=some ⟨b,o,none⟩∧c ⟨b,o+k*1,none⟩=some (.int .i64 l[k])∧I64 l[k]:=by
 obtain⟨b,o,cs,ha,⟨rfl,hR⟩,hA⟩:=h k l[k] (by simp [hk])
 exact⟨b,o,ha,hA 0 _ rfl,hR⟩
def BothL (l:List St):Prop:=∀s∈l,s.kind=1→∃n,s.parts=[⟨0,2,n⟩,⟨2,3,n⟩]
theorem BothL.nil:BothL []:=fun s hs=>by cases hs
def apP (i:Nat) (n:Int):List Pt:=[⟨0,i,n⟩,⟨1,i,n⟩]
def apQ (am:List Int) (j:Nat):List (List Pt):=(List.range j).map fun i=>apP i (am.getD i 0)
def apL (am:List Int) (j:Nat):List St:=(apQ am j).map fun P=>⟨1,0,P⟩
theorem apL_snoc (am:List Int) (j:Nat):apL am j++ [⟨1,0,apP j (am.getD j 0)⟩]=apL am (j+1):=by unfold apL apQ;rw [List.range_succ];simp
theorem apL_len (am:List Int) (j:Nat):(apL am j).length=j:=by simp [apL,apQ]
theorem apP_has {i:Nat} {n k q:Int} (h:has k q (apP i n)=true):q=i:=by
 obtain⟨p,hp,-,e⟩:=has_mem.1 h
 simp only [apP,List.mem_cons,List.not_mem_nil,or_false] at hp
 rcases hp with rfl|rfl
 ·exact e.symm
 ·exact e.symm
theorem apQ_mem {am:List Int} {j:Nat} {P:List Pt} (h:P∈apQ am j):∃i,i<j∧P=apP i (am.getD i 0):=by
 obtain⟨i,hi,e⟩:=List.mem_map.1 h
 exact⟨i,List.mem_range.1 hi,e.symm⟩
theorem apQ_nodup (am:List Int) (j:Nat):(apQ am j).Nodup:=by
 unfold apQ List.Nodup
 refine List.pairwise_map.2 (List.Pairwise.imp (fun {a b} hab h=>hab ?_) List.nodup_range)
 simp only [apP,List.cons.injEq,Pt.mk.injEq] at h
 omega
theorem apP_right {i:Nat} {n:Int} (hi:i<4) (h0:0≤n) (h1:n≤1000):wrongE (apP i n) 3=0:=by
 refine pts_right (by show 1≤2;decide) (by show 2≤4;decide) (fun p hp=>?_) ?_
 ·simp only [apP,List.mem_cons,List.not_mem_nil,or_false] at hp
  rcases hp with rfl|rfl
  ·exact⟨by dsimp only;decide,by dsimp only;decide,by show(0:Int)≤(i:Int);omega,by show(i:Int)≤3;omega,h0,h1⟩
  ·exact⟨by dsimp only;decide,by dsimp only;decide,by show(0:Int)≤(i:Int);omega,by show(i:Int)≤3;omega,h0,h1⟩
 ·simp [apP]
theorem getD_ok {am:List Int} (hn:∀n∈am,0≤n∧n≤1000) (i:Nat):0≤am.getD i 0∧am.getD i 0≤1000:=by
 rw [List.getD_eq_getElem?_getD]
 cases e:am[i]? with
 |none=>exact⟨by decide,by decide⟩
 |some n=>exact hn n (List.mem_of_getElem? e)
theorem pair_of {G:Reg} (hn:(G.map (·.2)).Nodup) {x y:Int×List Pt} (hx:x∈G) (hy:y∈G) (e:x.2=y.2):x=y:=by
 induction G with
 |nil=>cases hx
 |cons a G ih=>
  rw [List.map_cons,List.nodup_cons] at hn
  rcases List.mem_cons.1 hx with rfl|hx'<;>rcases List.mem_cons.1 hy with rfl|hy'
  ·rfl
  ·exact absurd (List.mem_map.2 ⟨y,hy',e.symm⟩) hn.1
  ·exact absurd (List.mem_map.2 ⟨x,hx',e⟩) hn.1
  ·exact ih hn.2 hx' hy'
theorem topApart_law {am:List Int} {rest:List St} (h4:am.length≤4) (hn:∀n∈am,0≤n∧n≤1000) (hr:∀s∈rest,s.kind=2∨s.kind=4∨s.kind=6∨(s.kind=5∧s.n≠3)) (i:Nat) (hi:i<am.length):
  (∃h,(settledA (apL am am.length++rest)).houses[0]? =some h∧h.sums.get i=am[i])∧∃h,(settledA (apL am am.length++rest)).houses[1]? =some h∧h.sums.get i=am[i]:=by
 have f0:FW 3 [] (newA 3):=⟨WI.zero (by omega),fun m hm=>by simp [newA] at hm,fun x hx=>by simp at hx⟩
 have hl:(apQ am am.length).length=am.length:=by simp [apQ]
 obtain⟨G,f1,e⟩:=FW.begins (apQ am am.length) f0 (fun P hP=>by
  obtain⟨j,hj,rfl⟩:=apQ_mem hP
  exact apP_right (by omega) (getD_ok hn j).1 (getD_ok hn j).2) (by rw [hl];show 0+am.length≤12;omega) (by rw [hl];show(0:Int)+am.length≤64;omega)
 rw [List.map_nil,List.append_nil] at e
 have hnd:(G.map (·.2)).Nodup:=by rw [e];exact(List.reverse_perm _).nodup_iff.2 (apQ_nodup am _)
 have hG:∀x∈G,∃j,j<am.length∧x.2=apP j (am.getD j 0):=fun x hx=>apQ_mem (by
  have:x.2∈G.map (·.2):=List.mem_map.2 ⟨x,hx,rfl⟩
  rw [e] at this
  exact List.mem_reverse.1 this)
 have fg:FreeG G:=⟨fun x hx y hy hne k q h1 h2=>by
  obtain⟨a,-,ea⟩:=hG x hx
  obtain⟨b,-,eb⟩:=hG y hy
  rw [ea] at h1
  rw [eb] at h2
  have h3:=apP_has h1
  have h5:=apP_has h2
  have:a=b:=by omega
  subst this
  exact hne (by rw [pair_of hnd hx hy (by rw [ea,eb])]),fun x hx k q=>by
  obtain⟨a,-,ea⟩:=hG x hx
  rw [ea]
  refine amt_pos (fun p hp=>?_) k q
  simp only [apP,List.mem_cons,List.not_mem_nil,or_false] at hp
  rcases hp with rfl|rfl
  ·exact(getD_ok hn a).1
  ·exact(getD_ok hn a).1⟩
 have f2:=FW.steps fg rest f1 hr
 have ep:playA (playA (newA 3) ((apQ am am.length).map fun P=>⟨1,0,P⟩)) rest=playA (newA 3) (apL am am.length++rest):=by
  rw [playA_app];rfl
 rw [ep] at f2
 have f3:=f2.settle fg
 have q:=f2.wi.settle.1
 have hmem:apP i (am.getD i 0)∈G.map (·.2):=by
  rw [e]
  exact List.mem_reverse.2 (List.mem_map.2 ⟨i,List.mem_range.2 hi,rfl⟩)
 obtain⟨x,hx,ex⟩:=List.mem_map.1 hmem
 have eg:am.getD i 0=am[i]:=by rw [List.getD_eq_getElem?_getD,List.getElem?_eq_getElem hi];rfl
 have g0:=FW.final fg f3 q hx (p:=⟨0,i,am.getD i 0⟩) (by rw [ex];simp [apP])
 have g1:=FW.final fg f3 q hx (p:=⟨1,i,am.getD i 0⟩) (by rw [ex];simp [apP])
 rw [eg] at g0 g1
 exact⟨g0,g1⟩
def Quick (s:St):Prop:=s.kind=2∨s.kind=4∨s.kind=6∨(s.kind=5∧s.n≠3)
set_option maxRecDepth 100000 in
set_option maxHeartbeats 4000000 in
theorem topApart_walk (W:World) (hV:Vars W) {v vb:Value} {am:List Int} {bt:List St} (hv:Sl Ty.int W.cell? v am) (_:am.length*8≤140737488351232) (hb:Sl Ty.st W.cell? vb bt) (_:bt.length*40≤140737488351232):
  Calls Tryz.prog 6 #[v,vb] W fun e w'=>e=.returned (.bool true)∧Grow W w':=by
 have HV:=η hV
 obtain⟨ai,ci,rfl,i1,i2,-,hei⟩:=hv
 obtain⟨as_,cs,rfl,h1,h2,-,hel⟩:=hb
 have HEI:=η hei
 have HEL:=η hel
 unfold maxLen at i2 h2
 clear hV hel hei
 go_enter Tryz.func6,Tryz.ntmps6
 go_wp2_with fail
 refine(alive_top W HV.o).mono ?_
 rintro e w1 ⟨rfl,g1⟩
 have G1:=η g1
 clear g1
 by_cases hl:4<am.length
 ·go_wp2
  go_ret
  exact⟨rfl,G1.o⟩
 by_cases hl2:80<bt.length
 ·go_wp2
  go_ret
  exact⟨rfl,G1.o⟩
 go_wp2
 go_loopw [5,6,7,26] (fun s _ _ i wr=>∃j:Nat,j≤am.length∧i=.int .i64 j∧Grow w1 wr∧OwnT Ty.st wr w1.heap.size 28 s (apL am j)∧∀n∈am.take j,0≤n∧n≤1000) (fun _ _ _ i _=>am.length - (intOf i).toNat)
 case atStart=>exact⟨0,by omega,rfl,Grow.refl _,OwnT.nil _ _ _ _,by simp⟩
 case round=>
  obtain⟨j,hj',rfl,hb,hown,hok⟩:=hrel
  have HN:=η (apL_snoc am j)
  have HL:=η (apL_len am j)
  have HB:=η hb
  have HOK:=η hok
  clear hok
  by_cases hjt:j<am.length
  ·have HTK:Hid (am.take (j+1)=am.take j++ [am[j]]):=η (List.take_succ_eq_append_getElem hjt)
   have eg:am.getD j 0=am[j]:=by rw [List.getD_eq_getElem?_getD,List.getElem?_eq_getElem hjt];rfl
   have HN2:Hid (apL am j++ [⟨1,0,apP j am[j]⟩]=apL am (j+1)):=η (by rw [←eg];exact HN.o)
   clear eg HN
   generalize apL am j=L at*
   obtain⟨av,cv,rfl⟩:=OwnC.form (c:=frag wr (Value.ownBlock _)) hown
   have HOWN:=η hown
   obtain⟨b',o',rfl,c0,i9⟩:=ints_at HEI.o j hjt
   replace c0:=hb.sub _ _ (G1.o.sub _ _ c0)
   have HI9:=η i9
   clear i9 hown hb
   generalize hn:am[j]=n at*
   clear hn
   have c0':=c0
   rw [Nat.mul_one] at c0'
   have hw:n<0∨(0≤n∧1000<n)∨(0≤n∧n≤1000):=by omega
   rcases hw with hw|⟨hw1,hw⟩|⟨hw1,hw⟩
   iterate 2 (· (go_wp2;go_ret;exact⟨rfl,G1.o.trans HB.o⟩))
   go_wp2_with (first|(at_builtin;refine wpList_appc (c:=frag ((wr.alloc (.cells #[.int .i64 0,.int .i64 j,.int .i64 n,.int .i64 1,.int .i64 j,.int .i64 n] 31)).alloc (.cells #[.int .i64 1,.int .i64 0,.slice (some ⟨wr.heap.size,0,none⟩) 2 2] 28)) (Value.slice av L.length cv).ownBlock) (base:=w1.heap.size) (l:=L) (m:=[⟨1,0,[⟨0,j,n⟩,⟨1,j,n⟩]⟩]) (v:=.slice av L.length cv) ei_st rfl one_Tst (by decide) rfl (.tmp 37) (.tmp 46) rfl rfl ?own rfl (Src.of_new (T:=Ty.st) (x:=⟨1,0,[⟨0,j,n⟩,⟨1,j,n⟩]⟩) (cs:=#[.int .i64 1,.int .i64 0,.slice (some ⟨wr.heap.size,0,none⟩) 2 2]) ?d0 _ _ ?d1) ?d2 ?d3 ?_))
   case own=>exact HOWN.o.grow (((Grow.refl _).alloc _).alloc _)
   case d0=>exact⟨_,rfl,(show I64 1 from by unfold I64;decide),(show I64 0 from by unfold I64;decide),two_parts (p:=⟨0,j,n⟩) (q:=⟨1,j,n⟩) (fun e=>by have:=(OwnC.lt (c:=frag wr (Value.slice av L.length cv).ownBlock) HOWN.o _ e).2;omega) ((Grow.refl _).alloc _) ⟨(show I64 0 from by unfold I64;decide),(show I64 (j:Int) from i64_oft (by omega) (by omega)),HI9.o⟩ ⟨(show I64 1 from by unfold I64;decide),(show I64 (j:Int) from i64_oft (by omega) (by omega)),HI9.o⟩⟩
   case d1=>first|rfl|simp
   case d2=>have:=HL.o;simp;omega
   case d3=>have:=HB.o.size;simp;omega
   intro a9 c9 w9 ho9 hg9 hb9
   have HG9:Hid (Grow w1 w9):=η (grow_by (w0:=w1) ((HB.o.alloc _).alloc _) hg9 (fun q hq=>(OwnC.lt (c:=frag wr (Value.slice av L.length cv).ownBlock) HOWN.o q hq).1))
   have ho9':OwnT Ty.st w9 w1.heap.size 28 (.slice a9 (L.length+1) c9) (L++ [⟨1,0,[⟨0,j,n⟩,⟨1,j,n⟩]⟩]):=ho9.mono (frag_appt hg9 (hb9.imp_right fun⟨g,e,hge⟩=>⟨g,e,by simpa using hge⟩))
   have HO9:=η ho9'
   clear ho9 hg9 hb9 ho9' HOWN
   have HO9':Hid (OwnT Ty.st w9 w1.heap.size 28 (.slice a9 (L.length+1) c9) (apL am (j+1))):=η (by rw [←HN2.o];exact HO9.o)
   clear c0 c0'
   go_wp2
   go_roundw
   case rel=>
    refine⟨j+1,by omega,by go_num,HG9.o,HO9'.o,?_⟩
    rw [HTK.o]
    intro m hm
    rcases List.mem_append.1 hm with hm|hm
    ·exact HOK.o m hm
    ·rw [List.mem_singleton] at hm
     subst hm
     exact⟨hw1,hw⟩
   case measure=>simp [intOf];omega
  ·obtain rfl:j=am.length:=by omega
   have hok:=HOK.o
   rw [List.take_length] at hok
   have HN0:=η hok
   clear hok HOK HN
   have HOWN:=η hown
   clear hown hb
   go_wp2
   go_loopw [5,9,51] (fun s _ i wy=>∃(k:Nat) (R:List St),k≤bt.length∧i=.int .i64 k∧Grow w1 wy∧OwnT Ty.st wy w1.heap.size 28 s (apL am am.length++R)∧R.length=k∧∀x∈R,Quick x) (fun _ _ i _=>bt.length - (intOf i).toNat)
   case atStart=>exact⟨0,[],by omega,rfl,HB.o,by rw [List.append_nil];exact HOWN.o,rfl,by simp⟩
   case round=>
    obtain⟨k,R,hk',rfl,hb2,hown2,hRl,hq⟩:=hrel
    have HB2:=η hb2
    have HQ:=η hq
    have HLR:Hid ((apL am am.length++R).length=am.length+k):=η (by rw [List.length_append,apL_len,hRl])
    have HAR:=η (fun x:St=>List.append_assoc (apL am am.length) R [x])
    have HRL:=η hRl
    clear hq hRl
    by_cases hkt:k<bt.length
    ·generalize apL am am.length++R=L at*
     obtain⟨av,cv,rfl⟩:=OwnC.form (c:=frag wr (Value.ownBlock _)) hown2
     have HO2:=η hown2
     obtain⟨b,o,vp,rfl,c0,c1,c2,j0,j1,hP⟩:=Sts.at_ HEL.o k hkt
     obtain⟨ap,cp,rfl,-⟩:=id hP
     have HI:=η (And.intro j0 (And.intro j1 hP))
     replace c0:=hb2.sub _ _ (G1.o.sub _ _ c0)
     replace c1:=hb2.sub _ _ (G1.o.sub _ _ c1)
     replace c2:=hb2.sub _ _ (G1.o.sub _ _ c2)
     generalize hp:bt[k]=p at*
     obtain⟨pk,pn,pp⟩:=p
     clear hp j0 j1 hP hb2 hown2
     dsimp only at c0 c1 c2 HI
     obtain⟨wy,rfl⟩:∃x:World,x=wr:=⟨_,rfl⟩
     have R9:=row_new wy (.cells #[.int .i64 0,.int .i64 0,.slice none 0 0] 28)
     go_wp2_with (first|(refine wpList_store_row rfl (.tmp 9) (.tmp 54) rfl rfl rfl R9 info_st rfl rfl ?_))
     clear R9 c0 c1 c2
     intro w5 r5 g5
     obtain⟨B5,hB5⟩:∃B,B=wy.heap.size:=⟨_,rfl⟩
     rw [←hB5] at r5
     rw [←hB5]
     have G5:Hid (Grow wy w5):=η (((Grow.refl wy).alloc _).grown g5 (fun q hq=>by simp at hq;omega))
     obtain⟨d0,d1,d2⟩:=cells3 r5
     clear r5 g5 hB5
     have hw:pk=2∨pk=4∨pk=6∨(pk=5∧pn≠3)∨(pk=5∧pn=3)∨(pk≠2∧pk≠4∧pk≠6∧pk≠5):=by omega
     rcases hw with rfl|rfl|rfl|⟨rfl,h3⟩|⟨rfl,rfl⟩|⟨n2,n4,n6,n5⟩
     ·go_wp2_with (first|(at_builtin;refine wpList_appc (c:=frag (w5.alloc (.cells #[.int .i64 2,.int .i64 pn,.slice ap pp.length cp] 28)) (Value.slice av L.length cv).ownBlock) (base:=w1.heap.size) (l:=L) (m:=[(⟨2,pn,pp⟩:St)]) (v:=.slice av L.length cv) ei_st rfl one_Tst (by decide) rfl (.tmp 78) (.tmp 80) rfl rfl ?own rfl (Src.of_new (T:=Ty.st) (x:=(⟨2,pn,pp⟩:St)) (cs:=#[.int .i64 2,.int .i64 pn,.slice ap pp.length cp]) ?d0 _ _ ?d1) ?d2 ?d3 ?_))
      case own=>exact HO2.o.grow (G5.o.alloc _)
      case d0=>exact⟨_,rfl,HI.o.1,HI.o.2.1,HI.o.2.2.mono (frag_of_lt (G1.o.trans (HB2.o.trans (G5.o.alloc _))) (fun q hq=>Nat.le_trans G1.o.size (OwnC.lt (c:=frag wy (Value.slice av L.length cv).ownBlock) HO2.o q hq).1))⟩
      case d1=>first|rfl|simp
      case d2=>have:=HLR.o;simp;omega
      case d3=>have:=HB2.o.size;have:=G5.o.size;simp;omega
      intro a9 c9 w9 ho9 hg9 hb9
      have HG9:Hid (Grow w1 w9):=η (grow_by (w0:=w1) ((HB2.o.trans G5.o).alloc _) hg9 (fun q hq=>(OwnC.lt (c:=frag wy (Value.slice av L.length cv).ownBlock) HO2.o q hq).1))
      have ho9':OwnT Ty.st w9 w1.heap.size 28 (.slice a9 (L.length+1) c9) (L++ [(⟨2,pn,pp⟩:St)]):=ho9.mono (frag_appt hg9 (hb9.imp_right fun⟨g,e,hge⟩=>⟨g,e,by simpa using hge⟩))
      have HO9:=η ho9'
      clear ho9 hg9 hb9 ho9' d0 d1 d2
      rw [HAR.o] at HO9
      go_wp2
      go_roundw
      case rel=>
       refine⟨k+1,R++ [(⟨2,pn,pp⟩:St)],by omega,by go_num,HG9.o,HO9.o,by rw [List.length_append,HRL.o];rfl,?_⟩
       intro y hy
       rcases List.mem_append.1 hy with hy|hy
       ·exact HQ.o y hy
       ·rw [List.mem_singleton] at hy
        rw [hy]
        exact .inl rfl
      case measure=>simp [intOf];omega
     ·go_wp2_with (first|(at_builtin;refine wpList_appc (c:=frag (w5.alloc (.cells #[.int .i64 4,.int .i64 pn,.slice ap pp.length cp] 28)) (Value.slice av L.length cv).ownBlock) (base:=w1.heap.size) (l:=L) (m:=[(⟨4,pn,pp⟩:St)]) (v:=.slice av L.length cv) ei_st rfl one_Tst (by decide) rfl (.tmp 78) (.tmp 80) rfl rfl ?own rfl (Src.of_new (T:=Ty.st) (x:=(⟨4,pn,pp⟩:St)) (cs:=#[.int .i64 4,.int .i64 pn,.slice ap pp.length cp]) ?d0 _ _ ?d1) ?d2 ?d3 ?_))
      case own=>exact HO2.o.grow (G5.o.alloc _)
      case d0=>exact⟨_,rfl,HI.o.1,HI.o.2.1,HI.o.2.2.mono (frag_of_lt (G1.o.trans (HB2.o.trans (G5.o.alloc _))) (fun q hq=>Nat.le_trans G1.o.size (OwnC.lt (c:=frag wy (Value.slice av L.length cv).ownBlock) HO2.o q hq).1))⟩
      case d1=>first|rfl|simp
      case d2=>have:=HLR.o;simp;omega
      case d3=>have:=HB2.o.size;have:=G5.o.size;simp;omega
      intro a9 c9 w9 ho9 hg9 hb9
      have HG9:Hid (Grow w1 w9):=η (grow_by (w0:=w1) ((HB2.o.trans G5.o).alloc _) hg9 (fun q hq=>(OwnC.lt (c:=frag wy (Value.slice av L.length cv).ownBlock) HO2.o q hq).1))
      have ho9':OwnT Ty.st w9 w1.heap.size 28 (.slice a9 (L.length+1) c9) (L++ [(⟨4,pn,pp⟩:St)]):=ho9.mono (frag_appt hg9 (hb9.imp_right fun⟨g,e,hge⟩=>⟨g,e,by simpa using hge⟩))
      have HO9:=η ho9'
      clear ho9 hg9 hb9 ho9' d0 d1 d2
      rw [HAR.o] at HO9
      go_wp2
      go_roundw
      case rel=>
       refine⟨k+1,R++ [(⟨4,pn,pp⟩:St)],by omega,by go_num,HG9.o,HO9.o,by rw [List.length_append,HRL.o];rfl,?_⟩
       intro y hy
       rcases List.mem_append.1 hy with hy|hy
       ·exact HQ.o y hy
       ·rw [List.mem_singleton] at hy
        rw [hy]
        exact .inr (.inl rfl)
      case measure=>simp [intOf];omega
     ·go_wp2_with (first|(at_builtin;refine wpList_appc (c:=frag (w5.alloc (.cells #[.int .i64 6,.int .i64 pn,.slice ap pp.length cp] 28)) (Value.slice av L.length cv).ownBlock) (base:=w1.heap.size) (l:=L) (m:=[(⟨6,pn,pp⟩:St)]) (v:=.slice av L.length cv) ei_st rfl one_Tst (by decide) rfl (.tmp 78) (.tmp 80) rfl rfl ?own rfl (Src.of_new (T:=Ty.st) (x:=(⟨6,pn,pp⟩:St)) (cs:=#[.int .i64 6,.int .i64 pn,.slice ap pp.length cp]) ?d0 _ _ ?d1) ?d2 ?d3 ?_))
      case own=>exact HO2.o.grow (G5.o.alloc _)
      case d0=>exact⟨_,rfl,HI.o.1,HI.o.2.1,HI.o.2.2.mono (frag_of_lt (G1.o.trans (HB2.o.trans (G5.o.alloc _))) (fun q hq=>Nat.le_trans G1.o.size (OwnC.lt (c:=frag wy (Value.slice av L.length cv).ownBlock) HO2.o q hq).1))⟩
      case d1=>first|rfl|simp
      case d2=>have:=HLR.o;simp;omega
      case d3=>have:=HB2.o.size;have:=G5.o.size;simp;omega
      intro a9 c9 w9 ho9 hg9 hb9
      have HG9:Hid (Grow w1 w9):=η (grow_by (w0:=w1) ((HB2.o.trans G5.o).alloc _) hg9 (fun q hq=>(OwnC.lt (c:=frag wy (Value.slice av L.length cv).ownBlock) HO2.o q hq).1))
      have ho9':OwnT Ty.st w9 w1.heap.size 28 (.slice a9 (L.length+1) c9) (L++ [(⟨6,pn,pp⟩:St)]):=ho9.mono (frag_appt hg9 (hb9.imp_right fun⟨g,e,hge⟩=>⟨g,e,by simpa using hge⟩))
      have HO9:=η ho9'
      clear ho9 hg9 hb9 ho9' d0 d1 d2
      rw [HAR.o] at HO9
      go_wp2
      go_roundw
      case rel=>
       refine⟨k+1,R++ [(⟨6,pn,pp⟩:St)],by omega,by go_num,HG9.o,HO9.o,by rw [List.length_append,HRL.o];rfl,?_⟩
       intro y hy
       rcases List.mem_append.1 hy with hy|hy
       ·exact HQ.o y hy
       ·rw [List.mem_singleton] at hy
        rw [hy]
        exact .inr (.inr (.inl rfl))
      case measure=>simp [intOf];omega
     ·have b3:(pn==3)=false:=by simp [h3]
      have H3:=η h3
      clear h3
      go_wp2_with (first|(at_builtin;refine wpList_appc (c:=frag (w5.alloc (.cells #[.int .i64 5,.int .i64 pn,.slice ap pp.length cp] 28)) (Value.slice av L.length cv).ownBlock) (base:=w1.heap.size) (l:=L) (m:=[(⟨5,pn,pp⟩:St)]) (v:=.slice av L.length cv) ei_st rfl one_Tst (by decide) rfl (.tmp 78) (.tmp 80) rfl rfl ?own rfl (Src.of_new (T:=Ty.st) (x:=(⟨5,pn,pp⟩:St)) (cs:=#[.int .i64 5,.int .i64 pn,.slice ap pp.length cp]) ?d0 _ _ ?d1) ?d2 ?d3 ?_))
      case own=>exact HO2.o.grow (G5.o.alloc _)
      case d0=>exact⟨_,rfl,HI.o.1,HI.o.2.1,HI.o.2.2.mono (frag_of_lt (G1.o.trans (HB2.o.trans (G5.o.alloc _))) (fun q hq=>Nat.le_trans G1.o.size (OwnC.lt (c:=frag wy (Value.slice av L.length cv).ownBlock) HO2.o q hq).1))⟩
      case d1=>first|rfl|simp
      case d2=>have:=HLR.o;simp;omega
      case d3=>have:=HB2.o.size;have:=G5.o.size;simp;omega
      intro a9 c9 w9 ho9 hg9 hb9
      have HG9:Hid (Grow w1 w9):=η (grow_by (w0:=w1) ((HB2.o.trans G5.o).alloc _) hg9 (fun q hq=>(OwnC.lt (c:=frag wy (Value.slice av L.length cv).ownBlock) HO2.o q hq).1))
      have ho9':OwnT Ty.st w9 w1.heap.size 28 (.slice a9 (L.length+1) c9) (L++ [(⟨5,pn,pp⟩:St)]):=ho9.mono (frag_appt hg9 (hb9.imp_right fun⟨g,e,hge⟩=>⟨g,e,by simpa using hge⟩))
      have HO9:=η ho9'
      clear ho9 hg9 hb9 ho9' d0 d1 d2
      rw [HAR.o] at HO9
      go_wp2
      go_roundw
      case rel=>
       refine⟨k+1,R++ [(⟨5,pn,pp⟩:St)],by omega,by go_num,HG9.o,HO9.o,by rw [List.length_append,HRL.o];rfl,?_⟩
       intro y hy
       rcases List.mem_append.1 hy with hy|hy
       ·exact HQ.o y hy
       ·rw [List.mem_singleton] at hy
        rw [hy]
        exact .inr (.inr (.inr ⟨rfl,H3.o⟩))
      case measure=>simp [intOf];omega
     ·go_wp2
      go_ret
      exact⟨rfl,G1.o.trans (HB2.o.trans G5.o)⟩
     ·have b2:(pk==2)=false:=by simp [n2]
      have b4:(pk==4)=false:=by simp [n4]
      have b6:(pk==6)=false:=by simp [n6]
      have b5:(pk==5)=false:=by simp [n5]
      have e2:(pk !=2)=true:=by simp [n2]
      have e4:(pk !=4)=true:=by simp [n4]
      have e6:(pk !=6)=true:=by simp [n6]
      have e5:(pk !=5)=true:=by simp [n5]
      go_wp2
      go_ret
      exact⟨rfl,G1.o.trans (HB2.o.trans G5.o)⟩
    ·have hls:(apL am am.length++R).length≤150:=by have:=HLR.o;omega
     have HLAW:=η (fun(i:Nat) (hi:i<am.length)=>topApart_law (rest:=R) (by omega) HN0.o HQ.o i hi)
     generalize apL am am.length++R=L at*
     have HSE:=η (top_settled wr (OwnT.sl (by decide) hown2) hls)
     have HL:=η hls
     have HL3:=η (settled_ok hls).2.2.2
     have G2:=η (G1.o.trans hb2)
     obtain⟨av,cv,rfl⟩:=OwnC.form (c:=frag wr (Value.ownBlock _)) hown2
     clear hls hb2 hown2
     go_wp2_with fail
     refine HSE.o.mono ?_
     rintro e w3 ⟨v3,rfl,hx,g3⟩
     have HX:=η hx
     obtain⟨al,cl,ao,co,ah,ch,an,cn,rfl⟩:=hx.wd_form
     have G3:=η (G2.o.trans g3)
     clear hx g3 HSE
     have R1:=row_new w3 (.cells #[.slice none 0 0,.int .i64 0,.int .i64 0,.slice none 0 0,.slice none 0 0,.slice none 0 0] 39)
     go_wp2_with (first|(refine wpList_store_row rfl (.tmp 10) (.tmp 86) rfl rfl rfl R1 info_wd rfl rfl ?_))
     clear R1
     intro w5 r5 g5
     obtain⟨B,hB⟩:∃B,B=w3.heap.size:=⟨_,rfl⟩
     rw [←hB] at r5
     rw [←hB]
     have G5:Hid (Grow w3 w5):=η (((Grow.refl w3).alloc _).grown g5 (fun q hq=>by simp at hq;omega))
     have R5:=η r5
     clear r5 g5 hB
     obtain⟨S,hsum⟩:∃T,T=(settledA L).houses.map (·.sums):=⟨_,rfl⟩
     have hSL:S.length=3:=by rw [hsum,List.length_map];exact HL3.o
     have hs0:0<S.length:=by omega
     have hs1:1<S.length:=by omega
     have hs1i:(1:Int)<S.length:=by omega
     have HGET:Hid (∀(i:Nat) (hi:i<am.length),S[0].get i=am[i]∧S[1].get i=am[i]):=η (fun i hi=>by
      obtain⟨⟨h0,e0,g0⟩,⟨h1,e1,g1⟩⟩:=HLAW.o i hi
      have hh:=HL3.o
      subst hsum
      rw [List.getElem?_eq_getElem (by omega)] at e0 e1
      rw [List.getElem_map,List.getElem_map,Option.some.inj e0,Option.some.inj e1]
      exact⟨g0,g1⟩)
     have HU:Hid (∀W,Grow w3 W→Calls Tryz.prog 12 #[.agg #[.slice al (settledA L).head.log.length cl,.int .i64 (settledA L).head.boot,.int .i64 (settledA L).head.next,.slice ao (settledA L).head.opn.length co,.slice ah (settledA L).houses.length ch,.slice an (settledA L).net.length cn]] W fun e w'=>∃v',e=.returned v'∧Sms w'.cell? v' S∧Grow W w'):=η (fun W hW=>by rw [hsum];exact top_sums HL.o W (HX.o.mono hW.sub))
     have HE:=η (fun(W:World) (hW:Grow w3 W)=>top_even HL.o W (HX.o.mono hW.sub))
     clear hsum HL3 hSL HLAW
     have HS0:=η hs0
     have HS1:=η hs1
     generalize settledA L=x at*
     obtain⟨x1,x2,x3,x4,x5,x6⟩:=cells6 R5.o
     go_wp2_with fail
     refine(HE.o _ G5.o).mono ?_
     rintro e w6 ⟨rfl,g6⟩
     have G6:=η (G5.o.trans g6)
     have R6:=η (row_grow R5.o g6)
     clear x1 x2 x3 x4 x5 x6 g6 HE R5
     go_wp2
     go_loopw [12,13,97] (fun _ _ i wy=>∃j:Nat,j≤am.length∧i=.int .i64 j∧Grow w6 wy) (fun _ _ i _=>am.length - (intOf i).toNat)
     case atStart=>exact⟨0,by omega,rfl,Grow.refl _⟩
     case round=>
      obtain⟨j,hj',rfl,hc⟩:=hrel
      have HC:=η hc
      by_cases hjt:j<am.length
      ·obtain⟨b',o',rfl,c0,i9⟩:=ints_at HEI.o j hjt
       replace c0:=hc.sub _ _ (G6.o.sub _ _ (G3.o.sub _ _ c0))
       have hj4:j<4:=by omega
       have hj4i:(j:Int)<4:=by omega
       have HG0:=η (HGET.o j hjt)
       obtain⟨wy,rfl⟩:∃x:World,x=wr:=⟨_,rfl⟩
       generalize am[j]=n at*
       clear i9 hc
       have c0':=c0
       rw [Nat.mul_one] at c0'
       obtain⟨x1,x2,x3,x4,x5,x6⟩:=cells6 (row_grow R6.o HC.o)
       go_wp2_with fail
       refine(HU.o _ (G6.o.trans HC.o)).mono ?_
       rintro e wa ⟨va,rfl,hva,ga⟩
       obtain⟨ba,oa,ca,rfl,y0⟩:=sms_cell hva HS0.o hj4
       rw [HG0.o.1] at y0
       have y0':=y0
       simp only [Nat.zero_mul,Nat.add_zero] at y0'
       have GA:=η (HC.o.trans ga)
       clear x1 x2 x3 x4 x5 x6 c0 c0' ga hva
       obtain⟨x1,x2,x3,x4,x5,x6⟩:=cells6 (row_grow R6.o GA.o)
       go_wp2_with fail
       refine(HU.o _ (G6.o.trans GA.o)).mono ?_
       rintro e wb ⟨vb,rfl,hvb,gb⟩
       obtain⟨bb,ob,cb,rfl,y1⟩:=sms_cell hvb HS1.o hj4
       rw [HG0.o.2] at y1
       have y1':=y1
       simp only [Nat.one_mul] at y1'
       have GB:=η (GA.o.trans gb)
       clear x1 x2 x3 x4 x5 x6 y0 y0' gb hvb
       go_wp2
       go_roundw
       case rel=>exact⟨j+1,by omega,by go_num,GB.o⟩
       case measure=>simp [intOf];omega
      ·go_wp2
       go_ret
       exact⟨rfl,(G3.o.trans G6.o).trans hc⟩
end Go.Proofs.YthfgeelcbcgahaaGreatDoor
namespace Go.Proofs.YthfgeelcbcgahaaGreatDoor
open Go.ChangeShapes Go.WideShapes Go.ChangeAt Go.RowKit
def laidList:List (String × DataW Unit):=[("math/bits.deBruijn32tab",Rows.laid_math_bits_deBruijn32tab),("math/bits.deBruijn64tab",Rows.laid_math_bits_deBruijn64tab),("internal/strconv.uint64pow10",Rows.laid_internal_strconv_uint64pow10),("unicode/utf8.acceptRanges",Rows.laid_unicode_utf8_acceptRanges),("strconv.ErrRange",Rows.laid_strconv_ErrRange),("strconv.ErrSyntax",Rows.laid_strconv_ErrSyntax),("unicode/utf8.first",Rows.laid_unicode_utf8_first)]
theorem starE: "*" ++ "errors.errorString" = "*errors.errorString":=by decide
theorem rowErr (u:TypeId) (h:Tryz.prog.typeName? 3 u = some "*errors.errorString"):u = 241:=
 typeName_ptr_named (nm:= "errors.errorString") (by rw [starE];kernel_rfl) (by kernel_rfl) (by decide) u (by rw [starE];exact h)
theorem var_lt {W:World} {n:String} {g:Nat} {v:Value} {l:List Value} (hg:Tryz.prog.globalNamed n=some g) (h:W.var? Tryz.prog n=some (v::l).toArray):g<W.heap.size:=
 World.block_lt_of_cell? W (a:=⟨g,0,none⟩) (show W.cell? ⟨g,0,none⟩=some v by have:=World.var?_cell hg h 0;simpa using this)
theorem vars_of {W:World} (h:laidMetH Tryz.prog laidList W) (hs:W.ShapedOpen Tryz.prog):Vars W:=by
 rw [MakeChecks.laidMetH_plain _ _ _ (by kernel_rfl)] at h
 have htab:Lib.TabIs Tryz.prog W "internal/strconv.uint64pow10" .u64 Lib.pow10Tab:=
  Lib.tabIs_of_head (show Tryz.prog.globalNamed "internal/strconv.uint64pow10" = some 5 by kernel_rfl) (show (Tryz.prog.globals[5]?).map (·.type) = some 245 by kernel_rfl)
   (show Tryz.prog.underlying 245=some (.array 20 193) by kernel_rfl) (show Tryz.prog.underlying 193=some (.int .u64) by kernel_rfl) (by kernel_rfl) (by kernel_rfl) h.tail.tail
 obtain ⟨a0,s0,hv0,-,-,-⟩:=laid_sentinel h.tail.tail.tail.tail (show Tryz.prog.globalNamed "strconv.ErrRange" = some 2 by kernel_rfl) (show (Tryz.prog.globals[2]?).map (·.type) = some 122 by kernel_rfl) Tryz.underlying122 rowErr Tryz.underlying241 Tryz.underlying243 rfl rfl Tryz.underlying9 (by kernel_rfl) (by kernel_rfl)
 obtain ⟨a1,s1,hv1,-,-,-⟩:=laid_sentinel h.tail.tail.tail.tail.tail (show Tryz.prog.globalNamed "strconv.ErrSyntax" = some 1 by kernel_rfl) (show (Tryz.prog.globals[1]?).map (·.type) = some 122 by kernel_rfl) Tryz.underlying122 rowErr Tryz.underlying241 Tryz.underlying243 rfl rfl Tryz.underlying9 (by kernel_rfl) (by kernel_rfl)
 have hm:=cell_of_shapedOpen_int (g:=0) (t:=3) (zero:=#[.int .i64 0]) (k:=.i64) hs (of_decide_eq_true (by kernel_rfl)) (by kernel_rfl) rfl (by kernel_rfl) (by kernel_rfl) (by kernel_rfl)
 refine⟨hm,htab,⟨_,_,hv1⟩,⟨_,_,hv0⟩,?_,?_,?_,?_⟩
 ·obtain⟨m,hm⟩:=hm
  exact World.block_lt_of_cell? W _ hm
 ·exact var_lt (by kernel_rfl) htab
 ·exact var_lt (l:=[]) (by kernel_rfl) hv1
 ·exact var_lt (l:=[]) (by kernel_rfl) hv0
set_option maxRecDepth 100000 in
theorem card_witness {H:Type} {enc:TypeId×Value→H} {os:Os} {f:FuncId} {fn:Func} {s:OpenSpec} {laid:List (String×DataW Unit)} (args:Array Value)
  (hv:((World.laidAll Tryz.prog os laid).forCall (fun _ _=>0) ⟨#[],args,[]⟩).variablesZipB Tryz.prog=true)
  (hr:(((World.laidAll Tryz.prog os laid).forCall (fun _ _=>0) ⟨#[],args,[]⟩).heap.toList.drop Tryz.prog.globals.size).take ((begin Tryz.prog (fun _ _=>0) default).world.heap.size - Tryz.prog.globals.size)=(begin Tryz.prog (fun _ _=>0) default).world.heap.toList.drop Tryz.prog.globals.size)
  (hok:Input.okWideB Tryz.prog ((World.laidAll Tryz.prog os laid).forCall (fun _ _=>0) ⟨#[],args,[]⟩) f ⟨#[],args,[]⟩=true)
  (hrow:s.preRow enc Tryz.prog fn [] false laid ((World.laidAll Tryz.prog os laid).forCall (fun _ _=>0) ⟨#[],args,[]⟩).memory args):
  ∃(w:World) (tape:Tape) (i:Input),w.os=os∧(w.forCall tape i).Shaped Tryz.prog∧i.vars=[]∧Input.okWide Tryz.prog (w.forCall tape i) .any w.heap.size f i∧
   s.preRow enc Tryz.prog fn [] false laid (w.forCall tape i).memory i.args∧({}:Assume).holds Tryz.prog (lone (Frame.enter Tryz.prog f i.args .normal) [] (w.forCall tape i)):=
 ⟨World.laidAll Tryz.prog os laid,fun _ _=>0,⟨#[],args,[]⟩,World.laidAll_os _ _ _,World.shaped_of_ZipB hv hr,(Input.okWide_of_okWideB (base:=0) hok).1,(Input.okWide_of_okWideB hok).2,hrow,by
  simp only [Assume.holds]
  exact⟨by simp,by simp,fun _=>Modest.zero,by simp,by simp⟩⟩
theorem laid_met (os:Os) (args:Array Value):laidMetH Tryz.prog laidList ((World.laidAll Tryz.prog os laidList).forCall (fun _ _=>0) ⟨#[],args,[]⟩).memory:=by
 rw [MakeChecks.laidMetH_plain _ _ _ (by kernel_rfl)]
 exact laidMet_laidAll _ (by kernel_rfl) (by kernel_rfl)
end Go.Proofs.YthfgeelcbcgahaaGreatDoor
namespace Go.Proofs.YthfgeelcbcgahaaGreatDoor
open Go.RowKit Go.ChangeShapes Go.WideShapes Go.ChangeAt
def Reads {α:Type} (P:Program) (t:TypeId) (T:Ty α):Prop:=∀(H:Type) (enc:TypeId×Value→H) (W:World) (fuel:Nat) (cs:List Value) (x:DataW H×List MemPlace),
 DataW.trod enc P W 0 (fun _=>true) true fuel t cs=some x→∃y,T.R W.cell? cs y
theorem reads_int {P:Program} {t:TypeId} (ht:P.underlying t=some (.int .i64)):Reads P t Ty.int:=by
 intro H enc W fuel cs x h
 obtain⟨n,rfl,_,hw⟩:=DataW.trod_int ht h
 exact⟨n,rfl,hw⟩
theorem reads_sl {α:Type} {P:Program} {t e:TypeId} {T:Ty α} (hR:Reads P e T) (ht:P.underlying t=some (.slice e)) (hc:P.cellsOf e=T.size) (h0:0<T.size):Reads P t T.sl:=by
 intro H enc W fuel cs x h
 rcases Deep.open_slice ht h with⟨rfl,_⟩|⟨a,len,cap,m,n,D,Pl,rfl,_,hl,hm,hmm,hxe,hx⟩
 ·exact⟨[],_,rfl,none,0,rfl,Nat.le_refl _,Nat.zero_le _,fun _=>rfl,fun i x e=>by simp at e⟩
 ·simp only [if_true] at hmm
  subst m
  have h2:∀i,i<len→∃(p:List Value×α),T.R W.cell? p.1 p.2∧W.cells? 0 (a.add (i*T.size)) T.size=some p.1:=by
   intro i hi
   obtain⟨cs',h1,h2⟩:=hx i (by omega)
   obtain⟨y,hy⟩:=hR H enc W n cs' _ h2
   rw [hc] at h1
   exact⟨(cs',y),hy,h1⟩
  have h3:∃l:List α,l.length=len∧∀i y,l[i]? =some y→∃cs',T.R W.cell? cs' y∧W.cells? 0 (a.add (i*T.size)) T.size=some cs':=by
   clear hx hl h hxe
   induction len with
   |zero=>exact⟨[],rfl,by simp⟩
   |succ len ih=>
    obtain⟨l,hl,hi⟩:=ih (by intro i hi;exact h2 i (by omega))
    obtain⟨⟨cs',y⟩,hy,h1⟩:=h2 len (by omega)
    refine⟨l++ [y],by simp [hl],fun i z hz=>?_⟩
    rcases Nat.lt_or_ge i l.length with hlt|hge
    ·rw [List.getElem?_append_left hlt] at hz;exact hi i z hz
    ·have hb:=(List.getElem?_eq_some_iff.1 hz).1
     simp at hb
     obtain rfl:i=len:=by omega
     rw [List.getElem?_append_right hge,hl] at hz
     simp at hz
     subst hz
     exact⟨cs',hy,h1⟩
  obtain⟨l,hlen,hl2⟩:=h3
  refine⟨l,_,rfl,some a,cap,by rw [hlen],by omega,hm,by simp,fun i y hy=>?_⟩
  obtain⟨cs',hR',hcs⟩:=hl2 i y hy
  obtain⟨_,hlen',hat⟩:=World.cells?_some hcs
  have hpos:0<l.length:=by have:=(List.getElem?_eq_some_iff.1 hy).1;omega
  obtain⟨cs0,_,hcs0⟩:=hl2 0 l[0] (List.getElem?_eq_getElem hpos)
  obtain⟨_,hlen0,hat0⟩:=World.cells?_some hcs0
  have hfirst:=hat0 0 h0
  rw [List.getElem?_eq_getElem (by omega)] at hfirst
  have hsp:=World.cell?_spot hfirst
  obtain⟨b,o,s⟩:=a
  have hs:s=none:=by simpa [Addr.add] using hsp
  subst hs
  refine⟨b,o,cs',rfl,hR',fun j u hu=>?_⟩
  have hj:j<T.size:=by rw [←hlen'];exact(List.getElem?_eq_some_iff.1 hu).1
  have:=hat j hj
  rw [Addr.add_lit,Addr.add_lit,hu] at this
  exact this
def structOf (P:Program) (t:TypeId):Option (List (TypeId×Nat×Nat)):=
 match P.underlying t with
 |some (.struct fs)=>some (fs.toList.map fun f=>(f.type,f.offset,P.cellsOf f.type))
 |_=>none
theorem struct_fields {P:Program} {t:TypeId} {fs':List (TypeId×Nat×Nat)} (hs:structOf P t=some fs') {H:Type} {enc:TypeId×Value→H} {W:World} {fuel:Nat} {cs:List Value} {x:DataW H×List MemPlace}
  (h:DataW.trod enc P W 0 (fun _=>true) true fuel t cs=some x):cs.length=P.cellsOf t∧∀(i:Nat) (f:TypeId×Nat×Nat),fs'[i]? =some f→∃n y,DataW.trod enc P W 0 (fun _=>true) true n f.1 ((cs.drop f.2.1).take f.2.2)=some y:=by
 unfold structOf at hs
 split at hs
 ·rename_i fs hu
  obtain rfl:=Option.some.inj hs
  obtain⟨xs,n,_,_,hl,hlen,hf⟩:=DataW.trod_struct hu h
  refine⟨hl,fun i f hi=>?_⟩
  rw [List.getElem?_map] at hi
  cases hfi:fs.toList[i]? with
  |none=>rw [hfi] at hi;cases hi
  |some fd=>
   rw [hfi] at hi
   obtain rfl:=Option.some.inj hi
   have hfi':fs[i]? =some fd:=by simpa using hfi
   have hlt:i<xs.length:=by rw [hlen];exact(Array.getElem?_eq_some_iff.1 hfi').1
   have:=hf i fd hfi'
   rw [List.getElem?_eq_getElem hlt] at this
   exact⟨n,_,this⟩
 ·cases hs
theorem reads_pt:Reads Tryz.prog 31 Ty.pt:=by
 intro H enc W fuel cs x h
 obtain⟨hl,hf⟩:=struct_fields (fs':=[(3,0,1),(3,1,1),(3,2,1)]) (by kernel_rfl) h
 rw [show(Tryz.prog).cellsOf 31=3 by kernel_rfl] at hl
 match cs,hl with
 | [a,b,c],_=>
  obtain⟨_,_,h0⟩:=hf 0 _ rfl
  obtain⟨_,_,h1⟩:=hf 1 _ rfl
  obtain⟨_,_,h2⟩:=hf 2 _ rfl
  obtain⟨x0,e0,w0⟩:=reads_int (by kernel_rfl) _ _ _ _ _ _ h0
  obtain⟨x1,e1,w1⟩:=reads_int (by kernel_rfl) _ _ _ _ _ _ h1
  obtain⟨x2,e2,w2⟩:=reads_int (by kernel_rfl) _ _ _ _ _ _ h2
  refine⟨⟨x0,x1,x2⟩,?_,w0,w1,w2⟩
  simp at e0 e1 e2
  subst e0 e1 e2
  rfl
theorem reads_pts:Reads Tryz.prog 26 Ty.pts:=reads_sl reads_pt (by kernel_rfl) (by kernel_rfl) (by decide)
theorem reads_ints:Reads Tryz.prog 47 (Ty.sl Ty.int):=reads_sl (reads_int (t:=3) (by kernel_rfl)) (by kernel_rfl) (by kernel_rfl) (by decide)
theorem arg_sl {α:Type} {P:Program} {t e:TypeId} {T:Ty α} (hR:Reads P t T.sl) (ht:P.underlying t=some (.slice e)) {H:Type} {enc:TypeId×Value→H} {W:World} {r:Reach} {b:Nat} {v:Value} {d:DataW H} {p:List MemPlace}
  (hval:Value.okWide P W r b t v) (h:DataW.Trod enc P W 0 (fun _=>true) true t v d p):∃l,Sl T W.cell? v l:=by
 obtain⟨a,len,cap,rfl⟩:=okWide_slice ht hval
 obtain⟨fuel,hf⟩:=h
 obtain⟨l,v,e,hv⟩:=hR _ _ _ _ _ _ hf
 simp [Value.cells] at e
 subst e
 exact⟨l,hv⟩
theorem own:ownKnob (Tryz.prog).godebug=none:=by kernel_rfl
theorem laidOut:laidOutB Tryz.prog=true:=by kernel_rfl
end Go.Proofs.YthfgeelcbcgahaaGreatDoor
namespace Go.Proofs.YthfgeelcbcgahaaGreatDoor
open Go.RowKit Go.ChangeShapes Go.WideShapes Go.ChangeAt
theorem sl_len {α:Type} {T:Ty α} {c:CM} {a:Option Addr} {n cap:Nat} {l:List α} (h:Sl T c (.slice a n cap) l):l.length=n:=by
 obtain⟨a',cap',he,_⟩:=h
 simp only [Value.slice.injEq] at he
 exact he.2.1.symm
theorem arg_size {α:Type} {P:Program} {t e:TypeId} {T:Ty α} {k:Nat} (ht:P.underlying t=some (.slice e)) (hb:P.bytesOf e=k) {H:Type} {enc:TypeId×Value→H} {W:World} {r:Reach} {b:Nat} {v:Value} {d:DataW H} {p:List MemPlace} {ts:List TypeId} {ds:List (DataW H)} {j:Nat}
  (hsz:(DataW.weightsEach P ts ds).all (· ≤reachBytes)=true) (hj:ts[j]? =some t) (hd:ds[j]? =some d)
  (hval:Value.okWide P W r b t v) (h:DataW.Trod enc P W 0 (fun _=>true) true t v d p) {l:List α} (hl:Sl T W.cell? v l):l.length*k≤140737488351232:=by
 obtain⟨a,len,cap,rfl⟩:=okWide_slice ht hval
 obtain⟨fuel,hf⟩:=h
 have hll:=sl_len hl
 rcases Deep.open_slice ht hf with⟨he,_⟩|⟨a',len',cap',m,n,D,Pl,he,_,hlc,_,hmm,hxe,_⟩
 ·simp [Value.cells] at he
  rw [hll,he.2.1];simp
 ·simp [Value.cells] at he
  obtain⟨_,rfl,rfl⟩:=he
  obtain rfl:d=.slice ((List.range len).map D) ((List.range (m - len)).map fun j=>D (len+j)):=by simpa using congrArg Prod.fst hxe
  have:=sized_slice hsz hj hd ht
  rw [hb,List.length_map,List.length_range] at this
  rw [hll]
  have h2:len*k≤(len+((List.range (m - len)).map fun j=>D (len+j)).length)*k:=Nat.mul_le_mul_right _ (Nat.le_add_right _ _)
  have h3:reachBytes=140737488351232:=rfl
  omega
theorem reads_st:Reads Tryz.prog 28 Ty.st:=by
 intro H enc W fuel cs x h
 obtain⟨hl,hf⟩:=struct_fields (fs':=[(3,0,1),(3,1,1),(26,2,1)]) (by kernel_rfl) h
 rw [show(Tryz.prog).cellsOf 28=3 by kernel_rfl] at hl
 match cs,hl with
 | [a,b,c],_=>
  obtain⟨_,_,h0⟩:=hf 0 _ rfl
  obtain⟨_,_,h1⟩:=hf 1 _ rfl
  obtain⟨_,_,h2⟩:=hf 2 _ rfl
  obtain⟨x0,e0,w0⟩:=reads_int (by kernel_rfl) _ _ _ _ _ _ h0
  obtain⟨x1,e1,w1⟩:=reads_int (by kernel_rfl) _ _ _ _ _ _ h1
  obtain⟨x2,v2,e2,w2⟩:=reads_pts _ _ _ _ _ _ h2
  refine⟨⟨x0,x1,x2⟩,v2,?_,w0,w1,w2⟩
  simp at e0 e1 e2
  subst e0 e1 e2
  rfl
theorem reads_sts:Reads Tryz.prog 23 (Ty.sl Ty.st):=reads_sl reads_st (by kernel_rfl) (by kernel_rfl) (by decide)
end Go.Proofs.YthfgeelcbcgahaaGreatDoor
